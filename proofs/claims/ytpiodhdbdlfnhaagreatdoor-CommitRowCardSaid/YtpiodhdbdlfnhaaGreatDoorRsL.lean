/- The law package seesawlaw10: awake, made. -/
import Derived.Test.YtpiodhdbdlfnhaaGreatDoorRsWk
namespace Go.Proofs.YtpiodhdbdlfnhaaGreatDoor
open Go.RowKit Go.Lib
set_option linter.unusedVariables false
/-- What 'made' has read. -/
def madeH (l : List Int) : List Bool := l.foldl (addH 32) (List.replicate 32 false)
end Go.Proofs.YtpiodhdbdlfnhaaGreatDoor
