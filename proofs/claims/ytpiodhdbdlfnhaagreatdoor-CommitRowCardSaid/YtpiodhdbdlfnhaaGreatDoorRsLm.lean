/- readset: plain laws. ReadsetHas. -/
import Derived.Test.YtpiodhdbdlfnhaaGreatDoorRsE
namespace Go.Proofs.YtpiodhdbdlfnhaaGreatDoor
open Go.RowKit Go.Lib
set_option linter.unusedVariables false
end Go.Proofs.YtpiodhdbdlfnhaaGreatDoor
namespace Go.Proofs.YtpiodhdbdlfnhaaGreatDoor
open Go.RowKit Go.Lib
set_option linter.unusedVariables false
end Go.Proofs.YtpiodhdbdlfnhaaGreatDoor
