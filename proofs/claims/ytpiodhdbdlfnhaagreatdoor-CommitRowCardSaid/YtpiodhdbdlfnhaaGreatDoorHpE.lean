/- heap: the examples that each statement asks first. heap: the same; a copy. -/
import Derived.Test.YtpiodhdbdlfnhaaGreatDoorHpD
namespace Go.Proofs.YtpiodhdbdlfnhaaGreatDoor
open Go.RowKit Go.Lib
set_option linter.unusedVariables false
theorem Sat.heapTo {S : Nat → Prop} {w₀ w w' : World} {L : List Res} {b : Nat} {ga va : Option Addr} {gc vc : Nat} {H H' : HeapS} (h : Sat S w₀ w (heapR b ga va gc vc H :: L)) (hm : HeapTo b ga va gc vc H H' w w') : Sat S w₀ w' (heapR b ga va gc vc H' :: L) :=
  h.swap (r := heapR b ga va gc vc H) (r' := heapR b ga va gc vc H') rfl hm.2 hm.1 rfl (fun k e => .inl e)
end Go.Proofs.YtpiodhdbdlfnhaaGreatDoor
namespace Go.Proofs.YtpiodhdbdlfnhaaGreatDoor
open Go.RowKit Go.Lib
set_option linter.unusedVariables false
section
variable {bh : Nat} {ga va : Option Addr} {gc vc : Nat} {H : HeapS} {w0 : World} (h : (heapR bh ga va gc vc H).holds w0)
include h
end
end Go.Proofs.YtpiodhdbdlfnhaaGreatDoor
