/- heap: the examples that each statement asks first. -/
import Derived.Test.YtpiodhdbdlfnhaaHpD
namespace Go.Proofs.Ytpiodhdbdlfnhaa
open Go.RowKit Go.Lib
set_option linter.unusedVariables false
theorem Sat.heapTo {S : Nat → Prop} {w₀ w w' : World} {L : List Res} {b : Nat} {ga va : Option Addr} {gc vc : Nat} {H H' : HeapS} (h : Sat S w₀ w (heapR b ga va gc vc H :: L)) (hm : HeapTo b ga va gc vc H H' w w') : Sat S w₀ w' (heapR b ga va gc vc H' :: L) :=
  h.swap (r := heapR b ga va gc vc H) (r' := heapR b ga va gc vc H') rfl hm.2 hm.1 rfl (fun k e => .inl e)
end Go.Proofs.Ytpiodhdbdlfnhaa
