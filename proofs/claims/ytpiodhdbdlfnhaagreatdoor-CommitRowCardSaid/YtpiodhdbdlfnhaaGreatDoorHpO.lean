/- heap: what the statements are handed. -/
import Derived.Test.YtpiodhdbdlfnhaaGreatDoorOpen2
import Derived.Test.YtpiodhdbdlfnhaaGreatDoorFacts
namespace Go.Proofs.YtpiodhdbdlfnhaaGreatDoor
open Go.RowKit Go.Lib
set_option linter.unusedVariables false
section
variable {H : Type} {enc : TypeId × Value → H} {w : World}
theorem i64s_open {a : Option Addr} {len cap : Nat} {d : DataW H} {p : List MemPlace} (h : DataW.Trod enc Tryz.prog w 0 (fun _ => true) true 22 (.slice a len cap) d p) :
    ∃ zs : List Int, zs.length = len ∧ SlOk w a len cap 1 (gL encI 0 zs) ∧ ∀ z ∈ zs, (Lit.int .i64 z).wf = true := ints_sl 22 2 Tryz.underlying22 (by kernel_rfl) Tryz.underlying2 h
end
end Go.Proofs.YtpiodhdbdlfnhaaGreatDoor
