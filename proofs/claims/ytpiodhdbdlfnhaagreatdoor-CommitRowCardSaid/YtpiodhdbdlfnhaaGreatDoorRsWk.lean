/- readset: each, Wakes. -/
import Derived.Test.YtpiodhdbdlfnhaaGreatDoorRsIt
import Derived.Test.YtpiodhdbdlfnhaaGreatDoorOpen
import Derived.RangeFuncCalls
namespace Go.Proofs.YtpiodhdbdlfnhaaGreatDoor
open Go.RowKit Go.Lib
set_option linter.unusedVariables false
attribute [local go_sem] wide_fn Oper.semAt_some
set_option maxHeartbeats 400000 in
theorem each_at (p : Option Addr) (w : World) :
    Calls Tryz.prog 48 #[.pointer p] w fun e w' => e = .returned (.func (.func 73) #[] #[.pointer (some ⟨w.heap.size, 0, none⟩)]) ∧ w' = w.alloc (.cells #[.pointer p] 34) := by
  go_enter Tryz.func48, Tryz.ntmps48
  go_wp2
  go_ret
  exact ⟨rfl, rfl⟩
end Go.Proofs.YtpiodhdbdlfnhaaGreatDoor
