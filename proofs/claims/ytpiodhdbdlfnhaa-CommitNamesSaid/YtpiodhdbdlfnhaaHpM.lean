/- math/bits.Mul at one and a small number. -/
import Derived.Test.YtpiodhdbdlfnhaaProg
import Derived.WalkKit
import Derived.Lib.Hide
namespace Go.Proofs.Ytpiodhdbdlfnhaa
open Go.RowKit Go.Lib
set_option linter.unusedVariables false
set_option maxHeartbeats 2000000 in
theorem mul64_one (y : Int) (h0 : 0 ≤ y) (h1 : y ≤ 32) (w : World) : Calls Try.prog 77 #[.int .u64 1, .int .u64 y] w fun e w' => e = .returned (.tuple #[.int .u64 0, .int .u64 y]) ∧ w = w' := by
  have e1 : bits BinOp.and IntKind.u64 1 4294967295 = 1 := by decide +kernel
  have e0 : bits BinOp.and IntKind.u64 0 4294967295 = 0 := by decide +kernel
  have e2 : bits BinOp.and IntKind.u64 y 4294967295 = y := by
    have H : ∀ n : Fin 33, bits BinOp.and IntKind.u64 (n.val : Int) 4294967295 = (n.val : Int) := by decide +kernel
    have := H ⟨y.toNat, by omega⟩
    simpa [Int.toNat_of_nonneg h0] using this
  have d0 : y / 4294967296 = 0 := by omega
  have hw : IntKind.u64.wrap y = y := by rw [IntKind.wrap_u64]; omega
  go_enter Try.func77, Try.ntmps77
  go_wp2
  go_ret2
  exact ⟨by simp, rfl⟩
theorem mul_one (y : Int) (h0 : 0 ≤ y) (h1 : y ≤ 32) (w : World) : Calls Try.prog 64 #[.int .u64 1, .int .u64 y] w fun e w' => e = .returned (.tuple #[.int .u64 0, .int .u64 y]) ∧ w = w' := by
  have M := Lib.hid (mul64_one y h0 h1)
  go_enter Try.func64, Try.ntmps64
  go_wp2_with fail
  refine (M.out _).mono ?_
  rintro e w' ⟨rfl, rfl⟩
  go_wp2_with fail
  go_ret2
  exact ⟨rfl, rfl⟩
end Go.Proofs.Ytpiodhdbdlfnhaa
