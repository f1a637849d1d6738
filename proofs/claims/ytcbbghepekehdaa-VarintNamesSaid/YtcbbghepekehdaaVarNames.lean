/- The walk of the closed law VarintNames. -/
import Derived.Test.YtcbbghepekehdaaVarZig
namespace Go.Proofs.Ytcbbghepekehdaa
open Go.RowKit
set_option linter.unusedVariables false
set_option maxHeartbeats 2000000 in
theorem walk_VarintNames (w : World) : Calls Try.prog 5 #[] w fun e w' => e = .returned (.bool true) ∧ Below w.heap.size w w' := by
  have e0 : (⟨#[255, 255, 255, 255, 255, 255, 255, 255, 255]⟩ : ByteArray) ++ ⟨#[1]⟩ = ⟨#[255, 255, 255, 255, 255, 255, 255, 255, 255, 1]⟩ := by decide +kernel
  have e1 : (⟨#[255, 255, 255, 255, 255, 255, 255, 255, 255, 1]⟩ : ByteArray) ++ ⟨#[120]⟩ = ⟨#[255, 255, 255, 255, 255, 255, 255, 255, 255, 1, 120]⟩ := by decide +kernel
  have e2 : (⟨#[255, 255, 255, 255, 255, 255, 255, 255, 255]⟩ : ByteArray) ++ ⟨#[2]⟩ = ⟨#[255, 255, 255, 255, 255, 255, 255, 255, 255, 2]⟩ := by decide +kernel
  have e3 : (⟨#[128, 128, 128, 128, 128, 128, 128, 128, 128]⟩ : ByteArray) ++ ⟨#[0]⟩ = ⟨#[128, 128, 128, 128, 128, 128, 128, 128, 128, 0]⟩ := by decide +kernel
  have e4 : (⟨#[128, 128, 128, 128, 128, 128, 128, 128, 128]⟩ : ByteArray) ++ ⟨#[1]⟩ = ⟨#[128, 128, 128, 128, 128, 128, 128, 128, 128, 1]⟩ := by decide +kernel
  go_enter Try.func5, Try.ntmps5
  go_wp2_with fail
  refine (many_at 9 ⟨#[255]⟩ (by decide) (by decide) _).mono ?_
  rintro e w' ⟨rfl, rfl⟩
  rw [show strB (List.replicate 9 (⟨#[255]⟩ : ByteArray).data.toList).flatten = ⟨#[255, 255, 255, 255, 255, 255, 255, 255, 255]⟩ by decide +kernel]
  go_wp2_with fail
  refine (works_at _).mono ?_
  rintro e W0 ⟨rfl, bW0⟩
  go_wp2_with fail
  refine (put_at 18446744073709551615 ⟨#[255, 255, 255, 255, 255, 255, 255, 255, 255, 1]⟩ (by decide +kernel) (by decide) (by decide) _).mono ?_
  rintro e W1 ⟨rfl, bW1⟩
  go_wp2_with fail
  refine (gets_at _ 18446744073709551615 10 0 true 18446744073709551615 10 0 (by decide +kernel) (by decide +kernel) (by decide +kernel) _).mono ?_
  rintro e w' ⟨rfl, rfl⟩
  go_wp2_with fail
  refine (many_at 9 ⟨#[255]⟩ (by decide) (by decide) _).mono ?_
  rintro e w' ⟨rfl, rfl⟩
  rw [show strB (List.replicate 9 (⟨#[255]⟩ : ByteArray).data.toList).flatten = ⟨#[255, 255, 255, 255, 255, 255, 255, 255, 255]⟩ by decide +kernel]
  go_wp2_with fail
  refine (gets_at _ 0 0 20 true 0 0 20 (by decide +kernel) (by decide +kernel) (by decide +kernel) _).mono ?_
  rintro e w' ⟨rfl, rfl⟩
  go_wp2_with fail
  refine (many_at 9 ⟨#[128]⟩ (by decide) (by decide) _).mono ?_
  rintro e w' ⟨rfl, rfl⟩
  rw [show strB (List.replicate 9 (⟨#[128]⟩ : ByteArray).data.toList).flatten = ⟨#[128, 128, 128, 128, 128, 128, 128, 128, 128]⟩ by decide +kernel]
  go_wp2_with fail
  refine (gets_at _ 0 0 11 true 0 0 11 (by decide +kernel) (by decide +kernel) (by decide +kernel) _).mono ?_
  rintro e w' ⟨rfl, rfl⟩
  go_wp2_with fail
  refine (many_at 9 ⟨#[128]⟩ (by decide) (by decide) _).mono ?_
  rintro e w' ⟨rfl, rfl⟩
  rw [show strB (List.replicate 9 (⟨#[128]⟩ : ByteArray).data.toList).flatten = ⟨#[128, 128, 128, 128, 128, 128, 128, 128, 128]⟩ by decide +kernel]
  go_wp2_with fail
  refine (gets_at _ 0 0 8 true 0 0 8 (by decide +kernel) (by decide +kernel) (by decide +kernel) _).mono ?_
  rintro e w' ⟨rfl, rfl⟩
  go_wp2_with fail
  refine (gets_at _ 0 0 8 true 0 0 8 (by decide +kernel) (by decide +kernel) (by decide +kernel) _).mono ?_
  rintro e w' ⟨rfl, rfl⟩
  go_wp2_with fail
  refine (gets_at _ 0 1 0 true 0 1 0 (by decide +kernel) (by decide +kernel) (by decide +kernel) _).mono ?_
  rintro e w' ⟨rfl, rfl⟩
  go_wp2_with fail
  refine (gets_at _ 0 0 11 true 0 0 11 (by decide +kernel) (by decide +kernel) (by decide +kernel) _).mono ?_
  rintro e w' ⟨rfl, rfl⟩
  go_wp2_with fail
  refine (put_at 9223372036854775808 ⟨#[128, 128, 128, 128, 128, 128, 128, 128, 128, 1]⟩ (by decide +kernel) (by decide) (by decide) _).mono ?_
  rintro e W2 ⟨rfl, bW2⟩
  go_wp2_with fail
  refine (many_at 9 ⟨#[128]⟩ (by decide) (by decide) _).mono ?_
  rintro e w' ⟨rfl, rfl⟩
  rw [show strB (List.replicate 9 (⟨#[128]⟩ : ByteArray).data.toList).flatten = ⟨#[128, 128, 128, 128, 128, 128, 128, 128, 128]⟩ by decide +kernel]
  go_wp2_with fail
  refine (zig_to (-9223372036854775808) 18446744073709551615 (Lib.hid (by decide +kernel)) (by decide) (by decide) _).mono ?_
  rintro e w' ⟨rfl, rfl⟩
  go_wp2_with fail
  refine (zig_to 9223372036854775807 18446744073709551614 (Lib.hid (by decide +kernel)) (by decide) (by decide) _).mono ?_
  rintro e w' ⟨rfl, rfl⟩
  go_wp2_with fail
  refine (zag_to 18446744073709551615 (-9223372036854775808) (Lib.hid (by decide +kernel)) (by decide) (by decide) _).mono ?_
  rintro e w' ⟨rfl, rfl⟩
  go_wp2_with fail
  go_ret
  exact ⟨rfl, (bchain (bchain bW0 bW1) bW2)⟩
end Go.Proofs.Ytcbbghepekehdaa
