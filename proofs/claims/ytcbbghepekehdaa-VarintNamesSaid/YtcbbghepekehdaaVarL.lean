/- The laws' own helpers over the numbers: many, gets, works. -/
import Derived.Test.YtcbbghepekehdaaVarW2
namespace Go.Proofs.Ytcbbghepekehdaa
open Go.RowKit
def getsB (l : List UInt8) (n size e : Int) : Bool := decide (((getB l).1 : Int) = n ∧ ((getB l).2.1 : Int) = size ∧ ((getB l).2.2 : Int) = e)
theorem rep_size (i : Nat) (s : ByteArray) (k : Nat) (hi : i ≤ k) (hk : k ≤ 1000) (hs : s.size ≤ 1000) : (strB (List.replicate i s.data.toList).flatten).size ≤ 1000000 := by
  have e : (strB (List.replicate i s.data.toList).flatten).size = i * s.size := by
    show (List.replicate i s.data.toList).flatten.toArray.size = i * s.data.size
    rw [List.size_toArray, List.length_flatten, List.map_replicate, List.sum_replicate_nat, Array.length_toList]
  rw [e]
  calc i * s.size ≤ 1000 * 1000 := Nat.mul_le_mul (by omega) hs
    _ = 1000000 := by decide
theorem rep_succ (i : Nat) (s : ByteArray) : strB (List.replicate i s.data.toList).flatten ++ s = strB (List.replicate (i + 1) s.data.toList).flatten := by
  rw [List.replicate_succ', List.flatten_append]
  apply ByteArray.ext
  simp [strB]
set_option maxHeartbeats 400000 in
theorem many_at (k : Nat) (s : ByteArray) (hk : k ≤ 1000) (hs : s.size ≤ 1000) (w : World) :
    Calls Try.prog 12 #[.int .i64 k, .string s] w fun e w' => e = .returned (.string (strB (List.replicate k s.data.toList).flatten)) ∧ w = w' := by
  go_enter Try.func12, Try.ntmps12
  go_wp2
  go_loop [5, 6] (fun a b => ∃ i : Nat, i ≤ k ∧ b = .int .i64 i ∧ a = .string (strB (List.replicate i s.data.toList).flatten)) (fun _ b => k - (intOf b).toNat)
  case atStart => exact ⟨0, by omega, rfl, rfl⟩
  case round =>
    obtain ⟨i, hi, rfl, rfl⟩ := hrel
    have hz := rep_size i s k hi hk hs
    have hs' : s.size ≤ 1000 := hs
    go_wp2
    · go_round
      case rel => exact ⟨i + 1, by omega, by go_num, by rw [rep_succ]⟩
      case measure => simp [intOf]; omega
    · obtain rfl : i = k := by omega
      go_ret
      exact ⟨rfl, rfl⟩
theorem gets_some (s : ByteArray) (n size e : Int) (g1 g2 g3 : Nat) (hb : getB s.data.toList = (g1, g2, g3)) (hs : s.size ≤ maxLen) (w : World) :
    Calls Try.prog 10 #[.string s, .int .u64 n, .int .i64 size, .int .i64 e] w fun r w' => r = .returned (.bool (decide ((g1 : Int) = n ∧ (g2 : Int) = size ∧ (g3 : Int) = e))) ∧ w = w' := by
  go_enter Try.func10, Try.ntmps10
  have hg := Lib.hid hb
  clear hb
  go_wp2_with fail
  refine (get_at s _ _ _ hg.out hs _).mono ?_
  rintro r w' ⟨rfl, rfl⟩
  go_wp2_with fail
  all_goals
    go_ret
    refine ⟨congrArg (fun b => Ending.returned (.bool b)) ?_, rfl⟩
    first | (simp [*]; done) | (simp [*]; rfl)
theorem gets_at (s : ByteArray) (n size e : Int) (b : Bool) (g1 g2 g3 : Nat) (hg : getB s.data.toList = (g1, g2, g3)) (hb : decide ((g1 : Int) = n ∧ (g2 : Int) = size ∧ (g3 : Int) = e) = b) (hs : s.size ≤ maxLen) (w : World) :
    Calls Try.prog 10 #[.string s, .int .u64 n, .int .i64 size, .int .i64 e] w fun r w' => r = .returned (.bool b) ∧ w = w' := by
  subst hb
  exact gets_some s n size e g1 g2 g3 hg hs w
set_option maxHeartbeats 400000 in
theorem works_at (w : World) : Calls Try.prog 8 #[] w fun r w' => r = .returned (.bool true) ∧ Below w.heap.size w w' := by
  go_enter Try.func8, Try.ntmps8
  go_wp2_with fail
  refine (put_at 0 ⟨#[0]⟩ (by decide +kernel) (by decide) (by decide) _).mono ?_
  rintro e w1 ⟨rfl, b1⟩
  go_wp2_with fail
  refine (put_at 127 ⟨#[127]⟩ (by decide +kernel) (by decide) (by decide) _).mono ?_
  rintro e w2 ⟨rfl, b2⟩
  go_wp2_with fail
  refine (put_at 128 ⟨#[128, 1]⟩ (by decide +kernel) (by decide) (by decide) _).mono ?_
  rintro e w3 ⟨rfl, b3⟩
  go_wp2_with fail
  refine (put_at 300 ⟨#[172, 2]⟩ (by decide +kernel) (by decide) (by decide) _).mono ?_
  rintro e w4 ⟨rfl, b4⟩
  go_wp2_with fail
  refine (gets_at ⟨#[128, 0]⟩ 0 0 11 true 0 0 11 (by decide +kernel) (by decide +kernel) (by decide +kernel) _).mono ?_
  rintro e w' ⟨rfl, rfl⟩
  go_wp2_with fail
  refine (gets_at ⟨#[128]⟩ 0 0 8 true 0 0 8 (by decide +kernel) (by decide +kernel) (by decide +kernel) _).mono ?_
  rintro e w' ⟨rfl, rfl⟩
  go_wp2_with fail
  refine (many_at 11 ⟨#[128]⟩ (by decide) (by decide) _).mono ?_
  rintro e w' ⟨rfl, rfl⟩
  go_wp2_with fail
  refine (gets_at _ 0 0 20 true 0 0 20 (by decide +kernel) (by decide +kernel) (by decide +kernel) _).mono ?_
  rintro e w' ⟨rfl, rfl⟩
  go_wp2_with fail
  refine (zig_at 0 (by decide) (by decide) _).mono ?_
  rintro e w' ⟨rfl, rfl⟩
  have z0 : zigI 0 = 0 := by decide
  go_wp2_with fail
  refine (zig_at (-1) (by decide) (by decide) _).mono ?_
  rintro e w' ⟨rfl, rfl⟩
  have z1 : zigI (-1) = 1 := by decide
  go_wp2_with fail
  refine (zig_at 1 (by decide) (by decide) _).mono ?_
  rintro e w' ⟨rfl, rfl⟩
  have z2 : zigI 1 = 2 := by decide
  go_wp2_with fail
  refine (zig_at (-2) (by decide) (by decide) _).mono ?_
  rintro e w' ⟨rfl, rfl⟩
  have z3 : zigI (-2) = 3 := by decide
  go_wp2_with fail
  go_ret
  exact ⟨rfl, bchain (bchain (bchain b1 b2) b3) b4⟩
end Go.Proofs.Ytcbbghepekehdaa
