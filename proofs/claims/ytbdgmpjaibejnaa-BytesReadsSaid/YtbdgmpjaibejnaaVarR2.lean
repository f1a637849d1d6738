/- The walk of the document's Get. -/
import Derived.Test.YtbdgmpjaibejnaaVarR
namespace Go.Proofs.Ytbdgmpjaibejnaa
open Go.RowKit
set_option linter.unusedVariables false
/-- After k bytes, as the document goes. -/
def RefInv (l : List UInt8) (k n : Nat) (unit : Int) : Prop := getB l = getL (10 - k) k n (l.drop k) ∧ n < 128 ^ k ∧ (k ≤ 9 → unit = ((128 ^ k : Nat) : Int))
theorem refval (n k d : Nat) (D unit : Int) (hD : D = (d : Int)) (hk : k ≤ 9) (hn : n < 128 ^ k) (hd : d < 128) (h9 : k = 9 → d ≤ 1) (hu : unit = ((128 ^ k : Nat) : Int)) :
    IntKind.u64.wrap ((n : Int) + IntKind.u64.wrap (D * unit)) = ((n + d * 128 ^ k : Nat) : Int) ∧ n + d * 128 ^ k < 18446744073709551616 ∧ n + d * 128 ^ k < 128 ^ (k + 1) := by
  obtain ⟨_, h2, h3⟩ := orval n k d ((2 ^ (7 * k) : Nat) : Int) rfl hk hn (by omega) h9
  rw [Nat.mod_eq_of_lt hd] at h2 h3
  refine ⟨?_, h2, h3⟩
  rw [hD, hu, ← Int.natCast_mul, u64_wrap _ (by omega), ← Int.natCast_add, u64_wrap _ h2]
theorem unit_next (k : Nat) (unit : Int) (hk : k ≤ 9) (hu : unit = ((128 ^ k : Nat) : Int)) : k + 1 ≤ 9 → IntKind.u64.wrap (unit * 128) = ((128 ^ (k + 1) : Nat) : Int) := by
  intro h
  have h5 : 128 ^ (k + 1) ≤ 128 ^ 9 := Nat.pow_le_pow_right (by omega) h
  have h6 : (128 ^ 9 : Nat) = 9223372036854775808 := by decide
  rw [hu, show ((128 ^ k : Nat) : Int) * 128 = ((128 ^ (k + 1) : Nat) : Int) by rw [Nat.pow_succ, Int.natCast_mul]; rfl, u64_wrap _ (by omega)]
set_option maxRecDepth 100000 in
set_option maxHeartbeats 400000 in
theorem refget_any (s : ByteArray) (w : World) (hs : s.size ≤ maxLen) :
    Calls Try.prog 58 #[.string s] w fun e w' => e = .returned (.tuple #[.int .u64 (getB s.data.toList).1, .int .i64 (getB s.data.toList).2.1, .int .i64 (getB s.data.toList).2.2]) ∧ w = w' := by
  unfold maxLen at hs
  go_enter Try.func58, Try.ntmps58
  go_wp2
  go_loop [5, 6, 7] (fun a u b => ∃ (k n : Nat) (unit : Int), k ≤ 10 ∧ k ≤ s.size ∧ n < 18446744073709551616 ∧ a = .int .u64 n ∧ u = .int .u64 unit ∧ b = .int .i64 k ∧ Hid (RefInv s.data.toList k n unit)) (fun _ _ b => 10 - (intOf b).toNat)
  case atStart => exact ⟨0, 0, 1, by omega, by omega, by omega, rfl, rfl, rfl, rfl, by decide, fun _ => rfl⟩
  case round =>
    obtain ⟨k, n, unit, hk, hks, hn, rfl, rfl, rfl, H⟩ := hrel
    by_cases h10 : k < 10
    · by_cases hz : k < s.size
      · have hb := s[k].toNat_lt
        have eb : s.data.toList[k]'(by simpa using hz) = s[k] := by simp; rfl
        have ho := get_open s.data.toList k n h10 (by simpa using hz) ⟨H.out.1, H.out.2.1⟩
        rw [eb] at ho
        by_cases h19 : k = 9 ∧ 1 < s[k].toNat
        · have hr := Lib.hid (ho.trans (if_pos h19))
          clear ho eb
          obtain ⟨h9, h1⟩ := h19
          have h9' := Lib.hid h9
          have h9a : 9 ≤ k := by omega
          have h9b : k ≤ 9 := by omega
          clear h9
          go_wp2
          go_ret3
          exact ⟨get_ret _ 0 0 20 _ _ _ rfl rfl rfl hr.out, rfl⟩
        · rw [if_neg h19] at ho
          clear eb
          by_cases h128 : 128 ≤ s[k].toNat
          · rw [if_pos h128] at ho
            have hr := Lib.hid ho
            have hk8 : k < 9 := by omega
            have hu := Lib.hid (unit_next k unit (by omega) (H.out.2.2 (by omega)))
            have hv := Lib.hid (refval n k (s[k].toNat % 128) ((s[k].toNat : Int) - 128) unit (by omega) (by omega) H.out.2.1 (by omega) (by omega) (H.out.2.2 (by omega)))
            clear ho h19
            go_wp2
            go_round
            case rel => exact ⟨k + 1, _, _, by omega, by omega, hv.out.2.1, by rw [hv.out.1], rfl, by go_num, hr.out, hv.out.2.2, hu.out⟩
            case measure => simp [intOf]; omega
          · rw [if_neg h128] at ho
            have hv := Lib.hid (refval n k s[k].toNat (s[k].toNat : Int) unit rfl (by omega) H.out.2.1 (by omega) (by omega) (H.out.2.2 (by omega)))
            by_cases h0 : 0 < k ∧ s[k].toNat = 0
            · rw [if_pos h0] at ho
              have hr := Lib.hid ho
              have hz0 : ((s[k].toNat : Int) == 0) = true := by simp; omega
              have hk0 : 0 < k := h0.1
              have hc0 : s[k].toNat ≤ 0 := by omega
              clear ho h19 h0
              go_wp2
              all_goals
                go_ret3
                exact ⟨get_ret _ 0 0 11 _ _ _ rfl rfl rfl hr.out, rfl⟩
            · rw [if_neg h0] at ho
              have hr := Lib.hid ho
              clear ho
              by_cases hc0 : s[k].toNat = 0
              · have hk0 : k ≤ 0 := by omega
                have hz0 : ((s[k].toNat : Int) == 0) = true := by simp; omega
                have hc1 : s[k].toNat ≤ 0 := by omega
                clear h19 h0 hc0
                go_wp2
                go_ret3
                exact ⟨get_ret _ _ (k + 1) 0 _ _ _ hv.out.1 (by omega) rfl hr.out, rfl⟩
              · have hz0 : ((s[k].toNat : Int) == 0) = false := by simp; omega
                have hc1 : 1 ≤ s[k].toNat := by omega
                by_cases h9 : k = 9
                · have h9a : 9 ≤ k := by omega
                  have h9b : s[k].toNat ≤ 1 := by omega
                  clear h19 h0 hc0 h9
                  go_wp2
                  go_ret3
                  exact ⟨get_ret _ _ (k + 1) 0 _ _ _ hv.out.1 (by omega) rfl hr.out, rfl⟩
                · have h9a : k < 9 := by omega
                  clear h19 h0 hc0 h9
                  go_wp2
                  go_ret3
                  exact ⟨get_ret _ _ (k + 1) 0 _ _ _ hv.out.1 (by omega) rfl hr.out, rfl⟩
      · have hr := Lib.hid (show getB s.data.toList = (0, 0, 8) by
          rw [H.out.1, List.drop_eq_nil_of_le (by simp; omega), show 10 - k = (10 - (k + 1)) + 1 by omega, getL])
        go_wp2
        go_ret3
        exact ⟨get_ret _ 0 0 8 _ _ _ rfl rfl rfl hr.out, rfl⟩
    · have hr := Lib.hid (show getB s.data.toList = (0, 0, 20) by
        rw [H.out.1, show 10 - k = 0 by omega, getL])
      go_wp2
      go_ret3
      exact ⟨get_ret _ 0 0 20 _ _ _ rfl rfl rfl hr.out, rfl⟩
theorem refget_at (s : ByteArray) (n size e : Nat) (h : getB s.data.toList = (n, size, e)) (hs : s.size ≤ maxLen) (w : World) :
    Calls Try.prog 58 #[.string s] w fun r w' => r = .returned (.tuple #[.int .u64 n, .int .i64 size, .int .i64 e]) ∧ w = w' := by
  have := refget_any s w hs
  rw [h] at this
  exact this
theorem refput_at (a : Int) (s : ByteArray) (h : strB (putB a.toNat) = s) (h0 : 0 ≤ a) (h1 : a < 18446744073709551616) (w : World) :
    Calls Try.prog 50 #[.int .u64 a] w fun e w' => e = .returned (.string s) ∧ Below w.heap.size w w' := by
  have := refput_any 9 (by omega) a w h0 (by omega) h1
  rw [show putL (9 + 1) a.toNat = putB a.toNat from rfl, h] at this
  exact this
end Go.Proofs.Ytbdgmpjaibejnaa
