/- The walks of the document's answers over the numbers (seesawref01). -/
import Derived.Test.YtbdgmpjaibejnaaVarW2
import Derived.Test.YtbdgmpjaibejnaaVarP2
import Derived.Deep.RegionHeld3
import Derived.Deep.RegionWith
import Derived.Outline
namespace Go.Proofs.Ytbdgmpjaibejnaa
open Go.RowKit
set_option linter.unusedVariables false
theorem bcell {W w1 : World} (hb : Below W.heap.size W w1) : (∀ b o, b < W.heap.size → w1.cell? ⟨b, o, none⟩ = W.cell? ⟨b, o, none⟩) ∧ (∀ b o, b < W.heap.size → w1.frozen? ⟨b, o, none⟩ = W.frozen? ⟨b, o, none⟩) :=
  ⟨fun b o h => hb.cell (p := ⟨b, o, none⟩) h, fun b o h => hb.frozen (p := ⟨b, o, none⟩) h⟩
set_option maxHeartbeats 400000 in
theorem refzig_at (x : Int) (h0 : -9223372036854775808 ≤ x) (h1 : x ≤ 9223372036854775807) (w : World) :
    Calls Try.prog 51 #[.int .i64 x] w fun e w' => e = .returned (.int .u64 (zigI x)) ∧ w = w' := by
  by_cases hx : x < 0
  · go_enter Try.func51, Try.ntmps51
    go_wp2
    go_ret
    refine ⟨congrArg (fun k => Ending.returned (.int .u64 k)) ?_, rfl⟩
    unfold zigI; split <;> omega
  · go_enter Try.func51, Try.ntmps51
    go_wp2
    go_ret
    refine ⟨congrArg (fun k => Ending.returned (.int .u64 k)) ?_, rfl⟩
    unfold zigI; split <;> omega
set_option maxHeartbeats 400000 in
theorem refzag_at (n : Int) (h0 : 0 ≤ n) (h1 : n < 18446744073709551616) (w : World) :
    Calls Try.prog 60 #[.int .u64 n] w fun e w' => e = .returned (.int .i64 (zagI n)) ∧ w = w' := by
  by_cases hx : n % 2 = 0
  · have hx' := Lib.hid hx
    have hb : (n % 2 == 0) = true := by simpa using hx
    clear hx
    go_enter Try.func60, Try.ntmps60
    go_wp2
    go_ret
    refine ⟨congrArg (fun k => Ending.returned (.int .i64 k)) ?_, rfl⟩
    have := hx'.out
    unfold zagI; split <;> omega
  · have hx' := Lib.hid hx
    have hb : (n % 2 == 0) = false := by simpa using hx
    clear hx
    go_enter Try.func60, Try.ntmps60
    go_wp2
    go_ret
    refine ⟨congrArg (fun k => Ending.returned (.int .i64 k)) ?_, rfl⟩
    have := hx'.out
    unfold zagI; split <;> omega
theorem conv1 (W : World) (b : Nat) (x : Int) (hc : W.cell? ⟨b, 0, none⟩ = some (.int .u8 x)) :
    (convert 67 9 (.slice (some ⟨b, 0, none⟩) 1 1)).run Try.prog W = .ok (.string (strOfNums [x])) W := by
  refine run_convert_bytes_arg _ 67 5 Try.underlying67 Try.underlying5 _ _ _ 1 [x] rfl ?_ _ Try.underlying9
  intro i hi
  obtain rfl : i = 0 := by simp at hi; omega
  exact hc
set_option maxHeartbeats 400000 in
theorem refput_small (f : Nat) (n : Int) (w : World) (h0 : 0 ≤ n) (h1 : n < 128) :
    Calls Try.prog 50 #[.int .u64 n] w fun e w' => e = .returned (.string (strB (putL (f + 1) n.toNat))) ∧ Below w.heap.size w w' := by
  have hcv := conv1
  go_enter Try.func50, Try.ntmps50
  go_wp2_with fail
  go_ret
  refine ⟨congrArg (fun k => Ending.returned (.string k)) ?_, (Below.refl _ _).alloc (Nat.le_refl _) _⟩
  rw [putL, if_pos (by omega)]
  rfl
theorem refput_eq (f : Nat) (n : Int) (h0 : 0 ≤ n) (h1 : 128 ≤ n) :
    strOfNums [n % 128 + 128] ++ strB (putL (f + 1) (n / 128).toNat) = strB (putL (f + 1 + 1) n.toNat) := by
  have e : (n % 128 + 128).toNat = n.toNat % 128 + 128 := by omega
  have e2 : putL (f + 1 + 1) n.toNat = UInt8.ofNat (n.toNat % 128 + 128) :: putL (f + 1) (n.toNat / 128) := by
    rw [putL, if_neg (show ¬ n.toNat < 128 by omega)]
  rw [e2, show (n / 128).toNat = n.toNat / 128 by omega]
  apply ByteArray.ext
  simp [strOfNums, strB, e]
set_option maxHeartbeats 400000 in
theorem refput_any (f : Nat) : f ≤ 100 → ∀ (n : Int) (w : World), 0 ≤ n → n < 128 ^ (f + 1) → n < 18446744073709551616 →
    Calls Try.prog 50 #[.int .u64 n] w fun e w' => e = .returned (.string (strB (putL (f + 1) n.toNat))) ∧ Below w.heap.size w w' := by
  induction f with
  | zero => exact fun _ n w h0 h1 h2 => refput_small 0 n w h0 (by simpa using h1)
  | succ f ih =>
    intro hf n w h0 h1 h2
    by_cases hs : n < 128
    · exact refput_small _ n w h0 hs
    have hq : n / 128 < 128 ^ (f + 1) := by
      have : (128 : Int) ^ (f + 1 + 1) = 128 * 128 ^ (f + 1) := by rw [Int.pow_succ, Int.mul_comm]
      omega
    have z1 : (strB (putL (f + 1) (n / 128).toNat)).size ≤ 101 := by
      have := putL_len (f + 1) (n / 128).toNat
      rw [size_list]; simp only [strB]; omega
    have z2 : (strOfNums [n % 128 + 128]).size ≤ 1 := by simp [strOfNums, ByteArray.size]
    have hcv := conv1
    have IH := Lib.hid (ih (by omega))
    have H1 := Lib.hid h1
    have HQ := Lib.hid hq
    have q0 : 0 ≤ n / 128 := by omega
    have q2 : n / 128 < 18446744073709551616 := by omega
    have e1 : IntKind.u64.wrap (n.tdiv 128) = n / 128 := by
      rw [IntKind.wrap_u64, Int.tdiv_eq_ediv_of_nonneg h0]; omega
    have e2 : IntKind.u64.wrap (n.tmod 128 + 128) = n % 128 + 128 := by
      rw [IntKind.wrap_u64, Int.tmod_eq_emod_of_nonneg h0]; omega
    have e3 : IntKind.u8.wrap (n % 128 + 128) = n % 128 + 128 := by
      rw [IntKind.wrap_u8]; omega
    have hfin := Lib.hid (refput_eq f n h0 (by omega))
    clear ih h1 hq
    go_enter Try.func50, Try.ntmps50
    go_wp2_with fail
    go_region_with (refine (IH.out (n / 128) _ q0 HQ.out q2).mono ?_; rintro e w1 ⟨rfl, b1⟩; obtain ⟨hc1, hf1⟩ := bcell b1)
    all_goals
      go_wp2
      go_ret
      refine ⟨congrArg (fun k => Ending.returned (.string k)) hfin.out, ?_⟩
      first
        | exact bchain ((Below.refl _ _).alloc (Nat.le_refl _) _).drew b1
        | exact bchain ((Below.refl _ _).drew.alloc (Nat.le_refl _) _) b1
        | exact (bchain (Below.refl _ _).drew b1).alloc (bchain (Below.refl _ _).drew b1).size _
end Go.Proofs.Ytbdgmpjaibejnaa
