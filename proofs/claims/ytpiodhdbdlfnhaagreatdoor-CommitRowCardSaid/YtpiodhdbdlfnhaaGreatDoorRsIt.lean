/- readset: the iterator each: what comes, one by one. -/
import Derived.RangeFuncKeeps
import Derived.RangeFuncFrom
import Derived.RangeFuncLeaves
import Derived.Shelf.Abstract
import Derived.WalkKit
import Derived.OwnWalkIn
import Derived.TacticsInMore
import Derived.LoopNIn
import Derived.LoopIn
import Derived.Test.YtpiodhdbdlfnhaaGreatDoorRsP
namespace Go.Proofs.YtpiodhdbdlfnhaaGreatDoor
open Go.RowKit Go.Lib
set_option linter.unusedVariables false
theorem wide_fn (k : FuncId) : Fence.wide.fn k ↔ True := Iff.rfl
attribute [local go_sem] wide_fn
/-- Those of the first k that are there. -/
def upto (st : Int) (hs : List Bool) (k : Nat) : List Nat := (List.range k).filter (fun j => hasB st hs (j : Nat))
theorem upto_succ (st : Int) (hs : List Bool) (k : Nat) : upto st hs (k + 1) = if hasB st hs (k : Nat) = true then upto st hs k ++ [k] else upto st hs k := by
  unfold upto
  rw [List.range_succ, List.filter_append]
  by_cases h : hasB st hs (k : Nat) = true
  · simp [h]
  · simp [h]
theorem upto_len (st : Int) (hs : List Bool) (k : Nat) : (upto st hs k).length ≤ k := by
  unfold upto
  exact Nat.le_trans (List.length_filter_le _ _) (by simp)
theorem upto_prefix (st : Int) (hs : List Bool) {k m : Nat} (h : k ≤ m) : upto st hs k <+: upto st hs m := by
  induction m with
  | zero => obtain rfl : k = 0 := by omega
            exact List.prefix_rfl
  | succ m ih =>
    by_cases e : k = m + 1
    · subst e; exact List.prefix_rfl
    · refine (ih (by omega)).trans ?_
      rw [upto_succ]
      split
      · exact List.prefix_append _ _
      · exact List.prefix_rfl
set_option maxRecDepth 100000 in
set_option maxHeartbeats 2000000 in
theorem each1_in (n : Nat) (hn : 1 ≤ n) (l b c n₀ : Nat) (rv st : Int) (hs : List Bool) (hb : b < n₀) (hcn : c < n₀) (J Jx : List Nat → World → Prop)
    (hY : ∀ pre x W, J pre W → pre.length < 32 → YieldAt Fence.wide (n - 1) Tryz.prog l #[.int .i64 (x : Nat)] W fun e W' =>
      (e = .returned (.bool true) ∧ J (pre ++ [x]) W' ∧ Below n₀ W W') ∨ (e = .returned (.bool false) ∧ Jx (pre ++ [x]) W'))
    (W : World) (hc : W.cell? ⟨c, 0, none⟩ = some (.pointer (some ⟨b, 0, none⟩))) (hS : SetAt W b rv st hs) (h0 : J [] W) :
    CallsIn Fence.wide n Tryz.prog 73 #[.func (.yield l) #[] #[], .pointer (some ⟨c, 0, none⟩)] W fun e W' => (∃ v, e = .returned v) ∧
      ((∃ ys, ys = upto st hs 32 ∧ J ys W') ∨ (∃ pre, pre <+: upto st hs 32 ∧ Jx pre W')) := by
  refine callsIn_of_wp Tryz.func73 rfl trivial ?_ rfl
  simp only [Tryz.ntmps73, List.size_toArray, List.length_cons, List.length_nil, Nat.reduceAdd, Nat.reduceSub, Array.replicate_succ, Array.replicate_zero, List.push_toArray, List.append_toArray, List.nil_append, List.cons_append]
  gi_wp2
  gi_loopw [4] (fun i wr => ∃ k : Nat, k ≤ 32 ∧ i = .int .i64 k ∧ J (upto st hs k) wr ∧ Below n₀ W wr)
    (fun i _ => 32 - (intOf i).toNat)
  case atStart => exact ⟨0, Nat.zero_le _, rfl, h0, Below.refl _ _⟩
  case round =>
    obtain ⟨k, hk, rfl, hJs, hnx⟩ := hrel
    have hcx : wr.cell? ⟨c, 0, none⟩ = some (.pointer (some ⟨b, 0, none⟩)) := (hnx.cell (p := ⟨c, 0, none⟩) hcn).trans hc
    have hSx : SetAt wr b rv st hs := ⟨(hnx.block b hb).trans hS.head, hS.len, hS.rv0, hS.rv1, hS.st0, hS.st1⟩
    by_cases hlt : k < 32
    · have hup := upto_succ st hs k
      cases hh : hasB st hs (k : Nat) with
      | true =>
        rw [hh, if_pos rfl] at hup
        have Hup := Lib.hid hup
        have hH := Lib.hid (callsIn_wide (n := n - 1).2 (has_at b rv st hs (k : Nat) true wr hSx hh))
        have HY := Lib.hid (hY _ k wr hJs (by have := upto_len st hs k; omega))
        clear hup hh
        gi_wp2
        refine hH.out.mono ?_
        rintro e w' ⟨rfl, rfl⟩
        obtain ⟨fn, tmps, assign, body, hy, hR⟩ := HY.out
        gi_wp2
        refine hR.mono ?_
        rintro e W3 (⟨rfl, hJ3, hk3⟩ | ⟨rfl, hJx3⟩)
        · gi_wp2
          go_roundw
          case rel => exact ⟨k + 1, by omega, by go_num, by rw [Hup.out]; exact hJ3, hnx.trans hk3⟩
          case measure => simp [intOf]; omega
        · gi_wp2
          refine bodyPost_ret (results_none rfl _ _ _) rfl ?_
          exact ⟨⟨_, rfl⟩, .inr ⟨_, Hup.out ▸ upto_prefix st hs (show k + 1 ≤ 32 by omega), hJx3⟩⟩
      | false =>
        rw [hh, if_neg (by decide)] at hup
        have Hup := Lib.hid hup
        have hH := Lib.hid (callsIn_wide (n := n - 1).2 (has_at b rv st hs (k : Nat) false wr hSx hh))
        clear hup hh
        gi_wp2
        refine hH.out.mono ?_
        rintro e w' ⟨rfl, rfl⟩
        gi_wp2
        go_roundw
        case rel => exact ⟨k + 1, by omega, by go_num, by rw [Hup.out]; exact hJs, hnx⟩
        case measure => simp [intOf]; omega
    · obtain rfl : k = 32 := by omega
      gi_wp2
      go_end0
      exact ⟨⟨_, rfl⟩, .inl ⟨_, rfl, hJs⟩⟩
/-- The iterator's contract. -/
theorem each1_stops (n : Nat) (hn : 1 ≤ n) (b c n₀ : Nat) (rv st : Int) (hs : List Bool) (hb : b < n₀) (hcn : c < n₀) (w : World) (hn₀ : n₀ ≤ w.heap.size)
    (hc : w.cell? ⟨c, 0, none⟩ = some (.pointer (some ⟨b, 0, none⟩))) (hS : SetAt w b rv st hs) :
    SeqStopsK Fence.wide n Tryz.prog 73 #[.pointer (some ⟨c, 0, none⟩)] (fun k : Nat => #[Value.int .i64 k]) (Below n₀) (fun ys => ys = upto st hs 32) (fun pre => pre <+: upto st hs 32) 32 w := fun l J Jx W hW _ _ hY h0 =>
  each1_in n hn l b c n₀ rv st hs hb hcn J Jx hY W ((hW.cell (p := ⟨c, 0, none⟩) (show c < w.heap.size by omega)).trans hc) (hS.below hW) h0
end Go.Proofs.YtpiodhdbdlfnhaaGreatDoor
