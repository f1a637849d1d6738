/- readset: All: the iterator's elements in a new slice. -/
import Derived.Test.YtpiodhdbdlfnhaaGreatDoorRsL
import Derived.Maps.AppendAt
import Derived.OwnWalkIn
namespace Go.Proofs.YtpiodhdbdlfnhaaGreatDoor
open Go.RowKit Go.Lib Go.Maps
set_option linter.unusedVariables false
attribute [local go_sem] wide_fn Oper.semAt_some
theorem int_info : (Tryz.prog.info? 3).map (fun i => (i.zero, i.size, i.bytes)) = some (some (.int .i64 0), 1, 8) := by kernel_rfl
theorem row_ne {W : World} {base : Nat} {e : TypeId} {size : Nat} {v : Value} {k : Nat} {xs : List Value} (h : W.ownsRow base e size v k xs) {j : Nat} {o : Obj} (hj : W.heap[j]? = some o) (hno : ∀ cur, o ≠ .cells cur e (0, 0)) :
    v.ownBlock = none ∨ v.ownBlock ≠ some j := by
  rcases h.2 with ⟨rfl, _⟩ | ⟨g, cap, cur, rfl, _, hgb, _⟩
  · exact .inl rfl
  · refine .inr fun e' => ?_
    have : g = j := by simpa [Value.ownBlock] using e'
    subst this
    rw [hgb] at hj
    injection hj with hj
    exact hno cur hj.symm
theorem row_own {W W' : World} {row : Option Nat} {base : Nat} {e : TypeId} {size : Nat} {v : Value} {k : Nat} {xs : List Value} (h : W.ownsRow base e size v k xs) (hg : W.grownBy W' row) (hr : ∀ r, row = some r → ∃ o : Obj, W.heap[r]? = some o ∧ o.isCells = false) : W'.ownsRow base e size v k xs := by
  refine h.kept hg ?_
  cases row with
  | none =>
    cases hv : v.ownBlock with
    | none => exact .inl rfl
    | some g => exact .inr (by simp)
  | some r =>
    obtain ⟨o, ho, hc⟩ := hr r rfl
    exact row_ne h ho (fun cur e => by subst e; simp [Obj.isCells] at hc)
def encN (k : Nat) : Value := .int .i64 (k : Nat)
/-- What lies between two rounds: the box B holds the row of what has come. -/
def AllInv (w : World) (pre : List Nat) (W : World) : Prop :=
  ∃ v, W.heap[w.heap.size]? = some (.cells #[v] 23 (0, 0)) ∧ W.ownsRow w.heap.size 3 1 v pre.length (pre.map encN) ∧ Below w.heap.size w W
theorem AllInv.own {w : World} {pre : List Nat} {A B : World} {B0 : Nat} {row : Option Nat} (h : AllInv w pre A) (hB0 : w.heap.size ≤ B0) (hg : A.grownBy B row) (hr : ∀ r, row = some r → B0 ≤ r ∧ ∃ o : Obj, A.heap[r]? = some o ∧ o.isCells = false) : AllInv w pre B := by
  obtain ⟨v, h1, h2, h3⟩ := h
  exact ⟨v, (grownBy_keeps_cells hg (fun r e => (hr r e).2) h1 rfl).trans h1, row_own h2 hg (fun r e => (hr r e).2), h3.grown hg h3.size (fun k e => Nat.le_trans hB0 (hr k e).1)⟩
set_option maxRecDepth 100000 in
set_option maxHeartbeats 4000000 in
theorem appendSeq_at (b c : Nat) (rv st : Int) (hs : List Bool) (w : World) (hS : SetAt w b rv st hs) (hc : w.cell? ⟨c, 0, none⟩ = some (.pointer (some ⟨b, 0, none⟩))) (hcl : c < w.heap.size) :
    CallsIn Fence.wide 9 Tryz.prog 72 #[.slice none 0 0, .func (.func 73) #[] #[.pointer (some ⟨c, 0, none⟩)]] w fun e w' =>
      ∃ v, e = .returned v ∧ w'.ownsRow w.heap.size 3 1 v (upto st hs 32).length ((upto st hs 32).map encN) ∧ Below w.heap.size w w' := by
  have hbl : b < w.heap.size := lt_of_heap hS.head
  obtain ⟨i0, hi, hz0, hz1, hz2⟩ := info_parts int_info
  refine callsIn_of_wp_marks Tryz.func72 rfl trivial ?_ rfl
  simp only [Tryz.ntmps72, List.size_toArray, List.length_cons, List.length_nil, Nat.reduceAdd, Nat.reduceSub, Array.replicate_succ, Array.replicate_zero, List.push_toArray, List.append_toArray, List.nil_append, List.cons_append]
  have HS := Lib.hid hS
  have Hc := Lib.hid hc
  have HI := Lib.hid hi
  clear hS hc hi
  gi_wp2
  obtain ⟨W0, hW0⟩ : ∃ W0, w.alloc (.cells #[.slice none 0 0] 23) = W0 := ⟨_, rfl⟩
  rw [hW0]
  have hz : W0.heap.size = w.heap.size + 1 := by rw [← hW0]; simp
  have hB0 : Below w.heap.size w W0 := by rw [← hW0]; exact (Below.refl _ w).alloc (Nat.le_refl _) _
  have hv0 : W0.heap[w.heap.size]? = some (.cells #[.slice none 0 0] 23 (0, 0)) := by rw [← hW0]; exact heap_alloc_new w _
  clear hW0
  have hI0 : AllInv w [] W0 := ⟨_, hv0, ⟨rfl, .inl ⟨rfl, rfl⟩⟩, hB0⟩
  refine wpIn_rangeFunc_ownF rfl (by decide) (gf := 73) (lb := #[.pointer (some ⟨c, 0, none⟩)]) rfl trivial (enters_of Tryz.func73 (by kernel_rfl) rfl)
    (each1_stops (9 - 1) (by decide) b c w.heap.size rv st hs hbl hcl W0 (by omega) ((hB0.cell (p := ⟨c, 0, none⟩) hcl).trans Hc.out) (HS.out.below hB0)) (fun h k => h.trans k) (belowK_b (by omega)) (Below.refl _ _) (fun _ => rfl)
    (AllInv w) (fun _ _ _ => False)
    (fun s A B row hs hg hr => hs.own (by omega) hg hr)
    (fun c s A B row hs hg hr => hs)
    hI0
    (fun x => { tmps := #[.slice none 0 0, .func (.func 73) #[] #[.pointer (some ⟨c, 0, none⟩)], .pointer (some ⟨w.heap.size, 0, none⟩), undef, .slice none 0 0, .int .i64 x, .func (.func 73) #[] #[.pointer (some ⟨c, 0, none⟩)], .int .i64 x, undef, undef, undef, undef, undef], defers := [] }) ?assign ?body ?done ?stop
  case assign =>
    intro l x W K hK
    gi_wp2
    exact hK
  case body =>
    rintro l pre x W ⟨v, hv, hrow, hb⟩ hlen
    obtain ⟨hc2, hf2⟩ : W.cell? ⟨w.heap.size, 0, none⟩ = some v ∧ W.frozen? ⟨w.heap.size, 0, none⟩ = false := ⟨by rw [cell_of_row _ _ _ _ _ _ hv]; rfl, frozen_of_row _ _ _ _ _ hv⟩
    have hBlt : w.heap.size < W.heap.size := lt_of_heap hv
    have Hv := Lib.hid hv
    have Hrow := Lib.hid hrow
    have Hb := Lib.hid hb
    have NE : Hid (∀ (o : Obj), W.heap[w.heap.size]? = some (.cells #[v] 23 (0, 0)) → some w.heap.size ≠ v.ownBlock) := Lib.hid (fun _ h => by
      rcases row_ne hrow h (fun cur e => by cases e) with e | e
      · rw [e]; simp
      · exact fun e' => e e'.symm)
    clear hv hrow hb
    gi_wp2_with (first
      | (gi_at_builtin; refine wpListIn_append_own _ rfl _ _ 23 rfl w.heap.size 3 i0 (.int .i64 0) 1 8 Tryz.underlying23 HI.out hz0 hz1 hz2 rfl (by decide) _ _ _ rfl (Hrow.out.alloc _) ⟨W.heap.size, 0, none⟩ 1 1 [encN x] rfl rfl (cell_one_new _ _ _) (by simp [Value.oneCell', encN]) (by unfold maxLen; omega) (by omega) (by simp; omega) ?_; intro v' w3 hown' hg3 hnil3; clear hnil3
         have hg4 : (W.alloc (.cells #[encN x] 3)).grownBy w3 v.ownBlock := hg3
         have hv3 : w3.heap[w.heap.size]? = some (.cells #[v] 23 (0, 0)) := (hg4.block w.heap.size (by simp; omega) (NE.out (.cells #[] 0 (0, 0)) Hv.out)).trans ((Below.heap_alloc _ _ _ hBlt).trans Hv.out)
         obtain ⟨hc3, hf3⟩ : w3.cell? ⟨w.heap.size, 0, none⟩ = some v ∧ w3.frozen? ⟨w.heap.size, 0, none⟩ = false := ⟨by rw [cell_of_row _ _ _ _ _ _ hv3]; rfl, frozen_of_row _ _ _ _ _ hv3⟩
         obtain ⟨g', cap', hvv⟩ : ∃ g' cap', v' = .slice (some ⟨g', 0, none⟩) (pre.length + 1) cap' := by
           rcases hown'.2 with ⟨_, h0⟩ | ⟨g', cap', cur', h1, _⟩
           · exact absurd h0 (by omega)
           · exact ⟨g', cap', h1⟩
         subst hvv
         have Hown := Lib.hid hown'
         have Hg4 := Lib.hid hg4
         have Hv3 := Lib.hid hv3
         clear hown' hg3 hg4 hv3)
      | gi_in)
    have hrc : ∀ (j : Nat) (o : Obj), v.ownBlock = some j → (W.alloc (.cells #[encN x] 3)).heap[j]? = some o → o.isCells = true := fun j o hj ho => by
      rcases (Hrow.out.alloc (.cells #[encN x] 3)).2 with ⟨rfl, _⟩ | ⟨g, cap, cur, rfl, _, hgb, _⟩
      · simp [Value.ownBlock] at hj
      · have : g = j := by simpa [Value.ownBlock] using hj
        subst this
        rw [hgb] at ho
        injection ho with ho
        rw [← ho]; rfl
    have hlow : ∀ k, v.ownBlock = some k → w.heap.size ≤ k := fun k hk => by
      rcases Hrow.out.2 with ⟨rfl, _⟩ | ⟨g, cap, cur, rfl, hbg, _, _⟩
      · simp [Value.ownBlock] at hk
      · have : g = k := by simpa [Value.ownBlock] using hk
        subst this; exact hbg
    have hgs : ∀ u, w3.grownBy (w3.setCell ⟨w.heap.size, 0, none⟩ u) (some w.heap.size) := fun u => ⟨rfl, rfl, rfl, by simp [World.setCell], fun k _ hk => Below.heap_setCell _ _ _ _ (fun e => hk (by rw [e]))⟩
    have hbel : Below w.heap.size W (w3.setCell ⟨w.heap.size, 0, none⟩ (.slice (some ⟨g', 0, none⟩) (pre.length + 1) cap')) :=
      (((Below.refl w.heap.size W).alloc (by omega) (.cells #[encN x] 3)).grown Hg4.out (by simp; omega) (fun k e => hlow k e)).setCell (p := ⟨w.heap.size, 0, none⟩) (Nat.le_refl _) _
    refine ⟨((KeepsOthers.alloc W _).trans (KeepsOthers.of_grownBy Hg4.out hrc)).trans (KeepsOthers.setCell _ _ _), hbel, .slice (some ⟨g', 0, none⟩) (pre.length + 1) cap', ?_, ?_, Hb.out.trans hbel⟩
    · exact heap_setCell_same w3 w.heap.size 0 _ _ _ Hv3.out
    · have hk := Hown.out.kept (hgs (.slice (some ⟨g', 0, none⟩) (pre.length + 1) cap')) (row_ne Hown.out Hv3.out (fun cur e => by cases e))
      rw [List.length_append, List.map_append]
      exact hk
  case done =>
    rintro D xs W hD rfl ⟨v, hv, hrow, hb⟩ hK
    have hc2 : W.cell? ⟨w.heap.size, 0, none⟩ = some v := by rw [cell_of_row _ _ _ _ _ _ hv]; rfl
    have Hrow := Lib.hid hrow
    have Hb := Lib.hid hb
    clear hv hrow hb
    gi_wp2
    refine ⟨by simp, .inl ⟨_, _, rfl, run_takeDeferred hK, ?_⟩⟩
    refine ⟨_, results_tmp rfl _ _ _, v, rfl, row_own Hrow.out (grownBy_putObj' _ D (.deferred none)) (fun r e => by cases e; exact ⟨_, hK, rfl⟩), Hb.out.grown (grownBy_putObj' _ D (.deferred none)) Hb.out.size (fun k e => by cases e; omega)⟩
  case stop =>
    rintro D c pre W hD hpre hf hK
    exact hf.elim
set_option maxHeartbeats 1000000 in
theorem collect_at (b c : Nat) (rv st : Int) (hs : List Bool) (w : World) (hS : SetAt w b rv st hs) (hc : w.cell? ⟨c, 0, none⟩ = some (.pointer (some ⟨b, 0, none⟩))) (hcl : c < w.heap.size) :
    Calls Tryz.prog 47 #[.func (.func 73) #[] #[.pointer (some ⟨c, 0, none⟩)]] w fun e w' =>
      ∃ v, e = .returned v ∧ w'.ownsRow w.heap.size 3 1 v (upto st hs 32).length ((upto st hs 32).map encN) ∧ Below w.heap.size w w' := by
  have HA := Lib.hid (callsIn_wide.1 (appendSeq_at b c rv st hs w hS hc hcl))
  clear hS hc
  go_enter Tryz.func47, Tryz.ntmps47
  go_wp2_with fail
  refine HA.out.mono ?_
  rintro e w' ⟨v, rfl, h1, h2⟩
  go_wp2_with fail
  go_ret
  exact ⟨v, rfl, h1, h2⟩
set_option maxHeartbeats 1000000 in
theorem all_at (b : Nat) (rv st : Int) (hs : List Bool) (w : World) (hS : SetAt w b rv st hs) :
    Calls Tryz.prog 17 #[.pointer (some ⟨b, 0, none⟩)] w fun e w' =>
      ∃ v, e = .returned v ∧ w'.ownsRow w.heap.size 3 1 v (upto st hs 32).length ((upto st hs 32).map encN) ∧ Below w.heap.size w w' := by
  have hb1 : Below w.heap.size w (w.alloc (.cells #[.pointer (some ⟨b, 0, none⟩)] 34)) := (Below.refl _ w).alloc (Nat.le_refl _) _
  have hcc : (w.alloc (.cells #[.pointer (some ⟨b, 0, none⟩)] 34)).cell? ⟨w.heap.size, 0, none⟩ = some (.pointer (some ⟨b, 0, none⟩)) := by rw [cell_of_row _ _ _ _ _ _ (heap_alloc_new w _)]; rfl
  have HA := Lib.hid (collect_at b w.heap.size rv st hs _ (hS.below hb1) hcc (by simp))
  have HB := Lib.hid hb1
  clear hS hcc hb1
  go_enter Tryz.func17, Tryz.ntmps17
  go_wp2_with fail
  refine (each_at (some ⟨b, 0, none⟩) _).mono ?_
  rintro e w' ⟨rfl, rfl⟩
  go_wp2_with fail
  refine HA.out.mono ?_
  rintro e w' ⟨v, rfl, h1, h2⟩
  go_wp2_with fail
  go_ret
  refine ⟨v, rfl, ⟨h1.1, ?_⟩, HB.out.trans (h2.mono (by simp))⟩
  rcases h1.2 with h | ⟨g, cap, cur, hv, hg, rest⟩
  · exact .inl h
  · exact .inr ⟨g, cap, cur, hv, Nat.le_trans (by simp) hg, rest⟩
end Go.Proofs.YtpiodhdbdlfnhaaGreatDoor
