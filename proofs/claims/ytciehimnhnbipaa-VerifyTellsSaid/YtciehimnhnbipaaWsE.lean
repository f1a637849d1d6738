/- witness: May. -/
import Derived.Test.YtciehimnhnbipaaWsD
import Derived.Test.YtciehimnhnbipaaMap
import Derived.Test.YtciehimnhnbipaaMid
namespace Go.Proofs.Ytciehimnhnbipaa
open Go.RowKit Go.Lib
set_option linter.unusedVariables false
set_option maxHeartbeats 8000000
set_option maxRecDepth 100000
/-- Attempt i of a history may be. -/
def AtOk (n : Nat) (l : List AtS) (i : Nat) : Prop :=
  (if i = 0 then -1 else (l.getD (i - 1) atD).frm) < (l.getD i atD).frm ∧ ((l.getD i atD).to = -1 ∨ (l.getD i atD).frm ≤ (l.getD i atD).to) ∧
  (0 ≤ (l.getD i atD).rv ∧ (l.getD i atD).rv ≤ 1099511627776) ∧ (0 ≤ (l.getD i atD).wv ∧ (l.getD i atD).wv ≤ 1099511627776) ∧
  (0 < (l.getD i atD).wv → (l.getD i atD).com = true ∧ ∀ j, j < i → (l.getD j atD).wv ≠ (l.getD i atD).wv) ∧
  (¬0 < (l.getD i atD).wv → (l.getD i atD).ws.length = 0) ∧
  (∀ p ∈ (l.getD i atD).rs, 0 ≤ p.1 ∧ p.1 < n) ∧ (∀ p ∈ (l.getD i atD).ws, 0 ≤ p.1 ∧ p.1 < n) ∧
  (∀ k, k < (l.getD i atD).ws.length → 0 < k → ((l.getD i atD).ws.getD (k - 1) (0, 0)).1 < ((l.getD i atD).ws.getD k (0, 0)).1)
instance (n : Nat) (l : List AtS) (i : Nat) : Decidable (AtOk n l i) := by unfold AtOk; infer_instance
/-- A history may be. -/
def MayP (n : Nat) (l : List AtS) : Prop := (1 ≤ n ∧ n ≤ 32) ∧ ∀ i, i < l.length → AtOk n l i
instance (n : Nat) (l : List AtS) : Decidable (MayP n l) := by unfold MayP; infer_instance
def withinB (x : Int) : Bool := decide (0 ≤ x) && decide (x ≤ 1099511627776)
theorem withinB_iff {x : Int} : withinB x = true ↔ 0 ≤ x ∧ x ≤ 1099511627776 := by simp [withinB]
def farB (n : Nat) (p : Int × Int) : Bool := decide (p.1 < 0) || decide ((n : Int) ≤ p.1)
theorem farB_any {n : Nat} {ps : List (Int × Int)} : ps.any (farB n) = false ↔ ∀ p ∈ ps, 0 ≤ p.1 ∧ p.1 < n := by
  rw [List.any_eq_false]
  refine forall_congr' fun p => forall_congr' fun _ => ?_
  simp [farB]
def encU (_ : Unit) : Value := aggV []
/-- What was met. -/
def MetP (l : List AtS) (q : Nat) (m : List (Int × Unit)) : Prop := m.Pairwise (fun p q => p.1 < q.1) ∧ ∀ k, (getM m k).isSome = true ↔ ∃ j, j < q ∧ (l.getD j atD).wv = k
theorem MetP.succ {l : List AtS} {q : Nat} {m : List (Int × Unit)} (h : MetP l q m) : MetP l (q + 1) (putM m (l.getD q atD).wv ()) := by
  refine ⟨putM_sorted h.1 _ _, fun k => ?_⟩
  rw [getM_put h.1]
  constructor
  · intro hs
    by_cases e : k = (l.getD q atD).wv
    · exact ⟨q, Nat.lt_succ_self q, e.symm⟩
    · rw [if_neg e] at hs
      obtain ⟨j, hj, hj2⟩ := (h.2 k).1 hs
      exact ⟨j, by omega, hj2⟩
  · rintro ⟨j, hj, hj2⟩
    by_cases e : k = (l.getD q atD).wv
    · rw [if_pos e]; rfl
    · rw [if_neg e]
      refine (h.2 k).2 ⟨j, ?_, hj2⟩
      by_cases e2 : j = q
      · subst e2; exact absurd hj2.symm e
      · omega
instance strU : TyStr Try.prog 59 [] [] := ⟨fun ps => by kernel_rfl⟩
section
variable {ai a : Option Addr} {ci cap n : Nat} {l : List AtS} {w0 : World} (h : (hisR a cap l).holds w0)
include h
theorem may_at : Calls Try.prog 18 #[.slice ai n ci, .slice a l.length cap] w0 fun e w' => e = .returned (.bool (decide (MayP n l))) ∧ Below w0.heap.size w0 w' := by
  have hls := h.1.small
  have S := Sat.reads h
  refine enter1 Try.func18 rfl Try.ntmps18 rfl Try.results18 ?_
  repeat' (first | refine assign_b_l S rfl rfl ?_ | refine nilL ?_ | refine run_seq ?_ | refine run_skip ?_ | refine run_region ?_ | refine onL rfl rfl ?_ | refine offL rfl rfl rfl rfl ?_ | refine load_i_l S rfl rfl rfl rfl ?_ | refine move_b_l S rfl rfl ?_ | refine pick_tb_l S rfl rfl rfl ?_ | refine pick_fb_l S rfl rfl rfl ?_ | refine len_l S rfl rfl ?_ | (refine allocZ_l S rfl rfl ?_; clear S; intro b w S) | (refine lss_l S rfl rfl rfl ?_ ?_ <;> intro hcmp <;> try (exfalso; first | omega | exact hcmp (by decide) | exact absurd hcmp (by decide))) | refine move_s_l S rfl rfl ?_ | (refine gtr_l S rfl rfl rfl ?_ ?_ <;> intro hcmp <;> try (exfalso; first | omega | exact hcmp (by decide) | exact absurd hcmp (by decide))) | (refine store_i S rfl rfl rfl ?_; clear S; intro w S) | refine makeFunc_l S rfl rfl rfl ?_ | refine assign_o_l S rfl rfl ?_ | refine run_ret ?_ | refine run_cond_true rfl ?_ | refine run_cond_false rfl ?_ | refine thenQ_n ?_ | refine thenQ_r ?_ | refine ret1_b rfl ?_)
  · refine ⟨by rw [decide_eq_false fun hm => by have := hm.1; omega], S.chg.below⟩
  · refine ⟨by rw [decide_eq_false fun hm => by have := hm.1; omega], S.chg.below⟩
  obtain ⟨bn, hbn⟩ : ∃ x, x = b := ⟨_, rfl⟩
  subst hbn
  replace S := S.turn1 (r' := blk bn 1 (fun _ => .int .i64 (n : Nat)) 3) S.got1 rfl (fun k e => e)
  refine makeMap_l S encU rfl ?_
  clear S
  intro bm w S
  repeat' (first | refine nilL ?_ | refine run_seq ?_ | refine run_region ?_ | refine move_i_l S rfl rfl ?_ | refine len_l S rfl rfl ?_ | refine move_s_l S rfl rfl ?_ | refine assign_i_l S rfl rfl ?_ | refine assign_o_l S rfl rfl ?_ | refine run_block ?_ | refine thenQ_n ?_)
  refine run_while [4, 11, 12, 13, 14, 15, 29, 30, 31, 32, 33, 34, 35, 36, 37, 38, 39, 40, 41, 42, 43, 44, 45, 46, 47, 48, 49, 50, 51, 52, 53, 54, 55, 56, 57, 58, 59, 60, 61, 62, 63, 64, 65, 66, 67, 68, 69, 70, 71, 72, 73, 74, 75, 76, 77, 78, 79, 80, 81, 82, 83, 84, 85, 86, 87, 88, 89, 90, 91, 92, 93, 94, 95, 96, 97, 98, 99, 100, 101, 102, 103, 104, 105, 106, 107, 108, 109, 110, 111, 112, 113, 114, 115, 116, 117, 118, 119, 120, 121, 122] (fun (s : Nat × List (Int × Unit)) t => upd (upd t 28 (.int .i64 s.1)) 9 (.int .i64 (if s.1 = 0 then -1 else (l.getD (s.1 - 1) atD).frm))) (fun s w' => (s.1 ≤ l.length ∧ (∀ i, i < s.1 → AtOk n l i) ∧ MetP l s.1 s.2) ∧ Sat (fun _ => False) w0 w' [mapR bm encU s.2, blk bn 1 (fun _ => .int .i64 (n : Nat)) 3, roR (hisR a cap l)]) (fun s => l.length - s.1) (0, []) ?_ ?_ ?_
  · (repeat (first | exact agree_refl | refine agree_r rfl ?_ | refine agree_l rfl ?_ | refine agree_hv rfl ?_))
  · exact ⟨⟨Nat.zero_le _, fun i hi => absurd hi (Nat.not_lt_zero i), .nil, fun k => ⟨fun h => (by cases h), fun ⟨j, hj, _⟩ => absurd hj (Nat.not_lt_zero j)⟩⟩, S⟩
  clear S
  rintro ⟨q, m⟩ j w ⟨⟨hq, hok, hmet⟩, S⟩
  dsimp only at hq hok hmet S ⊢
  by_cases hql : q < l.length
  · have hno : ¬AtOk n l q → decide (MayP n l) = false := fun hn => decide_eq_false fun hm => hn (hm.2 q hql)
    repeat' (first | refine fieldAddr_l S rfl rfl rfl ?_ | refine nilL ?_ | refine run_seq ?_ | refine run_skip ?_ | refine run_region ?_ | refine load_i_l S rfl rfl rfl rfl ?_ | (refine allocZ_l S rfl rfl ?_; clear S; intro b w S) | (refine lss_l S rfl rfl rfl ?_ ?_ <;> intro hcmp <;> try (exfalso; first | omega | exact hcmp (by decide) | exact absurd hcmp (by decide))) | refine loadEN_l S rfl (by first | omega | decide | (simp; done) | (simp; omega)) rfl rfl ?_ | (refine storeN_l S rfl rfl ⟨rfl, rfl⟩ rfl ?_; clear S; intro w S) | refine indexAddr_l S rfl rfl (idx_cast _) (by first | omega | decide | (simp; done) | (simp; omega)) rfl ?_ | refine move_o_l S rfl rfl ?_ | refine run_block ?_ | refine run_cond_true rfl ?_ | refine thenQ_n ?_)
    obtain ⟨b_1, hb1⟩ : ∃ x, x = b := ⟨_, rfl⟩
    subst hb1
    replace S := S.turn1 (r' := blk b_1 9 (encAt (l.getD q atD)) 32) S.got1 rfl (fun k e => e)
    obtain ⟨tw, htw⟩ : ∃ r, (getM m (l.getD q atD).wv).isSome = r := ⟨_, rfl⟩
    refine lookupOk_l (b := bm) (m := m) (enc := encU) S rfl rfl (v := aggV []) (by cases getM m (l.getD q atD).wv <;> simp [encU, aggV_eq]) htw rfl ?_
    repeat' (first | refine assign_b_l S rfl rfl ?_ | refine nilL ?_ | refine run_seq ?_ | (refine allocZ_l S rfl rfl ?_; clear S; intro b w S) | (refine storeN_l S rfl rfl ⟨rfl, rfl⟩ rfl ?_; clear S; intro w S) | refine extract_a_l S rfl rfl rfl ?_ | refine extract_b_l S rfl rfl rfl ?_ | refine move_o_l S rfl rfl ?_ | refine run_block ?_ | refine thenQ_n ?_)
    obtain ⟨z, hz⟩ : ∃ z, z = l.getD q atD := ⟨_, rfl⟩
    have e1 : ∀ {P Q : Prop}, (¬P → Q) → (¬Q → P) := fun h hq => Classical.byContradiction fun hp => hq (h hp)
    refine run_cut_b [40, 41, 42, 43, 44, 45, 46, 47, 48, 49, 50, 51, 52, 53, 54, 55, 56, 57, 58, 59, 60, 61, 62, 63] (fun (r : Bool) t => upd t 39 (.bool r)) (fun r w' => ((r = true → ¬AtOk n l q) ∧ (r = false → (if q = 0 then -1 else (l.getD (q - 1) atD).frm) < (l.getD q atD).frm ∧ ((l.getD q atD).to = -1 ∨ (l.getD q atD).frm ≤ (l.getD q atD).to) ∧ withinB (l.getD q atD).rv = true ∧ withinB (l.getD q atD).wv = true)) ∧
        Sat (fun _ => False) w0 w' [blk b_1 9 (encAt (l.getD q atD)) 32, mapR bm encU m, blk bn 1 (fun _ => .int .i64 (n : Nat)) 3, roR (hisR a cap l)]) ?_ ?_
    · repeat' (first | refine assign_b_l S rfl rfl ?_ | refine fieldAddr_l S rfl rfl rfl ?_ | refine nilL ?_ | refine run_seq ?_ | refine run_skip ?_ | refine run_region ?_ | refine onL rfl rfl ?_ | refine offL rfl rfl rfl rfl ?_ | refine load_i_l S rfl rfl rfl rfl ?_ | refine move_b_l S rfl rfl ?_ | refine move_i_l S rfl rfl ?_ | refine pick_tb_l S rfl rfl rfl ?_ | refine pick_fb_l S rfl rfl rfl ?_ | (refine lss_l S rfl rfl rfl ?_ ?_ <;> intro hcmp <;> try (exfalso; first | omega | exact hcmp (by decide) | exact absurd hcmp (by decide))) | (refine leq_l S rfl rfl rfl ?_ ?_ <;> intro hcmp <;> try (exfalso; first | omega | exact hcmp (by decide) | exact absurd hcmp (by decide))) | (refine neq_l S rfl rfl rfl ?_ ?_ <;> intro hcmp <;> try (exfalso; first | omega | exact hcmp (by decide) | exact absurd hcmp (by decide))) | refine move_o_l S rfl rfl ?_ | refine run_cond_true rfl ?_ | refine run_cond_false rfl ?_ | refine thenQ_n ?_)
      · refine midQ_n true (by (repeat (first | exact agree_refl | refine agree_r rfl ?_ | refine agree_l rfl ?_ | refine agree_hv rfl ?_))) ⟨⟨fun _ h => by have := h.1; omega, fun h => by cases h⟩, S.sub⟩
      · refine midQ_n true (by (repeat (first | exact agree_refl | refine agree_r rfl ?_ | refine agree_l rfl ?_ | refine agree_hv rfl ?_))) ⟨⟨fun _ h => by have := h.2.1; omega, fun h => by cases h⟩, S.sub⟩
      all_goals have hto : (l.getD q atD).to = -1 ∨ (l.getD q atD).frm ≤ (l.getD q atD).to := by omega
      all_goals refine callV (f := 36) (l1 := []) (l2 := []) (l := [.int .i64 (l.getD q atD).rv]) rfl (within_at _ _) rfl rfl ?_
      all_goals rintro e w ⟨rfl, hb⟩
      all_goals replace S := S.below hb
      all_goals clear hb
      all_goals refine ⟨_, rfl, ?_⟩
      all_goals change RunL _ _ _ _ (upd _ _ (.bool (withinB (l.getD q atD).rv))) _ _
      all_goals obtain ⟨r1, hr1⟩ : ∃ r, withinB (l.getD q atD).rv = r := ⟨_, rfl⟩
      all_goals rw [hr1]
      all_goals cases r1
      all_goals repeat' (first | refine assign_b_l S rfl rfl ?_ | refine fieldAddr_l S rfl rfl rfl ?_ | refine nilL ?_ | refine run_skip ?_ | refine run_region ?_ | refine load_i_l S rfl rfl rfl rfl ?_ | refine not_l S rfl rfl ?_ | refine move_o_l S rfl rfl ?_ | refine run_cond_true rfl ?_ | refine run_cond_false rfl ?_ | refine thenQ_n ?_)
      all_goals try (have hf : withinB (l.getD q atD).rv = false := hr1; refine midQ_n true (by (repeat (first | exact agree_refl | refine agree_r rfl ?_ | refine agree_l rfl ?_ | refine agree_hv rfl ?_))) ⟨⟨fun _ h => (by have := withinB_iff.2 h.2.2.1; rw [hr1] at this; cases this), fun h => (by cases h)⟩, S.sub⟩)
      all_goals refine callV (f := 36) (l1 := []) (l2 := []) (l := [.int .i64 (l.getD q atD).wv]) rfl (within_at _ _) rfl rfl ?_
      all_goals rintro e w ⟨rfl, hb⟩
      all_goals replace S := S.below hb
      all_goals clear hb
      all_goals refine ⟨_, rfl, ?_⟩
      all_goals change RunL _ _ _ _ (upd _ _ (.bool (withinB (l.getD q atD).wv))) _ _
      all_goals obtain ⟨r2, hr2⟩ : ∃ r, withinB (l.getD q atD).wv = r := ⟨_, rfl⟩
      all_goals rw [hr2]
      all_goals cases r2
      all_goals repeat' (first | refine assign_b_l S rfl rfl ?_ | refine nilL ?_ | refine not_l S rfl rfl ?_)
      all_goals first | (have hf : withinB (l.getD q atD).wv = false := hr2; refine midQ_n true (by (repeat (first | exact agree_refl | refine agree_r rfl ?_ | refine agree_l rfl ?_ | refine agree_hv rfl ?_))) ⟨⟨fun _ h => (by have := withinB_iff.2 h.2.2.2.1; rw [hr2] at this; cases this), fun h => (by cases h)⟩, S.sub⟩) | (refine midQ_n false (by (repeat (first | exact agree_refl | refine agree_r rfl ?_ | refine agree_l rfl ?_ | refine agree_hv rfl ?_))) ⟨⟨fun h => (by cases h), fun _ => ⟨by omega, hto, (by first | exact hr1 | rfl), (by first | exact hr2 | rfl)⟩⟩, S.sub⟩)
    clear S
    rintro r j2 w ⟨⟨hr1, hr2⟩, S⟩
    cases r with
    | true =>
      repeat' (first | refine assign_b_l S rfl rfl ?_ | refine nilL ?_ | refine run_seq ?_ | refine run_region ?_ | refine run_ret ?_ | refine run_cond_true rfl ?_ | refine thenQ_n ?_ | refine thenQ_r ?_ | refine blockQ_r ?_ | refine ret1_b rfl ?_)
      exact ⟨by rw [hno (hr1 rfl)], S.chg.below⟩
    | false =>
      obtain ⟨h1, h2, h3, h4⟩ := hr2 rfl
      clear hr1 hr2
      repeat' (first | refine run_seq ?_ | refine run_cond_false rfl ?_)
      refine run_cut_b [65, 66, 67, 68, 69, 70, 71, 72, 73, 74, 75, 76, 77, 78, 79, 80, 81, 82, 83] (fun (r : Bool) t => upd t 64 (.bool r)) (fun r w' => ((r = true → ¬AtOk n l q) ∧ (r = false → (0 < (l.getD q atD).wv → (l.getD q atD).com = true ∧ tw = false) ∧ (¬0 < (l.getD q atD).wv → (l.getD q atD).ws.length = 0))) ∧
        Sat (fun _ => False) w0 w' [blk b_1 9 (encAt (l.getD q atD)) 32, mapR bm encU m, blk bn 1 (fun _ => .int .i64 (n : Nat)) 3, roR (hisR a cap l)]) ?_ ?_
      · have hsome := hmet.2 (l.getD q atD).wv
        rw [htw] at hsome
        repeat' (first | refine run_region ?_ | refine loadN_l S rfl rfl rfl ?_)
        refine callL (writer_at (l.getD q atD) _) rfl rfl ?_
        rintro e w ⟨rfl, hb⟩
        replace S := S.below hb
        clear hb
        refine ⟨_, rfl, ?_⟩
        obtain ⟨cm, hcm⟩ : ∃ c, (l.getD q atD).com = c := ⟨_, rfl⟩
        by_cases hw : 0 < (l.getD q atD).wv
        · rw [decide_eq_true hw]
          repeat' (first | refine fieldAddr_l S rfl rfl rfl ?_ | refine onL rfl rfl ?_ | refine move_b_l S rfl rfl ?_ | refine not_l S rfl rfl ?_ | refine load_b_l S rfl rfl rfl rfl ?_)
          rw [hcm]
          cases cm
          · repeat' (first | refine assign_b_l S rfl rfl ?_ | refine nilL ?_ | refine run_skip ?_ | refine onL rfl rfl ?_ | refine offL rfl rfl rfl rfl ?_ | refine pick_tb_l S rfl rfl rfl ?_ | refine run_cond_true rfl ?_ | refine thenQ_n ?_)
            refine midQ_n true (by (repeat (first | exact agree_refl | refine agree_r rfl ?_ | refine agree_l rfl ?_ | refine agree_hv rfl ?_))) ⟨⟨fun _ h => (by have := (h.2.2.2.2.1 hw).1; rw [hcm] at this; cases this), fun h => (by cases h)⟩, S.sub⟩
          · repeat' (first | refine assign_b_l S rfl rfl ?_ | refine nilL ?_ | refine onL rfl rfl ?_ | refine move_b_l S rfl rfl ?_ | refine pick_tb_l S rfl rfl rfl ?_ | refine pick_fb_l S rfl rfl rfl ?_ | refine thenQ_n ?_)
            cases tw
            · repeat' (first | refine run_region ?_ | refine loadN_l S rfl rfl rfl ?_ | refine run_cond_false rfl ?_)
              refine callL (writer_at (l.getD q atD) _) rfl rfl ?_
              rintro e w ⟨rfl, hb⟩
              replace S := S.below hb
              clear hb
              refine ⟨_, rfl, ?_⟩
              rw [decide_eq_true hw]
              repeat' (first | refine assign_b_l S rfl rfl ?_ | refine nilL ?_ | refine offL rfl rfl rfl rfl ?_ | refine move_b_l S rfl rfl ?_ | refine pick_fb_l S rfl rfl rfl ?_ | refine not_l S rfl rfl ?_)
              refine midQ_n false (by (repeat (first | exact agree_refl | refine agree_r rfl ?_ | refine agree_l rfl ?_ | refine agree_hv rfl ?_))) ⟨⟨fun h => (by cases h), fun _ => ⟨fun _ => ⟨(by first | exact hcm | rfl), rfl⟩, fun h => absurd hw h⟩⟩, S.sub⟩
            · repeat' (first | refine run_skip ?_ | refine run_cond_true rfl ?_)
              obtain ⟨j0, hj0, hj1⟩ := hsome.1 rfl
              refine midQ_n true (by (repeat (first | exact agree_refl | refine agree_r rfl ?_ | refine agree_l rfl ?_ | refine agree_hv rfl ?_))) ⟨⟨fun _ h => (h.2.2.2.2.1 hw).2 j0 hj0 hj1, fun h => (by cases h)⟩, S.sub⟩
        · rw [decide_eq_false hw]
          repeat' (first | refine assign_b_l S rfl rfl ?_ | refine nilL ?_ | refine run_region ?_ | refine offL rfl rfl rfl rfl ?_ | refine offLU rfl rfl rfl ?_ | refine move_b_l S rfl rfl ?_ | refine pick_fb_l S rfl rfl rfl ?_ | refine loadN_l S rfl rfl rfl ?_ | refine run_cond_false rfl ?_ | refine thenQ_n ?_)
          refine callL (writer_at (l.getD q atD) _) rfl rfl ?_
          rintro e w ⟨rfl, hb⟩
          replace S := S.below hb
          clear hb
          refine ⟨_, rfl, ?_⟩
          rw [decide_eq_false hw]
          repeat' (first | refine assign_b_l S rfl rfl ?_ | refine fieldAddr_l S rfl rfl rfl ?_ | refine nilL ?_ | refine onL rfl rfl ?_ | refine move_b_l S rfl rfl ?_ | refine pick_tb_l S rfl rfl rfl ?_ | refine len_l S rfl rfl ?_ | refine not_l S rfl rfl ?_ | (refine gtr_l S rfl rfl rfl ?_ ?_ <;> intro hcmp <;> try (exfalso; first | omega | exact hcmp (by decide) | exact absurd hcmp (by decide))) | refine load_o_l S rfl rfl rfl rfl ?_)
          · refine midQ_n true (by (repeat (first | exact agree_refl | refine agree_r rfl ?_ | refine agree_l rfl ?_ | refine agree_hv rfl ?_))) ⟨⟨fun _ h => (by have := h.2.2.2.2.2.1 hw; omega), fun h => (by cases h)⟩, S.sub⟩
          · refine midQ_n false (by (repeat (first | exact agree_refl | refine agree_r rfl ?_ | refine agree_l rfl ?_ | refine agree_hv rfl ?_))) ⟨⟨fun h => (by cases h), fun _ => ⟨fun h => absurd h hw, fun _ => by omega⟩⟩, S.sub⟩
      clear S
      rintro r j2 w ⟨⟨hr1, hr2⟩, S⟩
      cases r with
      | true =>
        repeat' (first | refine assign_b_l S rfl rfl ?_ | refine nilL ?_ | refine run_seq ?_ | refine run_region ?_ | refine run_ret ?_ | refine run_cond_true rfl ?_ | refine thenQ_n ?_ | refine thenQ_r ?_ | refine blockQ_r ?_ | refine ret1_b rfl ?_)
        exact ⟨by rw [hno (hr1 rfl)], S.chg.below⟩
      | false =>
        obtain ⟨h5, h6⟩ := hr2 rfl
        clear hr1 hr2
        repeat' (first | refine run_seq ?_ | refine run_cond_false rfl ?_)
        refine run_cut_b [85, 86, 87, 88, 89, 90, 91, 92] (fun (r : Bool) t => upd t 84 (.bool r)) (fun r w' => ((r = true → ¬AtOk n l q) ∧ (r = false → (l.getD q atD).rs.any (farB n) = false ∧ (l.getD q atD).ws.any (farB n) = false)) ∧
          Sat (fun _ => False) w0 w' [blk b_1 9 (encAt (l.getD q atD)) 32, mapR bm encU m, blk bn 1 (fun _ => .int .i64 (n : Nat)) 3, roR (hisR a cap l)]) ?_ ?_
        · repeat' (first | refine fieldAddr_l S rfl rfl rfl ?_ | refine run_region ?_ | refine load_o_l S rfl rfl rfl rfl ?_ | refine move_o_l S rfl rfl ?_)
          refine callL (containsP_at (f := 37) (l2 := [.pointer (some ⟨bn, 0, none⟩)]) (p := farB n) (I := fun w => (blk bn 1 (fun _ => .int .i64 (n : Nat)) 3).holds w) (zs := (l.getD q atD).rs) (fun w w' h hb => holds_below h hb) (fun x w hx h => far_at x w h) (l.getD q atD).ra (l.getD q atD).rc _ (S.all _ (by simp)) ((S.all (roR (hisR a cap l)) (by simp) : (hisR a cap l).holds w).2 q).1) rfl rfl ?_
          rintro e w ⟨rfl, hb⟩
          replace S := S.below hb
          clear hb
          refine ⟨_, rfl, ?_⟩
          obtain ⟨r1, hr1⟩ : ∃ r, (l.getD q atD).rs.any (farB n) = r := ⟨_, rfl⟩
          rw [hr1]
          cases r1
          · repeat' (first | refine assign_b_l S rfl rfl ?_ | refine fieldAddr_l S rfl rfl rfl ?_ | refine nilL ?_ | refine run_region ?_ | refine load_o_l S rfl rfl rfl rfl ?_ | refine move_o_l S rfl rfl ?_ | refine run_cond_false rfl ?_ | refine thenQ_n ?_)
            refine callL (containsP_at (f := 37) (l2 := [.pointer (some ⟨bn, 0, none⟩)]) (p := farB n) (I := fun w => (blk bn 1 (fun _ => .int .i64 (n : Nat)) 3).holds w) (zs := (l.getD q atD).ws) (fun w w' h hb => holds_below h hb) (fun x w hx h => far_at x w h) (l.getD q atD).wa (l.getD q atD).wc _ (S.all _ (by simp)) ((S.all (roR (hisR a cap l)) (by simp) : (hisR a cap l).holds w).2 q).2) rfl rfl ?_
            rintro e w ⟨rfl, hb⟩
            replace S := S.below hb
            clear hb
            refine ⟨_, rfl, ?_⟩
            obtain ⟨r2, hr2⟩ : ∃ r, (l.getD q atD).ws.any (farB n) = r := ⟨_, rfl⟩
            rw [hr2]
            cases r2
            · repeat' (first | refine assign_b_l S rfl rfl ?_ | refine nilL ?_)
              refine midQ_n false (by (repeat (first | exact agree_refl | refine agree_r rfl ?_ | refine agree_l rfl ?_ | refine agree_hv rfl ?_))) ⟨⟨fun h => (by cases h), fun _ => ⟨(by first | exact hr1 | rfl), (by first | exact hr2 | rfl)⟩⟩, S.sub⟩
            · repeat' (first | refine assign_b_l S rfl rfl ?_ | refine nilL ?_)
              refine midQ_n true (by (repeat (first | exact agree_refl | refine agree_r rfl ?_ | refine agree_l rfl ?_ | refine agree_hv rfl ?_))) ⟨⟨fun _ h => (by have := farB_any.2 h.2.2.2.2.2.2.2.1; rw [hr2] at this; cases this), fun h => (by cases h)⟩, S.sub⟩
          · repeat' (first | refine assign_b_l S rfl rfl ?_ | refine nilL ?_ | refine run_skip ?_ | refine run_cond_true rfl ?_ | refine thenQ_n ?_)
            refine midQ_n true (by (repeat (first | exact agree_refl | refine agree_r rfl ?_ | refine agree_l rfl ?_ | refine agree_hv rfl ?_))) ⟨⟨fun _ h => (by have := farB_any.2 h.2.2.2.2.2.2.1; rw [hr1] at this; cases this), fun h => (by cases h)⟩, S.sub⟩
        clear S
        rintro r j2 w ⟨⟨hr1, hr2⟩, S⟩
        cases r with
        | true =>
          repeat' (first | refine assign_b_l S rfl rfl ?_ | refine nilL ?_ | refine run_seq ?_ | refine run_region ?_ | refine run_ret ?_ | refine run_cond_true rfl ?_ | refine thenQ_n ?_ | refine thenQ_r ?_ | refine blockQ_r ?_ | refine ret1_b rfl ?_)
          exact ⟨by rw [hno (hr1 rfl)], S.chg.below⟩
        | false =>
          obtain ⟨h7, h8⟩ := hr2 rfl
          clear hr1 hr2
          repeat' (first | refine fieldAddr_l S rfl rfl rfl ?_ | refine nilL ?_ | refine run_seq ?_ | refine run_skip ?_ | refine run_region ?_ | refine move_i_l S rfl rfl ?_ | refine len_l S rfl rfl ?_ | refine load_o_l S rfl rfl rfl rfl ?_ | refine run_block ?_ | refine run_cond_false rfl ?_ | refine thenQ_n ?_ | refine blockQ_n ?_)
          refine run_while [4, 14, 15, 97, 98, 99, 100, 101, 102, 103, 104, 105, 106, 107, 108, 109, 110, 111, 112, 113, 114, 115] (fun (i : Nat) t => upd t 96 (.int .i64 i)) (fun i w' => (i ≤ (l.getD q atD).ws.length ∧ ∀ k, k < i → 0 < k → ((l.getD q atD).ws.getD (k - 1) (0, 0)).1 < ((l.getD q atD).ws.getD k (0, 0)).1) ∧ Sat (fun _ => False) w0 w' [blk b_1 9 (encAt (l.getD q atD)) 32, mapR bm encU m, blk bn 1 (fun _ => .int .i64 (n : Nat)) 3, roR (hisR a cap l)]) (fun i => (l.getD q atD).ws.length - i) 0 ?_ ?_ ?_
          · (repeat (first | exact agree_refl | refine agree_r rfl ?_ | refine agree_l rfl ?_ | refine agree_hv rfl ?_))
          · exact ⟨⟨Nat.zero_le _, fun k hk => absurd hk (Nat.not_lt_zero k)⟩, S⟩
          clear S
          rintro i j3 w ⟨⟨hi, hup⟩, S⟩
          by_cases hil : i < (l.getD q atD).ws.length
          · have hsl := ((S.all (roR (hisR a cap l)) (by simp) : (hisR a cap l).holds w).2 q).2.small
            repeat' (first | refine assign_b_l S rfl rfl ?_ | refine nilL ?_ | refine run_seq ?_ | refine run_skip ?_ | refine run_region ?_ | refine move_i_l S rfl rfl ?_ | (refine allocZ_l S rfl rfl ?_; clear S; intro b w S) | (refine lss_l S rfl rfl rfl ?_ ?_ <;> intro hcmp <;> try (exfalso; first | omega | exact hcmp (by decide) | exact absurd hcmp (by decide))) | refine loadEN_l S rfl (by first | omega | decide | (simp; done) | (simp; omega)) rfl rfl ?_ | (refine storeN_l S rfl rfl ⟨rfl, rfl⟩ rfl ?_; clear S; intro w S) | refine assign_i_l S rfl rfl ?_ | refine indexAddr_l S rfl rfl (idx_cast _) (by first | omega | decide | (simp; done) | (simp; omega)) rfl ?_ | refine add_l S rfl rfl (wrap_in (by omega)) rfl ?_ | refine run_block ?_ | refine run_ret ?_ | refine run_cond_true rfl ?_ | refine run_cond_false rfl ?_ | refine thenQ_n ?_ | refine thenQ_r ?_ | refine blockQ_n ?_ | refine blockQ_r ?_ | (refine run_draws (id := 26) S mixed ?_ ?_; · kernel_rfl) | (refine nilQ ?_; clear S; intro w S) | refine onQ rfl rfl ?_ | refine offQ rfl rfl rfl rfl ?_ | refine move_i_q rfl rfl ?_ | (refine gtr_q rfl rfl rfl ?_ ?_ <;> intro hcmp <;> try (exfalso; first | omega | exact hcmp (by decide) | exact absurd hcmp (by decide))) | refine move_b_q rfl rfl ?_ | refine fieldAddr_q rfl rfl rfl ?_ | refine fieldAddrE_q rfl (by first | omega | decide | (simp; done) | (simp; omega)) rfl rfl ?_ | refine sub_q rfl rfl (wrap_in (by omega)) rfl ?_ | refine indexAddr_q rfl rfl (idx_eq _) (by first | omega | decide | (simp; done) | (simp; omega)) rfl ?_ | refine load_i_q rfl rfl rfl rfl ?_ | refine loadE_i_q rfl (by first | omega | decide | (simp; done) | (simp; omega)) rfl rfl rfl ?_ | (refine geq_q rfl rfl rfl ?_ ?_ <;> intro hcmp <;> try (exfalso; first | omega | exact hcmp (by decide) | exact absurd hcmp (by decide))) | refine pick_tb_q rfl rfl rfl ?_ | refine pick_fb_q rfl rfl rfl ?_ | refine load_o_q rfl rfl rfl rfl ?_ | refine ret1_b rfl ?_)
            · have hbad : ¬AtOk n l q := fun h => by
                have := h.2.2.2.2.2.2.2.2 i hil (by omega)
                rw [show ((i : Int) - 1).toNat = i - 1 from by omega] at hcmp
                omega
              exact ⟨by rw [hno hbad], S.chg.below⟩
            all_goals refine ⟨i + 1, ?_, ⟨⟨by omega, fun k hk hk0 => ?_⟩, S.sub⟩, by omega⟩
            all_goals try (rw [Int.natCast_add]; (repeat (first | exact agree_refl | refine agree_r rfl ?_ | refine agree_l rfl ?_ | refine agree_hv rfl ?_)))
            all_goals by_cases hki : k = i
            all_goals try exact hup k (by omega) hk0
            · subst hki
              rw [show ((k : Int) - 1).toNat = k - 1 from by omega] at hcmp
              omega
          · obtain rfl : i = (l.getD q atD).ws.length := by omega
            have hok2 : AtOk n l q := ⟨h1, h2, withinB_iff.1 h3, withinB_iff.1 h4, fun hw => ⟨(h5 hw).1, fun j0 hj0 he => by have := (hmet.2 _).2 ⟨j0, hj0, he⟩; rw [htw, (h5 hw).2] at this; cases this⟩, h6, farB_any.1 h7, farB_any.1 h8, hup⟩
            repeat' (first | refine nilL ?_ | refine run_seq ?_ | refine run_region ?_ | (refine lss_l S rfl rfl rfl ?_ ?_ <;> intro hcmp <;> try (exfalso; first | omega | exact hcmp (by decide) | exact absurd hcmp (by decide))) | refine run_exit ?_ | refine run_cond_false rfl ?_ | refine thenQ_n ?_ | refine thenQ_e ?_ | refine blockQ_s rfl ?_)
            refine run_any S (L' := [blk b_1 9 (encAt (l.getD q atD)) 32]) (f := 8) mixed rfl ?_
            clear S
            intro w S1
            have S : Sat _ _ w [blk b_1 9 (encAt (l.getD q atD)) 32] := S1.sub
            all_goals (refine any_pure (i := 0) rfl (by kernel_rfl) S ?_; refine move_o_x rfl rfl ?_)
            all_goals (refine any_pure (i := 1) rfl (by kernel_rfl) S ?_; (first | refine fieldAddr_x rfl rfl rfl ?_ | refine fieldAddrE_x rfl (by first | omega | decide | (simp; done) | (simp; omega)) rfl rfl ?_))
            all_goals (refine any_pure (i := 2) rfl (by kernel_rfl) S ?_; (first | refine load_i_x rfl rfl rfl rfl ?_ | refine load_o_x rfl rfl rfl rfl ?_ | refine loadE_i_x rfl (by first | omega | decide | (simp; done) | (simp; omega)) rfl rfl rfl ?_ | refine loadE_o_x rfl (by first | omega | decide | (simp; done) | (simp; omega)) rfl rfl rfl ?_))
            all_goals (refine any_pure (i := 3) rfl (by kernel_rfl) S ?_; (first | refine fieldAddr_x rfl rfl rfl ?_ | refine fieldAddrE_x rfl (by first | omega | decide | (simp; done) | (simp; omega)) rfl rfl ?_))
            all_goals (refine any_pure (i := 4) rfl (by kernel_rfl) S ?_; (first | refine load_i_x rfl rfl rfl rfl ?_ | refine load_o_x rfl rfl rfl rfl ?_ | refine loadE_i_x rfl (by first | omega | decide | (simp; done) | (simp; omega)) rfl rfl rfl ?_ | refine loadE_o_x rfl (by first | omega | decide | (simp; done) | (simp; omega)) rfl rfl rfl ?_))
            all_goals (refine any_pure (i := 5) rfl (by kernel_rfl) S ?_; (apply build_x; (· repeat (first | exact mapN | apply mapC_i rfl | apply mapC_b rfl | apply mapC_p rfl | apply mapC_s rfl | apply mapC_e rfl | apply mapC_a rfl | apply mapC_o rfl)); (· rfl); (· rfl)))
            all_goals (refine any_pure (i := 6) rfl (by kernel_rfl) S ?_; refine assign_i_x rfl rfl ?_)
            all_goals refine any_step (i := 7) rfl (by kernel_rfl) ?_
            all_goals replace S := S1
            refine mapPut_l (b := bm) (m := m) (enc := encU) (k := (l.getD q atD).wv) (a := ()) S rfl rfl rfl ?_
            clear S S1
            intro w S
            all_goals try refine nilL ?_
            all_goals refine ⟨S.sub, ?_⟩
            all_goals (have S1 := S; replace S : Sat _ _ _ [blk b_1 9 (encAt (l.getD q atD)) 32] := S1.sub)
            all_goals refine any_end (by kernel_rfl) ?_
            all_goals replace S := S1
            all_goals repeat' (first | refine nilL ?_ | refine run_region ?_ | refine move_i_l S rfl rfl ?_ | refine add_l S rfl rfl (wrap_in (by omega)) rfl ?_ | refine thenQ_n ?_ | refine blockQ_n ?_)
            refine ⟨(q + 1, putM m (l.getD q atD).wv ()), ?_, ⟨⟨hql, fun k hk => ?_, hmet.succ⟩, S.sub⟩, by show l.length - (q + 1) < l.length - q; omega⟩
            · dsimp only
              rw [if_neg (Nat.succ_ne_zero q), Int.natCast_add, show q + 1 - 1 = q from rfl]
              (repeat (first | exact agree_refl | refine agree_r rfl ?_ | refine agree_l rfl ?_ | refine agree_hv rfl ?_))
            · replace hk : k < q + 1 := hk
              by_cases hkq : k = q
              · subst hkq; exact hok2
              · exact hok k (by omega)
  · obtain rfl : q = l.length := by omega
    repeat' (first | refine assign_b_l S rfl rfl ?_ | refine nilL ?_ | refine run_seq ?_ | refine run_region ?_ | (refine lss_l S rfl rfl rfl ?_ ?_ <;> intro hcmp <;> try (exfalso; first | omega | exact hcmp (by decide) | exact absurd hcmp (by decide))) | refine run_ret ?_ | refine run_exit ?_ | refine run_cond_false rfl ?_ | refine thenQ_n ?_ | refine thenQ_e ?_ | refine blockQ_s rfl ?_ | refine ret1_b rfl ?_)
    exact ⟨by rw [decide_eq_true (show MayP n l from ⟨by omega, hok⟩)], S.chg.below⟩
end
end Go.Proofs.Ytciehimnhnbipaa
