/- witness: right, its walk. -/
import Derived.Test.YtjnlcfkdackghaaWsP
namespace Go.Proofs.Ytjnlcfkdackghaa
open Go.RowKit Go.Lib
set_option linter.unusedVariables false
set_option linter.unusedSimpArgs false
set_option maxHeartbeats 16000000
set_option maxRecDepth 100000
abbrev metR (b : Nat) (l : List AtS) (o : List Int) (q : Nat) : Res := row (some ⟨b, 0, none⟩) l.length l.length 4 1 (fun i _ => .bool (decide ((i : Int) ∈ o.take q)))
theorem Sat.front2 {S : Nat → Prop} {w₀ w : World} {L : List Res} {a b x : Res} (h : Sat S w₀ w (a :: b :: x :: L)) : Sat S w₀ w (x :: a :: b :: L) := h.to2.to2
theorem met_step {o : List Int} {q : Nat} (hql : q < o.length) (hu0 : 0 ≤ o.getD q 0) (i j : Nat) (hj : j < 1) : gset (fun (i : Nat) (_ : Nat) => Value.bool (decide ((i : Int) ∈ o.take q))) (o.getD q 0).toNat 0 (Value.bool true) i j = .bool (decide ((i : Int) ∈ o.take (q + 1))) := by
  obtain rfl := lt1 hj
  have hcast : ((o.getD q 0).toNat : Int) = o.getD q 0 := by omega
  rw [take_snoc hql]
  unfold gset
  by_cases e : i = (o.getD q 0).toNat
  · rw [if_pos ⟨e, rfl⟩, decide_eq_true (List.mem_append.2 (.inr (by rw [e, hcast]; simp)))]
  · rw [if_neg (fun h => e h.1)]
    show Value.bool (decide ((i : Int) ∈ o.take q)) = _
    congr 1
    rw [decide_eq_decide]
    refine ⟨fun h => List.mem_append.2 (.inl h), fun h => ?_⟩
    rcases List.mem_append.1 h with h2 | h2
    · exact h2
    · have h3 : (i : Int) = o.getD q 0 := by simpa using h2
      omega
theorem right_at {ai a ao : Option Addr} {ci cap co : Nat} {init : List Int} {l : List AtS} {o : List Int} {w0 : World} (hM : MayP init.length l) (hll : l.length ≤ 1000) (hi : (slL ai ci 1 encI 0 init).holds w0) (hl : (hisR a cap l).holds w0) (ho : (slL ao co 1 encI 0 o).holds w0) :
    Calls Try.prog 12 #[.slice ai init.length ci, .slice a l.length cap, .slice ao o.length co] w0 fun e w' => (∃ b : Bool, e = .returned (.bool b) ∧ (b = true ↔ ValidO init l o)) ∧ Below w0.heap.size w0 w' := by
  have hM1 := hM.1
  have S := (((Sat.start (fun _ => False) w0).ro (r := hisR a cap l) hl rfl rfl).ro (r := slL ai ci 1 encI 0 init) hi rfl rfl).ro (r := slL ao co 1 encI 0 o) ho rfl rfl
  refine enter1 Try.func12 rfl Try.ntmps12 rfl Try.results12 ?_
  repeat' (first | refine move_s_l S rfl rfl ?_ | refine nilL ?_ | refine run_seq ?_ | refine run_skip ?_ | refine run_region ?_ | refine assign_i_l S rfl rfl ?_ | refine assign_b_l S rfl rfl ?_ | refine len_l S rfl rfl ?_ | (refine neq_l S rfl rfl rfl ?_ ?_ <;> intro hcmp <;> try (exfalso; first | omega | exact hcmp (by decide) | exact absurd hcmp (by decide))) | refine assign_s_l S rfl rfl ?_ | (refine buildSliceN_l S (vs := []) rfl rfl rfl rfl rfl rfl ?_; clear S; intro b w S) | (refine append0_l S rfl rfl (by omega) rfl ?_; clear S; intro a' cap' w S) | (refine makeSlice_l S rfl rfl rfl (by omega) rfl ?_; clear S; intro b w S) | refine run_block ?_ | refine run_ret ?_ | refine run_cond_true rfl ?_ | refine run_cond_false rfl ?_ | refine thenQ_n ?_ | refine thenQ_r ?_ | refine ret1_b rfl ?_)
  · exact ⟨⟨false, rfl, ⟨fun h => (by cases h), fun h => absurd (by have h2 := h.1.length_eq; unfold plL at h2; rw [List.length_map, List.length_range] at h2; rw [h2]) hcmp⟩⟩, S.chg.below⟩
  have hol : o.length = l.length := by omega
  have hno : ∀ {w : World}, ¬ ValidO init l o → Below w0.heap.size w0 w → (∃ b : Bool, Ending.returned (.bool false) = .returned (.bool b) ∧ (b = true ↔ ValidO init l o)) ∧ Below w0.heap.size w0 w := fun h hb => ⟨⟨false, rfl, ⟨fun h2 => (by cases h2), fun h2 => absurd h2 h⟩⟩, hb⟩
  replace S := S.turn1 (r' := metR b l o 0) (RowOk.congr S.got1 (fun i hi j hj => by
    obtain rfl := lt1 hj
    show Value.bool false = .bool (decide ((i : Int) ∈ o.take 0))
    rw [decide_eq_false (by simp)])) rfl (fun k e => e)
  refine run_while [6, 11, 12, 13, 14, 15, 27, 28, 29, 30, 31, 32, 33, 34, 35, 36, 37, 38, 39, 40, 41, 42, 43, 44, 45, 46, 47, 48, 49, 50, 51, 52, 53, 54, 55, 56, 57, 58, 59, 60, 61, 62, 63, 64, 65, 66, 67, 68, 69, 70, 71, 72, 73, 74, 75, 76, 77, 78, 79, 80, 81, 82, 83, 84, 85, 86, 87, 88, 89, 90, 91, 92, 93, 94, 95, 96, 97, 98, 99, 100, 101, 102, 103, 104, 105, 106, 107, 108, 109, 110, 111, 112, 113, 114, 115, 116, 117, 118, 119, 120, 121, 122, 123, 124, 125, 126, 127, 128, 129, 130, 131, 132, 133, 134, 135, 136, 137, 138, 139, 140, 141, 142, 143] (fun (s : Nat × Int) t => upd (upd t 10 (.int .i64 (s.1 : Nat))) 8 (.int .i64 s.2)) (fun s w' => s.1 ≤ o.length ∧ RInv init l o s.1 s.2 ∧ Sat (fun _ => False) w0 w' [metR b l o s.1, row a' init.length cap' 2 1 (gL encI 0 (memA init ((o.take s.1).map (atI l)))), slL ao co 1 encI 0 o, slL ai ci 1 encI 0 init, hisR a cap l]) (fun s => o.length - s.1) (0, 0) ?_ ?_ ?_
  · (repeat (first | exact agree_refl | refine agree_r rfl ?_ | refine agree_l rfl ?_ | refine agree_hv rfl ?_))
  · exact ⟨Nat.zero_le _, RInv.start init l o, S⟩
  clear S
  rintro ⟨q, v⟩ j w ⟨hq, hR, S⟩
  replace hq : q ≤ o.length := hq
  replace hR : RInv init l o q v := hR
  replace S : Sat (fun _ => False) w0 w [metR b l o q, row a' init.length cap' 2 1 (gL encI 0 (memA init ((o.take q).map (atI l)))), slL ao co 1 encI 0 o, slL ai ci 1 encI 0 init, hisR a cap l] := S
  dsimp only
  by_cases hql : q < o.length
  · have hum : o.getD q 0 ∈ o := getD_mem hql
    repeat' (first | refine move_s_l S rfl rfl ?_ | refine move_i_l S rfl rfl ?_ | refine nilL ?_ | refine run_seq ?_ | refine run_skip ?_ | refine run_region ?_ | refine onL rfl rfl ?_ | refine offL rfl rfl rfl rfl ?_ | refine loadE_i_l S rfl (by first | omega | decide | (simp; done) | (simp; omega)) rfl rfl rfl ?_ | refine indexAddr_l S rfl rfl (idx_cast _) (by first | omega | decide | (simp; done) | (simp; omega)) rfl ?_ | refine indexAddr_l S rfl rfl (idx_eq _) (by first | omega | decide | (simp; done) | (simp; omega)) rfl ?_ | refine assign_b_l S rfl rfl ?_ | refine len_l S rfl rfl ?_ | (refine lss_l S rfl rfl rfl ?_ ?_ <;> intro hcmp <;> try (exfalso; first | omega | exact hcmp (by decide) | exact absurd hcmp (by decide))) | refine move_b_l S rfl rfl ?_ | refine pick_tb_l S rfl rfl rfl ?_ | refine pick_fb_l S rfl rfl rfl ?_ | (refine geq_l S rfl rfl rfl ?_ ?_ <;> intro hcmp <;> try (exfalso; first | omega | exact hcmp (by decide) | exact absurd hcmp (by decide))) | refine loadE_b_l S rfl (by first | omega | decide | (simp; done) | (simp; omega)) rfl rfl rfl ?_ | refine run_block ?_ | refine run_ret ?_ | refine run_cond_true rfl ?_ | refine thenQ_n ?_ | refine thenQ_r ?_ | refine blockQ_r ?_ | refine ret1_b rfl ?_)
    · exact hno (fun h => by have := valid_in h hum; omega) S.chg.below
    · exact hno (fun h => by have := valid_in h hum; omega) S.chg.below
    have hu0 : 0 ≤ o.getD q 0 := by omega
    have hu1 : o.getD q 0 < l.length := by omega
    have hcast : ((o.getD q 0).toNat : Int) = o.getD q 0 := by omega
    by_cases hm : o.getD q 0 ∈ o.take q
    · refine run_cond_true (show _ = Value.bool true from congrArg Value.bool (decide_eq_true (by rw [hcast]; exact hm))) ?_
      repeat' (first | refine nilL ?_ | refine run_seq ?_ | refine run_region ?_ | refine assign_b_l S rfl rfl ?_ | refine run_ret ?_ | refine thenQ_n ?_ | refine thenQ_r ?_ | refine blockQ_r ?_ | refine ret1_b rfl ?_)
      exact hno (fun h => (valid_at h hql).1 hm) S.chg.below
    refine run_cond_false (show _ = Value.bool false from congrArg Value.bool (decide_eq_false (by rw [hcast]; exact hm))) ?_
    obtain ⟨bm, hbm⟩ : ∃ x, x = b := ⟨_, rfl⟩
    subst hbm
    repeat' (first | refine move_s_l S rfl rfl ?_ | refine move_i_l S rfl rfl ?_ | refine nilL ?_ | refine run_seq ?_ | refine run_skip ?_ | refine run_region ?_ | refine loadE_i_l S rfl (by first | omega | decide | (simp; done) | (simp; omega)) rfl rfl rfl ?_ | refine assign_i_l S rfl rfl ?_ | refine indexAddr_l S rfl rfl (idx_cast _) (by first | omega | decide | (simp; done) | (simp; omega)) rfl ?_ | refine indexAddr_l S rfl rfl (idx_eq _) (by first | omega | decide | (simp; done) | (simp; omega)) rfl ?_ | refine loadEN_l S rfl (by first | omega | decide | (simp; done) | (simp; omega)) rfl rfl ?_ | (refine allocZ_l S rfl rfl ?_; clear S; intro b w S) | (refine storeN_l S rfl rfl ⟨rfl, rfl⟩ rfl ?_; clear S; intro w S) | (refine storeE_b S rfl rfl (by omega) rfl ?_; clear S; intro w S) | refine run_block ?_ | refine thenQ_n ?_)
    obtain ⟨b11, hb11⟩ : ∃ x, x = b := ⟨_, rfl⟩
    subst hb11
    replace S := S.turn1 (r' := blk b11 9 (encAt (atI l (o.getD q 0))) 26) S.got1 rfl (fun k e => e)
    have S2 := S.tail
    have hrow := S2.got1
    clear S2
    replace S := (S.sw.turn1 (r' := metR bm l o (q + 1)) (RowOk.congr hrow (fun i hi j hj => met_step hql hu0 i j hj)) rfl (fun k e => e)).sw
    have hal := (hM.2 (o.getD q 0).toNat (by omega))
    refine run_while [6, 13, 69, 70, 71, 72, 73, 74, 75, 76, 77, 78, 79, 80, 81, 82, 83, 84, 85, 86, 87, 88, 89, 90] (fun (k : Nat) t => upd t 12 (.int .i64 (k : Nat))) (fun k w' => (k ≤ q ∧ ∀ j, j < k → aheadB (atI l (o.getD q 0)) (atI l (o.getD j 0)) = false) ∧ Sat (fun _ => False) w0 w' [blk b11 9 (encAt (atI l (o.getD q 0))) 26, metR bm l o (q + 1), row a' init.length cap' 2 1 (gL encI 0 (memA init ((o.take q).map (atI l)))), slL ao co 1 encI 0 o, slL ai ci 1 encI 0 init, hisR a cap l]) (fun k => q - k) 0 ?_ ?_ ?_
    · (repeat (first | exact agree_refl | refine agree_r rfl ?_ | refine agree_l rfl ?_ | refine agree_hv rfl ?_))
    · exact ⟨⟨Nat.zero_le _, fun j hj => absurd hj (Nat.not_lt_zero j)⟩, S⟩
    clear S
    rintro k j w ⟨⟨hk, hah⟩, S⟩
    by_cases hkq : k < q
    · have hvm : o.getD k 0 ∈ o.take q := by
        rw [wrs_getD (by omega)]
        exact List.mem_take_iff_getElem.2 ⟨k, by omega, rfl⟩
      obtain ⟨hv0, hv1⟩ := hR.rng _ hvm
      have hbad : aheadB (atI l (o.getD q 0)) (atI l (o.getD k 0)) = true → ¬ ValidO init l o := fun h1 h => by
        have h2 := (vord_snoc.1 (valid_at h hql).2).2.1 (atI l (o.getD k 0)) (List.mem_map.2 ⟨_, hvm, rfl⟩)
        rw [h1] at h2
        cases h2
      -- {{
      repeat' (first | refine move_s_l S rfl rfl ?_ | refine move_i_l S rfl rfl ?_ | refine load_i_l S rfl rfl rfl rfl ?_ | refine nilL ?_ | refine run_seq ?_ | refine run_skip ?_ | refine run_region ?_ | refine onL rfl rfl ?_ | refine offL rfl rfl rfl rfl ?_ | refine loadE_i_l S rfl (by first | omega | decide | (simp; done) | (simp; omega)) rfl rfl rfl ?_ | refine assign_i_l S rfl rfl ?_ | refine indexAddr_l S rfl rfl (idx_cast _) (by first | omega | decide | (simp; done) | (simp; omega)) rfl ?_ | refine indexAddr_l S rfl rfl (idx_eq _) (by first | omega | decide | (simp; done) | (simp; omega)) rfl ?_ | refine fieldAddr_l S rfl rfl rfl ?_ | refine assign_b_l S rfl rfl ?_ | (refine lss_l S rfl rfl rfl ?_ ?_ <;> intro hcmp <;> try (exfalso; first | omega | exact hcmp (by decide) | exact absurd hcmp (by decide))) | refine add_l S rfl rfl (wrap_in (by omega)) rfl ?_ | refine move_b_l S rfl rfl ?_ | refine pick_tb_l S rfl rfl rfl ?_ | refine pick_fb_l S rfl rfl rfl ?_ | (refine neq_l S rfl rfl rfl ?_ ?_ <;> intro hcmp <;> try (exfalso; first | omega | exact hcmp (by decide) | exact absurd hcmp (by decide))) | refine loadEN_l S rfl (by first | omega | decide | (simp; done) | (simp; omega)) rfl rfl ?_ | (refine allocZ_l S rfl rfl ?_; clear S; intro b w S) | (refine storeN_l S rfl rfl ⟨rfl, rfl⟩ rfl ?_; clear S; intro w S) | refine run_block ?_ | refine run_ret ?_ | refine run_cond_true rfl ?_ | refine run_cond_false rfl ?_ | refine thenQ_n ?_ | refine thenQ_r ?_ | refine blockQ_n ?_ | refine blockQ_r ?_ | refine ret1_b rfl ?_)
      · exact hno (hbad (by unfold aheadB; rw [decide_eq_true (by assumption), decide_eq_true (by assumption)]; rfl)) S.chg.below
      · refine ⟨k + 1, ?_, ⟨⟨by omega, fun j hj => ?_⟩, S.sub⟩, by omega⟩
        · rw [Int.natCast_add k 1]
          (repeat (first | exact agree_refl | refine agree_r rfl ?_ | refine agree_l rfl ?_ | refine agree_hv rfl ?_))
        · rcases Nat.lt_or_ge j k with e | e
          · exact hah j e
          · obtain rfl : j = k := by omega
            unfold aheadB
            rw [decide_eq_false (p := (atI l (o.getD q 0)).to < _) (by assumption), Bool.and_false]
      · refine ⟨k + 1, ?_, ⟨⟨by omega, fun j hj => ?_⟩, S.sub⟩, by omega⟩
        · rw [Int.natCast_add k 1]
          (repeat (first | exact agree_refl | refine agree_r rfl ?_ | refine agree_l rfl ?_ | refine agree_hv rfl ?_))
        · rcases Nat.lt_or_ge j k with e | e
          · exact hah j e
          · obtain rfl : j = k := by omega
            unfold aheadB
            rw [decide_eq_false (p := (atI l (o.getD q 0)).to ≠ -1) (fun h => h (by assumption)), Bool.false_and]
      -- }}
    obtain rfl : k = q := by omega
    repeat' (first | refine move_i_l S rfl rfl ?_ | refine nilL ?_ | refine run_seq ?_ | refine run_region ?_ | refine assign_i_l S rfl rfl ?_ | (refine lss_l S rfl rfl rfl ?_ ?_ <;> intro hcmp <;> try (exfalso; first | omega | exact hcmp (by decide) | exact absurd hcmp (by decide))) | refine run_block ?_ | refine run_exit ?_ | refine run_cond_false rfl ?_ | refine thenQ_n ?_ | refine thenQ_e ?_ | refine blockQ_s rfl ?_)
    have hmlen : (memA init ((o.take k).map (atI l))).length = init.length := memA_len init _
    have hrl := ((S.all (hisR a cap l) (by simp) : (hisR a cap l).holds w).2 (o.getD k 0).toNat).1.small
    have hwl := ((S.all (hisR a cap l) (by simp) : (hisR a cap l).holds w).2 (o.getD k 0).toNat).2.small
    refine run_while [6, 91, 92, 93, 94, 95, 96, 97, 98, 99, 100, 101, 102, 103, 104, 105, 106, 107, 108, 109, 110, 111, 112, 113] (fun (i : Nat) t => upd t 14 (.int .i64 (i : Nat))) (fun i w' => (i ≤ (atI l (o.getD k 0)).rs.length ∧ ∀ j, j < i → (memA init ((o.take k).map (atI l))).getD ((atI l (o.getD k 0)).rs.getD j (0, 0)).1.toNat 0 = ((atI l (o.getD k 0)).rs.getD j (0, 0)).2) ∧ Sat (fun _ => False) w0 w' [blk b11 9 (encAt (atI l (o.getD k 0))) 26, metR bm l o (k + 1), row a' init.length cap' 2 1 (gL encI 0 (memA init ((o.take k).map (atI l)))), slL ao co 1 encI 0 o, slL ai ci 1 encI 0 init, hisR a cap l]) (fun i => (atI l (o.getD k 0)).rs.length - i) 0 ?_ ?_ ?_
    · (repeat (first | exact agree_refl | refine agree_r rfl ?_ | refine agree_l rfl ?_ | refine agree_hv rfl ?_))
    · exact ⟨⟨Nat.zero_le _, fun j hj => absurd hj (Nat.not_lt_zero j)⟩, S⟩
    clear S
    rintro i j w ⟨⟨hi2, hfi⟩, S⟩
    by_cases hil : i < (atI l (o.getD k 0)).rs.length
    · have hp := hal.2.2.2.2.2.2.1 _ (getD_mem (d := (0, 0)) hil)
      have hbad : (memA init ((o.take k).map (atI l))).getD ((atI l (o.getD k 0)).rs.getD i (0, 0)).1.toNat 0 ≠ ((atI l (o.getD k 0)).rs.getD i (0, 0)).2 → ¬ ValidO init l o := fun h1 h => by
        have h2 := (vord_snoc.1 (valid_at h hql).2).2.2.2
        unfold fitsB at h2
        exact h1 (of_decide_eq_true (List.all_eq_true.1 h2 _ (getD_mem (d := (0, 0)) hil)))
      have hil' : i < (l.getD (o.getD k 0).toNat atD).rs.length := hil
      -- {{
      repeat' (first | refine move_i_l S rfl rfl ?_ | refine nilL ?_ | refine run_seq ?_ | refine run_skip ?_ | refine run_region ?_ | refine assign_i_l S rfl rfl ?_ | refine fieldAddr_l S rfl rfl rfl ?_ | refine assign_b_l S rfl rfl ?_ | refine len_l S rfl rfl ?_ | (refine lss_l S rfl rfl rfl ?_ ?_ <;> intro hcmp <;> try (exfalso; first | omega | exact hcmp (by decide) | exact absurd hcmp (by decide))) | refine add_l S rfl rfl (wrap_in (by omega)) rfl ?_ | refine load_o_l S rfl rfl rfl rfl ?_ | refine run_block ?_ | refine run_ret ?_ | refine run_cond_true rfl ?_ | refine run_cond_false rfl ?_ | refine thenQ_n ?_ | refine thenQ_r ?_ | refine blockQ_n ?_ | refine blockQ_r ?_ | (refine run_draws (id := 22) S mixed ?_ ?_; · kernel_rfl) | (refine nilQ ?_; clear S; intro w S) | refine move_s_q rfl rfl ?_ | refine fieldAddr_q rfl rfl rfl ?_ | refine fieldAddrE_q rfl (by first | omega | decide | (simp; done) | (simp; omega)) rfl rfl ?_ | refine move_i_q rfl rfl ?_ | refine indexAddr_q rfl rfl (idx_cast _) (by first | omega | decide | (simp; done) | (simp; omega)) rfl ?_ | refine indexAddr_q rfl rfl (idx_eq _) (by first | omega | decide | (simp; done) | (simp; omega)) rfl ?_ | refine loadE_i_q rfl (by first | omega | decide | (simp; done) | (simp; omega)) rfl rfl rfl ?_ | (refine neq_q rfl rfl rfl ?_ ?_ <;> intro hcmp <;> try (exfalso; first | omega | exact hcmp (by decide) | exact absurd hcmp (by decide))) | refine load_o_q rfl rfl rfl rfl ?_ | refine ret1_b rfl ?_)
      · exact hno (hbad (by assumption)) S.chg.below
      · refine ⟨i + 1, ?_, ⟨⟨by omega, fun j hj => ?_⟩, S⟩, by omega⟩
        · rw [Int.natCast_add i 1]
          (repeat (first | exact agree_refl | refine agree_r rfl ?_ | refine agree_l rfl ?_ | refine agree_hv rfl ?_))
        · rcases Nat.lt_or_ge j i with e | e
          · exact hfi j e
          · obtain rfl : j = i := by omega
            assumption
      -- }}
    obtain rfl : i = (atI l (o.getD k 0)).rs.length := by omega
    have hfit : fitsB (atI l (o.getD k 0)) (memA init ((o.take k).map (atI l))) = true := by
      unfold fitsB
      refine List.all_eq_true.2 fun p hp => ?_
      obtain ⟨i, hi3, rfl⟩ := List.mem_iff_getElem.1 hp
      have := hfi i hi3
      rw [List.getD_eq_getElem?_getD (l := (atI l (o.getD k 0)).rs), List.getElem?_eq_getElem hi3] at this
      exact decide_eq_true this
    have hw0 : 0 ≤ (atI l (o.getD k 0)).wv := hal.2.2.2.1.1
    repeat' (first | refine move_i_l S rfl rfl ?_ | refine load_i_l S rfl rfl rfl rfl ?_ | refine nilL ?_ | refine run_seq ?_ | refine run_skip ?_ | refine run_region ?_ | refine assign_i_l S rfl rfl ?_ | refine fieldAddr_l S rfl rfl rfl ?_ | refine assign_b_l S rfl rfl ?_ | refine len_l S rfl rfl ?_ | (refine lss_l S rfl rfl rfl ?_ ?_ <;> intro hcmp <;> try (exfalso; first | omega | exact hcmp (by decide) | exact absurd hcmp (by decide))) | refine add_l S rfl rfl (wrap_in (by omega)) rfl ?_ | (refine eql_l S rfl rfl rfl ?_ ?_ <;> intro hcmp <;> try (exfalso; first | omega | exact hcmp (by decide) | exact absurd hcmp (by decide))) | (refine leq_l S rfl rfl rfl ?_ ?_ <;> intro hcmp <;> try (exfalso; first | omega | exact hcmp (by decide) | exact absurd hcmp (by decide))) | refine load_o_l S rfl rfl rfl rfl ?_ | refine run_block ?_ | refine run_ret ?_ | refine run_exit ?_ | refine run_cond_true rfl ?_ | refine run_cond_false rfl ?_ | refine thenQ_n ?_ | refine thenQ_r ?_ | refine thenQ_e ?_ | refine blockQ_r ?_ | refine blockQ_s rfl ?_ | refine ret1_b rfl ?_)
    · have hw1 : ¬ 0 < (atI l (o.getD k 0)).wv := by
        have h1 : (atI l (o.getD k 0)).wv = 0 := by assumption
        omega
      have hnil : (atI l (o.getD k 0)).ws = [] := List.eq_nil_of_length_eq_zero (hal.2.2.2.2.2.1 hw1)
      have hmem := mem_step init l hql
      rw [hnil] at hmem
      have hmem2 : memA init ((o.take (k + 1)).map (atI l)) = (memA init ((o.take k).map (atI l))) := hmem
      refine ⟨(k + 1, v), ?_, ⟨by show k + 1 ≤ _; omega, hR.step hM hql ⟨hu0, hu1⟩ hm hah hfit v (.inl ⟨hw1, rfl⟩), ?_⟩, by show o.length - (k + 1) < o.length - k; omega⟩
      · dsimp only
        rw [Int.natCast_add k 1]
        (repeat (first | exact agree_refl | refine agree_r rfl ?_ | refine agree_l rfl ?_ | refine agree_hv rfl ?_))
      · dsimp only
        rw [hmem2]
        exact S.tail
    · have hw1 : 0 < (atI l (o.getD k 0)).wv := by
        have h1 : ¬ (atI l (o.getD k 0)).wv = 0 := by assumption
        omega
      refine hno (fun h => ?_) S.chg.below
      have h2 := (vord_snoc.1 (valid_at h hql).2).2.2.1 (decide_eq_true hw1)
      have h3 := (hR.ver _ hw1).2 fun u hu hw => h2 _ (List.mem_map.2 ⟨u, hu, rfl⟩) hw
      omega
    have hw1 : 0 < (atI l (o.getD k 0)).wv := by
      have h1 : ¬ (atI l (o.getD k 0)).wv = 0 := by assumption
      omega
    replace S := S.front2
    refine run_while [123, 124, 125, 126, 127, 128, 129, 130, 131, 132, 133, 134, 135, 136, 137, 138, 139, 140, 141, 142, 143] (fun (i : Nat) t => upd t 15 (.int .i64 (i : Nat))) (fun i w' => i ≤ (atI l (o.getD k 0)).ws.length ∧ Sat (fun _ => False) w0 w' [row a' init.length cap' 2 1 (gL encI 0 (wrtM (memA init ((o.take k).map (atI l))) ((atI l (o.getD k 0)).ws.take i))), blk b11 9 (encAt (atI l (o.getD k 0))) 26, metR bm l o (k + 1), slL ao co 1 encI 0 o, slL ai ci 1 encI 0 init, hisR a cap l]) (fun i => (atI l (o.getD k 0)).ws.length - i) 0 ?_ ?_ ?_
    · (repeat (first | exact agree_refl | refine agree_r rfl ?_ | refine agree_l rfl ?_ | refine agree_hv rfl ?_))
    · exact ⟨Nat.zero_le _, S⟩
    clear S
    rintro i j w ⟨hi2, S⟩
    by_cases hil : i < (atI l (o.getD k 0)).ws.length
    · have hp := hal.2.2.2.2.2.2.2.1 _ (getD_mem (d := (0, 0)) hil)
      have hil' : i < (l.getD (o.getD k 0).toNat atD).ws.length := hil
      repeat' (first | refine move_i_l S rfl rfl ?_ | refine nilL ?_ | refine run_seq ?_ | refine run_skip ?_ | refine run_region ?_ | refine fieldAddr_l S rfl rfl rfl ?_ | refine len_l S rfl rfl ?_ | (refine lss_l S rfl rfl rfl ?_ ?_ <;> intro hcmp <;> try (exfalso; first | omega | exact hcmp (by decide) | exact absurd hcmp (by decide))) | refine load_o_l S rfl rfl rfl rfl ?_ | refine run_block ?_ | refine run_cond_true rfl ?_ | refine thenQ_n ?_)
      have hwm := wrtM_len (memA init ((o.take k).map (atI l))) ((atI l (o.getD k 0)).ws.take i)
      have hsucc := wrtM_succ (memA init ((o.take k).map (atI l))) hil
      refine run_anyB_at (c := 14) (f := 15) (L' := [row a' init.length cap' 2 1 (gL encI 0 (wrtM (memA init ((o.take k).map (atI l))) ((atI l (o.getD k 0)).ws.take i))), blk b11 9 (encAt (atI l (o.getD k 0))) 26, hisR a cap l]) [130, 131, 132, 133, 134, 135, 136, 137, 138, 139, 140, 141, 142, 143] (fun (_ : Unit) t => t) (fun _ w' => Sat (fun _ => False) w0 w' [row a' init.length cap' 2 1 (gL encI 0 (wrtM (memA init ((o.take k).map (atI l))) ((atI l (o.getD k 0)).ws.take (i + 1)))), blk b11 9 (encAt (atI l (o.getD k 0))) 26, metR bm l o (k + 1), slL ao co 1 encI 0 o, slL ai ci 1 encI 0 init, hisR a cap l]) S mixed rfl ?_ ?_
      · clear S
        intro w S1
        have S : Sat _ _ w [row a' init.length cap' 2 1 (gL encI 0 (wrtM (memA init ((o.take k).map (atI l))) ((atI l (o.getD k 0)).ws.take i))), blk b11 9 (encAt (atI l (o.getD k 0))) 26, hisR a cap l] := S1.sub
        (refine anyB_pure (i := 0) rfl (by kernel_rfl) S ?_; refine move_s_x rfl rfl ?_)
        (refine anyB_pure (i := 1) rfl (by kernel_rfl) S ?_; (first | refine fieldAddr_x rfl rfl rfl ?_ | refine fieldAddrE_x rfl (by first | omega | decide | (simp; done) | (simp; omega)) rfl rfl ?_))
        (refine anyB_pure (i := 2) rfl (by kernel_rfl) S ?_; (first | refine load_s_x rfl rfl rfl rfl ?_ | refine load_o_x rfl rfl rfl rfl ?_ | refine loadE_s_x rfl (by first | omega | decide | (simp; done) | (simp; omega)) rfl rfl rfl ?_ | refine loadE_o_x rfl (by first | omega | decide | (simp; done) | (simp; omega)) rfl rfl rfl ?_))
        (refine anyB_pure (i := 3) rfl (by kernel_rfl) S ?_; refine move_i_x rfl rfl ?_)
        (refine anyB_pure (i := 4) rfl (by kernel_rfl) S ?_; (first | refine indexAddr_x rfl rfl (idx_cast _) (by first | omega | decide | (simp; done) | (simp; omega)) rfl ?_ | refine indexAddr_x rfl rfl (idx_eq _) (by first | omega | decide | (simp; done) | (simp; omega)) rfl ?_))
        (refine anyB_pure (i := 5) rfl (by kernel_rfl) S ?_; (first | refine fieldAddr_x rfl rfl rfl ?_ | refine fieldAddrE_x rfl (by first | omega | decide | (simp; done) | (simp; omega)) rfl rfl ?_))
        (refine anyB_pure (i := 6) rfl (by kernel_rfl) S ?_; (first | refine load_i_x rfl rfl rfl rfl ?_ | refine load_o_x rfl rfl rfl rfl ?_ | refine loadE_i_x rfl (by first | omega | decide | (simp; done) | (simp; omega)) rfl rfl rfl ?_ | refine loadE_o_x rfl (by first | omega | decide | (simp; done) | (simp; omega)) rfl rfl rfl ?_))
        (refine anyB_pure (i := 7) rfl (by kernel_rfl) S ?_; (first | refine fieldAddr_x rfl rfl rfl ?_ | refine fieldAddrE_x rfl (by first | omega | decide | (simp; done) | (simp; omega)) rfl rfl ?_))
        (refine anyB_pure (i := 8) rfl (by kernel_rfl) S ?_; (first | refine load_s_x rfl rfl rfl rfl ?_ | refine load_o_x rfl rfl rfl rfl ?_ | refine loadE_s_x rfl (by first | omega | decide | (simp; done) | (simp; omega)) rfl rfl rfl ?_ | refine loadE_o_x rfl (by first | omega | decide | (simp; done) | (simp; omega)) rfl rfl rfl ?_))
        (refine anyB_pure (i := 9) rfl (by kernel_rfl) S ?_; refine move_i_x rfl rfl ?_)
        (refine anyB_pure (i := 10) rfl (by kernel_rfl) S ?_; (first | refine indexAddr_x rfl rfl (idx_cast _) (by first | omega | decide | (simp; done) | (simp; omega)) rfl ?_ | refine indexAddr_x rfl rfl (idx_eq _) (by first | omega | decide | (simp; done) | (simp; omega)) rfl ?_))
        (refine anyB_pure (i := 11) rfl (by kernel_rfl) S ?_; (first | refine fieldAddr_x rfl rfl rfl ?_ | refine fieldAddrE_x rfl (by first | omega | decide | (simp; done) | (simp; omega)) rfl rfl ?_))
        (refine anyB_pure (i := 12) rfl (by kernel_rfl) S ?_; (first | refine load_i_x rfl rfl rfl rfl ?_ | refine load_o_x rfl rfl rfl rfl ?_ | refine loadE_i_x rfl (by first | omega | decide | (simp; done) | (simp; omega)) rfl rfl rfl ?_ | refine loadE_o_x rfl (by first | omega | decide | (simp; done) | (simp; omega)) rfl rfl rfl ?_))
        (refine anyB_pure (i := 13) rfl (by kernel_rfl) S ?_; (first | refine indexAddr_x rfl rfl (idx_cast _) (by first | omega | decide | (simp; done) | (simp; omega)) rfl ?_ | refine indexAddr_x rfl rfl (idx_eq _) (by first | omega | decide | (simp; done) | (simp; omega)) rfl ?_))
        refine anyB_all (l := [14]) (by kernel_rfl) (by decide) ?_
        intro i hi
        simp only [List.mem_cons, List.not_mem_nil, or_false] at hi
        subst hi
        (refine ⟨_, rfl, ?_⟩; replace S := S1; clear S1; (first | (refine store_i S rfl rfl rfl ?_; clear S; intro w S) | (refine storeE_i S rfl rfl (by omega) rfl ?_; clear S; intro w S)); refine nilL ?_; refine ⟨nope (by kernel_rfl), ?_⟩; have S1 := S)
        refine anyB_end (by kernel_rfl) ?_
        exact ⟨(), (by (repeat (first | exact agree_refl | refine agree_r rfl ?_ | refine agree_l rfl ?_ | refine agree_hv rfl ?_))), S1.turn1 (r' := row a' init.length cap' 2 1 (gL encI 0 (wrtM (memA init ((o.take k).map (atI l))) ((atI l (o.getD k 0)).ws.take (i + 1))))) (RowOk.congr S1.got1 (fun i hi jj hj => by rw [hsucc]; exact encI_set2 _ _ _ (by omega) _ (by omega) _ hj)) rfl (fun k e => e)⟩
      · clear S
        rintro _ j2 w S
        repeat' (first | refine move_i_l S rfl rfl ?_ | refine nilL ?_ | refine run_region ?_ | refine assign_i_l S rfl rfl ?_ | refine add_l S rfl rfl (wrap_in (by omega)) rfl ?_ | refine thenQ_n ?_ | refine blockQ_n ?_)
        refine ⟨i + 1, ?_, ⟨by omega, S⟩, by omega⟩
        rw [Int.natCast_add i 1]
        (repeat (first | exact agree_refl | refine agree_r rfl ?_ | refine agree_l rfl ?_ | refine agree_hv rfl ?_))
    obtain rfl : i = (atI l (o.getD k 0)).ws.length := by omega
    rw [List.take_length] at S
    repeat' (first | refine move_i_l S rfl rfl ?_ | refine nilL ?_ | refine run_seq ?_ | refine run_region ?_ | refine assign_i_l S rfl rfl ?_ | refine fieldAddr_l S rfl rfl rfl ?_ | refine len_l S rfl rfl ?_ | (refine lss_l S rfl rfl rfl ?_ ?_ <;> intro hcmp <;> try (exfalso; first | omega | exact hcmp (by decide) | exact absurd hcmp (by decide))) | refine add_l S rfl rfl (wrap_in (by omega)) rfl ?_ | refine load_o_l S rfl rfl rfl rfl ?_ | refine run_exit ?_ | refine run_cond_false rfl ?_ | refine thenQ_n ?_ | refine thenQ_e ?_ | refine blockQ_n ?_ | refine blockQ_s rfl ?_)
    refine ⟨(k + 1, (atI l (o.getD k 0)).wv), ?_, ⟨by show k + 1 ≤ _; omega, hR.step hM hql ⟨hu0, hu1⟩ hm hah hfit _ (.inr ⟨hw1, by omega, rfl⟩), ?_⟩, by show o.length - (k + 1) < o.length - k; omega⟩
    · dsimp only
      rw [Int.natCast_add k 1]
      (repeat (first | exact agree_refl | refine agree_r rfl ?_ | refine agree_l rfl ?_ | refine agree_hv rfl ?_))
    · dsimp only
      rw [mem_step init l hql]
      exact S.sw.tail.sw
  · obtain rfl : q = o.length := by omega
    repeat' (first | refine move_s_l S rfl rfl ?_ | refine move_i_l S rfl rfl ?_ | refine nilL ?_ | refine run_seq ?_ | refine run_region ?_ | refine assign_b_l S rfl rfl ?_ | refine len_l S rfl rfl ?_ | (refine lss_l S rfl rfl rfl ?_ ?_ <;> intro hcmp <;> try (exfalso; first | omega | exact hcmp (by decide) | exact absurd hcmp (by decide))) | refine run_ret ?_ | refine run_exit ?_ | refine run_cond_false rfl ?_ | refine thenQ_n ?_ | refine thenQ_e ?_ | refine blockQ_s rfl ?_ | refine ret1_b rfl ?_)
    exact ⟨⟨true, rfl, ⟨fun _ => valid_end hR hol, fun _ => rfl⟩⟩, S.chg.below⟩
end Go.Proofs.Ytjnlcfkdackghaa
