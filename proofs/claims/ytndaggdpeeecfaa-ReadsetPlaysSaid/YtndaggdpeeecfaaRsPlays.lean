/- ReadsetPlays. -/
import Derived.Test.YtndaggdpeeecfaaRsD
namespace Go.Proofs.Ytndaggdpeeecfaa
open Go.RowKit Go.Lib
set_option linter.unusedVariables false
theorem sorted_ext : ∀ (l l' : List Int), l.Pairwise (· < ·) → l'.Pairwise (· < ·) → (∀ x, x ∈ l ↔ x ∈ l') → l = l'
  | [], [], _, _, _ => rfl
  | [], b :: _, _, _, h => absurd ((h b).2 (by simp)) (by simp)
  | a :: _, [], _, _, h => absurd ((h a).1 (by simp)) (by simp)
  | a :: l, b :: l', h1, h2, h => by
    rw [List.pairwise_cons] at h1 h2
    have hab : a = b := by
      have e1 := (h a).1 (by simp)
      have e2 := (h b).2 (by simp)
      rw [List.mem_cons] at e1 e2
      rcases e1 with e1 | e1
      · exact e1
      · rcases e2 with e2 | e2
        · exact e2.symm
        · have := h1.1 b e2
          have := h2.1 a e1
          omega
    subst hab
    congr 1
    refine sorted_ext l l' h1.2 h2.2 fun x => ⟨fun hx => ?_, fun hx => ?_⟩
    · have := (h x).1 (by simp [hx])
      rw [List.mem_cons] at this
      rcases this with e | e
      · have := h1.1 x hx; omega
      · exact e
    · have := (h x).2 (by simp [hx])
      rw [List.mem_cons] at this
      rcases this with e | e
      · have := h2.1 x hx; omega
      · exact e
theorem addS_has {st : Int} (h1 : 1 ≤ st ∧ st ≤ 32) {hs : List Bool} (hl : hs.length = 32) (m n : Int) : hasB st (addH st hs m) n = true ↔ (hasB st hs n = true ∨ (n = m ∧ 0 ≤ m ∧ m < st)) := by
  unfold addH
  by_cases c : m < 0 ∨ st ≤ m
  · rw [if_pos c]
    exact ⟨.inl, fun h => h.elim id (fun h => by omega)⟩
  · rw [if_neg c]
    unfold hasB
    by_cases e : n = m
    · subst e
      have h2 : (hs.set n.toNat true).getD n.toNat false = true := by
        rw [List.getD_eq_getElem?_getD, List.getElem?_set]; simp [show n.toNat < hs.length by omega]
      rw [h2, decide_eq_true (show 0 ≤ n by omega), decide_eq_true (show n < st by omega)]
      simp; omega
    · by_cases c2 : 0 ≤ n
      · have h2 : (hs.set m.toNat true).getD n.toNat false = hs.getD n.toNat false := by
          rw [List.getD_eq_getElem?_getD, List.getD_eq_getElem?_getD, List.getElem?_set, if_neg (by omega)]
        rw [h2]; exact ⟨.inl, fun h => h.elim id (fun h => absurd h.1 e)⟩
      · rw [decide_eq_false c2]; simp; omega
theorem mem_allI {st : Int} (h1 : 1 ≤ st ∧ st ≤ 32) (hs : List Bool) (x : Int) : x ∈ allI st hs ↔ hasB st hs x = true := by
  unfold allI upto
  rw [List.mem_map]
  constructor
  · rintro ⟨k, hk, rfl⟩
    rw [List.mem_filter] at hk
    exact hk.2
  · intro h
    have hb : 0 ≤ x ∧ x < st := by
      unfold hasB at h
      simp only [Bool.and_eq_true, decide_eq_true_eq] at h
      exact ⟨h.1, h.2.1⟩
    refine ⟨x.toNat, ?_, by omega⟩
    rw [List.mem_filter]
    refine ⟨by rw [List.mem_range]; omega, ?_⟩
    rw [show ((x.toNat : Nat) : Int) = x by omega]
    exact h
theorem allI_sorted (st : Int) (hs : List Bool) : (allI st hs).Pairwise (· < ·) := by
  unfold allI
  rw [List.pairwise_map]
  have : (upto st hs 32).Pairwise (· < ·) := List.Pairwise.filter _ List.pairwise_lt_range
  exact this.imp (fun h => by omega)
theorem getD_take {l : List Int} {i k : Nat} (h : i < k) : (l.take k).getD i 0 = l.getD i 0 := by
  rw [List.getD_eq_getElem?_getD, List.getD_eq_getElem?_getD, List.getElem?_take, if_pos h]
theorem add_spec {st : Int} (h1 : 1 ≤ st ∧ st ≤ 32) {hs : List Bool} (hl : hs.length = 32) {n : Int} {l' : List Int} (h : AddSpec st (allI st hs) n l') : l' = allI st (addH st hs n) := by
  rcases h with ⟨hc, rfl⟩ | ⟨hc, k, hk, hlt, hge, rfl⟩
  · refine sorted_ext _ _ (allI_sorted _ _) (allI_sorted _ _) fun x => ?_
    rw [mem_allI h1, mem_allI h1, addS_has h1 hl]
    refine ⟨.inl, fun h => h.elim id fun h => ?_⟩
    obtain ⟨rfl, h2, h3⟩ := h
    rcases hc with hc | hc | hc
    · omega
    · omega
    · exact (mem_allI h1 hs x).1 hc
  · have hsort := allI_sorted st hs
    generalize hL : allI st hs = l at *
    have hn : n ∉ l := fun h => hc (.inr (.inr h))
    have htake : ∀ x ∈ l.take k, x < n := fun x hx => by
      obtain ⟨i, hi, e⟩ := (getD_mem_iff _ _).1 hx
      rw [List.length_take] at hi
      rw [getD_take (by omega)] at e
      have := hlt i (by omega)
      omega
    have hdrop : ∀ x ∈ l.drop k, n < x := fun x hx => by
      rcases hge with hge | hge
      · rw [hge, List.drop_length] at hx; cases hx
      · obtain ⟨i, hi, e⟩ := List.mem_iff_getElem.1 hx
        rw [List.length_drop] at hi
        rw [List.getElem_drop] at e
        have hk2 : k < l.length := by omega
        have hkv : l.getD k 0 = l[k] := by rw [List.getD_eq_getElem?_getD, List.getElem?_eq_getElem hk2]; rfl
        have hne : l[k] ≠ n := fun e => hn (e ▸ List.getElem_mem hk2)
        have hle : l[k] ≤ x := by
          rw [← e]
          by_cases h0 : i = 0
          · subst h0; exact Int.le_refl _
          · exact Int.le_of_lt (List.pairwise_iff_getElem.1 hsort k (k + i) hk2 (by omega) (by omega))
        omega
    refine sorted_ext _ _ ?_ (allI_sorted _ _) fun x => ?_
    · rw [List.append_assoc, List.pairwise_append]
      refine ⟨hsort.sublist (List.take_sublist _ _), ?_, ?_⟩
      · rw [List.singleton_append, List.pairwise_cons]
        exact ⟨hdrop, hsort.sublist (List.drop_sublist _ _)⟩
      · intro x hx y hy
        rw [List.singleton_append, List.mem_cons] at hy
        have h2 := htake x hx
        rcases hy with rfl | hy
        · exact h2
        · have := hdrop y hy; omega
    · have hmem : x ∈ l ↔ x ∈ l.take k ∨ x ∈ l.drop k := by rw [← List.mem_append, List.take_append_drop]
      rw [mem_allI h1, addS_has h1 hl, ← mem_allI h1, hL, hmem]
      simp only [List.mem_append, List.mem_singleton]
      constructor
      · rintro ((h | h) | h)
        · exact .inl (.inl h)
        · exact .inr ⟨h, by omega, by omega⟩
        · exact .inl (.inr h)
      · rintro ((h | h) | h)
        · exact .inl (.inl h)
        · exact .inr h
        · exact .inl (.inr h.1)
theorem addH_len2 (st : Int) (hs : List Bool) (m : Int) : (addH st hs m).length = hs.length := by unfold addH; split <;> simp
theorem has_dec {st : Int} (h1 : 1 ≤ st ∧ st ≤ 32) (hs : List Bool) (x : Int) : decide (x ∈ allI st hs) = hasB st hs x := by
  rw [Bool.eq_iff_iff, decide_eq_true_eq]
  exact mem_allI h1 hs x
def setC (rv st : Int) (hs : List Bool) : Tm := fun i => (Value.int .i64 rv :: .int .i64 st :: hs.map .bool).getD i undef
theorem cellsL_list (l : List Value) (n : Nat) (h : l.length = n) : cellsL n (fun i => l.getD i undef) = l := by
  subst h
  apply List.ext_getElem?
  intro i
  unfold cellsL
  rw [List.getElem?_map]
  by_cases hi : i < l.length
  · rw [List.getElem?_range hi, List.getElem?_eq_getElem hi, Option.map_some, List.getD_eq_getElem?_getD, List.getElem?_eq_getElem hi]; rfl
  · rw [List.getElem?_eq_none (by simp; omega), List.getElem?_eq_none (by omega)]; rfl
instance set_B (L : List Res) (b : Nat) (rv st : Int) (hs : List Bool) : PickB (setR b rv st hs :: L) b 34 (setC rv st hs) 53 := ⟨fun w h => by
  have h0 : SetAt w b rv st hs := h (setR b rv st hs) (List.mem_cons_self ..)
  show w.heap[b]? = some (.cells (cellsL 34 (setC rv st hs)).toArray 53 (0, 0))
  have := h0.head
  unfold setCells at this
  have e : cellsL 34 (setC rv st hs) = Value.int .i64 rv :: .int .i64 st :: hs.map .bool := cellsL_list _ _ (by simp [h0.len])
  rw [e]; exact this⟩
theorem bools32 {hs : List Bool} (h : hs.length = 32) : ∃ h0 h1 h2 h3 h4 h5 h6 h7 h8 h9 h10 h11 h12 h13 h14 h15 h16 h17 h18 h19 h20 h21 h22 h23 h24 h25 h26 h27 h28 h29 h30 h31, hs = [h0, h1, h2, h3, h4, h5, h6, h7, h8, h9, h10, h11, h12, h13, h14, h15, h16, h17, h18, h19, h20, h21, h22, h23, h24, h25, h26, h27, h28, h29, h30, h31] := by
  match hs, h with
  | [h0, h1, h2, h3, h4, h5, h6, h7, h8, h9, h10, h11, h12, h13, h14, h15, h16, h17, h18, h19, h20, h21, h22, h23, h24, h25, h26, h27, h28, h29, h30, h31], _ => exact ⟨h0, h1, h2, h3, h4, h5, h6, h7, h8, h9, h10, h11, h12, h13, h14, h15, h16, h17, h18, h19, h20, h21, h22, h23, h24, h25, h26, h27, h28, h29, h30, h31, rfl⟩
set_option maxRecDepth 100000 in
set_option maxHeartbeats 4000000 in
theorem scopy_at {b : Nat} {rv st : Int} {hs : List Bool} {w0 : World} (h : (setR b rv st hs).holds w0) : Calls Try.prog 19 #[.pointer (some ⟨b, 0, none⟩)] w0 fun e w' => ∃ p, e = .returned p ∧ NewSet w0 w' rv st hs p ∧ Below w0.heap.size w0 w' := by
  have h0 : SetAt w0 b rv st hs := h
  obtain ⟨_, hlen, r0, r1, s0, s1⟩ := h0
  obtain ⟨h0, h1, h2, h3, h4, h5, h6, h7, h8, h9, h10, h11, h12, h13, h14, h15, h16, h17, h18, h19, h20, h21, h22, h23, h24, h25, h26, h27, h28, h29, h30, h31, rfl⟩ := bools32 hlen
  have S := Sat.reads h
  refine enter1 Try.func19 rfl Try.ntmps19 rfl Try.results19 ?_
  repeat' (first | refine assign_p_l S rfl rfl ?_ | refine assign_e_l S rfl rfl ?_ | refine move_p_l S rfl rfl ?_ | refine nilL ?_ | refine run_seq ?_ | refine run_skip ?_ | refine run_region ?_ | refine move_e_l S rfl rfl ?_ | refine eqlP_l S rfl rfl rfl ?_ | refine eqlE_l S rfl rfl (by omega) rfl ?_ | refine nilCheck_l S rfl rfl ?_ | refine nilCheckE_l S rfl (by omega) rfl ?_ | refine loadN_l S rfl rfl rfl ?_ | refine loadEN_l S rfl (by omega) rfl rfl ?_ | (refine alloc_l S rfl rfl ?_; clear S; intro b w S) | (refine storeN_l S rfl rfl ⟨rfl, rfl⟩ rfl ?_; clear S; intro w S) | (refine storeEN_l S rfl rfl ⟨rfl, rfl⟩ (by omega) rfl rfl ?_; clear S; intro w S) | refine assign_o_l S rfl rfl ?_ | refine move_o_l S rfl rfl ?_ | refine run_block ?_ | refine run_ret ?_ | refine run_exit ?_ | refine run_cond_true rfl ?_ | refine run_cond_false rfl ?_ | refine thenQ_n ?_ | refine thenQ_r ?_ | refine thenQ_e ?_ | refine blockQ_n ?_ | refine blockQ_r ?_ | refine blockQ_s rfl ?_ | refine blockQ_o rfl ?_ | refine ret1_i rfl ?_ | refine ret1_b rfl ?_ | refine ret1_p rfl ?_ | refine ret1_s rfl ?_ | refine ret1_e rfl ?_ | refine ret1_a rfl ?_ | refine ret1_o rfl ?_ | refine ret1n_i rfl ?_ | refine ret1n_b rfl ?_ | refine ret1n_p rfl ?_ | refine ret1n_s rfl ?_ | refine ret1n_o rfl ?_)
  refine alloc_l S (m := 34) (c := setC 0 0 (List.replicate 32 false)) rfl rfl ?_
  clear S
  intro bb w S
  repeat' (first | refine assign_p_l S rfl rfl ?_ | refine assign_e_l S rfl rfl ?_ | refine move_p_l S rfl rfl ?_ | refine nilL ?_ | refine run_seq ?_ | refine run_skip ?_ | refine run_region ?_ | refine move_e_l S rfl rfl ?_ | refine eqlP_l S rfl rfl rfl ?_ | refine eqlE_l S rfl rfl (by omega) rfl ?_ | refine nilCheck_l S rfl rfl ?_ | refine nilCheckE_l S rfl (by omega) rfl ?_ | refine loadN_l S rfl rfl rfl ?_ | refine loadEN_l S rfl (by omega) rfl rfl ?_ | (refine alloc_l S rfl rfl ?_; clear S; intro b w S) | (refine storeN_l S rfl rfl ⟨rfl, rfl⟩ rfl ?_; clear S; intro w S) | (refine storeEN_l S rfl rfl ⟨rfl, rfl⟩ (by omega) rfl rfl ?_; clear S; intro w S) | refine assign_o_l S rfl rfl ?_ | refine move_o_l S rfl rfl ?_ | refine run_block ?_ | refine run_ret ?_ | refine run_exit ?_ | refine run_cond_true rfl ?_ | refine run_cond_false rfl ?_ | refine thenQ_n ?_ | refine thenQ_r ?_ | refine thenQ_e ?_ | refine blockQ_n ?_ | refine blockQ_r ?_ | refine blockQ_s rfl ?_ | refine blockQ_o rfl ?_ | refine ret1_i rfl ?_ | refine ret1_b rfl ?_ | refine ret1_p rfl ?_ | refine ret1_s rfl ?_ | refine ret1_e rfl ?_ | refine ret1_a rfl ?_ | refine ret1_o rfl ?_ | refine ret1n_i rfl ?_ | refine ret1n_b rfl ?_ | refine ret1n_p rfl ?_ | refine ret1n_s rfl ?_ | refine ret1n_o rfl ?_)
  exact ⟨_, rfl, ⟨bb, rfl, ⟨S.got1, hlen, r0, r1, s0, s1⟩, Nat.le_of_not_lt fun hlt => S.own (blk bb 34 _ _) (List.mem_cons_self ..) rfl bb rfl hlt⟩, S.chg.below⟩
theorem snew_ok (rv st : Int) (hg : 0 ≤ rv ∧ rv ≤ 1099511627776 ∧ 1 ≤ st ∧ st ≤ 32) (w0 : World) :
    Calls Try.prog 10 #[.int .i64 rv, .int .i64 st] w0 fun e w' => ∃ p, e = .returned (.tuple #[p, .int .i64 0]) ∧ NewSet w0 w' rv st (List.replicate 32 false) p ∧ Below w0.heap.size w0 w' :=
  (new_ok rv st hg.1 hg.2.1 hg.2.2.1 hg.2.2.2 w0).mono (by
    rintro e w' ⟨rfl, rfl⟩
    exact ⟨_, rfl, ⟨_, rfl, SetAt.new rv st hg.1 hg.2.1 hg.2.2.1 hg.2.2.2 w0, Nat.le_refl _⟩, (Below.refl _ w0).alloc (Nat.le_refl _) _⟩)
theorem snew_no (rv st : Int) (hg : ¬ (0 ≤ rv ∧ rv ≤ 1099511627776 ∧ 1 ≤ st ∧ st ≤ 32)) (w0 : World) :
    Calls Try.prog 10 #[.int .i64 rv, .int .i64 st] w0 fun e w' => e = .returned (.tuple #[.pointer none, .int .i64 1]) ∧ Below w0.heap.size w0 w' :=
  (new_no rv st (by omega) w0).mono (by rintro e w' ⟨rfl, rfl⟩; exact ⟨rfl, Below.refl _ _⟩)
theorem allI_new (st : Int) : allI st (List.replicate 32 false) = [] := by
  unfold allI upto
  rw [List.map_eq_nil_iff, List.filter_eq_nil_iff]
  intro j _
  unfold hasB
  have : (List.replicate 32 false).getD (((j : Nat) : Int).toNat) false = false := by
    rw [List.getD_eq_getElem?_getD, List.getElem?_replicate]; split <;> rfl
  rw [this]; simp
theorem allI_len (st : Int) (hs : List Bool) : (allI st hs).length ≤ 32 := by unfold allI; rw [List.length_map]; exact upto_len _ _ _
set_option maxHeartbeats 8000000 in
theorem walk_ReadsetPlays (a0 a1 : Int) (a2 : Option Addr) (len2 cap2 : Nat) (z2 : List Int) (w0 : World) (f0 : (Lit.int .i64 a0).wf = true) (f1 : (Lit.int .i64 a1).wf = true) (f2 : z2.length = len2 ∧ SlOk w0 a2 len2 cap2 1 (gL encI 0 z2) ∧ ∀ z ∈ z2, (Lit.int .i64 z).wf = true) :
    Calls Try.prog 6 #[.int .i64 a0, .int .i64 a1, .slice a2 len2 cap2] w0 fun e w' => e = .returned (.bool true) ∧ Below w0.heap.size w0 w' := by
  obtain ⟨rfl, hs2, _⟩ := f2
  have m2 := hs2.small
  have S := Sat.reads (r := slL a2 cap2 1 encI 0 z2) hs2
  clear hs2
  refine enter1 Try.func6 rfl Try.ntmps6 rfl Try.results6 ?_
  repeat' (first | refine move_i_l S rfl rfl ?_ | refine assign_b_l S rfl rfl ?_ | refine assign_i_l S rfl rfl ?_ | refine nilL ?_ | refine run_seq ?_ | refine run_skip ?_ | refine run_region ?_ | refine onL rfl rfl ?_ | refine offL rfl rfl rfl rfl ?_ | refine offL0 rfl rfl rfl ?_ | refine offLU rfl rfl rfl ?_ | refine move_s_l S rfl rfl ?_ | refine assign_p_l S rfl rfl ?_ | refine assign_e_l S rfl rfl ?_ | refine move_p_l S rfl rfl ?_ | refine move_e_l S rfl rfl ?_ | refine len_l S rfl rfl ?_ | (refine neq_l S rfl rfl rfl ?_ ?_ <;> intro hcmp <;> try (exfalso; omega)) | refine extract_p_l S rfl rfl rfl ?_ | refine extract_e_l S rfl rfl rfl ?_ | refine extract_i_l S rfl rfl rfl ?_ | (refine lss_l S rfl rfl rfl ?_ ?_ <;> intro hcmp <;> try (exfalso; omega)) | refine add_l S rfl rfl (wrap_in (by omega)) rfl ?_ | refine add_l S rfl rfl rfl rfl ?_ | (refine gtr_l S rfl rfl rfl ?_ ?_ <;> intro hcmp <;> try (exfalso; omega)) | refine move_b_l S rfl rfl ?_ | refine eqlP_l S rfl rfl rfl ?_ | refine eqlE_l S rfl rfl (by omega) rfl ?_ | refine neqB_l S rfl rfl rfl ?_ | refine pick_tb_l S rfl rfl rfl ?_ | refine pick_fb_l S rfl rfl rfl ?_ | refine assign_s_l S rfl rfl ?_ | refine indexAddr_l S rfl rfl (idx_cast _) (by omega) rfl ?_ | refine indexAddr_l S rfl rfl (idx_eq _) (by omega) rfl ?_ | (refine store_i S rfl rfl rfl ?_; clear S; intro w S) | (refine storeE_i S rfl rfl (by omega) rfl ?_; clear S; intro w S) | refine move_o_l S rfl rfl ?_ | refine assign_o_l S rfl rfl ?_ | refine extract_o_l S rfl rfl rfl ?_ | refine run_block ?_ | refine run_ret ?_ | refine run_exit ?_ | refine run_cond_true rfl ?_ | refine run_cond_false rfl ?_ | refine thenQ_n ?_ | refine thenQ_r ?_ | refine thenQ_e ?_ | refine blockQ_n ?_ | refine blockQ_r ?_ | refine blockQ_s rfl ?_ | refine blockQ_o rfl ?_ | refine ret1_i rfl ?_ | refine ret1_b rfl ?_ | refine ret1_p rfl ?_ | refine ret1_s rfl ?_ | refine ret1_e rfl ?_ | refine ret1_a rfl ?_ | refine ret1_o rfl ?_ | refine ret1n_i rfl ?_ | refine ret1n_b rfl ?_ | refine ret1n_p rfl ?_ | refine ret1n_s rfl ?_ | refine ret1n_o rfl ?_)
  focus
    (refine callL (awake_at _) rfl rfl ?_; rintro e w ⟨rfl, hb⟩; replace S := S.below hb; clear hb; refine ⟨_, rfl, ?_⟩)
    repeat' (first | refine move_i_l S rfl rfl ?_ | refine assign_b_l S rfl rfl ?_ | refine assign_i_l S rfl rfl ?_ | refine nilL ?_ | refine run_seq ?_ | refine run_skip ?_ | refine run_region ?_ | refine onL rfl rfl ?_ | refine offL rfl rfl rfl rfl ?_ | refine offL0 rfl rfl rfl ?_ | refine offLU rfl rfl rfl ?_ | refine move_s_l S rfl rfl ?_ | refine assign_p_l S rfl rfl ?_ | refine assign_e_l S rfl rfl ?_ | refine move_p_l S rfl rfl ?_ | refine move_e_l S rfl rfl ?_ | refine len_l S rfl rfl ?_ | (refine neq_l S rfl rfl rfl ?_ ?_ <;> intro hcmp <;> try (exfalso; omega)) | refine extract_p_l S rfl rfl rfl ?_ | refine extract_e_l S rfl rfl rfl ?_ | refine extract_i_l S rfl rfl rfl ?_ | (refine lss_l S rfl rfl rfl ?_ ?_ <;> intro hcmp <;> try (exfalso; omega)) | refine add_l S rfl rfl (wrap_in (by omega)) rfl ?_ | refine add_l S rfl rfl rfl rfl ?_ | (refine gtr_l S rfl rfl rfl ?_ ?_ <;> intro hcmp <;> try (exfalso; omega)) | refine move_b_l S rfl rfl ?_ | refine eqlP_l S rfl rfl rfl ?_ | refine eqlE_l S rfl rfl (by omega) rfl ?_ | refine neqB_l S rfl rfl rfl ?_ | refine pick_tb_l S rfl rfl rfl ?_ | refine pick_fb_l S rfl rfl rfl ?_ | refine assign_s_l S rfl rfl ?_ | refine indexAddr_l S rfl rfl (idx_cast _) (by omega) rfl ?_ | refine indexAddr_l S rfl rfl (idx_eq _) (by omega) rfl ?_ | (refine store_i S rfl rfl rfl ?_; clear S; intro w S) | (refine storeE_i S rfl rfl (by omega) rfl ?_; clear S; intro w S) | refine move_o_l S rfl rfl ?_ | refine assign_o_l S rfl rfl ?_ | refine extract_o_l S rfl rfl rfl ?_ | refine run_block ?_ | refine run_ret ?_ | refine run_exit ?_ | refine run_cond_true rfl ?_ | refine run_cond_false rfl ?_ | refine thenQ_n ?_ | refine thenQ_r ?_ | refine thenQ_e ?_ | refine blockQ_n ?_ | refine blockQ_r ?_ | refine blockQ_s rfl ?_ | refine blockQ_o rfl ?_ | refine ret1_i rfl ?_ | refine ret1_b rfl ?_ | refine ret1_p rfl ?_ | refine ret1_s rfl ?_ | refine ret1_e rfl ?_ | refine ret1_a rfl ?_ | refine ret1_o rfl ?_ | refine ret1n_i rfl ?_ | refine ret1n_b rfl ?_ | refine ret1n_p rfl ?_ | refine ret1n_s rfl ?_ | refine ret1n_o rfl ?_)
    exact ⟨rfl, S.chg.below⟩
  by_cases hg : 0 ≤ a0 ∧ a0 ≤ 1099511627776 ∧ 1 ≤ a1 ∧ a1 ≤ 32
  rotate_left
  · (refine callL (snew_no a0 a1 hg _) rfl rfl ?_; rintro e w ⟨rfl, hb⟩; replace S := S.below hb; clear hb; refine ⟨_, rfl, ?_⟩)
    repeat' (first | refine move_i_l S rfl rfl ?_ | refine assign_b_l S rfl rfl ?_ | refine assign_i_l S rfl rfl ?_ | refine nilL ?_ | refine run_seq ?_ | refine run_skip ?_ | refine run_region ?_ | refine onL rfl rfl ?_ | refine offL rfl rfl rfl rfl ?_ | refine offL0 rfl rfl rfl ?_ | refine offLU rfl rfl rfl ?_ | refine move_s_l S rfl rfl ?_ | refine assign_p_l S rfl rfl ?_ | refine assign_e_l S rfl rfl ?_ | refine move_p_l S rfl rfl ?_ | refine move_e_l S rfl rfl ?_ | refine len_l S rfl rfl ?_ | (refine neq_l S rfl rfl rfl ?_ ?_ <;> intro hcmp <;> try (exfalso; omega)) | refine extract_p_l S rfl rfl rfl ?_ | refine extract_e_l S rfl rfl rfl ?_ | refine extract_i_l S rfl rfl rfl ?_ | (refine lss_l S rfl rfl rfl ?_ ?_ <;> intro hcmp <;> try (exfalso; omega)) | refine add_l S rfl rfl (wrap_in (by omega)) rfl ?_ | refine add_l S rfl rfl rfl rfl ?_ | (refine gtr_l S rfl rfl rfl ?_ ?_ <;> intro hcmp <;> try (exfalso; omega)) | refine move_b_l S rfl rfl ?_ | refine eqlP_l S rfl rfl rfl ?_ | refine eqlE_l S rfl rfl (by omega) rfl ?_ | refine neqB_l S rfl rfl rfl ?_ | refine pick_tb_l S rfl rfl rfl ?_ | refine pick_fb_l S rfl rfl rfl ?_ | refine assign_s_l S rfl rfl ?_ | refine indexAddr_l S rfl rfl (idx_cast _) (by omega) rfl ?_ | refine indexAddr_l S rfl rfl (idx_eq _) (by omega) rfl ?_ | (refine store_i S rfl rfl rfl ?_; clear S; intro w S) | (refine storeE_i S rfl rfl (by omega) rfl ?_; clear S; intro w S) | refine move_o_l S rfl rfl ?_ | refine assign_o_l S rfl rfl ?_ | refine extract_o_l S rfl rfl rfl ?_ | refine run_block ?_ | refine run_ret ?_ | refine run_exit ?_ | refine run_cond_true rfl ?_ | refine run_cond_false rfl ?_ | refine thenQ_n ?_ | refine thenQ_r ?_ | refine thenQ_e ?_ | refine blockQ_n ?_ | refine blockQ_r ?_ | refine blockQ_s rfl ?_ | refine blockQ_o rfl ?_ | refine ret1_i rfl ?_ | refine ret1_b rfl ?_ | refine ret1_p rfl ?_ | refine ret1_s rfl ?_ | refine ret1_e rfl ?_ | refine ret1_a rfl ?_ | refine ret1_o rfl ?_ | refine ret1n_i rfl ?_ | refine ret1n_b rfl ?_ | refine ret1n_p rfl ?_ | refine ret1n_s rfl ?_ | refine ret1n_o rfl ?_)
    (refine callL (dnew_no a0 a1 hg _) rfl rfl ?_; rintro e w ⟨rfl, hb⟩; replace S := S.below hb; clear hb; refine ⟨_, rfl, ?_⟩)
    repeat' (first | refine move_i_l S rfl rfl ?_ | refine assign_b_l S rfl rfl ?_ | refine assign_i_l S rfl rfl ?_ | refine nilL ?_ | refine run_seq ?_ | refine run_skip ?_ | refine run_region ?_ | refine onL rfl rfl ?_ | refine offL rfl rfl rfl rfl ?_ | refine offL0 rfl rfl rfl ?_ | refine offLU rfl rfl rfl ?_ | refine move_s_l S rfl rfl ?_ | refine assign_p_l S rfl rfl ?_ | refine assign_e_l S rfl rfl ?_ | refine move_p_l S rfl rfl ?_ | refine move_e_l S rfl rfl ?_ | refine len_l S rfl rfl ?_ | (refine neq_l S rfl rfl rfl ?_ ?_ <;> intro hcmp <;> try (exfalso; omega)) | refine extract_p_l S rfl rfl rfl ?_ | refine extract_e_l S rfl rfl rfl ?_ | refine extract_i_l S rfl rfl rfl ?_ | (refine lss_l S rfl rfl rfl ?_ ?_ <;> intro hcmp <;> try (exfalso; omega)) | refine add_l S rfl rfl (wrap_in (by omega)) rfl ?_ | refine add_l S rfl rfl rfl rfl ?_ | (refine gtr_l S rfl rfl rfl ?_ ?_ <;> intro hcmp <;> try (exfalso; omega)) | refine move_b_l S rfl rfl ?_ | refine eqlP_l S rfl rfl rfl ?_ | refine eqlE_l S rfl rfl (by omega) rfl ?_ | refine neqB_l S rfl rfl rfl ?_ | refine pick_tb_l S rfl rfl rfl ?_ | refine pick_fb_l S rfl rfl rfl ?_ | refine assign_s_l S rfl rfl ?_ | refine indexAddr_l S rfl rfl (idx_cast _) (by omega) rfl ?_ | refine indexAddr_l S rfl rfl (idx_eq _) (by omega) rfl ?_ | (refine store_i S rfl rfl rfl ?_; clear S; intro w S) | (refine storeE_i S rfl rfl (by omega) rfl ?_; clear S; intro w S) | refine move_o_l S rfl rfl ?_ | refine assign_o_l S rfl rfl ?_ | refine extract_o_l S rfl rfl rfl ?_ | refine run_block ?_ | refine run_ret ?_ | refine run_exit ?_ | refine run_cond_true rfl ?_ | refine run_cond_false rfl ?_ | refine thenQ_n ?_ | refine thenQ_r ?_ | refine thenQ_e ?_ | refine blockQ_n ?_ | refine blockQ_r ?_ | refine blockQ_s rfl ?_ | refine blockQ_o rfl ?_ | refine ret1_i rfl ?_ | refine ret1_b rfl ?_ | refine ret1_p rfl ?_ | refine ret1_s rfl ?_ | refine ret1_e rfl ?_ | refine ret1_a rfl ?_ | refine ret1_o rfl ?_ | refine ret1n_i rfl ?_ | refine ret1n_b rfl ?_ | refine ret1n_p rfl ?_ | refine ret1n_s rfl ?_ | refine ret1n_o rfl ?_)
    (refine callL (awake_at _) rfl rfl ?_; rintro e w ⟨rfl, hb⟩; replace S := S.below hb; clear hb; refine ⟨_, rfl, ?_⟩)
    repeat' (first | refine move_i_l S rfl rfl ?_ | refine assign_b_l S rfl rfl ?_ | refine assign_i_l S rfl rfl ?_ | refine nilL ?_ | refine run_seq ?_ | refine run_skip ?_ | refine run_region ?_ | refine onL rfl rfl ?_ | refine offL rfl rfl rfl rfl ?_ | refine offL0 rfl rfl rfl ?_ | refine offLU rfl rfl rfl ?_ | refine move_s_l S rfl rfl ?_ | refine assign_p_l S rfl rfl ?_ | refine assign_e_l S rfl rfl ?_ | refine move_p_l S rfl rfl ?_ | refine move_e_l S rfl rfl ?_ | refine len_l S rfl rfl ?_ | (refine neq_l S rfl rfl rfl ?_ ?_ <;> intro hcmp <;> try (exfalso; omega)) | refine extract_p_l S rfl rfl rfl ?_ | refine extract_e_l S rfl rfl rfl ?_ | refine extract_i_l S rfl rfl rfl ?_ | (refine lss_l S rfl rfl rfl ?_ ?_ <;> intro hcmp <;> try (exfalso; omega)) | refine add_l S rfl rfl (wrap_in (by omega)) rfl ?_ | refine add_l S rfl rfl rfl rfl ?_ | (refine gtr_l S rfl rfl rfl ?_ ?_ <;> intro hcmp <;> try (exfalso; omega)) | refine move_b_l S rfl rfl ?_ | refine eqlP_l S rfl rfl rfl ?_ | refine eqlE_l S rfl rfl (by omega) rfl ?_ | refine neqB_l S rfl rfl rfl ?_ | refine pick_tb_l S rfl rfl rfl ?_ | refine pick_fb_l S rfl rfl rfl ?_ | refine assign_s_l S rfl rfl ?_ | refine indexAddr_l S rfl rfl (idx_cast _) (by omega) rfl ?_ | refine indexAddr_l S rfl rfl (idx_eq _) (by omega) rfl ?_ | (refine store_i S rfl rfl rfl ?_; clear S; intro w S) | (refine storeE_i S rfl rfl (by omega) rfl ?_; clear S; intro w S) | refine move_o_l S rfl rfl ?_ | refine assign_o_l S rfl rfl ?_ | refine extract_o_l S rfl rfl rfl ?_ | refine run_block ?_ | refine run_ret ?_ | refine run_exit ?_ | refine run_cond_true rfl ?_ | refine run_cond_false rfl ?_ | refine thenQ_n ?_ | refine thenQ_r ?_ | refine thenQ_e ?_ | refine blockQ_n ?_ | refine blockQ_r ?_ | refine blockQ_s rfl ?_ | refine blockQ_o rfl ?_ | refine ret1_i rfl ?_ | refine ret1_b rfl ?_ | refine ret1_p rfl ?_ | refine ret1_s rfl ?_ | refine ret1_e rfl ?_ | refine ret1_a rfl ?_ | refine ret1_o rfl ?_ | refine ret1n_i rfl ?_ | refine ret1n_b rfl ?_ | refine ret1n_p rfl ?_ | refine ret1n_s rfl ?_ | refine ret1n_o rfl ?_)
    exact ⟨rfl, S.chg.below⟩
  refine callL (snew_ok a0 a1 hg _) rfl rfl ?_
  rintro e w' ⟨_, rfl, ⟨bs, rfl, hh, hf⟩, hb⟩
  replace S := S.freshSet hb hh hf
  clear hb hh hf
  refine ⟨_, rfl, ?_⟩
  repeat' (first | refine move_i_l S rfl rfl ?_ | refine assign_b_l S rfl rfl ?_ | refine assign_i_l S rfl rfl ?_ | refine nilL ?_ | refine run_seq ?_ | refine run_skip ?_ | refine run_region ?_ | refine onL rfl rfl ?_ | refine offL rfl rfl rfl rfl ?_ | refine offL0 rfl rfl rfl ?_ | refine offLU rfl rfl rfl ?_ | refine move_s_l S rfl rfl ?_ | refine assign_p_l S rfl rfl ?_ | refine assign_e_l S rfl rfl ?_ | refine move_p_l S rfl rfl ?_ | refine move_e_l S rfl rfl ?_ | refine len_l S rfl rfl ?_ | (refine neq_l S rfl rfl rfl ?_ ?_ <;> intro hcmp <;> try (exfalso; omega)) | refine extract_p_l S rfl rfl rfl ?_ | refine extract_e_l S rfl rfl rfl ?_ | refine extract_i_l S rfl rfl rfl ?_ | (refine lss_l S rfl rfl rfl ?_ ?_ <;> intro hcmp <;> try (exfalso; omega)) | refine add_l S rfl rfl (wrap_in (by omega)) rfl ?_ | refine add_l S rfl rfl rfl rfl ?_ | (refine gtr_l S rfl rfl rfl ?_ ?_ <;> intro hcmp <;> try (exfalso; omega)) | refine move_b_l S rfl rfl ?_ | refine eqlP_l S rfl rfl rfl ?_ | refine eqlE_l S rfl rfl (by omega) rfl ?_ | refine neqB_l S rfl rfl rfl ?_ | refine pick_tb_l S rfl rfl rfl ?_ | refine pick_fb_l S rfl rfl rfl ?_ | refine assign_s_l S rfl rfl ?_ | refine indexAddr_l S rfl rfl (idx_cast _) (by omega) rfl ?_ | refine indexAddr_l S rfl rfl (idx_eq _) (by omega) rfl ?_ | (refine store_i S rfl rfl rfl ?_; clear S; intro w S) | (refine storeE_i S rfl rfl (by omega) rfl ?_; clear S; intro w S) | refine move_o_l S rfl rfl ?_ | refine assign_o_l S rfl rfl ?_ | refine extract_o_l S rfl rfl rfl ?_ | refine run_block ?_ | refine run_ret ?_ | refine run_exit ?_ | refine run_cond_true rfl ?_ | refine run_cond_false rfl ?_ | refine thenQ_n ?_ | refine thenQ_r ?_ | refine thenQ_e ?_ | refine blockQ_n ?_ | refine blockQ_r ?_ | refine blockQ_s rfl ?_ | refine blockQ_o rfl ?_ | refine ret1_i rfl ?_ | refine ret1_b rfl ?_ | refine ret1_p rfl ?_ | refine ret1_s rfl ?_ | refine ret1_e rfl ?_ | refine ret1_a rfl ?_ | refine ret1_o rfl ?_ | refine ret1n_i rfl ?_ | refine ret1n_b rfl ?_ | refine ret1n_p rfl ?_ | refine ret1n_s rfl ?_ | refine ret1n_o rfl ?_)
  refine callL (dnew_ok a0 a1 hg _) rfl rfl ?_
  rintro e w' ⟨_, rfl, ⟨bd, ad, cd, rfl, hh, hf⟩, hb⟩
  replace S := S.fresh hb hh hf
  clear hb hh hf
  refine ⟨_, rfl, ?_⟩
  repeat' (first | refine move_i_l S rfl rfl ?_ | refine assign_b_l S rfl rfl ?_ | refine assign_i_l S rfl rfl ?_ | refine nilL ?_ | refine run_seq ?_ | refine run_skip ?_ | refine run_region ?_ | refine onL rfl rfl ?_ | refine offL rfl rfl rfl rfl ?_ | refine offL0 rfl rfl rfl ?_ | refine offLU rfl rfl rfl ?_ | refine move_s_l S rfl rfl ?_ | refine assign_p_l S rfl rfl ?_ | refine assign_e_l S rfl rfl ?_ | refine move_p_l S rfl rfl ?_ | refine move_e_l S rfl rfl ?_ | refine len_l S rfl rfl ?_ | (refine neq_l S rfl rfl rfl ?_ ?_ <;> intro hcmp <;> try (exfalso; omega)) | refine extract_p_l S rfl rfl rfl ?_ | refine extract_e_l S rfl rfl rfl ?_ | refine extract_i_l S rfl rfl rfl ?_ | (refine lss_l S rfl rfl rfl ?_ ?_ <;> intro hcmp <;> try (exfalso; omega)) | refine add_l S rfl rfl (wrap_in (by omega)) rfl ?_ | refine add_l S rfl rfl rfl rfl ?_ | (refine gtr_l S rfl rfl rfl ?_ ?_ <;> intro hcmp <;> try (exfalso; omega)) | refine move_b_l S rfl rfl ?_ | refine eqlP_l S rfl rfl rfl ?_ | refine eqlE_l S rfl rfl (by omega) rfl ?_ | refine neqB_l S rfl rfl rfl ?_ | refine pick_tb_l S rfl rfl rfl ?_ | refine pick_fb_l S rfl rfl rfl ?_ | refine assign_s_l S rfl rfl ?_ | refine indexAddr_l S rfl rfl (idx_cast _) (by omega) rfl ?_ | refine indexAddr_l S rfl rfl (idx_eq _) (by omega) rfl ?_ | (refine store_i S rfl rfl rfl ?_; clear S; intro w S) | (refine storeE_i S rfl rfl (by omega) rfl ?_; clear S; intro w S) | refine move_o_l S rfl rfl ?_ | refine assign_o_l S rfl rfl ?_ | refine extract_o_l S rfl rfl rfl ?_ | refine run_block ?_ | refine run_ret ?_ | refine run_exit ?_ | refine run_cond_true rfl ?_ | refine run_cond_false rfl ?_ | refine thenQ_n ?_ | refine thenQ_r ?_ | refine thenQ_e ?_ | refine blockQ_n ?_ | refine blockQ_r ?_ | refine blockQ_s rfl ?_ | refine blockQ_o rfl ?_ | refine ret1_i rfl ?_ | refine ret1_b rfl ?_ | refine ret1_p rfl ?_ | refine ret1_s rfl ?_ | refine ret1_e rfl ?_ | refine ret1_a rfl ?_ | refine ret1_o rfl ?_ | refine ret1n_i rfl ?_ | refine ret1n_b rfl ?_ | refine ret1n_p rfl ?_ | refine ret1n_s rfl ?_ | refine ret1n_o rfl ?_)
  have hst : 1 ≤ a1 ∧ a1 ≤ 32 := ⟨hg.2.2.1, hg.2.2.2⟩
  refine run_while [6, 12, 13, 14, 15, 45, 46, 47, 48, 49, 50, 51, 52, 53, 54, 55, 56, 57, 58, 59, 60, 61, 62, 63, 64, 65, 66, 67, 68, 69, 70, 71, 72, 73, 74, 75, 76, 77, 78, 79, 80, 81, 82, 83, 84, 85, 86, 87, 88, 89, 90, 91, 92, 93, 94, 95, 96, 97, 98, 99, 100, 101, 102, 103, 104, 105, 106, 107, 108, 109, 110, 111, 112, 113, 114, 115, 116, 117, 118, 119, 120, 121, 122, 123, 124, 125, 126, 127, 128, 129, 130, 131, 132, 133, 134, 135, 136, 137, 138, 139] (fun (s : Nat × List Bool × Option Addr × Nat) t => upd t 11 (.int .i64 s.1)) (fun s w' => s.1 ≤ z2.length ∧ Sat (fun _ => False) w0 w' [docR bd s.2.2.1 s.2.2.2 a0 a1 (allI a1 s.2.1), setR bs a0 a1 s.2.1, roR (slL a2 cap2 1 encI 0 z2)]) (fun s => z2.length - s.1) (0, List.replicate 32 false, ad, cd) ?_ ?_ ?_
  · (repeat (first | exact agree_refl | refine agree_r rfl ?_ | refine agree_l rfl ?_ | refine agree_hv rfl ?_))
  · exact ⟨Nat.zero_le _, by simp only; rw [allI_new]; exact S⟩
  clear S
  rintro ⟨q, hs, ad, cd⟩ j w ⟨hq, S⟩
  simp only at hq S ⊢
  have hlen : hs.length = 32 := (S.second : SetAt w bs a0 a1 hs).len
  by_cases hql : q < z2.length
  rotate_left
  · repeat' (first | refine move_i_l S rfl rfl ?_ | refine assign_b_l S rfl rfl ?_ | refine assign_i_l S rfl rfl ?_ | refine nilL ?_ | refine run_seq ?_ | refine run_skip ?_ | refine run_region ?_ | refine onL rfl rfl ?_ | refine offL rfl rfl rfl rfl ?_ | refine offL0 rfl rfl rfl ?_ | refine offLU rfl rfl rfl ?_ | refine move_s_l S rfl rfl ?_ | refine assign_p_l S rfl rfl ?_ | refine assign_e_l S rfl rfl ?_ | refine move_p_l S rfl rfl ?_ | refine move_e_l S rfl rfl ?_ | refine len_l S rfl rfl ?_ | (refine neq_l S rfl rfl rfl ?_ ?_ <;> intro hcmp <;> try (exfalso; omega)) | refine extract_p_l S rfl rfl rfl ?_ | refine extract_e_l S rfl rfl rfl ?_ | refine extract_i_l S rfl rfl rfl ?_ | (refine lss_l S rfl rfl rfl ?_ ?_ <;> intro hcmp <;> try (exfalso; omega)) | refine add_l S rfl rfl (wrap_in (by omega)) rfl ?_ | refine add_l S rfl rfl rfl rfl ?_ | (refine gtr_l S rfl rfl rfl ?_ ?_ <;> intro hcmp <;> try (exfalso; omega)) | refine move_b_l S rfl rfl ?_ | refine eqlP_l S rfl rfl rfl ?_ | refine eqlE_l S rfl rfl (by omega) rfl ?_ | refine neqB_l S rfl rfl rfl ?_ | refine pick_tb_l S rfl rfl rfl ?_ | refine pick_fb_l S rfl rfl rfl ?_ | refine assign_s_l S rfl rfl ?_ | refine indexAddr_l S rfl rfl (idx_cast _) (by omega) rfl ?_ | refine indexAddr_l S rfl rfl (idx_eq _) (by omega) rfl ?_ | (refine store_i S rfl rfl rfl ?_; clear S; intro w S) | (refine storeE_i S rfl rfl (by omega) rfl ?_; clear S; intro w S) | refine move_o_l S rfl rfl ?_ | refine assign_o_l S rfl rfl ?_ | refine extract_o_l S rfl rfl rfl ?_ | refine run_block ?_ | refine run_ret ?_ | refine run_exit ?_ | refine run_cond_true rfl ?_ | refine run_cond_false rfl ?_ | refine thenQ_n ?_ | refine thenQ_r ?_ | refine thenQ_e ?_ | refine blockQ_n ?_ | refine blockQ_r ?_ | refine blockQ_s rfl ?_ | refine blockQ_o rfl ?_ | refine ret1_i rfl ?_ | refine ret1_b rfl ?_ | refine ret1_p rfl ?_ | refine ret1_s rfl ?_ | refine ret1_e rfl ?_ | refine ret1_a rfl ?_ | refine ret1_o rfl ?_ | refine ret1n_i rfl ?_ | refine ret1n_b rfl ?_ | refine ret1n_p rfl ?_ | refine ret1n_s rfl ?_ | refine ret1n_o rfl ?_)
    (refine callL (awake_at _) rfl rfl ?_; rintro e w ⟨rfl, hb⟩; replace S := S.below hb; clear hb; refine ⟨_, rfl, ?_⟩)
    repeat' (first | refine move_i_l S rfl rfl ?_ | refine assign_b_l S rfl rfl ?_ | refine assign_i_l S rfl rfl ?_ | refine nilL ?_ | refine run_seq ?_ | refine run_skip ?_ | refine run_region ?_ | refine onL rfl rfl ?_ | refine offL rfl rfl rfl rfl ?_ | refine offL0 rfl rfl rfl ?_ | refine offLU rfl rfl rfl ?_ | refine move_s_l S rfl rfl ?_ | refine assign_p_l S rfl rfl ?_ | refine assign_e_l S rfl rfl ?_ | refine move_p_l S rfl rfl ?_ | refine move_e_l S rfl rfl ?_ | refine len_l S rfl rfl ?_ | (refine neq_l S rfl rfl rfl ?_ ?_ <;> intro hcmp <;> try (exfalso; omega)) | refine extract_p_l S rfl rfl rfl ?_ | refine extract_e_l S rfl rfl rfl ?_ | refine extract_i_l S rfl rfl rfl ?_ | (refine lss_l S rfl rfl rfl ?_ ?_ <;> intro hcmp <;> try (exfalso; omega)) | refine add_l S rfl rfl (wrap_in (by omega)) rfl ?_ | refine add_l S rfl rfl rfl rfl ?_ | (refine gtr_l S rfl rfl rfl ?_ ?_ <;> intro hcmp <;> try (exfalso; omega)) | refine move_b_l S rfl rfl ?_ | refine eqlP_l S rfl rfl rfl ?_ | refine eqlE_l S rfl rfl (by omega) rfl ?_ | refine neqB_l S rfl rfl rfl ?_ | refine pick_tb_l S rfl rfl rfl ?_ | refine pick_fb_l S rfl rfl rfl ?_ | refine assign_s_l S rfl rfl ?_ | refine indexAddr_l S rfl rfl (idx_cast _) (by omega) rfl ?_ | refine indexAddr_l S rfl rfl (idx_eq _) (by omega) rfl ?_ | (refine store_i S rfl rfl rfl ?_; clear S; intro w S) | (refine storeE_i S rfl rfl (by omega) rfl ?_; clear S; intro w S) | refine move_o_l S rfl rfl ?_ | refine assign_o_l S rfl rfl ?_ | refine extract_o_l S rfl rfl rfl ?_ | refine run_block ?_ | refine run_ret ?_ | refine run_exit ?_ | refine run_cond_true rfl ?_ | refine run_cond_false rfl ?_ | refine thenQ_n ?_ | refine thenQ_r ?_ | refine thenQ_e ?_ | refine blockQ_n ?_ | refine blockQ_r ?_ | refine blockQ_s rfl ?_ | refine blockQ_o rfl ?_ | refine ret1_i rfl ?_ | refine ret1_b rfl ?_ | refine ret1_p rfl ?_ | refine ret1_s rfl ?_ | refine ret1_e rfl ?_ | refine ret1_a rfl ?_ | refine ret1_o rfl ?_ | refine ret1n_i rfl ?_ | refine ret1n_b rfl ?_ | refine ret1n_p rfl ?_ | refine ret1n_s rfl ?_ | refine ret1n_o rfl ?_)
    exact ⟨rfl, S.chg.below⟩
  obtain ⟨l, hl⟩ : ∃ l, allI a1 hs = l := ⟨_, rfl⟩
  have hll : l.length ≤ 32 := by rw [← hl]; exact allI_len _ _
  rw [hl] at S
  obtain ⟨n, hn⟩ : ∃ n, z2.getD q 0 = n := ⟨_, rfl⟩
  repeat' (first | refine move_i_l S rfl rfl ?_ | refine assign_b_l S rfl rfl ?_ | refine assign_i_l S rfl rfl ?_ | refine nilL ?_ | refine run_seq ?_ | refine run_skip ?_ | refine run_region ?_ | refine onL rfl rfl ?_ | refine offL rfl rfl rfl rfl ?_ | refine offL0 rfl rfl rfl ?_ | refine offLU rfl rfl rfl ?_ | refine move_s_l S rfl rfl ?_ | refine assign_p_l S rfl rfl ?_ | refine assign_e_l S rfl rfl ?_ | refine move_p_l S rfl rfl ?_ | refine move_e_l S rfl rfl ?_ | refine len_l S rfl rfl ?_ | (refine neq_l S rfl rfl rfl ?_ ?_ <;> intro hcmp <;> try (exfalso; omega)) | refine extract_p_l S rfl rfl rfl ?_ | refine extract_e_l S rfl rfl rfl ?_ | refine extract_i_l S rfl rfl rfl ?_ | (refine lss_l S rfl rfl rfl ?_ ?_ <;> intro hcmp <;> try (exfalso; omega)) | refine add_l S rfl rfl (wrap_in (by omega)) rfl ?_ | refine add_l S rfl rfl rfl rfl ?_ | (refine gtr_l S rfl rfl rfl ?_ ?_ <;> intro hcmp <;> try (exfalso; omega)) | refine move_b_l S rfl rfl ?_ | refine eqlP_l S rfl rfl rfl ?_ | refine eqlE_l S rfl rfl (by omega) rfl ?_ | refine neqB_l S rfl rfl rfl ?_ | refine pick_tb_l S rfl rfl rfl ?_ | refine pick_fb_l S rfl rfl rfl ?_ | refine assign_s_l S rfl rfl ?_ | refine indexAddr_l S rfl rfl (idx_cast _) (by omega) rfl ?_ | refine indexAddr_l S rfl rfl (idx_eq _) (by omega) rfl ?_ | (refine store_i S rfl rfl rfl ?_; clear S; intro w S) | (refine storeE_i S rfl rfl (by omega) rfl ?_; clear S; intro w S) | refine move_o_l S rfl rfl ?_ | refine assign_o_l S rfl rfl ?_ | refine extract_o_l S rfl rfl rfl ?_ | refine run_block ?_ | refine run_ret ?_ | refine run_exit ?_ | refine run_cond_true rfl ?_ | refine run_cond_false rfl ?_ | refine thenQ_n ?_ | refine thenQ_r ?_ | refine thenQ_e ?_ | refine blockQ_n ?_ | refine blockQ_r ?_ | refine blockQ_s rfl ?_ | refine blockQ_o rfl ?_ | refine ret1_i rfl ?_ | refine ret1_b rfl ?_ | refine ret1_p rfl ?_ | refine ret1_s rfl ?_ | refine ret1_e rfl ?_ | refine ret1_a rfl ?_ | refine ret1_o rfl ?_ | refine ret1n_i rfl ?_ | refine ret1n_b rfl ?_ | refine ret1n_p rfl ?_ | refine ret1n_s rfl ?_ | refine ret1n_o rfl ?_)
  refine callL (scopy_at S.second) rfl rfl ?_
  rintro e w' ⟨_, rfl, ⟨bx, rfl, hh, hf⟩, hb⟩
  replace S := S.freshSet hb hh hf
  clear hb hh hf
  refine ⟨_, rfl, ?_⟩
  repeat' (first | refine move_i_l S rfl rfl ?_ | refine assign_b_l S rfl rfl ?_ | refine assign_i_l S rfl rfl ?_ | refine nilL ?_ | refine run_seq ?_ | refine run_skip ?_ | refine run_region ?_ | refine onL rfl rfl ?_ | refine offL rfl rfl rfl rfl ?_ | refine offL0 rfl rfl rfl ?_ | refine offLU rfl rfl rfl ?_ | refine move_s_l S rfl rfl ?_ | refine assign_p_l S rfl rfl ?_ | refine assign_e_l S rfl rfl ?_ | refine move_p_l S rfl rfl ?_ | refine move_e_l S rfl rfl ?_ | refine len_l S rfl rfl ?_ | (refine neq_l S rfl rfl rfl ?_ ?_ <;> intro hcmp <;> try (exfalso; omega)) | refine extract_p_l S rfl rfl rfl ?_ | refine extract_e_l S rfl rfl rfl ?_ | refine extract_i_l S rfl rfl rfl ?_ | (refine lss_l S rfl rfl rfl ?_ ?_ <;> intro hcmp <;> try (exfalso; omega)) | refine add_l S rfl rfl (wrap_in (by omega)) rfl ?_ | refine add_l S rfl rfl rfl rfl ?_ | (refine gtr_l S rfl rfl rfl ?_ ?_ <;> intro hcmp <;> try (exfalso; omega)) | refine move_b_l S rfl rfl ?_ | refine eqlP_l S rfl rfl rfl ?_ | refine eqlE_l S rfl rfl (by omega) rfl ?_ | refine neqB_l S rfl rfl rfl ?_ | refine pick_tb_l S rfl rfl rfl ?_ | refine pick_fb_l S rfl rfl rfl ?_ | refine assign_s_l S rfl rfl ?_ | refine indexAddr_l S rfl rfl (idx_cast _) (by omega) rfl ?_ | refine indexAddr_l S rfl rfl (idx_eq _) (by omega) rfl ?_ | (refine store_i S rfl rfl rfl ?_; clear S; intro w S) | (refine storeE_i S rfl rfl (by omega) rfl ?_; clear S; intro w S) | refine move_o_l S rfl rfl ?_ | refine assign_o_l S rfl rfl ?_ | refine extract_o_l S rfl rfl rfl ?_ | refine run_block ?_ | refine run_ret ?_ | refine run_exit ?_ | refine run_cond_true rfl ?_ | refine run_cond_false rfl ?_ | refine thenQ_n ?_ | refine thenQ_r ?_ | refine thenQ_e ?_ | refine blockQ_n ?_ | refine blockQ_r ?_ | refine blockQ_s rfl ?_ | refine blockQ_o rfl ?_ | refine ret1_i rfl ?_ | refine ret1_b rfl ?_ | refine ret1_p rfl ?_ | refine ret1_s rfl ?_ | refine ret1_e rfl ?_ | refine ret1_a rfl ?_ | refine ret1_o rfl ?_ | refine ret1n_i rfl ?_ | refine ret1n_b rfl ?_ | refine ret1n_p rfl ?_ | refine ret1n_s rfl ?_ | refine ret1n_o rfl ?_)
  refine callL (dcopy_at S.second (by omega)) rfl rfl ?_
  rintro e w' ⟨_, rfl, ⟨by', ay, cy, rfl, hh, hf⟩, hb⟩
  replace S := S.fresh hb hh hf
  clear hb hh hf
  refine ⟨_, rfl, ?_⟩
  repeat' (first | refine move_i_l S rfl rfl ?_ | refine assign_b_l S rfl rfl ?_ | refine assign_i_l S rfl rfl ?_ | refine nilL ?_ | refine run_seq ?_ | refine run_skip ?_ | refine run_region ?_ | refine onL rfl rfl ?_ | refine offL rfl rfl rfl rfl ?_ | refine offL0 rfl rfl rfl ?_ | refine offLU rfl rfl rfl ?_ | refine move_s_l S rfl rfl ?_ | refine assign_p_l S rfl rfl ?_ | refine assign_e_l S rfl rfl ?_ | refine move_p_l S rfl rfl ?_ | refine move_e_l S rfl rfl ?_ | refine len_l S rfl rfl ?_ | (refine neq_l S rfl rfl rfl ?_ ?_ <;> intro hcmp <;> try (exfalso; omega)) | refine extract_p_l S rfl rfl rfl ?_ | refine extract_e_l S rfl rfl rfl ?_ | refine extract_i_l S rfl rfl rfl ?_ | (refine lss_l S rfl rfl rfl ?_ ?_ <;> intro hcmp <;> try (exfalso; omega)) | refine add_l S rfl rfl (wrap_in (by omega)) rfl ?_ | refine add_l S rfl rfl rfl rfl ?_ | (refine gtr_l S rfl rfl rfl ?_ ?_ <;> intro hcmp <;> try (exfalso; omega)) | refine move_b_l S rfl rfl ?_ | refine eqlP_l S rfl rfl rfl ?_ | refine eqlE_l S rfl rfl (by omega) rfl ?_ | refine neqB_l S rfl rfl rfl ?_ | refine pick_tb_l S rfl rfl rfl ?_ | refine pick_fb_l S rfl rfl rfl ?_ | refine assign_s_l S rfl rfl ?_ | refine indexAddr_l S rfl rfl (idx_cast _) (by omega) rfl ?_ | refine indexAddr_l S rfl rfl (idx_eq _) (by omega) rfl ?_ | (refine store_i S rfl rfl rfl ?_; clear S; intro w S) | (refine storeE_i S rfl rfl (by omega) rfl ?_; clear S; intro w S) | refine move_o_l S rfl rfl ?_ | refine assign_o_l S rfl rfl ?_ | refine extract_o_l S rfl rfl rfl ?_ | refine run_block ?_ | refine run_ret ?_ | refine run_exit ?_ | refine run_cond_true rfl ?_ | refine run_cond_false rfl ?_ | refine thenQ_n ?_ | refine thenQ_r ?_ | refine thenQ_e ?_ | refine blockQ_n ?_ | refine blockQ_r ?_ | refine blockQ_s rfl ?_ | refine blockQ_o rfl ?_ | refine ret1_i rfl ?_ | refine ret1_b rfl ?_ | refine ret1_p rfl ?_ | refine ret1_s rfl ?_ | refine ret1_e rfl ?_ | refine ret1_a rfl ?_ | refine ret1_o rfl ?_ | refine ret1n_i rfl ?_ | refine ret1n_b rfl ?_ | refine ret1n_p rfl ?_ | refine ret1n_s rfl ?_ | refine ret1n_o rfl ?_)
  refine run_any S (L' := [roR (slL a2 cap2 1 encI 0 z2)]) (f := 74) mixed rfl ?_
  clear S
  intro w S1
  have S : Sat _ _ w [roR (slL a2 cap2 1 encI 0 z2)] := S1.sub
  all_goals (refine any_pure (i := 0) rfl (by kernel_rfl) S ?_; (first | refine move_p_x rfl rfl ?_ | refine move_e_x rfl rfl ?_ | refine move_o_x rfl rfl ?_))
  all_goals (refine any_pure (i := 1) rfl (by kernel_rfl) S ?_; refine move_s_x rfl rfl ?_)
  all_goals (refine any_pure (i := 2) rfl (by kernel_rfl) S ?_; refine move_i_x rfl rfl ?_)
  all_goals (refine any_pure (i := 3) rfl (by kernel_rfl) S ?_; (first | refine indexAddr_x rfl rfl (idx_cast _) (by omega) rfl ?_ | refine indexAddr_x rfl rfl (idx_eq _) (by omega) rfl ?_))
  all_goals (refine any_pure (i := 4) rfl (by kernel_rfl) S ?_; (first | refine load_i_x rfl rfl rfl rfl ?_ | refine load_o_x rfl rfl rfl rfl ?_ | refine loadE_i_x rfl (by omega) rfl rfl rfl ?_ | refine loadE_o_x rfl (by omega) rfl rfl rfl ?_))
  all_goals (refine any_pure (i := 6) rfl (by kernel_rfl) S ?_; (first | refine move_p_x rfl rfl ?_ | refine move_e_x rfl rfl ?_ | refine move_o_x rfl rfl ?_))
  all_goals (refine any_pure (i := 7) rfl (by kernel_rfl) S ?_; refine move_s_x rfl rfl ?_)
  all_goals (refine any_pure (i := 8) rfl (by kernel_rfl) S ?_; refine move_i_x rfl rfl ?_)
  all_goals (refine any_pure (i := 9) rfl (by kernel_rfl) S ?_; (first | refine indexAddr_x rfl rfl (idx_cast _) (by omega) rfl ?_ | refine indexAddr_x rfl rfl (idx_eq _) (by omega) rfl ?_))
  all_goals (refine any_pure (i := 10) rfl (by kernel_rfl) S ?_; (first | refine load_i_x rfl rfl rfl rfl ?_ | refine load_o_x rfl rfl rfl rfl ?_ | refine loadE_i_x rfl (by omega) rfl rfl rfl ?_ | refine loadE_o_x rfl (by omega) rfl rfl rfl ?_))
  all_goals refine any_step (i := 5) rfl (by kernel_rfl) ?_
  all_goals replace S := S1
  refine callL (add_e (S.all (setR bs a0 a1 hs) (by simp)) (z2.getD q 0)) rfl rfl ?_
  rintro e w' ⟨rfl, h1, h2⟩
  replace S := S.swap (r := setR bs a0 a1 hs) (r' := setR bs a0 a1 (addH a1 hs (z2.getD q 0))) rfl h2 h1 rfl (fun k e => .inl e)
  clear h1 h2
  refine ⟨_, rfl, ?_⟩
  all_goals try refine nilL ?_
  all_goals refine ⟨S.sub, ?_⟩
  all_goals (have S1 := S; replace S : Sat _ _ _ [roR (slL a2 cap2 1 encI 0 z2)] := S1.sub)
  all_goals refine any_step (i := 11) rfl (by kernel_rfl) ?_
  all_goals replace S := S1
  refine callL (dadd_at (S.all (docR bd ad cd a0 a1 l) (by simp)) (z2.getD q 0) (by omega)) rfl rfl ?_
  rintro e w' ⟨rfl, l', hspec, ae, ce, h1, h2, h3⟩
  replace S := S.swap (r := docR bd ad cd a0 a1 l) (r' := docR bd ae ce a0 a1 l') rfl h2 h1 rfl h3
  clear h1 h2 h3
  rw [← hl] at hspec
  have hl' := add_spec hst hlen hspec
  clear hspec
  obtain ⟨hs', hhs'⟩ : ∃ hs', addH a1 hs (z2.getD q 0) = hs' := ⟨_, rfl⟩
  rw [hhs'] at S hl'
  rw [show (if z2.getD q 0 < 0 ∨ a1 ≤ z2.getD q 0 then (1 : Int) else 0) = addE a1 (z2.getD q 0) from rfl]
  obtain ⟨er, her⟩ : ∃ er, addE a1 (z2.getD q 0) = er := ⟨_, rfl⟩
  rw [her]
  have hll' : l'.length ≤ 32 := by rw [hl']; exact allI_len _ _
  refine ⟨_, rfl, ?_⟩
  all_goals try refine nilL ?_
  all_goals refine ⟨S.sub, ?_⟩
  all_goals refine any_more (L' := [docR by' ay cy a0 a1 l, docR bd ae ce a0 a1 l', roR (slL a2 cap2 1 encI 0 z2)]) (fun w h => h.sub) ?_
  all_goals (have S1 := S; replace S : Sat _ _ _ [docR by' ay cy a0 a1 l, docR bd ae ce a0 a1 l', roR (slL a2 cap2 1 encI 0 z2)] := S1.sub)
  all_goals (refine any_pure (i := 12) rfl (by kernel_rfl) S ?_; (refine neq_x rfl rfl rfl ?_ ?_ <;> intro hcmp <;> try (exfalso; omega)))
  all_goals (refine any_pure (i := 13) rfl (by kernel_rfl) S ?_; refine move_b_x rfl rfl ?_)
  all_goals (refine any_pure (i := 14) rfl (by kernel_rfl) S ?_; first | (refine onX rfl rfl ?_; (first | refine move_p_x rfl rfl ?_ | refine move_e_x rfl rfl ?_ | refine move_o_x rfl rfl ?_)) | first | refine offX rfl rfl rfl rfl ?_ | refine offXU rfl rfl rfl ?_)
  all_goals (refine any_pure (i := 16) rfl (by kernel_rfl) S ?_; first | (refine onX rfl rfl ?_; (first | refine move_p_x rfl rfl ?_ | refine move_e_x rfl rfl ?_ | refine move_o_x rfl rfl ?_)) | first | refine offX rfl rfl rfl rfl ?_ | refine offXU rfl rfl rfl ?_)
  all_goals (refine any_pure (i := 17) rfl (by kernel_rfl) S ?_; first | (refine onX rfl rfl ?_; (first | refine nilCheck_x rfl rfl ?_ | refine nilCheckE_x rfl (by omega) rfl ?_)) | first | refine offX rfl rfl rfl rfl ?_ | refine offXU rfl rfl rfl ?_)
  all_goals (refine any_pure (i := 18) rfl (by kernel_rfl) S ?_; first | (refine onX rfl rfl ?_; (first | refine fieldAddr_x rfl rfl rfl ?_ | refine fieldAddrE_x rfl (by omega) rfl rfl ?_)) | first | refine offX rfl rfl rfl rfl ?_ | refine offXU rfl rfl rfl ?_)
  all_goals (refine any_pure (i := 19) rfl (by kernel_rfl) S ?_; first | (refine onX rfl rfl ?_; (first | refine load_i_x rfl rfl rfl rfl ?_ | refine load_o_x rfl rfl rfl rfl ?_ | refine loadE_i_x rfl (by omega) rfl rfl rfl ?_ | refine loadE_o_x rfl (by omega) rfl rfl rfl ?_)) | first | refine offX rfl rfl rfl rfl ?_ | refine offXU rfl rfl rfl ?_)
  all_goals refine any_step (i := 15) rfl (by kernel_rfl) ?_
  all_goals first | refine onL rfl rfl ?_ | (first | (refine offL rfl rfl rfl rfl ?_; refine nilL ?_) | (refine offLU rfl rfl rfl ?_; refine nilL ?_) | (refine offL0 rfl rfl rfl ?_; refine nilL ?_); refine ⟨S.sub, ?_⟩)
  all_goals replace S := S1
  have hd : ∀ x, decide (x ∈ l') = hasB a1 hs' x := fun x => by subst hl'; exact has_dec hst hs' x
  (refine callL (rv_e (S.all (setR bs a0 a1 hs') (by simp))) rfl rfl ?_; rintro e w ⟨rfl, hb⟩; replace S := S.below hb; clear hb; refine ⟨_, rfl, ?_⟩)
  all_goals try refine nilL ?_
  all_goals refine ⟨S.sub, ?_⟩
  all_goals (have S1 := S; replace S : Sat _ _ _ [docR by' ay cy a0 a1 l, docR bd ae ce a0 a1 l', roR (slL a2 cap2 1 encI 0 z2)] := S1.sub)
  all_goals (refine any_pure (i := 20) rfl (by kernel_rfl) S ?_; first | (refine onX rfl rfl ?_; (refine neq_x rfl rfl rfl ?_ ?_ <;> intro hcmp <;> try (exfalso; omega))) | first | refine offX rfl rfl rfl rfl ?_ | refine offXU rfl rfl rfl ?_)
  all_goals (refine any_pure (i := 21) rfl (by kernel_rfl) S ?_; (first | refine pick_tb_x rfl rfl rfl ?_ | refine pick_fb_x rfl rfl rfl ?_))
  all_goals (refine any_pure (i := 22) rfl (by kernel_rfl) S ?_; refine move_b_x rfl rfl ?_)
  all_goals (refine any_pure (i := 23) rfl (by kernel_rfl) S ?_; first | (refine onX rfl rfl ?_; (first | refine move_p_x rfl rfl ?_ | refine move_e_x rfl rfl ?_ | refine move_o_x rfl rfl ?_)) | first | refine offX rfl rfl rfl rfl ?_ | refine offXU rfl rfl rfl ?_)
  all_goals (refine any_pure (i := 25) rfl (by kernel_rfl) S ?_; first | (refine onX rfl rfl ?_; (first | refine move_p_x rfl rfl ?_ | refine move_e_x rfl rfl ?_ | refine move_o_x rfl rfl ?_)) | first | refine offX rfl rfl rfl rfl ?_ | refine offXU rfl rfl rfl ?_)
  all_goals (refine any_pure (i := 26) rfl (by kernel_rfl) S ?_; first | (refine onX rfl rfl ?_; (first | refine nilCheck_x rfl rfl ?_ | refine nilCheckE_x rfl (by omega) rfl ?_)) | first | refine offX rfl rfl rfl rfl ?_ | refine offXU rfl rfl rfl ?_)
  all_goals (refine any_pure (i := 27) rfl (by kernel_rfl) S ?_; first | (refine onX rfl rfl ?_; (first | refine fieldAddr_x rfl rfl rfl ?_ | refine fieldAddrE_x rfl (by omega) rfl rfl ?_)) | first | refine offX rfl rfl rfl rfl ?_ | refine offXU rfl rfl rfl ?_)
  all_goals (refine any_pure (i := 28) rfl (by kernel_rfl) S ?_; first | (refine onX rfl rfl ?_; (first | refine load_s_x rfl rfl rfl rfl ?_ | refine load_o_x rfl rfl rfl rfl ?_ | refine loadE_s_x rfl (by omega) rfl rfl rfl ?_ | refine loadE_o_x rfl (by omega) rfl rfl rfl ?_)) | first | refine offX rfl rfl rfl rfl ?_ | refine offXU rfl rfl rfl ?_)
  all_goals refine any_step (i := 24) rfl (by kernel_rfl) ?_
  all_goals first | refine onL rfl rfl ?_ | (first | (refine offL rfl rfl rfl rfl ?_; refine nilL ?_) | (refine offLU rfl rfl rfl ?_; refine nilL ?_) | (refine offL0 rfl rfl rfl ?_; refine nilL ?_); refine ⟨S.sub, ?_⟩)
  all_goals replace S := S1
  refine callL (all_e (S.all (setR bs a0 a1 hs') (by simp))) rfl rfl ?_
  rintro e w' ⟨_, rfl, ⟨ra, rc, rfl, hh, hf⟩, hb⟩
  replace S := Sat.freshRow S hb hh hf
  clear hb hh hf
  refine ⟨_, rfl, ?_⟩
  all_goals try refine nilL ?_
  all_goals refine ⟨S.sub, ?_⟩
  all_goals (have S1 := S; replace S : Sat _ _ _ [docR by' ay cy a0 a1 l, docR bd ae ce a0 a1 l', roR (slL a2 cap2 1 encI 0 z2)] := S1.sub)
  all_goals refine any_step (i := 29) rfl (by kernel_rfl) ?_
  all_goals first | refine onL rfl rfl ?_ | (first | (refine offL rfl rfl rfl rfl ?_; refine nilL ?_) | (refine offLU rfl rfl rfl ?_; refine nilL ?_) | (refine offL0 rfl rfl rfl ?_; refine nilL ?_); refine ⟨S.sub, ?_⟩)
  all_goals replace S := S1
  (refine callL (numbers_at _ _ _ _ (allI a1 hs') l' _ (RowOk.sl S.got1) (RowOk.sl (S.all (docR bd ae ce a0 a1 l') (by simp)).1.2)) rfl rfl ?_; rintro e w ⟨rfl, hb⟩; replace S := S.below hb; clear hb; refine ⟨_, rfl, ?_⟩)
  rw [decide_eq_true hl'.symm]
  all_goals try refine nilL ?_
  all_goals refine ⟨S.sub, ?_⟩
  all_goals (have S1 := S; replace S : Sat _ _ _ [docR by' ay cy a0 a1 l, docR bd ae ce a0 a1 l', roR (slL a2 cap2 1 encI 0 z2)] := S1.sub)
  all_goals (refine any_pure (i := 30) rfl (by kernel_rfl) S ?_; first | (refine onX rfl rfl ?_; refine not_x rfl rfl ?_) | first | refine offX rfl rfl rfl rfl ?_ | refine offXU rfl rfl rfl ?_)
  all_goals (refine any_pure (i := 31) rfl (by kernel_rfl) S ?_; (first | refine pick_tb_x rfl rfl rfl ?_ | refine pick_fb_x rfl rfl rfl ?_))
  all_goals (refine any_pure (i := 32) rfl (by kernel_rfl) S ?_; refine move_b_x rfl rfl ?_)
  all_goals (refine any_pure (i := 33) rfl (by kernel_rfl) S ?_; first | (refine onX rfl rfl ?_; (first | refine move_p_x rfl rfl ?_ | refine move_e_x rfl rfl ?_ | refine move_o_x rfl rfl ?_)) | first | refine offX rfl rfl rfl rfl ?_ | refine offXU rfl rfl rfl ?_)
  all_goals (refine any_pure (i := 35) rfl (by kernel_rfl) S ?_; first | (refine onX rfl rfl ?_; (first | refine move_p_x rfl rfl ?_ | refine move_e_x rfl rfl ?_ | refine move_o_x rfl rfl ?_)) | first | refine offX rfl rfl rfl rfl ?_ | refine offXU rfl rfl rfl ?_)
  all_goals (refine any_pure (i := 36) rfl (by kernel_rfl) S ?_; first | (refine onX rfl rfl ?_; (first | refine nilCheck_x rfl rfl ?_ | refine nilCheckE_x rfl (by omega) rfl ?_)) | first | refine offX rfl rfl rfl rfl ?_ | refine offXU rfl rfl rfl ?_)
  all_goals (refine any_pure (i := 37) rfl (by kernel_rfl) S ?_; first | (refine onX rfl rfl ?_; (first | refine fieldAddr_x rfl rfl rfl ?_ | refine fieldAddrE_x rfl (by omega) rfl rfl ?_)) | first | refine offX rfl rfl rfl rfl ?_ | refine offXU rfl rfl rfl ?_)
  all_goals (refine any_pure (i := 38) rfl (by kernel_rfl) S ?_; first | (refine onX rfl rfl ?_; (first | refine load_s_x rfl rfl rfl rfl ?_ | refine load_o_x rfl rfl rfl rfl ?_ | refine loadE_s_x rfl (by omega) rfl rfl rfl ?_ | refine loadE_o_x rfl (by omega) rfl rfl rfl ?_)) | first | refine offX rfl rfl rfl rfl ?_ | refine offXU rfl rfl rfl ?_)
  all_goals refine any_step (i := 34) rfl (by kernel_rfl) ?_
  all_goals first | refine onL rfl rfl ?_ | (first | (refine offL rfl rfl rfl rfl ?_; refine nilL ?_) | (refine offLU rfl rfl rfl ?_; refine nilL ?_) | (refine offL0 rfl rfl rfl ?_; refine nilL ?_); refine ⟨S.sub, ?_⟩)
  all_goals replace S := S1
  refine callL (all_e (S.all (setR bx a0 a1 hs) (by simp))) rfl rfl ?_
  rintro e w' ⟨_, rfl, ⟨ua, uc, rfl, hh, hf⟩, hb⟩
  replace S := Sat.freshRow S hb hh hf
  clear hb hh hf
  refine ⟨_, rfl, ?_⟩
  all_goals try refine nilL ?_
  all_goals refine ⟨S.sub, ?_⟩
  all_goals (have S1 := S; replace S : Sat _ _ _ [docR by' ay cy a0 a1 l, docR bd ae ce a0 a1 l', roR (slL a2 cap2 1 encI 0 z2)] := S1.sub)
  all_goals refine any_step (i := 39) rfl (by kernel_rfl) ?_
  all_goals first | refine onL rfl rfl ?_ | (first | (refine offL rfl rfl rfl rfl ?_; refine nilL ?_) | (refine offLU rfl rfl rfl ?_; refine nilL ?_) | (refine offL0 rfl rfl rfl ?_; refine nilL ?_); refine ⟨S.sub, ?_⟩)
  all_goals replace S := S1
  (refine callL (numbers_at _ _ _ _ (allI a1 hs) l _ (RowOk.sl S.got1) (RowOk.sl (S.all (docR by' ay cy a0 a1 l) (by simp)).1.2)) rfl rfl ?_; rintro e w ⟨rfl, hb⟩; replace S := S.below hb; clear hb; refine ⟨_, rfl, ?_⟩)
  rw [decide_eq_true hl]
  all_goals try refine nilL ?_
  all_goals refine ⟨S.sub, ?_⟩
  all_goals (have S1 := S; replace S : Sat _ _ _ [docR by' ay cy a0 a1 l, docR bd ae ce a0 a1 l', roR (slL a2 cap2 1 encI 0 z2)] := S1.sub)
  all_goals (refine any_pure (i := 40) rfl (by kernel_rfl) S ?_; first | (refine onX rfl rfl ?_; refine not_x rfl rfl ?_) | first | refine offX rfl rfl rfl rfl ?_ | refine offXU rfl rfl rfl ?_)
  all_goals (refine any_pure (i := 41) rfl (by kernel_rfl) S ?_; (first | refine pick_tb_x rfl rfl rfl ?_ | refine pick_fb_x rfl rfl rfl ?_))
  all_goals (refine any_pure (i := 42) rfl (by kernel_rfl) S ?_; refine move_b_x rfl rfl ?_)
  all_goals (refine any_pure (i := 43) rfl (by kernel_rfl) S ?_; first | (refine onX rfl rfl ?_; (first | refine move_p_x rfl rfl ?_ | refine move_e_x rfl rfl ?_ | refine move_o_x rfl rfl ?_)) | first | refine offX rfl rfl rfl rfl ?_ | refine offXU rfl rfl rfl ?_)
  all_goals (refine any_pure (i := 44) rfl (by kernel_rfl) S ?_; first | (refine onX rfl rfl ?_; refine move_s_x rfl rfl ?_) | first | refine offX rfl rfl rfl rfl ?_ | refine offXU rfl rfl rfl ?_)
  all_goals (refine any_pure (i := 45) rfl (by kernel_rfl) S ?_; first | (refine onX rfl rfl ?_; refine move_i_x rfl rfl ?_) | first | refine offX rfl rfl rfl rfl ?_ | refine offXU rfl rfl rfl ?_)
  all_goals (refine any_pure (i := 46) rfl (by kernel_rfl) S ?_; first | (refine onX rfl rfl ?_; (first | refine indexAddr_x rfl rfl (idx_cast _) (by omega) rfl ?_ | refine indexAddr_x rfl rfl (idx_eq _) (by omega) rfl ?_)) | first | refine offX rfl rfl rfl rfl ?_ | refine offXU rfl rfl rfl ?_)
  all_goals (refine any_pure (i := 47) rfl (by kernel_rfl) S ?_; first | (refine onX rfl rfl ?_; (first | refine load_i_x rfl rfl rfl rfl ?_ | refine load_o_x rfl rfl rfl rfl ?_ | refine loadE_i_x rfl (by omega) rfl rfl rfl ?_ | refine loadE_o_x rfl (by omega) rfl rfl rfl ?_)) | first | refine offX rfl rfl rfl rfl ?_ | refine offXU rfl rfl rfl ?_)
  all_goals (refine any_pure (i := 49) rfl (by kernel_rfl) S ?_; first | (refine onX rfl rfl ?_; (first | refine move_p_x rfl rfl ?_ | refine move_e_x rfl rfl ?_ | refine move_o_x rfl rfl ?_)) | first | refine offX rfl rfl rfl rfl ?_ | refine offXU rfl rfl rfl ?_)
  all_goals (refine any_pure (i := 50) rfl (by kernel_rfl) S ?_; first | (refine onX rfl rfl ?_; refine move_s_x rfl rfl ?_) | first | refine offX rfl rfl rfl rfl ?_ | refine offXU rfl rfl rfl ?_)
  all_goals (refine any_pure (i := 51) rfl (by kernel_rfl) S ?_; first | (refine onX rfl rfl ?_; refine move_i_x rfl rfl ?_) | first | refine offX rfl rfl rfl rfl ?_ | refine offXU rfl rfl rfl ?_)
  all_goals (refine any_pure (i := 52) rfl (by kernel_rfl) S ?_; first | (refine onX rfl rfl ?_; (first | refine indexAddr_x rfl rfl (idx_cast _) (by omega) rfl ?_ | refine indexAddr_x rfl rfl (idx_eq _) (by omega) rfl ?_)) | first | refine offX rfl rfl rfl rfl ?_ | refine offXU rfl rfl rfl ?_)
  all_goals (refine any_pure (i := 53) rfl (by kernel_rfl) S ?_; first | (refine onX rfl rfl ?_; (first | refine load_i_x rfl rfl rfl rfl ?_ | refine load_o_x rfl rfl rfl rfl ?_ | refine loadE_i_x rfl (by omega) rfl rfl rfl ?_ | refine loadE_o_x rfl (by omega) rfl rfl rfl ?_)) | first | refine offX rfl rfl rfl rfl ?_ | refine offXU rfl rfl rfl ?_)
  all_goals refine any_step (i := 48) rfl (by kernel_rfl) ?_
  all_goals first | refine onL rfl rfl ?_ | (first | (refine offL rfl rfl rfl rfl ?_; refine nilL ?_) | (refine offLU rfl rfl rfl ?_; refine nilL ?_) | (refine offL0 rfl rfl rfl ?_; refine nilL ?_); refine ⟨S.sub, ?_⟩)
  all_goals replace S := S1
  obtain ⟨r1, hr1⟩ : ∃ r, hasB a1 hs' (z2.getD q 0) = r := ⟨_, rfl⟩
  obtain ⟨r2, hr2⟩ : ∃ r, hasB a1 hs' (IntKind.i64.wrap (z2.getD q 0 + 1)) = r := ⟨_, rfl⟩
  (refine callL (has_e (S.all (setR bs a0 a1 hs') (by simp)) (z2.getD q 0)) rfl rfl ?_; rintro e w ⟨rfl, hb⟩; replace S := S.below hb; clear hb; refine ⟨_, rfl, ?_⟩)
  rw [hr1]
  all_goals try refine nilL ?_
  all_goals refine ⟨S.sub, ?_⟩
  all_goals (have S1 := S; replace S : Sat _ _ _ [docR by' ay cy a0 a1 l, docR bd ae ce a0 a1 l', roR (slL a2 cap2 1 encI 0 z2)] := S1.sub)
  all_goals refine any_step (i := 54) rfl (by kernel_rfl) ?_
  all_goals first | refine onL rfl rfl ?_ | (first | (refine offL rfl rfl rfl rfl ?_; refine nilL ?_) | (refine offLU rfl rfl rfl ?_; refine nilL ?_) | (refine offL0 rfl rfl rfl ?_; refine nilL ?_); refine ⟨S.sub, ?_⟩)
  all_goals replace S := S1
  (refine callL (dhas_at (S.all (docR bd ae ce a0 a1 l') (by simp)) (z2.getD q 0)) rfl rfl ?_; rintro e w ⟨rfl, hb⟩; replace S := S.below hb; clear hb; refine ⟨_, rfl, ?_⟩)
  rw [hd, hr1]
  cases r1
  all_goals skip
  all_goals try refine nilL ?_
  all_goals refine ⟨S.sub, ?_⟩
  all_goals (have S1 := S; replace S : Sat _ _ _ [docR by' ay cy a0 a1 l, docR bd ae ce a0 a1 l', roR (slL a2 cap2 1 encI 0 z2)] := S1.sub)
  all_goals (refine any_pure (i := 55) rfl (by kernel_rfl) S ?_; first | (refine onX rfl rfl ?_; refine neqB_x rfl rfl rfl ?_) | first | refine offX rfl rfl rfl rfl ?_ | refine offXU rfl rfl rfl ?_)
  all_goals (refine any_pure (i := 56) rfl (by kernel_rfl) S ?_; (first | refine pick_tb_x rfl rfl rfl ?_ | refine pick_fb_x rfl rfl rfl ?_))
  all_goals (refine any_pure (i := 57) rfl (by kernel_rfl) S ?_; refine move_b_x rfl rfl ?_)
  all_goals (refine any_pure (i := 58) rfl (by kernel_rfl) S ?_; first | (refine onX rfl rfl ?_; (first | refine move_p_x rfl rfl ?_ | refine move_e_x rfl rfl ?_ | refine move_o_x rfl rfl ?_)) | first | refine offX rfl rfl rfl rfl ?_ | refine offXU rfl rfl rfl ?_)
  all_goals (refine any_pure (i := 59) rfl (by kernel_rfl) S ?_; first | (refine onX rfl rfl ?_; refine move_s_x rfl rfl ?_) | first | refine offX rfl rfl rfl rfl ?_ | refine offXU rfl rfl rfl ?_)
  all_goals (refine any_pure (i := 60) rfl (by kernel_rfl) S ?_; first | (refine onX rfl rfl ?_; refine move_i_x rfl rfl ?_) | first | refine offX rfl rfl rfl rfl ?_ | refine offXU rfl rfl rfl ?_)
  all_goals (refine any_pure (i := 61) rfl (by kernel_rfl) S ?_; first | (refine onX rfl rfl ?_; (first | refine indexAddr_x rfl rfl (idx_cast _) (by omega) rfl ?_ | refine indexAddr_x rfl rfl (idx_eq _) (by omega) rfl ?_)) | first | refine offX rfl rfl rfl rfl ?_ | refine offXU rfl rfl rfl ?_)
  all_goals (refine any_pure (i := 62) rfl (by kernel_rfl) S ?_; first | (refine onX rfl rfl ?_; (first | refine load_i_x rfl rfl rfl rfl ?_ | refine load_o_x rfl rfl rfl rfl ?_ | refine loadE_i_x rfl (by omega) rfl rfl rfl ?_ | refine loadE_o_x rfl (by omega) rfl rfl rfl ?_)) | first | refine offX rfl rfl rfl rfl ?_ | refine offXU rfl rfl rfl ?_)
  all_goals (refine any_pure (i := 63) rfl (by kernel_rfl) S ?_; first | (refine onX rfl rfl ?_; (first | refine add_x rfl rfl (wrap_in (by omega)) rfl ?_ | refine add_x rfl rfl rfl rfl ?_)) | first | refine offX rfl rfl rfl rfl ?_ | refine offXU rfl rfl rfl ?_)
  all_goals (refine any_pure (i := 65) rfl (by kernel_rfl) S ?_; first | (refine onX rfl rfl ?_; (first | refine move_p_x rfl rfl ?_ | refine move_e_x rfl rfl ?_ | refine move_o_x rfl rfl ?_)) | first | refine offX rfl rfl rfl rfl ?_ | refine offXU rfl rfl rfl ?_)
  all_goals (refine any_pure (i := 66) rfl (by kernel_rfl) S ?_; first | (refine onX rfl rfl ?_; refine move_s_x rfl rfl ?_) | first | refine offX rfl rfl rfl rfl ?_ | refine offXU rfl rfl rfl ?_)
  all_goals (refine any_pure (i := 67) rfl (by kernel_rfl) S ?_; first | (refine onX rfl rfl ?_; refine move_i_x rfl rfl ?_) | first | refine offX rfl rfl rfl rfl ?_ | refine offXU rfl rfl rfl ?_)
  all_goals (refine any_pure (i := 68) rfl (by kernel_rfl) S ?_; first | (refine onX rfl rfl ?_; (first | refine indexAddr_x rfl rfl (idx_cast _) (by omega) rfl ?_ | refine indexAddr_x rfl rfl (idx_eq _) (by omega) rfl ?_)) | first | refine offX rfl rfl rfl rfl ?_ | refine offXU rfl rfl rfl ?_)
  all_goals (refine any_pure (i := 69) rfl (by kernel_rfl) S ?_; first | (refine onX rfl rfl ?_; (first | refine load_i_x rfl rfl rfl rfl ?_ | refine load_o_x rfl rfl rfl rfl ?_ | refine loadE_i_x rfl (by omega) rfl rfl rfl ?_ | refine loadE_o_x rfl (by omega) rfl rfl rfl ?_)) | first | refine offX rfl rfl rfl rfl ?_ | refine offXU rfl rfl rfl ?_)
  all_goals (refine any_pure (i := 70) rfl (by kernel_rfl) S ?_; first | (refine onX rfl rfl ?_; (first | refine add_x rfl rfl (wrap_in (by omega)) rfl ?_ | refine add_x rfl rfl rfl rfl ?_)) | first | refine offX rfl rfl rfl rfl ?_ | refine offXU rfl rfl rfl ?_)
  all_goals refine any_step (i := 64) rfl (by kernel_rfl) ?_
  all_goals first | refine onL rfl rfl ?_ | (first | (refine offL rfl rfl rfl rfl ?_; refine nilL ?_) | (refine offLU rfl rfl rfl ?_; refine nilL ?_) | (refine offL0 rfl rfl rfl ?_; refine nilL ?_); refine ⟨S.sub, ?_⟩)
  all_goals replace S := S1
  all_goals
    (refine callL (has_e (S.all (setR bs a0 a1 hs') (by simp)) (IntKind.i64.wrap (z2.getD q 0 + 1))) rfl rfl ?_; rintro e w ⟨rfl, hb⟩; replace S := S.below hb; clear hb; refine ⟨_, rfl, ?_⟩)
    rw [hr2]
  all_goals try refine nilL ?_
  all_goals refine ⟨S.sub, ?_⟩
  all_goals (have S1 := S; replace S : Sat _ _ _ [docR by' ay cy a0 a1 l, docR bd ae ce a0 a1 l', roR (slL a2 cap2 1 encI 0 z2)] := S1.sub)
  all_goals refine any_step (i := 71) rfl (by kernel_rfl) ?_
  all_goals first | refine onL rfl rfl ?_ | (first | (refine offL rfl rfl rfl rfl ?_; refine nilL ?_) | (refine offLU rfl rfl rfl ?_; refine nilL ?_) | (refine offL0 rfl rfl rfl ?_; refine nilL ?_); refine ⟨S.sub, ?_⟩)
  all_goals replace S := S1
  all_goals
    (refine callL (dhas_at (S.all (docR bd ae ce a0 a1 l') (by simp)) (IntKind.i64.wrap (z2.getD q 0 + 1))) rfl rfl ?_; rintro e w ⟨rfl, hb⟩; replace S := S.below hb; clear hb; refine ⟨_, rfl, ?_⟩)
    rw [hd, hr2]
    cases r2
  all_goals try refine nilL ?_
  all_goals refine ⟨S.sub, ?_⟩
  all_goals (have S1 := S; replace S : Sat _ _ _ [docR by' ay cy a0 a1 l, docR bd ae ce a0 a1 l', roR (slL a2 cap2 1 encI 0 z2)] := S1.sub)
  all_goals (refine any_pure (i := 72) rfl (by kernel_rfl) S ?_; first | (refine onX rfl rfl ?_; refine neqB_x rfl rfl rfl ?_) | first | refine offX rfl rfl rfl rfl ?_ | refine offXU rfl rfl rfl ?_)
  all_goals (refine any_pure (i := 73) rfl (by kernel_rfl) S ?_; (first | refine pick_tb_x rfl rfl rfl ?_ | refine pick_fb_x rfl rfl rfl ?_))
  all_goals refine any_end (by kernel_rfl) ?_
  all_goals
    replace S := S1.sub (L' := [docR bd ae ce a0 a1 l', setR bs a0 a1 hs', roR (slL a2 cap2 1 encI 0 z2)])
    repeat' (first | refine move_i_l S rfl rfl ?_ | refine assign_b_l S rfl rfl ?_ | refine assign_i_l S rfl rfl ?_ | refine nilL ?_ | refine run_seq ?_ | refine run_skip ?_ | refine run_region ?_ | refine onL rfl rfl ?_ | refine offL rfl rfl rfl rfl ?_ | refine offL0 rfl rfl rfl ?_ | refine offLU rfl rfl rfl ?_ | refine move_s_l S rfl rfl ?_ | refine assign_p_l S rfl rfl ?_ | refine assign_e_l S rfl rfl ?_ | refine move_p_l S rfl rfl ?_ | refine move_e_l S rfl rfl ?_ | refine len_l S rfl rfl ?_ | (refine neq_l S rfl rfl rfl ?_ ?_ <;> intro hcmp <;> try (exfalso; omega)) | refine extract_p_l S rfl rfl rfl ?_ | refine extract_e_l S rfl rfl rfl ?_ | refine extract_i_l S rfl rfl rfl ?_ | (refine lss_l S rfl rfl rfl ?_ ?_ <;> intro hcmp <;> try (exfalso; omega)) | refine add_l S rfl rfl (wrap_in (by omega)) rfl ?_ | refine add_l S rfl rfl rfl rfl ?_ | (refine gtr_l S rfl rfl rfl ?_ ?_ <;> intro hcmp <;> try (exfalso; omega)) | refine move_b_l S rfl rfl ?_ | refine eqlP_l S rfl rfl rfl ?_ | refine eqlE_l S rfl rfl (by omega) rfl ?_ | refine neqB_l S rfl rfl rfl ?_ | refine pick_tb_l S rfl rfl rfl ?_ | refine pick_fb_l S rfl rfl rfl ?_ | refine assign_s_l S rfl rfl ?_ | refine indexAddr_l S rfl rfl (idx_cast _) (by omega) rfl ?_ | refine indexAddr_l S rfl rfl (idx_eq _) (by omega) rfl ?_ | (refine store_i S rfl rfl rfl ?_; clear S; intro w S) | (refine storeE_i S rfl rfl (by omega) rfl ?_; clear S; intro w S) | refine move_o_l S rfl rfl ?_ | refine assign_o_l S rfl rfl ?_ | refine extract_o_l S rfl rfl rfl ?_ | refine run_block ?_ | refine run_ret ?_ | refine run_exit ?_ | refine run_cond_true rfl ?_ | refine run_cond_false rfl ?_ | refine thenQ_n ?_ | refine thenQ_r ?_ | refine thenQ_e ?_ | refine blockQ_n ?_ | refine blockQ_r ?_ | refine blockQ_s rfl ?_ | refine blockQ_o rfl ?_ | refine ret1_i rfl ?_ | refine ret1_b rfl ?_ | refine ret1_p rfl ?_ | refine ret1_s rfl ?_ | refine ret1_e rfl ?_ | refine ret1_a rfl ?_ | refine ret1_o rfl ?_ | refine ret1n_i rfl ?_ | refine ret1n_b rfl ?_ | refine ret1n_p rfl ?_ | refine ret1n_s rfl ?_ | refine ret1n_o rfl ?_)
    refine callL (all_e S.second) rfl rfl ?_
    rintro e w' ⟨_, rfl, ⟨va, vc, rfl, hh, hf⟩, hb⟩
    replace S := Sat.freshRow S hb hh hf
    clear hb hh hf
    refine ⟨_, rfl, ?_⟩
    have hN := allI_len a1 hs'
    repeat' (first | refine move_i_l S rfl rfl ?_ | refine assign_b_l S rfl rfl ?_ | refine assign_i_l S rfl rfl ?_ | refine nilL ?_ | refine run_seq ?_ | refine run_skip ?_ | refine run_region ?_ | refine onL rfl rfl ?_ | refine offL rfl rfl rfl rfl ?_ | refine offL0 rfl rfl rfl ?_ | refine offLU rfl rfl rfl ?_ | refine move_s_l S rfl rfl ?_ | refine assign_p_l S rfl rfl ?_ | refine assign_e_l S rfl rfl ?_ | refine move_p_l S rfl rfl ?_ | refine move_e_l S rfl rfl ?_ | refine len_l S rfl rfl ?_ | (refine neq_l S rfl rfl rfl ?_ ?_ <;> intro hcmp <;> try (exfalso; omega)) | refine extract_p_l S rfl rfl rfl ?_ | refine extract_e_l S rfl rfl rfl ?_ | refine extract_i_l S rfl rfl rfl ?_ | (refine lss_l S rfl rfl rfl ?_ ?_ <;> intro hcmp <;> try (exfalso; omega)) | refine add_l S rfl rfl (wrap_in (by omega)) rfl ?_ | refine add_l S rfl rfl rfl rfl ?_ | (refine gtr_l S rfl rfl rfl ?_ ?_ <;> intro hcmp <;> try (exfalso; omega)) | refine move_b_l S rfl rfl ?_ | refine eqlP_l S rfl rfl rfl ?_ | refine eqlE_l S rfl rfl (by omega) rfl ?_ | refine neqB_l S rfl rfl rfl ?_ | refine pick_tb_l S rfl rfl rfl ?_ | refine pick_fb_l S rfl rfl rfl ?_ | refine assign_s_l S rfl rfl ?_ | refine indexAddr_l S rfl rfl (idx_cast _) (by omega) rfl ?_ | refine indexAddr_l S rfl rfl (idx_eq _) (by omega) rfl ?_ | (refine store_i S rfl rfl rfl ?_; clear S; intro w S) | (refine storeE_i S rfl rfl (by omega) rfl ?_; clear S; intro w S) | refine move_o_l S rfl rfl ?_ | refine assign_o_l S rfl rfl ?_ | refine extract_o_l S rfl rfl rfl ?_ | refine run_block ?_ | refine run_ret ?_ | refine run_exit ?_ | refine run_cond_true rfl ?_ | refine run_cond_false rfl ?_ | refine thenQ_n ?_ | refine thenQ_r ?_ | refine thenQ_e ?_ | refine blockQ_n ?_ | refine blockQ_r ?_ | refine blockQ_s rfl ?_ | refine blockQ_o rfl ?_ | refine ret1_i rfl ?_ | refine ret1_b rfl ?_ | refine ret1_p rfl ?_ | refine ret1_s rfl ?_ | refine ret1_e rfl ?_ | refine ret1_a rfl ?_ | refine ret1_o rfl ?_ | refine ret1n_i rfl ?_ | refine ret1n_b rfl ?_ | refine ret1n_p rfl ?_ | refine ret1n_s rfl ?_ | refine ret1n_o rfl ?_)
    refine run_while [131, 132, 133, 134, 135, 136, 137, 138, 139] (fun (s : Nat × (Nat → Nat → Value)) t => upd t 15 (.int .i64 s.1)) (fun s w' => s.1 ≤ (allI a1 hs').length ∧ Sat (fun _ => False) w0 w' [row va (allI a1 hs').length vc 3 1 s.2, docR bd ae ce a0 a1 l', setR bs a0 a1 hs', roR (slL a2 cap2 1 encI 0 z2)]) (fun s => (allI a1 hs').length - s.1) (0, gL encI 0 (allI a1 hs')) ?_ ?_ ?_
    · (repeat (first | exact agree_refl | refine agree_r rfl ?_ | refine agree_l rfl ?_ | refine agree_hv rfl ?_))
    · exact ⟨Nat.zero_le _, S⟩
    clear S
    rintro ⟨k, g⟩ j3 w ⟨hk, S⟩
    simp only at hk S ⊢
    by_cases hkl : k < (allI a1 hs').length
    · repeat' (first | refine move_i_l S rfl rfl ?_ | refine assign_b_l S rfl rfl ?_ | refine assign_i_l S rfl rfl ?_ | refine nilL ?_ | refine run_seq ?_ | refine run_skip ?_ | refine run_region ?_ | refine onL rfl rfl ?_ | refine offL rfl rfl rfl rfl ?_ | refine offL0 rfl rfl rfl ?_ | refine offLU rfl rfl rfl ?_ | refine move_s_l S rfl rfl ?_ | refine assign_p_l S rfl rfl ?_ | refine assign_e_l S rfl rfl ?_ | refine move_p_l S rfl rfl ?_ | refine move_e_l S rfl rfl ?_ | refine len_l S rfl rfl ?_ | (refine neq_l S rfl rfl rfl ?_ ?_ <;> intro hcmp <;> try (exfalso; omega)) | refine extract_p_l S rfl rfl rfl ?_ | refine extract_e_l S rfl rfl rfl ?_ | refine extract_i_l S rfl rfl rfl ?_ | (refine lss_l S rfl rfl rfl ?_ ?_ <;> intro hcmp <;> try (exfalso; omega)) | refine add_l S rfl rfl (wrap_in (by omega)) rfl ?_ | refine add_l S rfl rfl rfl rfl ?_ | (refine gtr_l S rfl rfl rfl ?_ ?_ <;> intro hcmp <;> try (exfalso; omega)) | refine move_b_l S rfl rfl ?_ | refine eqlP_l S rfl rfl rfl ?_ | refine eqlE_l S rfl rfl (by omega) rfl ?_ | refine neqB_l S rfl rfl rfl ?_ | refine pick_tb_l S rfl rfl rfl ?_ | refine pick_fb_l S rfl rfl rfl ?_ | refine assign_s_l S rfl rfl ?_ | refine indexAddr_l S rfl rfl (idx_cast _) (by omega) rfl ?_ | refine indexAddr_l S rfl rfl (idx_eq _) (by omega) rfl ?_ | (refine store_i S rfl rfl rfl ?_; clear S; intro w S) | (refine storeE_i S rfl rfl (by omega) rfl ?_; clear S; intro w S) | refine move_o_l S rfl rfl ?_ | refine assign_o_l S rfl rfl ?_ | refine extract_o_l S rfl rfl rfl ?_ | refine run_block ?_ | refine run_ret ?_ | refine run_exit ?_ | refine run_cond_true rfl ?_ | refine run_cond_false rfl ?_ | refine thenQ_n ?_ | refine thenQ_r ?_ | refine thenQ_e ?_ | refine blockQ_n ?_ | refine blockQ_r ?_ | refine blockQ_s rfl ?_ | refine blockQ_o rfl ?_ | refine ret1_i rfl ?_ | refine ret1_b rfl ?_ | refine ret1_p rfl ?_ | refine ret1_s rfl ?_ | refine ret1_e rfl ?_ | refine ret1_a rfl ?_ | refine ret1_o rfl ?_ | refine ret1n_i rfl ?_ | refine ret1n_b rfl ?_ | refine ret1n_p rfl ?_ | refine ret1n_s rfl ?_ | refine ret1n_o rfl ?_)
      refine ⟨(k + 1, _), ?_, ⟨by simp only; omega, S⟩, by simp only; omega⟩
      simp only
      rw [Int.natCast_add]
      (repeat (first | exact agree_refl | refine agree_r rfl ?_ | refine agree_l rfl ?_ | refine agree_hv rfl ?_))
    · repeat' (first | refine move_i_l S rfl rfl ?_ | refine assign_b_l S rfl rfl ?_ | refine assign_i_l S rfl rfl ?_ | refine nilL ?_ | refine run_seq ?_ | refine run_skip ?_ | refine run_region ?_ | refine onL rfl rfl ?_ | refine offL rfl rfl rfl rfl ?_ | refine offL0 rfl rfl rfl ?_ | refine offLU rfl rfl rfl ?_ | refine move_s_l S rfl rfl ?_ | refine assign_p_l S rfl rfl ?_ | refine assign_e_l S rfl rfl ?_ | refine move_p_l S rfl rfl ?_ | refine move_e_l S rfl rfl ?_ | refine len_l S rfl rfl ?_ | (refine neq_l S rfl rfl rfl ?_ ?_ <;> intro hcmp <;> try (exfalso; omega)) | refine extract_p_l S rfl rfl rfl ?_ | refine extract_e_l S rfl rfl rfl ?_ | refine extract_i_l S rfl rfl rfl ?_ | (refine lss_l S rfl rfl rfl ?_ ?_ <;> intro hcmp <;> try (exfalso; omega)) | refine add_l S rfl rfl (wrap_in (by omega)) rfl ?_ | refine add_l S rfl rfl rfl rfl ?_ | (refine gtr_l S rfl rfl rfl ?_ ?_ <;> intro hcmp <;> try (exfalso; omega)) | refine move_b_l S rfl rfl ?_ | refine eqlP_l S rfl rfl rfl ?_ | refine eqlE_l S rfl rfl (by omega) rfl ?_ | refine neqB_l S rfl rfl rfl ?_ | refine pick_tb_l S rfl rfl rfl ?_ | refine pick_fb_l S rfl rfl rfl ?_ | refine assign_s_l S rfl rfl ?_ | refine indexAddr_l S rfl rfl (idx_cast _) (by omega) rfl ?_ | refine indexAddr_l S rfl rfl (idx_eq _) (by omega) rfl ?_ | (refine store_i S rfl rfl rfl ?_; clear S; intro w S) | (refine storeE_i S rfl rfl (by omega) rfl ?_; clear S; intro w S) | refine move_o_l S rfl rfl ?_ | refine assign_o_l S rfl rfl ?_ | refine extract_o_l S rfl rfl rfl ?_ | refine run_block ?_ | refine run_ret ?_ | refine run_exit ?_ | refine run_cond_true rfl ?_ | refine run_cond_false rfl ?_ | refine thenQ_n ?_ | refine thenQ_r ?_ | refine thenQ_e ?_ | refine blockQ_n ?_ | refine blockQ_r ?_ | refine blockQ_s rfl ?_ | refine blockQ_o rfl ?_ | refine ret1_i rfl ?_ | refine ret1_b rfl ?_ | refine ret1_p rfl ?_ | refine ret1_s rfl ?_ | refine ret1_e rfl ?_ | refine ret1_a rfl ?_ | refine ret1_o rfl ?_ | refine ret1n_i rfl ?_ | refine ret1n_b rfl ?_ | refine ret1n_p rfl ?_ | refine ret1n_s rfl ?_ | refine ret1n_o rfl ?_)
      refine ⟨(q + 1, hs', ae, ce), ?_, ⟨by simp only; omega, by simp only; rw [← hl']; exact S.sub⟩, by simp only; omega⟩
      simp only
      rw [Int.natCast_add]
      (repeat (first | exact agree_refl | refine agree_r rfl ?_ | refine agree_l rfl ?_ | refine agree_hv rfl ?_))
end Go.Proofs.Ytndaggdpeeecfaa
