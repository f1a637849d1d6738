/- readset: sorted lists; copies of a set. -/
import Derived.Test.YtpiodhdbdlfnhaaGreatDoorRsLm
import Derived.Test.YtpiodhdbdlfnhaaGreatDoorCut
namespace Go.Proofs.YtpiodhdbdlfnhaaGreatDoor
open Go.RowKit Go.Lib
set_option linter.unusedVariables false
theorem sorted_ext : ∀ (l l' : List Int), l.Pairwise (· < ·) → l'.Pairwise (· < ·) → (∀ x, x ∈ l ↔ x ∈ l') → l = l'
  | [], [], _, _, _ => rfl
  | [], b :: _, _, _, h => absurd ((h b).2 (by simp)) (by simp)
  | a :: _, [], _, _, h => absurd ((h a).1 (by simp)) (by simp)
  | a :: l, b :: l', h1, h2, h => by
    rw [List.pairwise_cons] at h1 h2
    have hab : a = b := by
      have e1 := (h a).1 (by simp)
      have e2 := (h b).2 (by simp)
      rw [List.mem_cons] at e1 e2
      rcases e1 with e1 | e1
      · exact e1
      · rcases e2 with e2 | e2
        · exact e2.symm
        · have := h1.1 b e2
          have := h2.1 a e1
          omega
    subst hab
    congr 1
    refine sorted_ext l l' h1.2 h2.2 fun x => ⟨fun hx => ?_, fun hx => ?_⟩
    · have := (h x).1 (by simp [hx])
      rw [List.mem_cons] at this
      rcases this with e | e
      · have := h1.1 x hx; omega
      · exact e
    · have := (h x).2 (by simp [hx])
      rw [List.mem_cons] at this
      rcases this with e | e
      · have := h2.1 x hx; omega
      · exact e
theorem addS_has {st : Int} (h1 : 1 ≤ st ∧ st ≤ 32) {hs : List Bool} (hl : hs.length = 32) (m n : Int) : hasB st (addH st hs m) n = true ↔ (hasB st hs n = true ∨ (n = m ∧ 0 ≤ m ∧ m < st)) := by
  unfold addH
  by_cases c : m < 0 ∨ st ≤ m
  · rw [if_pos c]
    exact ⟨.inl, fun h => h.elim id (fun h => by omega)⟩
  · rw [if_neg c]
    unfold hasB
    by_cases e : n = m
    · subst e
      have h2 : (hs.set n.toNat true).getD n.toNat false = true := by
        rw [List.getD_eq_getElem?_getD, List.getElem?_set]; simp [show n.toNat < hs.length by omega]
      rw [h2, decide_eq_true (show 0 ≤ n by omega), decide_eq_true (show n < st by omega)]
      simp; omega
    · by_cases c2 : 0 ≤ n
      · have h2 : (hs.set m.toNat true).getD n.toNat false = hs.getD n.toNat false := by
          rw [List.getD_eq_getElem?_getD, List.getD_eq_getElem?_getD, List.getElem?_set, if_neg (by omega)]
        rw [h2]; exact ⟨.inl, fun h => h.elim id (fun h => absurd h.1 e)⟩
      · rw [decide_eq_false c2]; simp; omega
theorem mem_allI {st : Int} (h1 : 1 ≤ st ∧ st ≤ 32) (hs : List Bool) (x : Int) : x ∈ allI st hs ↔ hasB st hs x = true := by
  unfold allI upto
  rw [List.mem_map]
  constructor
  · rintro ⟨k, hk, rfl⟩
    rw [List.mem_filter] at hk
    exact hk.2
  · intro h
    have hb : 0 ≤ x ∧ x < st := by
      unfold hasB at h
      simp only [Bool.and_eq_true, decide_eq_true_eq] at h
      exact ⟨h.1, h.2.1⟩
    refine ⟨x.toNat, ?_, by omega⟩
    rw [List.mem_filter]
    refine ⟨by rw [List.mem_range]; omega, ?_⟩
    rw [show ((x.toNat : Nat) : Int) = x by omega]
    exact h
theorem allI_sorted (st : Int) (hs : List Bool) : (allI st hs).Pairwise (· < ·) := by
  unfold allI
  rw [List.pairwise_map]
  have : (upto st hs 32).Pairwise (· < ·) := List.Pairwise.filter _ List.pairwise_lt_range
  exact this.imp (fun h => by omega)
theorem addH_len2 (st : Int) (hs : List Bool) (m : Int) : (addH st hs m).length = hs.length := by unfold addH; split <;> simp
def setC (rv st : Int) (hs : List Bool) : Tm := fun i => (Value.int .i64 rv :: .int .i64 st :: hs.map .bool).getD i undef
theorem cellsL_list (l : List Value) (n : Nat) (h : l.length = n) : cellsL n (fun i => l.getD i undef) = l := by
  subst h
  apply List.ext_getElem?
  intro i
  unfold cellsL
  rw [List.getElem?_map]
  by_cases hi : i < l.length
  · rw [List.getElem?_range hi, List.getElem?_eq_getElem hi, Option.map_some, List.getD_eq_getElem?_getD, List.getElem?_eq_getElem hi]; rfl
  · rw [List.getElem?_eq_none (by simp; omega), List.getElem?_eq_none (by omega)]; rfl
instance set_B (L : List Res) (b : Nat) (rv st : Int) (hs : List Bool) : PickB (setR b rv st hs :: L) b 34 (setC rv st hs) 79 := ⟨fun w h => by
  have h0 : SetAt w b rv st hs := h (setR b rv st hs) (List.mem_cons_self ..)
  show w.heap[b]? = some (.cells (cellsL 34 (setC rv st hs)).toArray 79 (0, 0))
  have := h0.head
  unfold setCells at this
  have e : cellsL 34 (setC rv st hs) = Value.int .i64 rv :: .int .i64 st :: hs.map .bool := cellsL_list _ _ (by simp [h0.len])
  rw [e]; exact this⟩
theorem bools32 {hs : List Bool} (h : hs.length = 32) : ∃ h0 h1 h2 h3 h4 h5 h6 h7 h8 h9 h10 h11 h12 h13 h14 h15 h16 h17 h18 h19 h20 h21 h22 h23 h24 h25 h26 h27 h28 h29 h30 h31, hs = [h0, h1, h2, h3, h4, h5, h6, h7, h8, h9, h10, h11, h12, h13, h14, h15, h16, h17, h18, h19, h20, h21, h22, h23, h24, h25, h26, h27, h28, h29, h30, h31] := by
  match hs, h with
  | [h0, h1, h2, h3, h4, h5, h6, h7, h8, h9, h10, h11, h12, h13, h14, h15, h16, h17, h18, h19, h20, h21, h22, h23, h24, h25, h26, h27, h28, h29, h30, h31], _ => exact ⟨h0, h1, h2, h3, h4, h5, h6, h7, h8, h9, h10, h11, h12, h13, h14, h15, h16, h17, h18, h19, h20, h21, h22, h23, h24, h25, h26, h27, h28, h29, h30, h31, rfl⟩
set_option maxRecDepth 100000 in
set_option maxHeartbeats 4000000 in
theorem scopy_at {b : Nat} {rv st : Int} {hs : List Bool} {w0 : World} (h : (setR b rv st hs).holds w0) : Calls Tryz.prog 43 #[.pointer (some ⟨b, 0, none⟩)] w0 fun e w' => ∃ p, e = .returned p ∧ NewSet w0 w' rv st hs p ∧ Below w0.heap.size w0 w' := by
  have h0 : SetAt w0 b rv st hs := h
  obtain ⟨_, hlen, r0, r1, s0, s1⟩ := h0
  obtain ⟨h0, h1, h2, h3, h4, h5, h6, h7, h8, h9, h10, h11, h12, h13, h14, h15, h16, h17, h18, h19, h20, h21, h22, h23, h24, h25, h26, h27, h28, h29, h30, h31, rfl⟩ := bools32 hlen
  have S := Sat.reads h
  refine enter1 Tryz.func43 rfl Tryz.ntmps43 rfl Tryz.results43 ?_
  repeat' (first | refine assign_p_l S rfl rfl ?_ | refine assign_e_l S rfl rfl ?_ | refine move_p_l S rfl rfl ?_ | refine nilL ?_ | refine run_seq ?_ | refine run_skip ?_ | refine run_region ?_ | refine move_e_l S rfl rfl ?_ | refine eqlP_l S rfl rfl rfl ?_ | refine eqlE_l S rfl rfl (by omega) rfl ?_ | refine nilCheck_l S rfl rfl ?_ | refine nilCheckE_l S rfl (by first | omega | decide | (simp; done) | (simp; omega)) rfl ?_ | refine loadN_l S rfl rfl rfl ?_ | refine loadEN_l S rfl (by first | omega | decide | (simp; done) | (simp; omega)) rfl rfl ?_ | (refine alloc_l S rfl rfl ?_; clear S; intro b w S) | (refine allocZ_l S rfl rfl ?_; clear S; intro b w S) | (refine storeN_l S rfl rfl ⟨rfl, rfl⟩ rfl ?_; clear S; intro w S) | (refine storeEN_l S rfl rfl ⟨rfl, rfl⟩ (by omega) rfl rfl ?_; clear S; intro w S) | refine assign_o_l S rfl rfl ?_ | refine move_o_l S rfl rfl ?_ | refine run_block ?_ | refine run_ret ?_ | refine run_exit ?_ | refine run_cond_true rfl ?_ | refine run_cond_false rfl ?_ | refine thenQ_n ?_ | refine thenQ_r ?_ | refine thenQ_e ?_ | refine blockQ_n ?_ | refine blockQ_r ?_ | refine blockQ_s rfl ?_ | refine blockQ_o rfl ?_ | refine ret1_i rfl ?_ | refine ret1_b rfl ?_ | refine ret1_p rfl ?_ | refine ret1_s rfl ?_ | refine ret1_e rfl ?_ | refine ret1_a rfl ?_ | refine ret1_o rfl ?_ | refine ret1n_i rfl ?_ | refine ret1n_b rfl ?_ | refine ret1n_p rfl ?_ | refine ret1n_s rfl ?_ | refine ret1n_o rfl ?_)
  refine alloc_l S (m := 34) (c := setC 0 0 (List.replicate 32 false)) rfl rfl ?_
  clear S
  intro bb w S
  repeat' (first | refine assign_p_l S rfl rfl ?_ | refine assign_e_l S rfl rfl ?_ | refine move_p_l S rfl rfl ?_ | refine nilL ?_ | refine run_seq ?_ | refine run_skip ?_ | refine run_region ?_ | refine move_e_l S rfl rfl ?_ | refine eqlP_l S rfl rfl rfl ?_ | refine eqlE_l S rfl rfl (by omega) rfl ?_ | refine nilCheck_l S rfl rfl ?_ | refine nilCheckE_l S rfl (by first | omega | decide | (simp; done) | (simp; omega)) rfl ?_ | refine loadN_l S rfl rfl rfl ?_ | refine loadEN_l S rfl (by first | omega | decide | (simp; done) | (simp; omega)) rfl rfl ?_ | (refine alloc_l S rfl rfl ?_; clear S; intro b w S) | (refine allocZ_l S rfl rfl ?_; clear S; intro b w S) | (refine storeN_l S rfl rfl ⟨rfl, rfl⟩ rfl ?_; clear S; intro w S) | (refine storeEN_l S rfl rfl ⟨rfl, rfl⟩ (by omega) rfl rfl ?_; clear S; intro w S) | refine assign_o_l S rfl rfl ?_ | refine move_o_l S rfl rfl ?_ | refine run_block ?_ | refine run_ret ?_ | refine run_exit ?_ | refine run_cond_true rfl ?_ | refine run_cond_false rfl ?_ | refine thenQ_n ?_ | refine thenQ_r ?_ | refine thenQ_e ?_ | refine blockQ_n ?_ | refine blockQ_r ?_ | refine blockQ_s rfl ?_ | refine blockQ_o rfl ?_ | refine ret1_i rfl ?_ | refine ret1_b rfl ?_ | refine ret1_p rfl ?_ | refine ret1_s rfl ?_ | refine ret1_e rfl ?_ | refine ret1_a rfl ?_ | refine ret1_o rfl ?_ | refine ret1n_i rfl ?_ | refine ret1n_b rfl ?_ | refine ret1n_p rfl ?_ | refine ret1n_s rfl ?_ | refine ret1n_o rfl ?_)
  exact ⟨_, rfl, ⟨bb, rfl, ⟨S.got1, hlen, r0, r1, s0, s1⟩, Nat.le_of_not_lt fun hlt => S.own (blk bb 34 _ _) (List.mem_cons_self ..) rfl bb rfl hlt⟩, S.chg.below⟩
theorem snew_ok (rv st : Int) (hg : 0 ≤ rv ∧ rv ≤ 1099511627776 ∧ 1 ≤ st ∧ st ≤ 32) (w0 : World) :
    Calls Tryz.prog 8 #[.int .i64 rv, .int .i64 st] w0 fun e w' => ∃ p, e = .returned (.tuple #[p, .int .i64 0]) ∧ NewSet w0 w' rv st (List.replicate 32 false) p ∧ Below w0.heap.size w0 w' :=
  (rsnew_ok rv st hg.1 hg.2.1 hg.2.2.1 hg.2.2.2 w0).mono (by
    rintro e w' ⟨rfl, rfl⟩
    exact ⟨_, rfl, ⟨_, rfl, SetAt.new rv st hg.1 hg.2.1 hg.2.2.1 hg.2.2.2 w0, Nat.le_refl _⟩, (Below.refl _ w0).alloc (Nat.le_refl _) _⟩)
theorem snew_no (rv st : Int) (hg : ¬ (0 ≤ rv ∧ rv ≤ 1099511627776 ∧ 1 ≤ st ∧ st ≤ 32)) (w0 : World) :
    Calls Tryz.prog 8 #[.int .i64 rv, .int .i64 st] w0 fun e w' => e = .returned (.tuple #[.pointer none, .int .i64 1]) ∧ Below w0.heap.size w0 w' :=
  (rsnew_no rv st (by omega) w0).mono (by rintro e w' ⟨rfl, rfl⟩; exact ⟨rfl, Below.refl _ _⟩)
theorem allI_new (st : Int) : allI st (List.replicate 32 false) = [] := by
  unfold allI upto
  rw [List.map_eq_nil_iff, List.filter_eq_nil_iff]
  intro j _
  unfold hasB
  have : (List.replicate 32 false).getD (((j : Nat) : Int).toNat) false = false := by
    rw [List.getD_eq_getElem?_getD, List.getElem?_replicate]; split <;> rfl
  rw [this]; simp
theorem allI_len (st : Int) (hs : List Bool) : (allI st hs).length ≤ 32 := by unfold allI; rw [List.length_map]; exact upto_len _ _ _
end Go.Proofs.YtpiodhdbdlfnhaaGreatDoor
