/- slices.SortStableFunc of ints, its parts: the insertion sort. -/
import Derived.Test.YtciehimnhnbipaaStbA
namespace Go.Proofs.Ytciehimnhnbipaa
open Go.RowKit Go.Lib
set_option linter.unusedVariables false
set_option maxHeartbeats 4000000
/-- Sorted by a key. -/
abbrev SrtK (key : Int → Int) (l : List Int) : Prop := l.Pairwise fun x y => key x ≤ key y
/-- A function that compares by a key, where R holds. -/
def CmpOk (f : FuncId) (l2 : List Value) (R : Res) (key : Int → Int) (dom : Int → Prop) : Prop :=
  ∀ x y w, dom x → dom y → R.holds w → Calls Try.prog f ([] ++ [Value.int .i64 x, .int .i64 y] ++ l2).toArray w fun e w' => ∃ z, e = .returned (.int .i64 z) ∧ (z < 0 ↔ key x < key y) ∧ Below w.heap.size w w'
theorem getD_mid {P Q : List Int} {x : Int} {n : Nat} (h : n = P.length) : (P ++ x :: Q).getD n 0 = x := by
  subst h
  rw [List.getD_eq_getElem?_getD, List.getElem?_append_right (Nat.le_refl _)]
  simp
theorem swp_mid (P Q : List Int) (x y : Int) (n : Nat) (h : n = P.length) : swp (P ++ y :: x :: Q) (n + 1) n = P ++ x :: y :: Q := by
  subst h
  unfold swp
  rw [getD_mid rfl, show (P ++ y :: x :: Q) = (P ++ [y]) ++ x :: Q from by simp, getD_mid (by simp)]
  rw [show P.length + 1 = (P ++ [y]).length from by simp, List.set_append_right _ _ (Nat.le_refl _)]
  simp
section
variable {F : Nat → Prop} {w₀ w : World} {L : List Res} {a : Option Addr} {cap e : Nat} {R : Res} {key : Int → Int} {dom : Int → Prop} {f : FuncId} [FnOk Try.prog f] {l2 : List Value}
theorem insert_at (hc : CmpOk f l2 R key dom) {pre A post : List Int} (S : Sat F w₀ w (rowL a cap e 1 encI 0 (pre ++ A ++ post) :: R :: L)) (hd : ∀ x ∈ A, dom x) (hn : (pre ++ A ++ post).length ≤ 1000000) :
    Calls Try.prog 80 #[.slice a (pre ++ A ++ post).length cap, .int .i64 (pre.length : Nat), .int .i64 (pre.length + A.length : Nat), .func (.func f) #[] l2.toArray] w fun r w' => r = .returned (.tuple #[]) ∧
      ∃ C, C.Perm A ∧ SrtK key C ∧ Sat F w₀ w' (rowL a cap e 1 encI 0 (pre ++ C ++ post) :: R :: L) := by
  obtain ⟨N, hN⟩ : ∃ N, N = (pre ++ A ++ post).length := ⟨_, rfl⟩
  rw [← hN] at hn ⊢
  have hN2 : N = pre.length + A.length + post.length := by rw [hN]; simp; omega
  replace S : Sat F w₀ w (row a N cap e 1 (gL encI 0 (pre ++ A ++ post)) :: R :: L) := by rw [hN]; exact S
  refine enter0 Try.func80 rfl Try.ntmps80 rfl Try.results80 ?_
  repeat' (first | refine move_i_l S rfl rfl ?_ | refine assign_i_l S rfl rfl ?_ | refine add_l S rfl rfl (wrap_in (by omega)) rfl ?_ | refine nilL ?_ | refine run_seq ?_ | refine run_region ?_ | refine run_block ?_ | refine thenQ_n ?_)
  refine run_while [9, 12, 13, 14, 15, 16, 17, 18, 19, 20, 21, 22, 23, 24, 25, 26, 27, 28, 29, 30, 31, 32, 33, 34, 35, 36, 37, 38, 39, 40, 41, 42, 43, 44, 45, 46, 47, 48, 49, 50, 51, 52] (fun (q : Nat × List Int) t => upd t 8 (.int .i64 (pre.length + q.1 : Nat))) (fun q w' => (1 ≤ q.1 ∧ q.2.Perm (A.take q.1) ∧ SrtK key q.2) ∧ Sat F w₀ w' (row a N cap e 1 (gL encI 0 (pre ++ q.2 ++ A.drop q.1 ++ post)) :: R :: L)) (fun q => A.length - q.1) (1, A.take 1) ?_ ?_ ?_
  · rw [show ((pre.length + 1 : Nat) : Int) = (pre.length : Int) + 1 from by omega]
    (repeat (first | exact agree_refl | refine agree_r rfl ?_ | refine agree_l rfl ?_ | refine agree_hv rfl ?_))
  · refine ⟨⟨Nat.le_refl _, .refl _, ?_⟩, ?_⟩
    · show SrtK key (A.take 1)
      cases A with
      | nil => exact .nil
      | cons x A => exact List.pairwise_singleton ..
    · show Sat F w₀ w (row a N cap e 1 (gL encI 0 (pre ++ A.take 1 ++ A.drop 1 ++ post)) :: R :: L)
      rw [List.append_assoc pre, List.take_append_drop]
      exact S
  clear S
  rintro ⟨k, D⟩ j w ⟨⟨hk, hp, hs⟩, S⟩
  replace hk : 1 ≤ k := hk
  replace hp : D.Perm (A.take k) := hp
  replace hs : SrtK key D := hs
  replace S : Sat F w₀ w (row a N cap e 1 (gL encI 0 (pre ++ D ++ A.drop k ++ post)) :: R :: L) := S
  dsimp only
  by_cases hkl : k < A.length
  · have hDl : D.length = k := by rw [hp.length_eq, List.length_take]; omega
    obtain ⟨x, hx⟩ : ∃ x, A[k]? = some x := ⟨_, List.getElem?_eq_getElem hkl⟩
    have hdr : A.drop k = x :: A.drop (k + 1) := by
      rw [List.drop_eq_getElem_cons hkl]
      rw [List.getElem?_eq_getElem hkl] at hx
      rw [Option.some.inj hx]
    have hdx : dom x := hd x (List.mem_of_getElem? hx)
    have hDd : ∀ y ∈ D, dom y := fun y hy => hd y (List.mem_of_mem_take (hp.mem_iff.1 hy))
    repeat' (first | refine move_i_l S rfl rfl ?_ | refine assign_i_l S rfl rfl ?_ | refine nilL ?_ | refine run_seq ?_ | refine run_skip ?_ | refine run_region ?_ | (refine lss_l S rfl rfl rfl ?_ ?_ <;> intro hcmp <;> try (exfalso; first | omega | exact hcmp (by decide) | exact absurd hcmp (by decide))) | refine run_block ?_ | refine run_cond_true rfl ?_ | refine thenQ_n ?_)
    refine run_while [18, 19, 20, 21, 22, 23, 24, 25, 26, 27, 28, 29, 30, 31, 32, 33, 34, 35, 36, 37, 38, 39, 40, 41, 42, 43, 44, 45, 46, 47, 48, 49, 50, 51, 52] (fun (q : List Int × List Int) t => upd t 9 (.int .i64 (pre.length + q.1.length : Nat))) (fun q w' => (q.1 ++ q.2 = D ∧ ∀ y ∈ q.2, key x < key y) ∧ Sat F w₀ w' (row a N cap e 1 (gL encI 0 (pre ++ q.1 ++ x :: (q.2 ++ (A.drop (k + 1) ++ post)))) :: R :: L)) (fun q => q.1.length) (D, []) ?_ ?_ ?_
    · rw [hDl]
      (repeat (first | exact agree_refl | refine agree_r rfl ?_ | refine agree_l rfl ?_ | refine agree_hv rfl ?_))
    · refine ⟨⟨by simp, by simp⟩, ?_⟩
      rw [hdr] at S
      simpa using S
    clear S
    rintro ⟨D1, D2⟩ j2 w ⟨⟨hD, hgt⟩, S⟩
    replace hD : D1 ++ D2 = D := hD
    replace hgt : ∀ y ∈ D2, key x < key y := hgt
    replace S : Sat F w₀ w (row a N cap e 1 (gL encI 0 (pre ++ D1 ++ x :: (D2 ++ (A.drop (k + 1) ++ post)))) :: R :: L) := S
    dsimp only
    have hll : D1.length + D2.length = k := by rw [← hDl, ← hD, List.length_append]
    have hperm : (D1 ++ x :: D2).Perm (A.take (k + 1)) := by
      rw [List.take_add_one, hx]
      refine (List.perm_middle).trans ?_
      rw [hD]
      exact (List.Perm.cons x hp).trans (List.perm_append_comm (l₁ := [x]) (l₂ := A.take k))
    have hS2 : ∀ w, Sat F w₀ w (row a N cap e 1 (gL encI 0 (pre ++ D1 ++ x :: (D2 ++ (A.drop (k + 1) ++ post)))) :: R :: L) → Sat F w₀ w (row a N cap e 1 (gL encI 0 (pre ++ (D1 ++ x :: D2) ++ A.drop (k + 1) ++ post)) :: R :: L) := fun w S => by simpa using S
    rcases List.eq_nil_or_concat D1 with rfl | ⟨D3, y, rfl⟩
    · have hnil : ([] : List Int).length = 0 := rfl
      have hsrt : SrtK key ([] ++ x :: D2) := by
        refine List.pairwise_cons.2 ⟨fun y hy => by have := hgt y hy; omega, ?_⟩
        rw [List.nil_append] at hD
        rw [hD]
        exact hs
      repeat' (first | refine run_seq ?_)
      refine run_any S (L' := [row a N cap e 1 (gL encI 0 (pre ++ [] ++ x :: (D2 ++ (A.drop (k + 1) ++ post))))]) (f := 17) mixed rfl ?_
      clear S
      intro w S1
      have S : Sat _ _ w [row a N cap e 1 (gL encI 0 (pre ++ [] ++ x :: (D2 ++ (A.drop (k + 1) ++ post))))] := S1.sub
      all_goals (refine any_pure (i := 0) rfl (by kernel_rfl) S ?_; refine move_i_x rfl rfl ?_)
      all_goals (refine any_pure (i := 1) rfl (by kernel_rfl) S ?_; refine move_i_x rfl rfl ?_)
      all_goals (refine any_pure (i := 2) rfl (by kernel_rfl) S ?_; (refine gtr_x rfl rfl rfl ?_ ?_ <;> intro hcmp <;> try (exfalso; first | omega | exact hcmp (by decide) | exact absurd hcmp (by decide))))
      all_goals (refine any_pure (i := 3) rfl (by kernel_rfl) S ?_; refine move_b_x rfl rfl ?_)
      all_goals (refine any_pure (i := 4) rfl (by kernel_rfl) S ?_; first | (refine onX rfl rfl ?_; refine move_o_x rfl rfl ?_) | first | refine offX rfl rfl rfl rfl ?_ | refine offXU rfl rfl rfl ?_)
      all_goals (refine any_pure (i := 5) rfl (by kernel_rfl) S ?_; first | (refine onX rfl rfl ?_; refine move_s_x rfl rfl ?_) | first | refine offX rfl rfl rfl rfl ?_ | refine offXU rfl rfl rfl ?_)
      all_goals (refine any_pure (i := 6) rfl (by kernel_rfl) S ?_; first | (refine onX rfl rfl ?_; refine move_i_x rfl rfl ?_) | first | refine offX rfl rfl rfl rfl ?_ | refine offXU rfl rfl rfl ?_)
      all_goals (refine any_pure (i := 7) rfl (by kernel_rfl) S ?_; first | (refine onX rfl rfl ?_; (first | refine indexAddr_x rfl rfl (idx_cast _) (by first | omega | decide | (simp; done) | (simp; omega)) rfl ?_ | refine indexAddr_x rfl rfl (idx_eq _) (by first | omega | decide | (simp; done) | (simp; omega)) rfl ?_)) | first | refine offX rfl rfl rfl rfl ?_ | refine offXU rfl rfl rfl ?_)
      all_goals (refine any_pure (i := 8) rfl (by kernel_rfl) S ?_; first | (refine onX rfl rfl ?_; (first | refine load_i_x rfl rfl rfl rfl ?_ | refine load_o_x rfl rfl rfl rfl ?_ | refine loadE_i_x rfl (by first | omega | decide | (simp; done) | (simp; omega)) rfl rfl rfl ?_ | refine loadE_o_x rfl (by first | omega | decide | (simp; done) | (simp; omega)) rfl rfl rfl ?_)) | first | refine offX rfl rfl rfl rfl ?_ | refine offXU rfl rfl rfl ?_)
      all_goals (refine any_pure (i := 9) rfl (by kernel_rfl) S ?_; first | (refine onX rfl rfl ?_; refine move_s_x rfl rfl ?_) | first | refine offX rfl rfl rfl rfl ?_ | refine offXU rfl rfl rfl ?_)
      all_goals (refine any_pure (i := 10) rfl (by kernel_rfl) S ?_; first | (refine onX rfl rfl ?_; refine move_i_x rfl rfl ?_) | first | refine offX rfl rfl rfl rfl ?_ | refine offXU rfl rfl rfl ?_)
      all_goals (refine any_pure (i := 11) rfl (by kernel_rfl) S ?_; first | (refine onX rfl rfl ?_; (first | refine sub_x rfl rfl (wrap_in (by omega)) rfl ?_ | refine sub_x rfl rfl rfl rfl ?_)) | first | refine offX rfl rfl rfl rfl ?_ | refine offXU rfl rfl rfl ?_)
      all_goals (refine any_pure (i := 12) rfl (by kernel_rfl) S ?_; first | (refine onX rfl rfl ?_; (first | refine indexAddr_x rfl rfl (idx_cast _) (by first | omega | decide | (simp; done) | (simp; omega)) rfl ?_ | refine indexAddr_x rfl rfl (idx_eq _) (by first | omega | decide | (simp; done) | (simp; omega)) rfl ?_)) | first | refine offX rfl rfl rfl rfl ?_ | refine offXU rfl rfl rfl ?_)
      all_goals (refine any_pure (i := 13) rfl (by kernel_rfl) S ?_; first | (refine onX rfl rfl ?_; (first | refine load_i_x rfl rfl rfl rfl ?_ | refine load_o_x rfl rfl rfl rfl ?_ | refine loadE_i_x rfl (by first | omega | decide | (simp; done) | (simp; omega)) rfl rfl rfl ?_ | refine loadE_o_x rfl (by first | omega | decide | (simp; done) | (simp; omega)) rfl rfl rfl ?_)) | first | refine offX rfl rfl rfl rfl ?_ | refine offXU rfl rfl rfl ?_)
      all_goals refine any_step (i := 14) rfl (by kernel_rfl) ?_
      all_goals first | refine onL rfl rfl ?_ | (first | (refine offL rfl rfl rfl rfl ?_; refine nilL ?_) | (refine offLU rfl rfl rfl ?_; refine nilL ?_) | (refine offL0 rfl rfl rfl ?_; refine nilL ?_); refine ⟨S.sub, ?_⟩)
      replace S := S1
      clear S1
      all_goals try refine nilL ?_
      all_goals refine ⟨S.sub, ?_⟩
      all_goals (have S1 := S; replace S : Sat _ _ _ [row a N cap e 1 (gL encI 0 (pre ++ [] ++ x :: (D2 ++ (A.drop (k + 1) ++ post))))] := S1.sub)
      all_goals (refine any_pure (i := 15) rfl (by kernel_rfl) S ?_; first | (refine onX rfl rfl ?_; (refine lss_x rfl rfl rfl ?_ ?_ <;> intro hcmp <;> try (exfalso; first | omega | exact hcmp (by decide) | exact absurd hcmp (by decide)))) | first | refine offX rfl rfl rfl rfl ?_ | refine offXU rfl rfl rfl ?_)
      all_goals (refine any_pure (i := 16) rfl (by kernel_rfl) S ?_; (first | refine pick_tb_x rfl rfl rfl ?_ | refine pick_fb_x rfl rfl rfl ?_))
      all_goals refine any_end (by kernel_rfl) ?_
      all_goals replace S := S1
      clear S1
      repeat' (first | refine move_i_l S rfl rfl ?_ | refine assign_i_l S rfl rfl ?_ | refine add_l S rfl rfl (wrap_in (by omega)) rfl ?_ | refine nilL ?_ | refine run_region ?_ | refine run_exit ?_ | refine run_cond_false rfl ?_ | refine thenQ_n ?_ | refine thenQ_e ?_ | refine blockQ_n ?_ | refine blockQ_s rfl ?_)
      have hS := hS2 _ S
      refine ⟨(k + 1, [] ++ x :: D2), ?_, ⟨⟨by show 1 ≤ k + 1; omega, hperm, hsrt⟩, hS⟩, by show A.length - (k + 1) < A.length - k; omega⟩
      rw [show ((pre.length + (k + 1) : Nat) : Int) = ((pre.length + k : Nat) : Int) + 1 from by omega]
      (repeat (first | exact agree_refl | refine agree_r rfl ?_ | refine agree_l rfl ?_ | refine agree_hv rfl ?_))
    · rw [List.concat_eq_append] at hperm hS2 hD hll S ⊢
      have e1 : (pre ++ (D3 ++ [y]) ++ x :: (D2 ++ (A.drop (k + 1) ++ post))).getD (pre.length + (D3 ++ [y]).length) 0 = x := getD_mid (by simp)
      have e2 : (pre ++ (D3 ++ [y]) ++ x :: (D2 ++ (A.drop (k + 1) ++ post))).getD (((pre.length + (D3 ++ [y]).length : Nat) : Int) - 1).toNat 0 = y := by
        rw [show (((pre.length + (D3 ++ [y]).length : Nat) : Int) - 1).toNat = (pre ++ D3).length from by simp; omega]
        rw [show pre ++ (D3 ++ [y]) ++ x :: (D2 ++ (A.drop (k + 1) ++ post)) = (pre ++ D3) ++ y :: (x :: (D2 ++ (A.drop (k + 1) ++ post))) from by simp, getD_mid rfl]
      have hdy : dom y := hDd y (by rw [← hD]; simp)
      have hl3 : (D3 ++ [y]).length = D3.length + 1 := by simp
      repeat' (first | refine run_seq ?_)
      refine run_any S (L' := [row a N cap e 1 (gL encI 0 (pre ++ (D3 ++ [y]) ++ x :: (D2 ++ (A.drop (k + 1) ++ post))))]) (f := 17) mixed rfl ?_
      clear S
      intro w S1
      have S : Sat _ _ w [row a N cap e 1 (gL encI 0 (pre ++ (D3 ++ [y]) ++ x :: (D2 ++ (A.drop (k + 1) ++ post))))] := S1.sub
      all_goals (refine any_pure (i := 0) rfl (by kernel_rfl) S ?_; refine move_i_x rfl rfl ?_)
      all_goals (refine any_pure (i := 1) rfl (by kernel_rfl) S ?_; refine move_i_x rfl rfl ?_)
      all_goals (refine any_pure (i := 2) rfl (by kernel_rfl) S ?_; (refine gtr_x rfl rfl rfl ?_ ?_ <;> intro hcmp <;> try (exfalso; first | omega | exact hcmp (by decide) | exact absurd hcmp (by decide))))
      all_goals (refine any_pure (i := 3) rfl (by kernel_rfl) S ?_; refine move_b_x rfl rfl ?_)
      all_goals (refine any_pure (i := 4) rfl (by kernel_rfl) S ?_; first | (refine onX rfl rfl ?_; refine move_o_x rfl rfl ?_) | first | refine offX rfl rfl rfl rfl ?_ | refine offXU rfl rfl rfl ?_)
      all_goals (refine any_pure (i := 5) rfl (by kernel_rfl) S ?_; first | (refine onX rfl rfl ?_; refine move_s_x rfl rfl ?_) | first | refine offX rfl rfl rfl rfl ?_ | refine offXU rfl rfl rfl ?_)
      all_goals (refine any_pure (i := 6) rfl (by kernel_rfl) S ?_; first | (refine onX rfl rfl ?_; refine move_i_x rfl rfl ?_) | first | refine offX rfl rfl rfl rfl ?_ | refine offXU rfl rfl rfl ?_)
      all_goals (refine any_pure (i := 7) rfl (by kernel_rfl) S ?_; first | (refine onX rfl rfl ?_; (first | refine indexAddr_x rfl rfl (idx_cast _) (by first | omega | decide | (simp; done) | (simp; omega)) rfl ?_ | refine indexAddr_x rfl rfl (idx_eq _) (by first | omega | decide | (simp; done) | (simp; omega)) rfl ?_)) | first | refine offX rfl rfl rfl rfl ?_ | refine offXU rfl rfl rfl ?_)
      all_goals (refine any_pure (i := 8) rfl (by kernel_rfl) S ?_; first | (refine onX rfl rfl ?_; (first | refine load_i_x rfl rfl rfl rfl ?_ | refine load_o_x rfl rfl rfl rfl ?_ | refine loadE_i_x rfl (by first | omega | decide | (simp; done) | (simp; omega)) rfl rfl rfl ?_ | refine loadE_o_x rfl (by first | omega | decide | (simp; done) | (simp; omega)) rfl rfl rfl ?_)) | first | refine offX rfl rfl rfl rfl ?_ | refine offXU rfl rfl rfl ?_)
      all_goals (refine any_pure (i := 9) rfl (by kernel_rfl) S ?_; first | (refine onX rfl rfl ?_; refine move_s_x rfl rfl ?_) | first | refine offX rfl rfl rfl rfl ?_ | refine offXU rfl rfl rfl ?_)
      all_goals (refine any_pure (i := 10) rfl (by kernel_rfl) S ?_; first | (refine onX rfl rfl ?_; refine move_i_x rfl rfl ?_) | first | refine offX rfl rfl rfl rfl ?_ | refine offXU rfl rfl rfl ?_)
      all_goals (refine any_pure (i := 11) rfl (by kernel_rfl) S ?_; first | (refine onX rfl rfl ?_; (first | refine sub_x rfl rfl (wrap_in (by omega)) rfl ?_ | refine sub_x rfl rfl rfl rfl ?_)) | first | refine offX rfl rfl rfl rfl ?_ | refine offXU rfl rfl rfl ?_)
      all_goals (refine any_pure (i := 12) rfl (by kernel_rfl) S ?_; first | (refine onX rfl rfl ?_; (first | refine indexAddr_x rfl rfl (idx_cast _) (by first | omega | decide | (simp; done) | (simp; omega)) rfl ?_ | refine indexAddr_x rfl rfl (idx_eq _) (by first | omega | decide | (simp; done) | (simp; omega)) rfl ?_)) | first | refine offX rfl rfl rfl rfl ?_ | refine offXU rfl rfl rfl ?_)
      all_goals (refine any_pure (i := 13) rfl (by kernel_rfl) S ?_; first | (refine onX rfl rfl ?_; (first | refine load_i_x rfl rfl rfl rfl ?_ | refine load_o_x rfl rfl rfl rfl ?_ | refine loadE_i_x rfl (by first | omega | decide | (simp; done) | (simp; omega)) rfl rfl rfl ?_ | refine loadE_o_x rfl (by first | omega | decide | (simp; done) | (simp; omega)) rfl rfl rfl ?_)) | first | refine offX rfl rfl rfl rfl ?_ | refine offXU rfl rfl rfl ?_)
      all_goals refine any_step (i := 14) rfl (by kernel_rfl) ?_
      all_goals first | refine onL rfl rfl ?_ | (first | (refine offL rfl rfl rfl rfl ?_; refine nilL ?_) | (refine offLU rfl rfl rfl ?_; refine nilL ?_) | (refine offL0 rfl rfl rfl ?_; refine nilL ?_); refine ⟨S.sub, ?_⟩)
      all_goals replace S := S1
      clear S1
      refine callV (f := f) (l1 := []) (l2 := l2) (l := [.int .i64 x, .int .i64 y]) rfl (hc x y _ hdx hdy S.second) (by
        show [Value.int .i64 _, Value.int .i64 _] = _
        rw [e1, e2]) rfl ?_
      rintro e w ⟨z, rfl, hz, hb⟩
      replace S := S.below hb
      clear hb
      refine ⟨_, rfl, ?_⟩
      by_cases hz0 : z < 0
      · have hxy := hz.1 hz0
        all_goals try refine nilL ?_
        all_goals refine ⟨S.sub, ?_⟩
        all_goals (have S1 := S; replace S : Sat _ _ _ [row a N cap e 1 (gL encI 0 (pre ++ (D3 ++ [y]) ++ x :: (D2 ++ (A.drop (k + 1) ++ post))))] := S1.sub)
        all_goals (refine any_pure (i := 15) rfl (by kernel_rfl) S ?_; first | (refine onX rfl rfl ?_; (refine lss_x rfl rfl rfl ?_ ?_ <;> intro hcmp <;> try (exfalso; first | omega | exact hcmp (by decide) | exact absurd hcmp (by decide)))) | first | refine offX rfl rfl rfl rfl ?_ | refine offXU rfl rfl rfl ?_)
        all_goals (refine any_pure (i := 16) rfl (by kernel_rfl) S ?_; (first | refine pick_tb_x rfl rfl rfl ?_ | refine pick_fb_x rfl rfl rfl ?_))
        all_goals refine any_end (by kernel_rfl) ?_
        all_goals replace S := S1
        clear S1
        repeat' (first | refine run_seq ?_ | refine run_skip ?_ | refine run_block ?_ | refine run_cond_true rfl ?_ | refine thenQ_n ?_)
        refine run_anyB_at (c := 15) (f := 18) (L' := [row a N cap e 1 (gL encI 0 (pre ++ (D3 ++ [y]) ++ x :: (D2 ++ (A.drop (k + 1) ++ post))))]) [37, 38, 39, 40, 41, 42, 43, 44, 45, 46, 47, 48, 49, 50, 51, 52] (fun (s : Unit) t => t) (fun s w' => Sat F w₀ w' (row a N cap e 1 (gset (gset (gL encI 0 (pre ++ (D3 ++ [y]) ++ x :: (D2 ++ (A.drop (k + 1) ++ post)))) (pre.length + (D3 ++ [y]).length) 0 (.int .i64 ((pre ++ (D3 ++ [y]) ++ x :: (D2 ++ (A.drop (k + 1) ++ post))).getD (((pre.length + (D3 ++ [y]).length : Nat) : Int) - 1).toNat 0))) (((pre.length + (D3 ++ [y]).length : Nat) : Int) - 1).toNat 0 (.int .i64 ((pre ++ (D3 ++ [y]) ++ x :: (D2 ++ (A.drop (k + 1) ++ post))).getD (pre.length + (D3 ++ [y]).length) 0))) :: R :: L)) S mixed rfl ?_ ?_
        · clear S
          intro w S1
          have S : Sat _ _ w [row a N cap e 1 (gL encI 0 (pre ++ (D3 ++ [y]) ++ x :: (D2 ++ (A.drop (k + 1) ++ post))))] := S1.sub
          (refine anyB_chain (i := 0) [15] rfl (by kernel_rfl) S ?_; refine move_s_x rfl rfl ?_)
          (refine anyB_chain (i := 1) [15] rfl (by kernel_rfl) S ?_; refine move_i_x rfl rfl ?_)
          (refine anyB_chain (i := 5) [15] rfl (by kernel_rfl) S ?_; refine move_s_x rfl rfl ?_)
          (refine anyB_chain (i := 6) [15] rfl (by kernel_rfl) S ?_; refine move_i_x rfl rfl ?_)
          (refine anyB_chain (i := 7) [15] rfl (by kernel_rfl) S ?_; (first | refine sub_x rfl rfl (wrap_in (by omega)) rfl ?_ | refine sub_x rfl rfl rfl rfl ?_))
          (refine anyB_chain (i := 8) [15] rfl (by kernel_rfl) S ?_; (first | refine indexAddr_x rfl rfl (idx_cast _) (by first | omega | decide | (simp; done) | (simp; omega)) rfl ?_ | refine indexAddr_x rfl rfl (idx_eq _) (by first | omega | decide | (simp; done) | (simp; omega)) rfl ?_))
          (refine anyB_chain (i := 9) [15] rfl (by kernel_rfl) S ?_; (first | refine load_i_x rfl rfl rfl rfl ?_ | refine load_o_x rfl rfl rfl rfl ?_ | refine loadE_i_x rfl (by first | omega | decide | (simp; done) | (simp; omega)) rfl rfl rfl ?_ | refine loadE_o_x rfl (by first | omega | decide | (simp; done) | (simp; omega)) rfl rfl rfl ?_))
          (refine anyB_chain (i := 10) [12, 13, 15] rfl (by kernel_rfl) S ?_; refine move_s_x rfl rfl ?_)
          (refine anyB_chain (i := 11) [12, 13, 15] rfl (by kernel_rfl) S ?_; refine move_i_x rfl rfl ?_)
          (refine anyB_chain (i := 12) [13, 15] rfl (by kernel_rfl) S ?_; (first | refine indexAddr_x rfl rfl (idx_cast _) (by first | omega | decide | (simp; done) | (simp; omega)) rfl ?_ | refine indexAddr_x rfl rfl (idx_eq _) (by first | omega | decide | (simp; done) | (simp; omega)) rfl ?_))
          (refine anyB_chain (i := 13) [15] rfl (by kernel_rfl) S ?_; (first | refine load_i_x rfl rfl rfl rfl ?_ | refine load_o_x rfl rfl rfl rfl ?_ | refine loadE_i_x rfl (by first | omega | decide | (simp; done) | (simp; omega)) rfl rfl rfl ?_ | refine loadE_o_x rfl (by first | omega | decide | (simp; done) | (simp; omega)) rfl rfl rfl ?_))
          (refine anyB_chain (i := 14) [15] rfl (by kernel_rfl) S ?_; (first | refine indexAddr_x rfl rfl (idx_cast _) (by first | omega | decide | (simp; done) | (simp; omega)) rfl ?_ | refine indexAddr_x rfl rfl (idx_eq _) (by first | omega | decide | (simp; done) | (simp; omega)) rfl ?_))
          (refine anyB_free (i := 2) rfl (by kernel_rfl) (fun _ => S) ?_; (first | refine move0 (v := .int _ _) rfl rfl ?_ | refine move0 (v := .slice _ _ _) rfl rfl ?_ | refine move0 rfl rfl ?_ | refine add0 rfl rfl (wrap_in (by omega)) rfl ?_ | refine sub0 rfl rfl (wrap_in (by omega)) rfl ?_))
          (refine anyB_free (i := 3) rfl (by kernel_rfl) (fun _ => S) ?_; (first | refine move0 (v := .int _ _) rfl rfl ?_ | refine move0 (v := .slice _ _ _) rfl rfl ?_ | refine move0 rfl rfl ?_ | refine add0 rfl rfl (wrap_in (by omega)) rfl ?_ | refine sub0 rfl rfl (wrap_in (by omega)) rfl ?_))
          (refine anyB_free (i := 4) rfl (by kernel_rfl) (fun _ => S) ?_; (first | refine move0 (v := .int _ _) rfl rfl ?_ | refine move0 (v := .slice _ _ _) rfl rfl ?_ | refine move0 rfl rfl ?_ | refine add0 rfl rfl (wrap_in (by omega)) rfl ?_ | refine sub0 rfl rfl (wrap_in (by omega)) rfl ?_))
          refine anyB_all (l := [15]) (by kernel_rfl) (by decide) ?_
          intro i hi
          simp only [List.mem_cons, List.not_mem_nil, or_false] at hi
          subst hi
          (refine ⟨_, rfl, ?_⟩; replace S := S1; clear S1; (first | (refine store_i S rfl rfl rfl ?_; clear S; intro w S) | (refine storeE_i S rfl rfl (by omega) rfl ?_; clear S; intro w S)); refine nilL ?_; refine ⟨nope (by kernel_rfl), ?_⟩; have S1 := S)
          refine anyB_all (l := [16]) (by kernel_rfl) (by decide) ?_
          intro i hi
          simp only [List.mem_cons, List.not_mem_nil, or_false] at hi
          subst hi
          (refine ⟨_, rfl, ?_⟩; replace S := S1; clear S1; (first | refine indexAddr_l S rfl rfl (idx_cast _) (by first | omega | decide | (simp; done) | (simp; omega)) rfl ?_ | refine indexAddr_l S rfl rfl (idx_eq _) (by first | omega | decide | (simp; done) | (simp; omega)) rfl ?_); refine nilL ?_; refine ⟨nope (by kernel_rfl), ?_⟩; have S1 := S)
          refine anyB_all (l := [17]) (by kernel_rfl) (by decide) ?_
          intro i hi
          simp only [List.mem_cons, List.not_mem_nil, or_false] at hi
          subst hi
          (refine ⟨_, rfl, ?_⟩; replace S := S1; clear S1; (first | (refine store_i S rfl rfl rfl ?_; clear S; intro w S) | (refine storeE_i S rfl rfl (by omega) rfl ?_; clear S; intro w S)); refine nilL ?_; refine ⟨nope (by kernel_rfl), ?_⟩; have S1 := S)
          refine anyB_end (by kernel_rfl) ?_
          exact ⟨(), (by (repeat (first | exact agree_refl | refine agree_r rfl ?_ | refine agree_l rfl ?_ | refine agree_hv rfl ?_))), S1⟩
        · clear S
          rintro ⟨⟩ j3 w S
          have hlc : (pre ++ (D3 ++ [y]) ++ x :: (D2 ++ (A.drop (k + 1) ++ post))).length = N := by
            rw [hN2]
            simp
            simp at hll
            omega
          have hj : (((pre.length + (D3 ++ [y]).length : Nat) : Int) - 1).toNat = (pre ++ D3).length := by simp; omega
          rw [hj] at S
          have hj2 : pre.length + (D3 ++ [y]).length = (pre ++ D3).length + 1 := by simp; omega
          rw [hj2] at S
          have hcs : (pre ++ (D3 ++ [y]) ++ x :: (D2 ++ (A.drop (k + 1) ++ post))) = (pre ++ D3) ++ y :: x :: (D2 ++ (A.drop (k + 1) ++ post)) := by simp
          have hln : (pre ++ D3).length + 1 < (pre ++ (D3 ++ [y]) ++ x :: (D2 ++ (A.drop (k + 1) ++ post))).length := by rw [hcs]; simp; omega
          have hsw : swp (pre ++ (D3 ++ [y]) ++ x :: (D2 ++ (A.drop (k + 1) ++ post))) ((pre ++ D3).length + 1) (pre ++ D3).length = (pre ++ D3) ++ x :: y :: (D2 ++ (A.drop (k + 1) ++ post)) := by rw [hcs, swp_mid _ _ _ _ _ rfl]
          have hr := row_swp (e := e) (a := a) (cap := cap) (w := w) (i := (pre ++ D3).length + 1) (j := (pre ++ D3).length) hln (by omega) (by rw [hlc]; exact S.got1)
          rw [hsw, show ((pre ++ D3) ++ x :: y :: (D2 ++ (A.drop (k + 1) ++ post))).length = N from by rw [← hlc, hcs]; simp] at hr
          have S2 := S.turn1 (r' := row a N cap e 1 (gL encI 0 ((pre ++ D3) ++ x :: y :: (D2 ++ (A.drop (k + 1) ++ post))))) hr rfl (fun k e => e)
          clear S
          have S := S2
          repeat' (first | refine move_i_l S rfl rfl ?_ | refine assign_i_l S rfl rfl ?_ | refine nilL ?_ | refine run_region ?_ | refine sub_l S rfl rfl (wrap_in (by omega)) rfl ?_ | refine thenQ_n ?_ | refine blockQ_n ?_)
          refine ⟨(D3, y :: D2), ?_, ⟨⟨by show D3 ++ y :: D2 = D; rw [← hD]; simp, fun u hu => ?_⟩, ?_⟩, by show D3.length < (D3 ++ [y]).length; simp⟩
          · dsimp only
            rw [show ((pre.length + D3.length : Nat) : Int) = ((pre.length + (D3 ++ [y]).length : Nat) : Int) - 1 from by rw [hl3]; omega]
            (repeat (first | exact agree_refl | refine agree_r rfl ?_ | refine agree_l rfl ?_ | refine agree_hv rfl ?_))
          · rcases List.mem_cons.1 hu with rfl | hu
            · exact hxy
            · exact hgt u hu
          · show Sat F w₀ w (row a N cap e 1 (gL encI 0 (pre ++ D3 ++ x :: (y :: D2 ++ (A.drop (k + 1) ++ post)))) :: R :: L)
            exact S
      · have hxy : key y ≤ key x := by have := fun h => hz0 (hz.2 h); omega
        have hsrt : SrtK key (D3 ++ [y] ++ x :: D2) := by
          rw [← hD] at hs
          obtain ⟨h1, h2, h3⟩ := List.pairwise_append.1 hs
          refine List.pairwise_append.2 ⟨h1, List.pairwise_cons.2 ⟨fun u hu => by have := hgt u hu; omega, h2⟩, fun u hu v hv => ?_⟩
          have hux : key u ≤ key x := by
            rcases List.mem_append.1 hu with hu | hu
            · have := (List.pairwise_append.1 h1).2.2 u hu y (by simp); omega
            · obtain rfl : u = y := by simpa using hu
              exact hxy
          rcases List.mem_cons.1 hv with rfl | hv
          · exact hux
          · have := hgt v hv; omega
        all_goals try refine nilL ?_
        all_goals refine ⟨S.sub, ?_⟩
        all_goals (have S1 := S; replace S : Sat _ _ _ [row a N cap e 1 (gL encI 0 (pre ++ (D3 ++ [y]) ++ x :: (D2 ++ (A.drop (k + 1) ++ post))))] := S1.sub)
        all_goals (refine any_pure (i := 15) rfl (by kernel_rfl) S ?_; first | (refine onX rfl rfl ?_; (refine lss_x rfl rfl rfl ?_ ?_ <;> intro hcmp <;> try (exfalso; first | omega | exact hcmp (by decide) | exact absurd hcmp (by decide)))) | first | refine offX rfl rfl rfl rfl ?_ | refine offXU rfl rfl rfl ?_)
        all_goals (refine any_pure (i := 16) rfl (by kernel_rfl) S ?_; (first | refine pick_tb_x rfl rfl rfl ?_ | refine pick_fb_x rfl rfl rfl ?_))
        all_goals refine any_end (by kernel_rfl) ?_
        all_goals replace S := S1
        clear S1
        repeat' (first | refine move_i_l S rfl rfl ?_ | refine assign_i_l S rfl rfl ?_ | refine add_l S rfl rfl (wrap_in (by omega)) rfl ?_ | refine nilL ?_ | refine run_region ?_ | refine run_exit ?_ | refine run_cond_false rfl ?_ | refine thenQ_n ?_ | refine thenQ_e ?_ | refine blockQ_n ?_ | refine blockQ_s rfl ?_)
        have hS := hS2 _ S
        refine ⟨(k + 1, D3 ++ [y] ++ x :: D2), ?_, ⟨⟨by show 1 ≤ k + 1; omega, hperm, hsrt⟩, hS⟩, by show A.length - (k + 1) < A.length - k; omega⟩
        rw [show ((pre.length + (k + 1) : Nat) : Int) = ((pre.length + k : Nat) : Int) + 1 from by omega]
        (repeat (first | exact agree_refl | refine agree_r rfl ?_ | refine agree_l rfl ?_ | refine agree_hv rfl ?_))
  · repeat' (first | refine move_i_l S rfl rfl ?_ | refine nilL ?_ | refine run_seq ?_ | refine run_region ?_ | (refine lss_l S rfl rfl rfl ?_ ?_ <;> intro hcmp <;> try (exfalso; first | omega | exact hcmp (by decide) | exact absurd hcmp (by decide))) | refine run_exit ?_ | refine run_cond_false rfl ?_ | refine thenQ_n ?_ | refine thenQ_e ?_ | refine blockQ_s rfl ?_ | refine ret0_n ?_)
    refine ⟨rfl, D, ?_, hs, ?_⟩
    · rwa [List.take_of_length_le (by omega)] at hp
    · rw [List.drop_of_length_le (by omega), List.append_nil] at S
      have hl : (pre ++ D ++ post).length = N := by
        rw [hN2, List.length_append, List.length_append, hp.length_eq, List.length_take]
        omega
      rw [← hl] at S
      exact S
end
end Go.Proofs.Ytciehimnhnbipaa
