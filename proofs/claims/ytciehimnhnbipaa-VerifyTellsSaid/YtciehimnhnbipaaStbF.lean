/- slices.SortStableFunc of ints, its parts: symMerge. -/
import Derived.Test.YtciehimnhnbipaaStbE
namespace Go.Proofs.Ytciehimnhnbipaa
open Go.RowKit Go.Lib
set_option linter.unusedVariables false
set_option maxHeartbeats 8000000
/-- Where the parts are cut: who stands left is not greater than who stands right. -/
theorem cut_le {key : Int → Int} {A B : List Int} {M s lo hi : Nat} (hA : SrtK key A) (hB : SrtK key B) (hlo : lo = M - B.length) (hhi : hi = min M A.length) (h1 : lo ≤ s) (h2 : s ≤ hi)
    (hq : ∀ u, lo ≤ u → u < s → key (A.getD u 0) ≤ key (B.getD (M - 1 - u) 0)) (hr : ∀ u, s ≤ u → u < hi → key (B.getD (M - 1 - u) 0) < key (A.getD u 0)) :
    ∀ x ∈ A.take s ++ B.take (M - s), ∀ y ∈ A.drop s ++ B.drop (M - s), key x ≤ key y := by
  have hmin : hi ≤ M ∧ hi ≤ A.length ∧ (hi = M ∨ hi = A.length) := by omega
  have gA : ∀ i (h : i < A.length), A[i] = A.getD i 0 := fun i h => by rw [List.getD_eq_getElem?_getD, List.getElem?_eq_getElem h]; rfl
  have gB : ∀ i (h : i < B.length), B[i] = B.getD i 0 := fun i h => by rw [List.getD_eq_getElem?_getD, List.getElem?_eq_getElem h]; rfl
  intro x hx y hy
  rcases List.mem_append.1 hx with hx | hx <;> rcases List.mem_append.1 hy with hy | hy <;> obtain ⟨i, hi', rfl⟩ := List.getElem_of_mem hx <;> obtain ⟨j, hj', rfl⟩ := List.getElem_of_mem hy <;> rw [List.getElem_take, List.getElem_drop] <;> rw [List.length_take] at hi' <;> rw [List.length_drop] at hj'
  · rw [gA _ (by omega), gA _ (by omega)]
    exact srtK_get hA (by omega) (by omega)
  · rw [gA _ (by omega), gB _ (by omega)]
    have e1 := hq (s - 1) (by omega) (by omega)
    have e2 := srtK_get hA (i := i) (j := s - 1) (by omega) (by omega)
    have e3 := srtK_get hB (i := M - 1 - (s - 1)) (j := M - s + j) (by omega) (by omega)
    omega
  · rw [gB _ (by omega), gA _ (by omega)]
    have e1 := hr s (Nat.le_refl _) (by omega)
    have e2 := srtK_get hB (i := i) (j := M - 1 - s) (by omega) (by omega)
    have e3 := srtK_get hA (i := s) (j := s + j) (by omega) (by omega)
    omega
  · rw [gB _ (by omega), gB _ (by omega)]
    exact srtK_get hB (by omega) (by omega)
theorem getD_app (U V : List Int) (k : Nat) : (U ++ V).getD k 0 = if k < U.length then U.getD k 0 else V.getD (k - U.length) 0 := by
  split
  · rename_i h
    rw [List.getD_eq_getElem?_getD, List.getD_eq_getElem?_getD, List.getElem?_append_left h]
  · rename_i h
    rw [List.getD_eq_getElem?_getD, List.getD_eq_getElem?_getD, List.getElem?_append_right (by omega)]
theorem rot_list {P X Y Q ys : List Int} (hl : ys.length = (P ++ (X ++ (Y ++ Q))).length) (h : ∀ k, ys.getD k 0 = rotF (P ++ (X ++ (Y ++ Q))) P.length (P.length + X.length) (P.length + X.length + Y.length) k) : ys = P ++ (Y ++ (X ++ Q)) := by
  refine list_eq_of_getD (by rw [hl]; simp; omega) fun k hk => ?_
  rw [h]
  unfold rotF
  simp only [getD_app]
  repeat' split
  all_goals first | (exfalso; omega) | rfl | (congr 1; omega)
section
variable {F : Nat → Prop} {w₀ w : World} {L : List Res} {a : Option Addr} {cap e : Nat} {R : Res} {key : Int → Int} {dom : Int → Prop} {f : FuncId} [FnOk Try.prog f] {l2 : List Value}
/-- What symMerge does to parts of fewer than K. -/
def SymOk (F : Nat → Prop) (w₀ : World) (L : List Res) (a : Option Addr) (cap e N : Nat) (R : Res) (key : Int → Int) (dom : Int → Prop) (f : FuncId) (l2 : List Value) (K : Nat) : Prop :=
  ∀ (w : World) (pre A B post : List Int) (x m y : Nat), A.length + B.length < K → 1 ≤ A.length → 1 ≤ B.length → N = pre.length + A.length + B.length + post.length → x = pre.length → m = pre.length + A.length → y = pre.length + A.length + B.length → SrtK key A → SrtK key B → (∀ u ∈ A, dom u) → (∀ u ∈ B, dom u) →
    Sat F w₀ w (row a N cap e 1 (gL encI 0 (pre ++ (A ++ (B ++ post)))) :: R :: L) →
    Calls Try.prog 81 #[.slice a N cap, .int .i64 x, .int .i64 m, .int .i64 y, .func (.func f) #[] l2.toArray] w fun r w' => r = .returned (.tuple #[]) ∧
      ∃ C, C.Perm (A ++ B) ∧ SrtK key C ∧ Sat F w₀ w' (row a N cap e 1 (gL encI 0 (pre ++ (C ++ post))) :: R :: L)
theorem symGen_at (hc : CmpOk f l2 R key dom) {N : Nat} {pre A B post : List Int} (S : Sat F w₀ w (row a N cap e 1 (gL encI 0 (pre ++ (A ++ (B ++ post)))) :: R :: L)) (hN : N = pre.length + A.length + B.length + post.length) (hn : N ≤ 1000000) (hA : 2 ≤ A.length) (hB : 2 ≤ B.length) (hdA : ∀ x ∈ A, dom x) (hdB : ∀ x ∈ B, dom x) (hsA : SrtK key A) (hsB : SrtK key B)
    (ih : SymOk F w₀ L a cap e N R key dom f l2 (A.length + B.length)) :
    Calls Try.prog 81 #[.slice a N cap, .int .i64 (pre.length : Nat), .int .i64 (pre.length + A.length : Nat), .int .i64 (pre.length + A.length + B.length : Nat), .func (.func f) #[] l2.toArray] w fun r w' => r = .returned (.tuple #[]) ∧
      ∃ C, C.Perm (A ++ B) ∧ SrtK key C ∧ Sat F w₀ w' (row a N cap e 1 (gL encI 0 (pre ++ (C ++ post))) :: R :: L) := by
  obtain ⟨M, hM⟩ : ∃ M, M = (A.length + B.length) / 2 := ⟨_, rfl⟩
  obtain ⟨lo, hlo⟩ : ∃ lo, lo = M - B.length := ⟨_, rfl⟩
  obtain ⟨hi, hhi⟩ : ∃ hi, hi = min M A.length := ⟨_, rfl⟩
  have hmin : hi ≤ M ∧ hi ≤ A.length ∧ (hi = M ∨ hi = A.length) := by omega
  refine enter0 Try.func81 rfl Try.ntmps81 rfl Try.results81 ?_
  repeat' (first | refine move_i_l S rfl rfl ?_ | refine nilL ?_ | refine run_seq ?_ | refine run_skip ?_ | refine run_region ?_ | refine add_l S rfl rfl (wrap_in (by omega)) rfl ?_ | refine convert_l S rfl (wrapu_in (by omega)) rfl ?_ | refine sub_l S rfl rfl (wrap_in (by omega)) rfl ?_ | (refine eql_l S rfl rfl rfl ?_ ?_ <;> intro hcmp <;> try (exfalso; first | omega | exact hcmp (by decide) | exact absurd hcmp (by decide))) | refine run_cond_false rfl ?_ | refine thenQ_n ?_)
  refine half_l rfl rfl rfl ?_
  repeat' (first | refine move_i_l S rfl rfl ?_ | refine assign_i_l S rfl rfl ?_ | refine nilL ?_ | refine run_seq ?_ | refine run_region (id := 25) ?_ | refine run_region (id := 26) ?_ | refine add_l S rfl rfl (wrap_in (by omega)) rfl ?_ | refine convert_l S rfl (wrap_in (by omega)) rfl ?_ | refine thenQ_n ?_)
  rw [show (((pre.length : Nat) : Int) + ((pre.length + A.length + B.length : Nat) : Int)) / 2 = ((pre.length + M : Nat) : Int) from by omega]
  refine run_cut_b [138, 139, 140, 141, 142, 143, 144, 145, 146] (fun (s : Unit) t => upd (upd t 20 (.int .i64 (pre.length + lo : Nat))) 21 (.int .i64 (pre.length + hi : Nat))) (fun s w' => Sat F w₀ w' (row a N cap e 1 (gL encI 0 (pre ++ (A ++ (B ++ post)))) :: R :: L)) ?_ ?_
  · repeat' (first | refine move_i_l S rfl rfl ?_ | refine assign_i_l S rfl rfl ?_ | refine nilL ?_ | refine run_seq ?_ | refine run_region ?_ | refine sub_l S rfl rfl (wrap_in (by omega)) rfl ?_ | (refine gtr_l S rfl rfl rfl ?_ ?_ <;> intro hcmp <;> try (exfalso; first | omega | exact hcmp (by decide) | exact absurd hcmp (by decide))) | refine run_cond_true rfl ?_ | refine run_cond_false rfl ?_ | refine thenQ_n ?_)
    · refine midQ_n () ?_ S
      rw [show ((pre.length + lo : Nat) : Int) = ((pre.length + M : Nat) : Int) + ((pre.length + A.length : Nat) : Int) - ((pre.length + A.length + B.length : Nat) : Int) from by omega, show ((pre.length + hi : Nat) : Int) = ((pre.length + M : Nat) : Int) from by omega]
      (repeat (first | exact agree_refl | refine agree_r rfl ?_ | refine agree_l rfl ?_ | refine agree_hv rfl ?_))
    · refine midQ_n () ?_ S
      rw [show ((pre.length + lo : Nat) : Int) = (pre.length : Int) from by omega, show ((pre.length + hi : Nat) : Int) = ((pre.length + A.length : Nat) : Int) from by omega]
      (repeat (first | exact agree_refl | refine agree_r rfl ?_ | refine agree_l rfl ?_ | refine agree_hv rfl ?_))
  clear S
  rintro ⟨⟩ j w S
  repeat' (first | refine move_i_l S rfl rfl ?_ | refine assign_i_l S rfl rfl ?_ | refine nilL ?_ | refine run_seq ?_ | refine run_region ?_ | refine sub_l S rfl rfl (wrap_in (by omega)) rfl ?_ | refine run_block ?_ | refine thenQ_n ?_)
  refine run_while [23, 149, 150, 151, 152, 153, 154, 155, 156, 157, 158, 159, 160, 161, 162, 163, 164, 165, 166, 167, 168, 169, 170, 171, 172, 173, 174] (fun (q : Nat × Nat) t => upd (upd t 20 (.int .i64 (pre.length + q.1 : Nat))) 21 (.int .i64 (pre.length + q.2 : Nat))) (fun q w' => ((lo ≤ q.1 ∧ q.1 ≤ q.2 ∧ q.2 ≤ hi) ∧ (∀ u, lo ≤ u → u < q.1 → key (A.getD u 0) ≤ key (B.getD (M - 1 - u) 0)) ∧ ∀ u, q.2 ≤ u → u < hi → key (B.getD (M - 1 - u) 0) < key (A.getD u 0)) ∧ Sat F w₀ w' (row a N cap e 1 (gL encI 0 (pre ++ (A ++ (B ++ post)))) :: R :: L)) (fun q => q.2 - q.1) (lo, hi) ?_ ?_ ?_
  · (repeat (first | exact agree_refl | refine agree_r rfl ?_ | refine agree_l rfl ?_ | refine agree_hv rfl ?_))
  · exact ⟨⟨⟨Nat.le_refl _, by show lo ≤ hi; omega, Nat.le_refl _⟩, fun u h1 h2 => absurd h2 (Nat.not_lt.2 h1), fun u h1 h2 => absurd h2 (Nat.not_lt.2 h1)⟩, S⟩
  clear S
  rintro ⟨s, r⟩ jj w ⟨⟨⟨h1, h2, h3⟩, hq, hr⟩, S⟩
  replace h1 : lo ≤ s := h1
  replace h2 : s ≤ r := h2
  replace h3 : r ≤ hi := h3
  replace hq : ∀ u, lo ≤ u → u < s → key (A.getD u 0) ≤ key (B.getD (M - 1 - u) 0) := hq
  replace hr : ∀ u, r ≤ u → u < hi → key (B.getD (M - 1 - u) 0) < key (A.getD u 0) := hr
  dsimp only
  by_cases hlt : s < r
  · repeat' (first | refine move_i_l S rfl rfl ?_ | (refine lss_l S rfl rfl rfl ?_ ?_ <;> intro hcmp <;> try (exfalso; first | omega | exact hcmp (by decide) | exact absurd hcmp (by decide))) | refine nilL ?_ | refine run_seq ?_ | refine run_skip ?_ | refine run_region ?_ | refine add_l S rfl rfl (wrap_in (by omega)) rfl ?_ | refine convert_l S rfl (wrapu_in (by omega)) rfl ?_ | refine run_block ?_ | refine run_cond_true rfl ?_ | refine thenQ_n ?_)
    refine half_l rfl rfl rfl ?_
    repeat' (first | refine assign_i_l S rfl rfl ?_ | refine nilL ?_ | refine run_seq ?_ | refine convert_l S rfl (wrap_in (by omega)) rfl ?_ | refine thenQ_n ?_)
    obtain ⟨c, hcc⟩ : ∃ c, c = (s + r) / 2 := ⟨_, rfl⟩
    have hc1 : s ≤ c ∧ c < r := by omega
    rw [show (((pre.length + s : Nat) : Int) + ((pre.length + r : Nat) : Int)) / 2 = ((pre.length + c : Nat) : Int) from by omega]
    have e1 : (pre ++ (A ++ (B ++ post))).getD (((pre.length + M : Nat) : Int) + ((pre.length + A.length : Nat) : Int) - 1 - ((pre.length + c : Nat) : Int)).toNat 0 = B.getD (M - 1 - c) 0 := by
      rw [show (pre ++ (A ++ (B ++ post))) = (pre ++ A) ++ (B ++ post) from by simp, show (((pre.length + M : Nat) : Int) + ((pre.length + A.length : Nat) : Int) - 1 - ((pre.length + c : Nat) : Int)).toNat = (pre ++ A).length + (M - 1 - c) from by simp; omega, getD_in (by omega)]
    have e2 : (pre ++ (A ++ (B ++ post))).getD (pre.length + c) 0 = A.getD c 0 := getD_in (by omega)
    have hd1 : dom (B.getD (M - 1 - c) 0) := hdB _ (by rw [List.getD_eq_getElem?_getD, List.getElem?_eq_getElem (show M - 1 - c < B.length by omega)]; exact List.getElem_mem _)
    have hd2 : dom (A.getD c 0) := hdA _ (by rw [List.getD_eq_getElem?_getD, List.getElem?_eq_getElem (show c < A.length by omega)]; exact List.getElem_mem _)
    refine run_any S (L' := [row a N cap e 1 (gL encI 0 (pre ++ (A ++ (B ++ post))))]) (f := 14) mixed rfl ?_
    clear S
    intro w S1
    have S : Sat _ _ w [row a N cap e 1 (gL encI 0 (pre ++ (A ++ (B ++ post))))] := S1.sub
    all_goals (refine any_pure (i := 0) rfl (by kernel_rfl) S ?_; refine move_o_x rfl rfl ?_)
    all_goals (refine any_pure (i := 1) rfl (by kernel_rfl) S ?_; refine move_s_x rfl rfl ?_)
    all_goals (refine any_pure (i := 2) rfl (by kernel_rfl) S ?_; refine move_i_x rfl rfl ?_)
    all_goals (refine any_pure (i := 3) rfl (by kernel_rfl) S ?_; refine move_i_x rfl rfl ?_)
    all_goals (refine any_pure (i := 4) rfl (by kernel_rfl) S ?_; (first | refine sub_x rfl rfl (wrap_in (by omega)) rfl ?_ | refine sub_x rfl rfl rfl rfl ?_))
    all_goals (refine any_pure (i := 5) rfl (by kernel_rfl) S ?_; refine indexAddr_x rfl rfl (idx_eq _) (by omega) rfl ?_)
    all_goals (refine any_pure (i := 6) rfl (by kernel_rfl) S ?_; (first | refine load_i_x rfl rfl rfl rfl ?_ | refine load_o_x rfl rfl rfl rfl ?_ | refine loadE_i_x rfl (by first | omega | decide | (simp; done) | (simp; omega)) rfl rfl rfl ?_ | refine loadE_o_x rfl (by first | omega | decide | (simp; done) | (simp; omega)) rfl rfl rfl ?_))
    all_goals (refine any_pure (i := 7) rfl (by kernel_rfl) S ?_; refine move_s_x rfl rfl ?_)
    all_goals (refine any_pure (i := 8) rfl (by kernel_rfl) S ?_; refine move_i_x rfl rfl ?_)
    all_goals (refine any_pure (i := 9) rfl (by kernel_rfl) S ?_; (first | refine indexAddr_x rfl rfl (idx_cast _) (by first | omega | decide | (simp; done) | (simp; omega)) rfl ?_ | refine indexAddr_x rfl rfl (idx_eq _) (by first | omega | decide | (simp; done) | (simp; omega)) rfl ?_))
    all_goals (refine any_pure (i := 10) rfl (by kernel_rfl) S ?_; (first | refine load_i_x rfl rfl rfl rfl ?_ | refine load_o_x rfl rfl rfl rfl ?_ | refine loadE_i_x rfl (by first | omega | decide | (simp; done) | (simp; omega)) rfl rfl rfl ?_ | refine loadE_o_x rfl (by first | omega | decide | (simp; done) | (simp; omega)) rfl rfl rfl ?_))
    all_goals refine any_step (i := 11) rfl (by kernel_rfl) ?_
    all_goals replace S := S1
    clear S1
    refine callV (f := f) (l1 := []) (l2 := l2) (l := [.int .i64 (B.getD (M - 1 - c) 0), .int .i64 (A.getD c 0)]) rfl (hc _ _ _ hd1 hd2 S.second) (by
      show [Value.int .i64 _, Value.int .i64 _] = _
      rw [e1, e2]) rfl ?_
    rintro e w ⟨z, rfl, hz, hb⟩
    replace S := S.below hb
    clear hb
    refine ⟨_, rfl, ?_⟩
    by_cases hz0 : z < 0
    · have hxy := hz.1 hz0
      all_goals try refine nilL ?_
      all_goals refine ⟨S.sub, ?_⟩
      all_goals (have S1 := S; replace S : Sat _ _ _ [row a N cap e 1 (gL encI 0 (pre ++ (A ++ (B ++ post))))] := S1.sub)
      all_goals (refine any_pure (i := 12) rfl (by kernel_rfl) S ?_; (refine lss_x rfl rfl rfl ?_ ?_ <;> intro hcmp <;> try (exfalso; first | omega | exact hcmp (by decide) | exact absurd hcmp (by decide))))
      all_goals (refine any_pure (i := 13) rfl (by kernel_rfl) S ?_; refine not_x rfl rfl ?_)
      all_goals refine any_end (by kernel_rfl) ?_
      all_goals replace S := S1
      clear S1
      repeat' (first | refine move_i_l S rfl rfl ?_ | refine assign_i_l S rfl rfl ?_ | refine nilL ?_ | refine run_region ?_ | refine run_cond_false rfl ?_ | refine thenQ_n ?_ | refine blockQ_n ?_)
      refine ⟨(s, c), ?_, ⟨⟨⟨h1, hc1.1, by show c ≤ hi; omega⟩, hq, fun u hu hl => ?_⟩, S⟩, by show c - s < r - s; omega⟩
      · (repeat (first | exact agree_refl | refine agree_r rfl ?_ | refine agree_l rfl ?_ | refine agree_hv rfl ?_))
      · have hu2 : c ≤ u := hu
        have e1 := srtK_get hsB (i := M - 1 - u) (j := M - 1 - c) (by omega) (by omega)
        have e2 := srtK_get hsA (i := c) (j := u) hu2 (by omega)
        omega
    · have hxy : key (A.getD c 0) ≤ key (B.getD (M - 1 - c) 0) := by have := fun h => hz0 (hz.2 h); omega
      all_goals try refine nilL ?_
      all_goals refine ⟨S.sub, ?_⟩
      all_goals (have S1 := S; replace S : Sat _ _ _ [row a N cap e 1 (gL encI 0 (pre ++ (A ++ (B ++ post))))] := S1.sub)
      all_goals (refine any_pure (i := 12) rfl (by kernel_rfl) S ?_; (refine lss_x rfl rfl rfl ?_ ?_ <;> intro hcmp <;> try (exfalso; first | omega | exact hcmp (by decide) | exact absurd hcmp (by decide))))
      all_goals (refine any_pure (i := 13) rfl (by kernel_rfl) S ?_; refine not_x rfl rfl ?_)
      all_goals refine any_end (by kernel_rfl) ?_
      all_goals replace S := S1
      clear S1
      repeat' (first | refine move_i_l S rfl rfl ?_ | refine assign_i_l S rfl rfl ?_ | refine nilL ?_ | refine run_region ?_ | refine add_l S rfl rfl (wrap_in (by omega)) rfl ?_ | refine run_cond_true rfl ?_ | refine thenQ_n ?_ | refine blockQ_n ?_)
      refine ⟨(c + 1, r), ?_, ⟨⟨⟨by show lo ≤ c + 1; omega, by show c + 1 ≤ r; omega, h3⟩, fun u hl hu => ?_, hr⟩, S⟩, by show r - (c + 1) < r - s; omega⟩
      · dsimp only
        rw [show ((pre.length + (c + 1) : Nat) : Int) = ((pre.length + c : Nat) : Int) + 1 from by omega]
        (repeat (first | exact agree_refl | refine agree_r rfl ?_ | refine agree_l rfl ?_ | refine agree_hv rfl ?_))
      · have hu2 : u < c + 1 := hu
        have e1 := srtK_get hsB (i := M - 1 - c) (j := M - 1 - u) (by omega) (by omega)
        have e2 := srtK_get hsA (i := u) (j := c) (by omega) (by omega)
        omega
  · obtain rfl : s = r := by omega
    have hcut := cut_le hsA hsB hlo hhi h1 h3 hq hr
    have hsM : s ≤ M ∧ s ≤ A.length ∧ M - s ≤ B.length := by omega
    have lt1 : (A.take s).length = s := by rw [List.length_take]; omega
    have lt2 : (B.take (M - s)).length = M - s := by rw [List.length_take]; omega
    have lt3 : (A.drop s).length = A.length - s := List.length_drop
    have lt4 : (B.drop (M - s)).length = B.length - (M - s) := List.length_drop
    repeat' (first | refine move_i_l S rfl rfl ?_ | refine assign_i_l S rfl rfl ?_ | (refine lss_l S rfl rfl rfl ?_ ?_ <;> intro hcmp <;> try (exfalso; first | omega | exact hcmp (by decide) | exact absurd hcmp (by decide))) | refine nilL ?_ | refine run_seq ?_ | refine run_region (id := 33) ?_ | refine run_region (id := 38) ?_ | refine sub_l S rfl rfl (wrap_in (by omega)) rfl ?_ | refine run_exit ?_ | refine run_cond_false rfl ?_ | refine thenQ_n ?_ | refine thenQ_e ?_ | refine blockQ_s rfl ?_)
    rw [show ((pre.length + M : Nat) : Int) + ((pre.length + A.length : Nat) : Int) - ((pre.length + s : Nat) : Int) = ((pre.length + A.length + (M - s) : Nat) : Int) from by omega]
    have hlc : (pre ++ (A ++ (B ++ post))).length = N := by rw [hN]; simp; omega
    have hcur0 : (pre ++ (A ++ (B ++ post))) = (pre ++ A.take s) ++ (A.drop s ++ (B.take (M - s) ++ (B.drop (M - s) ++ post))) := by
      have h : A ++ (B ++ post) = A.take s ++ (A.drop s ++ (B.take (M - s) ++ (B.drop (M - s) ++ post))) := by rw [← List.append_assoc (A.take s), List.take_append_drop, ← List.append_assoc (B.take _), List.take_append_drop]
      rw [h, List.append_assoc]
    refine run_cut_b [178, 179, 180, 181, 182, 183, 184, 185, 186, 187, 188, 189, 190, 191] (fun (s : Unit) t => t) (fun _ w' => Sat F w₀ w' (row a N cap e 1 (gL encI 0 (pre ++ (A.take s ++ (B.take (M - s) ++ (A.drop s ++ (B.drop (M - s) ++ post)))))) :: R :: L)) ?_ ?_
    · by_cases hrot : s < A.length ∧ 0 < M - s
      · repeat' (first | refine move_i_l S rfl rfl ?_ | (refine lss_l S rfl rfl rfl ?_ ?_ <;> intro hcmp <;> try (exfalso; first | omega | exact hcmp (by decide) | exact absurd hcmp (by decide))) | refine nilL ?_ | refine run_region ?_ | refine onL rfl rfl ?_ | refine move_b_l S rfl rfl ?_ | refine pick_tb_l S rfl rfl rfl ?_ | refine move_s_l S rfl rfl ?_ | refine move_o_l S rfl rfl ?_ | refine run_cond_true rfl ?_ | refine thenQ_n ?_)
        have HR := rotate_at (e := e) (a := a) (cap := cap) (L := R :: L) (fv := .func (.func f) #[] l2.toArray) (zs := (pre ++ (A ++ (B ++ post)))) (x := pre.length + s) (m := pre.length + A.length) (y := pre.length + A.length + (M - s)) (w := w) (F := F) (w₀ := w₀) (show Sat F w₀ w (row a (pre ++ (A ++ (B ++ post))).length cap e 1 (gL encI 0 (pre ++ (A ++ (B ++ post)))) :: R :: L) from by rw [hlc]; exact S) (by omega) (by omega) (by rw [hlc]; omega) (by rw [hlc]; omega)
        rw [hlc] at HR
        refine callL HR rfl rfl ?_
        clear S HR
        rintro e1 w ⟨rfl, ys, ⟨hyl, hy⟩, S⟩
        have hys : ys = (pre ++ A.take s) ++ (B.take (M - s) ++ (A.drop s ++ (B.drop (M - s) ++ post))) := by
          refine rot_list (by rw [hyl, ← hcur0, hlc]) fun k => ?_
          rw [← hcur0, hy, show (pre ++ A.take s).length = pre.length + s from by rw [List.length_append, lt1], lt3, lt2, show pre.length + s + (A.length - s) = pre.length + A.length from by omega]
        replace S : Sat F w₀ w (row a ys.length cap e 1 (gL encI 0 ys) :: R :: L) := S
        rw [hyl, hys] at S
        refine ⟨_, rfl, ?_⟩
        repeat' (first | refine nilL ?_)
        exact midQ_n () (by (repeat (first | exact agree_refl | refine agree_r rfl ?_ | refine agree_l rfl ?_ | refine agree_hv rfl ?_))) (by simpa using S)
      · have hcs : (pre ++ (A ++ (B ++ post))) = (pre ++ (A.take s ++ (B.take (M - s) ++ (A.drop s ++ (B.drop (M - s) ++ post))))) := by
          by_cases hs2 : s = A.length
          · subst hs2
            rw [List.take_length, List.drop_length, List.nil_append, ← List.append_assoc (B.take _), List.take_append_drop]
          · have : M - s = 0 := by omega
            rw [this, List.take_zero, List.drop_zero, List.nil_append, ← List.append_assoc (A.take _), List.take_append_drop]
        rw [hcs] at S
        repeat' (first | refine move_i_l S rfl rfl ?_ | (refine lss_l S rfl rfl rfl ?_ ?_ <;> intro hcmp <;> try (exfalso; first | omega | exact hcmp (by decide) | exact absurd hcmp (by decide))) | refine nilL ?_ | refine run_skip ?_ | refine run_region ?_ | refine onL rfl rfl ?_ | refine offL rfl rfl rfl rfl ?_ | refine move_b_l S rfl rfl ?_ | refine pick_tb_l S rfl rfl rfl ?_ | refine pick_fb_l S rfl rfl rfl ?_ | refine run_cond_false rfl ?_ | refine thenQ_n ?_)
        all_goals exact midQ_n () (by (repeat (first | exact agree_refl | refine agree_r rfl ?_ | refine agree_l rfl ?_ | refine agree_hv rfl ?_))) S
    clear S
    rintro ⟨⟩ j4 w S
    have hsl : SrtK key (A.take s) := hsA.sublist (List.take_sublist _ _)
    have hsl2 : SrtK key (B.take (M - s)) := hsB.sublist (List.take_sublist _ _)
    have hsr : SrtK key (A.drop s) := hsA.sublist (List.drop_sublist _ _)
    have hsr2 : SrtK key (B.drop (M - s)) := hsB.sublist (List.drop_sublist _ _)
    repeat' (first | refine run_seq ?_)
    refine run_cut_b [192, 193, 194, 195, 196, 197, 198, 199, 200, 201, 202, 203, 204, 205] (fun (C : List Int) t => t) (fun C w' => (C.Perm (A.take s ++ B.take (M - s)) ∧ SrtK key C) ∧ Sat F w₀ w' (row a N cap e 1 (gL encI 0 (pre ++ (C ++ (A.drop s ++ (B.drop (M - s) ++ post))))) :: R :: L)) ?_ ?_
    · by_cases hl : 0 < s ∧ s < M
      · repeat' (first | refine move_i_l S rfl rfl ?_ | (refine lss_l S rfl rfl rfl ?_ ?_ <;> intro hcmp <;> try (exfalso; first | omega | exact hcmp (by decide) | exact absurd hcmp (by decide))) | refine nilL ?_ | refine run_region ?_ | refine onL rfl rfl ?_ | refine move_b_l S rfl rfl ?_ | refine pick_tb_l S rfl rfl rfl ?_ | refine move_s_l S rfl rfl ?_ | refine move_o_l S rfl rfl ?_ | refine run_cond_true rfl ?_ | refine thenQ_n ?_)
        refine callL (ih _ pre (A.take s) (B.take (M - s)) (A.drop s ++ (B.drop (M - s) ++ post)) pre.length (pre.length + s) (pre.length + M) (by omega) (by omega) (by omega) (by rw [lt1, lt2, List.length_append, List.length_append, lt3, lt4]; omega) rfl (by rw [lt1]) (by rw [lt1, lt2]; omega) hsl hsl2 (fun u hu => hdA u (List.mem_of_mem_take hu)) (fun u hu => hdB u (List.mem_of_mem_take hu)) S) rfl rfl ?_
        clear S
        rintro e1 w ⟨rfl, C, hCp, hCs, S⟩
        refine ⟨_, rfl, ?_⟩
        repeat' (first | refine nilL ?_)
        exact midQ_n C (by (repeat (first | exact agree_refl | refine agree_r rfl ?_ | refine agree_l rfl ?_ | refine agree_hv rfl ?_))) ⟨⟨hCp, hCs⟩, S⟩
      · have hCs : SrtK key (A.take s ++ B.take (M - s)) := by
          by_cases hs0 : s = 0
          · subst hs0
            rw [List.take_zero, List.nil_append]
            exact hsl2
          · rw [show M - s = 0 from by omega, List.take_zero, List.append_nil]
            exact hsl
        have S2 : Sat F w₀ w (row a N cap e 1 (gL encI 0 (pre ++ ((A.take s ++ B.take (M - s)) ++ (A.drop s ++ (B.drop (M - s) ++ post))))) :: R :: L) := by rw [List.append_assoc (A.take s)]; exact S
        clear S
        have S := S2
        repeat' (first | refine move_i_l S rfl rfl ?_ | (refine lss_l S rfl rfl rfl ?_ ?_ <;> intro hcmp <;> try (exfalso; first | omega | exact hcmp (by decide) | exact absurd hcmp (by decide))) | refine nilL ?_ | refine run_skip ?_ | refine run_region ?_ | refine onL rfl rfl ?_ | refine offL rfl rfl rfl rfl ?_ | refine move_b_l S rfl rfl ?_ | refine pick_tb_l S rfl rfl rfl ?_ | refine pick_fb_l S rfl rfl rfl ?_ | refine run_cond_false rfl ?_ | refine thenQ_n ?_)
        all_goals exact midQ_n (A.take s ++ B.take (M - s)) (by (repeat (first | exact agree_refl | refine agree_r rfl ?_ | refine agree_l rfl ?_ | refine agree_hv rfl ?_))) ⟨⟨.refl _, hCs⟩, S⟩
    clear S
    rintro C j5 w ⟨⟨hCp, hCs⟩, S⟩
    have hCl : C.length = M := by rw [hCp.length_eq, List.length_append, lt1, lt2]; omega
    have hfin : ∀ C2 : List Int, C2.Perm (A.drop s ++ B.drop (M - s)) → SrtK key C2 → (C ++ C2).Perm (A ++ B) ∧ SrtK key (C ++ C2) := fun C2 h4 h5 => by
      refine ⟨?_, List.pairwise_append.2 ⟨hCs, h5, fun x hx y hy => hcut x (hCp.mem_iff.1 hx) y (h4.mem_iff.1 hy)⟩⟩
      refine (hCp.append h4).trans ?_
      have e1 : (A.take s ++ B.take (M - s)) ++ (A.drop s ++ B.drop (M - s)) = A.take s ++ (B.take (M - s) ++ (A.drop s ++ B.drop (M - s))) := by rw [List.append_assoc]
      have e2 : A ++ B = A.take s ++ (A.drop s ++ (B.take (M - s) ++ B.drop (M - s))) := by rw [List.take_append_drop, ← List.append_assoc, List.take_append_drop]
      rw [e1, e2]
      exact List.Perm.append_left _ (List.perm_append_comm_assoc _ _ _)
    by_cases hl : 0 < A.length - s ∧ 0 < B.length - (M - s)
    · repeat' (first | refine move_i_l S rfl rfl ?_ | (refine lss_l S rfl rfl rfl ?_ ?_ <;> intro hcmp <;> try (exfalso; first | omega | exact hcmp (by decide) | exact absurd hcmp (by decide))) | refine nilL ?_ | refine run_seq ?_ | refine run_region ?_ | refine onL rfl rfl ?_ | refine move_b_l S rfl rfl ?_ | refine pick_tb_l S rfl rfl rfl ?_ | refine move_s_l S rfl rfl ?_ | refine move_o_l S rfl rfl ?_ | refine run_cond_true rfl ?_ | refine thenQ_n ?_)
      refine callL (ih _ (pre ++ C) (A.drop s) (B.drop (M - s)) post (pre.length + M) (pre.length + A.length + (M - s)) (pre.length + A.length + B.length) (by omega) (by omega) (by omega) (by rw [List.length_append, hCl, lt3, lt4]; omega) (by rw [List.length_append, hCl]) (by rw [List.length_append, hCl, lt3]; omega) (by rw [List.length_append, hCl, lt3, lt4]; omega) hsr hsr2 (fun u hu => hdA u (List.mem_of_mem_drop hu)) (fun u hu => hdB u (List.mem_of_mem_drop hu)) (by rw [List.append_assoc]; exact S)) rfl rfl ?_
      clear S
      rintro e1 w ⟨rfl, C2, h4, h5, S⟩
      refine ⟨_, rfl, ?_⟩
      repeat' (first | refine nilL ?_ | refine ret0_n ?_)
      exact ⟨rfl, C ++ C2, (hfin C2 h4 h5).1, (hfin C2 h4 h5).2, by rw [List.append_assoc] at S ⊢; exact S⟩
    · have h5 : SrtK key (A.drop s ++ B.drop (M - s)) := by
        by_cases hs0 : A.length - s = 0
        · rw [List.drop_of_length_le (by omega), List.nil_append]
          exact hsr2
        · rw [List.drop_of_length_le (l := B) (by omega), List.append_nil]
          exact hsr
      have S2 : Sat F w₀ w (row a N cap e 1 (gL encI 0 (pre ++ ((C ++ (A.drop s ++ B.drop (M - s))) ++ post))) :: R :: L) := by
        rw [show pre ++ ((C ++ (A.drop s ++ B.drop (M - s))) ++ post) = pre ++ (C ++ (A.drop s ++ (B.drop (M - s) ++ post))) from by simp]
        exact S
      clear S
      have S := S2
      repeat' (first | refine move_i_l S rfl rfl ?_ | (refine lss_l S rfl rfl rfl ?_ ?_ <;> intro hcmp <;> try (exfalso; first | omega | exact hcmp (by decide) | exact absurd hcmp (by decide))) | refine nilL ?_ | refine run_seq ?_ | refine run_skip ?_ | refine run_region ?_ | refine onL rfl rfl ?_ | refine offL rfl rfl rfl rfl ?_ | refine move_b_l S rfl rfl ?_ | refine pick_tb_l S rfl rfl rfl ?_ | refine pick_fb_l S rfl rfl rfl ?_ | refine run_cond_false rfl ?_ | refine thenQ_n ?_ | refine ret0_n ?_)
      all_goals exact ⟨rfl, _, (hfin _ (.refl _) h5).1, (hfin _ (.refl _) h5).2, S⟩
/-- symMerge, of whatever length. -/
theorem symM_all (hc : CmpOk f l2 R key dom) {N : Nat} (hn : N ≤ 1000000) : ∀ K, SymOk F w₀ L a cap e N R key dom f l2 K := by
  intro K
  induction K with
  | zero => intro w pre A B post x m y h; omega
  | succ K ih =>
    intro w pre A B post x m y hK h1 h2 hN hx hm hy hsA hsB hdA hdB S
    subst hx hm hy
    by_cases hA : A.length = 1
    · obtain ⟨u, rfl⟩ := List.length_eq_one_iff.1 hA
      have := symOneL_at (e := e) (f := f) (l2 := l2) hc (N := N) (pre := pre) (B := B) (post := post) (x := u) (S := S) (by simpa using hN) hn (hdA u (by simp)) hdB hsB
      exact this
    by_cases hB : B.length = 1
    · obtain ⟨u, rfl⟩ := List.length_eq_one_iff.1 hB
      have := symOneR_at (e := e) (f := f) (l2 := l2) hc (N := N) (pre := pre) (A := A) (post := post) (x := u) S (by simpa using hN) hn (by omega) (hdB u (by simp)) hdA hsA
      exact this
    exact symGen_at hc S hN hn (by omega) (by omega) hdA hdB hsA hsB (fun w pre A' B' post x m y h => ih w pre A' B' post x m y (by omega))
end
end Go.Proofs.Ytciehimnhnbipaa
