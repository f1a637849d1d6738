/- slices.SortStableFunc of ints, its parts: symMerge where the right part has one element. -/
import Derived.Test.YtciehimnhnbipaaStbD
namespace Go.Proofs.Ytciehimnhnbipaa
open Go.RowKit Go.Lib
set_option linter.unusedVariables false
set_option maxHeartbeats 8000000
section
variable {F : Nat → Prop} {w₀ w : World} {L : List Res} {a : Option Addr} {cap e : Nat} {R : Res} {key : Int → Int} {dom : Int → Prop} {f : FuncId} [FnOk Try.prog f] {l2 : List Value}
theorem symOneR_at (hc : CmpOk f l2 R key dom) {N : Nat} {pre A post : List Int} {x : Int} (S : Sat F w₀ w (row a N cap e 1 (gL encI 0 (pre ++ (A ++ x :: post))) :: R :: L)) (hN : N = pre.length + A.length + 1 + post.length) (hn : N ≤ 1000000) (hA : 2 ≤ A.length) (hx : dom x) (hd : ∀ x ∈ A, dom x) (hs : SrtK key A) :
    Calls Try.prog 81 #[.slice a N cap, .int .i64 (pre.length : Nat), .int .i64 (pre.length + A.length : Nat), .int .i64 (pre.length + A.length + 1 : Nat), .func (.func f) #[] l2.toArray] w fun r w' => r = .returned (.tuple #[]) ∧
      ∃ C, C.Perm (A ++ [x]) ∧ SrtK key C ∧ Sat F w₀ w' (row a N cap e 1 (gL encI 0 (pre ++ (C ++ post))) :: R :: L) := by
  refine enter0 Try.func81 rfl Try.ntmps81 rfl Try.results81 ?_
  repeat' (first | refine move_i_l S rfl rfl ?_ | refine assign_i_l S rfl rfl ?_ | refine nilL ?_ | refine run_seq ?_ | refine run_skip ?_ | refine run_region ?_ | refine sub_l S rfl rfl (wrap_in (by omega)) rfl ?_ | (refine eql_l S rfl rfl rfl ?_ ?_ <;> intro hcmp <;> try (exfalso; first | omega | exact hcmp (by decide) | exact absurd hcmp (by decide))) | refine run_block ?_ | refine run_cond_true rfl ?_ | refine run_cond_false rfl ?_ | refine thenQ_n ?_)
  refine run_while [16, 83, 84, 85, 86, 87, 88, 89, 90, 91, 92, 93, 94, 95, 96, 97, 98, 99, 100, 101, 102, 103, 104, 105, 106] (fun (q : Nat × Nat) t => upd (upd t 14 (.int .i64 (pre.length + q.1 : Nat))) 15 (.int .i64 (pre.length + q.2 : Nat))) (fun q w' => (q.1 ≤ q.2 ∧ q.2 ≤ A.length ∧ (∀ u, u < q.1 → key (A.getD u 0) ≤ key x) ∧ ∀ u, q.2 ≤ u → u < A.length → key x < key (A.getD u 0)) ∧ Sat F w₀ w' (row a N cap e 1 (gL encI 0 (pre ++ (A ++ x :: post))) :: R :: L)) (fun q => q.2 - q.1) (0, A.length) ?_ ?_ ?_
  · (repeat (first | exact agree_refl | refine agree_r rfl ?_ | refine agree_l rfl ?_ | refine agree_hv rfl ?_))
  · exact ⟨⟨Nat.zero_le _, Nat.le_refl _, fun u hu => absurd hu (Nat.not_lt_zero u), fun u h1 h2 => absurd h2 (Nat.not_lt.2 h1)⟩, S⟩
  clear S
  rintro ⟨i, j⟩ jj w ⟨⟨hij, hj, hlo, hhi⟩, S⟩
  replace hij : i ≤ j := hij
  replace hj : j ≤ A.length := hj
  replace hlo : ∀ u, u < i → key (A.getD u 0) ≤ key x := hlo
  replace hhi : ∀ u, j ≤ u → u < A.length → key x < key (A.getD u 0) := hhi
  dsimp only
  by_cases hlt : i < j
  · repeat' (first | refine move_i_l S rfl rfl ?_ | (refine lss_l S rfl rfl rfl ?_ ?_ <;> intro hcmp <;> try (exfalso; first | omega | exact hcmp (by decide) | exact absurd hcmp (by decide))) | refine nilL ?_ | refine run_seq ?_ | refine run_skip ?_ | refine run_region ?_ | refine add_l S rfl rfl (wrap_in (by omega)) rfl ?_ | refine convert_l S rfl (wrapu_in (by omega)) rfl ?_ | refine run_block ?_ | refine run_cond_true rfl ?_ | refine thenQ_n ?_)
    refine half_l rfl rfl rfl ?_
    repeat' (first | refine assign_i_l S rfl rfl ?_ | refine nilL ?_ | refine run_seq ?_ | refine convert_l S rfl (wrap_in (by omega)) rfl ?_ | refine thenQ_n ?_)
    obtain ⟨h, hh⟩ : ∃ h, h = (i + j) / 2 := ⟨_, rfl⟩
    have hh1 : i ≤ h ∧ h < j := by omega
    rw [show (((pre.length + i : Nat) : Int) + ((pre.length + j : Nat) : Int)) / 2 = ((pre.length + h : Nat) : Int) from by omega]
    have e1 : (pre ++ (A ++ x :: post)).getD (pre.length + A.length) 0 = x := by
      rw [show (pre ++ (A ++ x :: post)) = (pre ++ A) ++ x :: post from by simp, getD_mid (by simp)]
    have e2 : (pre ++ (A ++ x :: post)).getD (pre.length + h) 0 = A.getD h 0 := getD_in (by omega)
    have hdb : dom (A.getD h 0) := hd _ (by rw [List.getD_eq_getElem?_getD, List.getElem?_eq_getElem (show h < A.length by omega)]; exact List.getElem_mem _)
    refine run_any S (L' := [row a N cap e 1 (gL encI 0 (pre ++ (A ++ x :: post)))]) (f := 12) mixed rfl ?_
    clear S
    intro w S1
    have S : Sat _ _ w [row a N cap e 1 (gL encI 0 (pre ++ (A ++ x :: post)))] := S1.sub
    all_goals (refine any_pure (i := 0) rfl (by kernel_rfl) S ?_; refine move_o_x rfl rfl ?_)
    all_goals (refine any_pure (i := 1) rfl (by kernel_rfl) S ?_; refine move_s_x rfl rfl ?_)
    all_goals (refine any_pure (i := 2) rfl (by kernel_rfl) S ?_; refine move_i_x rfl rfl ?_)
    all_goals (refine any_pure (i := 3) rfl (by kernel_rfl) S ?_; (first | refine indexAddr_x rfl rfl (idx_cast _) (by first | omega | decide | (simp; done) | (simp; omega)) rfl ?_ | refine indexAddr_x rfl rfl (idx_eq _) (by first | omega | decide | (simp; done) | (simp; omega)) rfl ?_))
    all_goals (refine any_pure (i := 4) rfl (by kernel_rfl) S ?_; (first | refine load_i_x rfl rfl rfl rfl ?_ | refine load_o_x rfl rfl rfl rfl ?_ | refine loadE_i_x rfl (by first | omega | decide | (simp; done) | (simp; omega)) rfl rfl rfl ?_ | refine loadE_o_x rfl (by first | omega | decide | (simp; done) | (simp; omega)) rfl rfl rfl ?_))
    all_goals (refine any_pure (i := 5) rfl (by kernel_rfl) S ?_; refine move_s_x rfl rfl ?_)
    all_goals (refine any_pure (i := 6) rfl (by kernel_rfl) S ?_; refine move_i_x rfl rfl ?_)
    all_goals (refine any_pure (i := 7) rfl (by kernel_rfl) S ?_; (first | refine indexAddr_x rfl rfl (idx_cast _) (by first | omega | decide | (simp; done) | (simp; omega)) rfl ?_ | refine indexAddr_x rfl rfl (idx_eq _) (by first | omega | decide | (simp; done) | (simp; omega)) rfl ?_))
    all_goals (refine any_pure (i := 8) rfl (by kernel_rfl) S ?_; (first | refine load_i_x rfl rfl rfl rfl ?_ | refine load_o_x rfl rfl rfl rfl ?_ | refine loadE_i_x rfl (by first | omega | decide | (simp; done) | (simp; omega)) rfl rfl rfl ?_ | refine loadE_o_x rfl (by first | omega | decide | (simp; done) | (simp; omega)) rfl rfl rfl ?_))
    all_goals refine any_step (i := 9) rfl (by kernel_rfl) ?_
    all_goals replace S := S1
    clear S1
    refine callV (f := f) (l1 := []) (l2 := l2) (l := [.int .i64 x, .int .i64 (A.getD h 0)]) rfl (hc _ _ _ hx hdb S.second) (by
      show [Value.int .i64 _, Value.int .i64 _] = _
      rw [e1, e2]) rfl ?_
    rintro e w ⟨z, rfl, hz, hb⟩
    replace S := S.below hb
    clear hb
    refine ⟨_, rfl, ?_⟩
    by_cases hz0 : z < 0
    · have hxy := hz.1 hz0
      all_goals try refine nilL ?_
      all_goals refine ⟨S.sub, ?_⟩
      all_goals (have S1 := S; replace S : Sat _ _ _ [row a N cap e 1 (gL encI 0 (pre ++ (A ++ x :: post)))] := S1.sub)
      all_goals (refine any_pure (i := 10) rfl (by kernel_rfl) S ?_; (refine lss_x rfl rfl rfl ?_ ?_ <;> intro hcmp <;> try (exfalso; first | omega | exact hcmp (by decide) | exact absurd hcmp (by decide))))
      all_goals (refine any_pure (i := 11) rfl (by kernel_rfl) S ?_; refine not_x rfl rfl ?_)
      all_goals refine any_end (by kernel_rfl) ?_
      all_goals replace S := S1
      clear S1
      repeat' (first | refine move_i_l S rfl rfl ?_ | refine assign_i_l S rfl rfl ?_ | refine nilL ?_ | refine run_region ?_ | refine run_cond_false rfl ?_ | refine thenQ_n ?_ | refine blockQ_n ?_)
      refine ⟨(i, h), ?_, ⟨⟨hh1.1, by show h ≤ A.length; omega, hlo, fun u hu hl => ?_⟩, S⟩, by show h - i < j - i; omega⟩
      · (repeat (first | exact agree_refl | refine agree_r rfl ?_ | refine agree_l rfl ?_ | refine agree_hv rfl ?_))
      · have := srtK_get hs (i := h) (j := u) hu hl
        omega
    · have hxy : key (A.getD h 0) ≤ key x := by have := fun h => hz0 (hz.2 h); omega
      all_goals try refine nilL ?_
      all_goals refine ⟨S.sub, ?_⟩
      all_goals (have S1 := S; replace S : Sat _ _ _ [row a N cap e 1 (gL encI 0 (pre ++ (A ++ x :: post)))] := S1.sub)
      all_goals (refine any_pure (i := 10) rfl (by kernel_rfl) S ?_; (refine lss_x rfl rfl rfl ?_ ?_ <;> intro hcmp <;> try (exfalso; first | omega | exact hcmp (by decide) | exact absurd hcmp (by decide))))
      all_goals (refine any_pure (i := 11) rfl (by kernel_rfl) S ?_; refine not_x rfl rfl ?_)
      all_goals refine any_end (by kernel_rfl) ?_
      all_goals replace S := S1
      clear S1
      repeat' (first | refine move_i_l S rfl rfl ?_ | refine assign_i_l S rfl rfl ?_ | refine nilL ?_ | refine run_region ?_ | refine add_l S rfl rfl (wrap_in (by omega)) rfl ?_ | refine run_cond_true rfl ?_ | refine thenQ_n ?_ | refine blockQ_n ?_)
      refine ⟨(h + 1, j), ?_, ⟨⟨by show h + 1 ≤ j; omega, hj, fun u hu => ?_, hhi⟩, S⟩, by show j - (h + 1) < j - i; omega⟩
      · dsimp only
        rw [show ((pre.length + (h + 1) : Nat) : Int) = ((pre.length + h : Nat) : Int) + 1 from by omega]
        (repeat (first | exact agree_refl | refine agree_r rfl ?_ | refine agree_l rfl ?_ | refine agree_hv rfl ?_))
      · have := srtK_get hs (i := u) (j := h) (by have : u < h + 1 := hu; omega) (by omega)
        omega
  · obtain rfl : i = j := by omega
    repeat' (first | refine move_i_l S rfl rfl ?_ | refine assign_i_l S rfl rfl ?_ | (refine lss_l S rfl rfl rfl ?_ ?_ <;> intro hcmp <;> try (exfalso; first | omega | exact hcmp (by decide) | exact absurd hcmp (by decide))) | refine nilL ?_ | refine run_seq ?_ | refine run_region ?_ | refine run_block ?_ | refine run_exit ?_ | refine run_cond_false rfl ?_ | refine thenQ_n ?_ | refine thenQ_e ?_ | refine blockQ_s rfl ?_)
    refine run_while [108, 109, 110, 111, 112, 113, 114, 115, 116, 117, 118, 119, 120, 121, 122, 123, 124, 125, 126, 127, 128] (fun (q : Nat) t => upd t 17 (.int .i64 (pre.length + q : Nat))) (fun q w' => (i ≤ q ∧ q ≤ A.length) ∧ Sat F w₀ w' (row a N cap e 1 (gL encI 0 (pre ++ A.take q ++ x :: (A.drop q ++ post))) :: R :: L)) (fun q => q - i) A.length ?_ ?_ ?_
    · (repeat (first | exact agree_refl | refine agree_r rfl ?_ | refine agree_l rfl ?_ | refine agree_hv rfl ?_))
    · refine ⟨⟨hj, Nat.le_refl _⟩, ?_⟩
      rw [List.take_length, List.drop_length]
      simpa using S
    clear S
    rintro q jj2 w ⟨⟨hq1, hq2⟩, S⟩
    by_cases hqi : i < q
    · repeat' (first | refine move_i_l S rfl rfl ?_ | refine nilL ?_ | refine run_seq ?_ | refine run_skip ?_ | refine run_region ?_ | (refine gtr_l S rfl rfl rfl ?_ ?_ <;> intro hcmp <;> try (exfalso; first | omega | exact hcmp (by decide) | exact absurd hcmp (by decide))) | refine run_block ?_ | refine run_cond_true rfl ?_ | refine thenQ_n ?_)
      obtain ⟨p, rfl⟩ : ∃ p, q = p + 1 := ⟨q - 1, by omega⟩
      have hql : p < A.length := by omega
      obtain ⟨y, hy⟩ : ∃ y, A[p]? = some y := ⟨_, List.getElem?_eq_getElem hql⟩
      have hdr : A.drop p = y :: A.drop (p + 1) := by
        rw [List.drop_eq_getElem_cons hql]
        rw [List.getElem?_eq_getElem hql] at hy
        rw [Option.some.inj hy]
      have htk : A.take (p + 1) = A.take p ++ [y] := by rw [List.take_add_one, hy]; rfl
      have hlc : (pre ++ A.take (p + 1) ++ x :: (A.drop (p + 1) ++ post)).length = N := by
        rw [hN]
        simp
        omega
      refine run_anyB_at (c := 15) (f := 18) (L' := [row a N cap e 1 (gL encI 0 (pre ++ A.take (p + 1) ++ x :: (A.drop (p + 1) ++ post)))]) [113, 114, 115, 116, 117, 118, 119, 120, 121, 122, 123, 124, 125, 126, 127, 128] (fun (s : Unit) t => t) (fun s w' => Sat F w₀ w' (row a N cap e 1 (gset (gset (gL encI 0 (pre ++ A.take (p + 1) ++ x :: (A.drop (p + 1) ++ post))) (pre.length + (p + 1)) 0 (.int .i64 ((pre ++ A.take (p + 1) ++ x :: (A.drop (p + 1) ++ post)).getD (((pre.length + (p + 1) : Nat) : Int) - 1).toNat 0))) (((pre.length + (p + 1) : Nat) : Int) - 1).toNat 0 (.int .i64 ((pre ++ A.take (p + 1) ++ x :: (A.drop (p + 1) ++ post)).getD (pre.length + (p + 1)) 0))) :: R :: L)) S mixed rfl ?_ ?_
      · clear S
        intro w S1
        have S : Sat _ _ w [row a N cap e 1 (gL encI 0 (pre ++ A.take (p + 1) ++ x :: (A.drop (p + 1) ++ post)))] := S1.sub
        (refine anyB_chain (i := 0) [15] rfl (by kernel_rfl) S ?_; refine move_s_x rfl rfl ?_)
        (refine anyB_chain (i := 1) [15] rfl (by kernel_rfl) S ?_; refine move_i_x rfl rfl ?_)
        (refine anyB_chain (i := 5) [15] rfl (by kernel_rfl) S ?_; refine move_s_x rfl rfl ?_)
        (refine anyB_chain (i := 6) [15] rfl (by kernel_rfl) S ?_; refine move_i_x rfl rfl ?_)
        (refine anyB_chain (i := 7) [15] rfl (by kernel_rfl) S ?_; (first | refine sub_x rfl rfl (wrap_in (by omega)) rfl ?_ | refine sub_x rfl rfl rfl rfl ?_))
        (refine anyB_chain (i := 8) [15] rfl (by kernel_rfl) S ?_; refine indexAddr_x rfl rfl (idx_eq _) (by omega) rfl ?_)
        (refine anyB_chain (i := 9) [15] rfl (by kernel_rfl) S ?_; (first | refine load_i_x rfl rfl rfl rfl ?_ | refine load_o_x rfl rfl rfl rfl ?_ | refine loadE_i_x rfl (by first | omega | decide | (simp; done) | (simp; omega)) rfl rfl rfl ?_ | refine loadE_o_x rfl (by first | omega | decide | (simp; done) | (simp; omega)) rfl rfl rfl ?_))
        (refine anyB_chain (i := 10) [12, 13, 15] rfl (by kernel_rfl) S ?_; refine move_s_x rfl rfl ?_)
        (refine anyB_chain (i := 11) [12, 13, 15] rfl (by kernel_rfl) S ?_; refine move_i_x rfl rfl ?_)
        (refine anyB_chain (i := 12) [13, 15] rfl (by kernel_rfl) S ?_; (first | refine indexAddr_x rfl rfl (idx_cast _) (by first | omega | decide | (simp; done) | (simp; omega)) rfl ?_ | refine indexAddr_x rfl rfl (idx_eq _) (by first | omega | decide | (simp; done) | (simp; omega)) rfl ?_))
        (refine anyB_chain (i := 13) [15] rfl (by kernel_rfl) S ?_; (first | refine load_i_x rfl rfl rfl rfl ?_ | refine load_o_x rfl rfl rfl rfl ?_ | refine loadE_i_x rfl (by first | omega | decide | (simp; done) | (simp; omega)) rfl rfl rfl ?_ | refine loadE_o_x rfl (by first | omega | decide | (simp; done) | (simp; omega)) rfl rfl rfl ?_))
        (refine anyB_chain (i := 14) [15] rfl (by kernel_rfl) S ?_; (first | refine indexAddr_x rfl rfl (idx_cast _) (by first | omega | decide | (simp; done) | (simp; omega)) rfl ?_ | refine indexAddr_x rfl rfl (idx_eq _) (by first | omega | decide | (simp; done) | (simp; omega)) rfl ?_))
        (refine anyB_free (i := 2) rfl (by kernel_rfl) (fun _ => S) ?_; (first | refine move0 (v := .int _ _) rfl rfl ?_ | refine move0 (v := .slice _ _ _) rfl rfl ?_ | refine move0 rfl rfl ?_ | refine add0 rfl rfl (wrap_in (by omega)) rfl ?_ | refine sub0 rfl rfl (wrap_in (by omega)) rfl ?_))
        (refine anyB_free (i := 3) rfl (by kernel_rfl) (fun _ => S) ?_; (first | refine move0 (v := .int _ _) rfl rfl ?_ | refine move0 (v := .slice _ _ _) rfl rfl ?_ | refine move0 rfl rfl ?_ | refine add0 rfl rfl (wrap_in (by omega)) rfl ?_ | refine sub0 rfl rfl (wrap_in (by omega)) rfl ?_))
        (refine anyB_free (i := 4) rfl (by kernel_rfl) (fun _ => S) ?_; (first | refine move0 (v := .int _ _) rfl rfl ?_ | refine move0 (v := .slice _ _ _) rfl rfl ?_ | refine move0 rfl rfl ?_ | refine add0 rfl rfl (wrap_in (by omega)) rfl ?_ | refine sub0 rfl rfl (wrap_in (by omega)) rfl ?_))
        refine anyB_all (l := [15]) (by kernel_rfl) (by decide) ?_
        intro i hi
        simp only [List.mem_cons, List.not_mem_nil, or_false] at hi
        subst hi
        (refine ⟨_, rfl, ?_⟩; replace S := S1; clear S1; (first | (refine store_i S rfl rfl rfl ?_; clear S; intro w S) | (refine storeE_i S rfl rfl (by omega) rfl ?_; clear S; intro w S)); refine nilL ?_; refine ⟨nope (by kernel_rfl), ?_⟩; have S1 := S)
        refine anyB_all (l := [16]) (by kernel_rfl) (by decide) ?_
        intro i hi
        simp only [List.mem_cons, List.not_mem_nil, or_false] at hi
        subst hi
        (refine ⟨_, rfl, ?_⟩; replace S := S1; clear S1; refine indexAddr_l S rfl rfl (idx_eq _) (by omega) rfl ?_; refine nilL ?_; refine ⟨nope (by kernel_rfl), ?_⟩; have S1 := S)
        refine anyB_all (l := [17]) (by kernel_rfl) (by decide) ?_
        intro i hi
        simp only [List.mem_cons, List.not_mem_nil, or_false] at hi
        subst hi
        (refine ⟨_, rfl, ?_⟩; replace S := S1; clear S1; (first | (refine store_i S rfl rfl rfl ?_; clear S; intro w S) | (refine storeE_i S rfl rfl (by omega) rfl ?_; clear S; intro w S)); refine nilL ?_; refine ⟨nope (by kernel_rfl), ?_⟩; have S1 := S)
        refine anyB_end (by kernel_rfl) ?_
        exact ⟨(), (by (repeat (first | exact agree_refl | refine agree_r rfl ?_ | refine agree_l rfl ?_ | refine agree_hv rfl ?_))), S1⟩
      · clear S
        rintro ⟨⟩ j3 w S
        rw [show (((pre.length + (p + 1) : Nat) : Int) - 1).toNat = pre.length + p from by omega, show pre.length + (p + 1) = pre.length + p + 1 from rfl] at S
        have hcs : (pre ++ A.take (p + 1) ++ x :: (A.drop (p + 1) ++ post)) = (pre ++ A.take p) ++ y :: x :: (A.drop (p + 1) ++ post) := by rw [htk]; simp
        have hpl : pre.length + p = (pre ++ A.take p).length := by simp; omega
        have hr := row_swp (e := e) (a := a) (cap := cap) (w := w) (i := pre.length + p + 1) (j := pre.length + p) (zs := (pre ++ A.take (p + 1) ++ x :: (A.drop (p + 1) ++ post))) (by rw [hlc]; omega) (by rw [hlc]; omega) (by rw [hlc]; exact S.got1)
        have hsw : swp (pre ++ A.take (p + 1) ++ x :: (A.drop (p + 1) ++ post)) (pre.length + p + 1) (pre.length + p) = (pre ++ A.take p) ++ x :: y :: (A.drop (p + 1) ++ post) := by rw [hcs, swp_mid _ _ _ _ _ hpl]
        rw [hsw, show ((pre ++ A.take p) ++ x :: y :: (A.drop (p + 1) ++ post)).length = N from by rw [← hlc, hcs]; simp] at hr
        have S2 := S.turn1 (r' := row a N cap e 1 (gL encI 0 ((pre ++ A.take p) ++ x :: y :: (A.drop (p + 1) ++ post)))) hr rfl (fun k e => e)
        clear S
        have S := S2
        repeat' (first | refine move_i_l S rfl rfl ?_ | refine assign_i_l S rfl rfl ?_ | refine nilL ?_ | refine run_region ?_ | refine sub_l S rfl rfl (wrap_in (by omega)) rfl ?_ | refine thenQ_n ?_ | refine blockQ_n ?_)
        refine ⟨p, ?_, ⟨⟨by omega, by omega⟩, ?_⟩, by omega⟩
        · rw [show ((pre.length + p : Nat) : Int) = ((pre.length + (p + 1) : Nat) : Int) - 1 from by omega]
          (repeat (first | exact agree_refl | refine agree_r rfl ?_ | refine agree_l rfl ?_ | refine agree_hv rfl ?_))
        · rw [hdr]
          simpa using S
    · repeat' (first | refine move_i_l S rfl rfl ?_ | refine nilL ?_ | refine run_seq ?_ | refine run_region ?_ | (refine gtr_l S rfl rfl rfl ?_ ?_ <;> intro hcmp <;> try (exfalso; first | omega | exact hcmp (by decide) | exact absurd hcmp (by decide))) | refine run_ret ?_ | refine run_exit ?_ | refine run_cond_false rfl ?_ | refine thenQ_n ?_ | refine thenQ_r ?_ | refine thenQ_e ?_ | refine blockQ_s rfl ?_ | refine ret0_l ?_)
      obtain rfl : q = i := by omega
      refine ⟨rfl, A.take q ++ x :: A.drop q, ?_, ?_, by simpa using S⟩
      · refine List.perm_middle.trans ?_
        rw [List.take_append_drop]
        exact List.perm_append_comm (l₁ := [x]) (l₂ := A)
      · refine List.pairwise_append.2 ⟨hs.sublist (List.take_sublist _ _), List.pairwise_cons.2 ⟨fun u hu => ?_, hs.sublist (List.drop_sublist _ _)⟩, fun u hu v hv => ?_⟩
        · obtain ⟨k, hk, rfl⟩ := List.getElem_of_mem hu
          rw [List.getElem_drop]
          rw [List.length_drop] at hk
          have h2 := hhi (q + k) (by omega) (by omega)
          rw [List.getD_eq_getElem?_getD, List.getElem?_eq_getElem (show q + k < A.length by omega)] at h2
          have h2' : key x < key A[q + k] := h2
          omega
        · obtain ⟨k, hk, rfl⟩ := List.getElem_of_mem hu
          rw [List.getElem_take]
          rw [List.length_take] at hk
          have h1 := hlo k (by omega)
          rw [List.getD_eq_getElem?_getD, List.getElem?_eq_getElem (show k < A.length by omega)] at h1
          have h1' : key A[k] ≤ key x := h1
          rcases List.mem_cons.1 hv with rfl | hv
          · exact h1'
          · obtain ⟨k2, hk2, rfl⟩ := List.getElem_of_mem hv
            rw [List.getElem_drop]
            rw [List.length_drop] at hk2
            have h2 := hhi (q + k2) (by omega) (by omega)
            rw [List.getD_eq_getElem?_getD, List.getElem?_eq_getElem (show q + k2 < A.length by omega)] at h2
            have h2' : key x < key A[q + k2] := h2
            omega
end
end Go.Proofs.Ytciehimnhnbipaa
