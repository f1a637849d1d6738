/- slices.SortStableFunc of ints, its parts: symMerge where one part has one element. -/
import Derived.Test.YtciehimnhnbipaaStbC
namespace Go.Proofs.Ytciehimnhnbipaa
open Go.RowKit Go.Lib
set_option linter.unusedVariables false
set_option maxHeartbeats 8000000
section
variable {S : Nat → Prop} {w₀ : World} {L : List Res} {P : Program} {ops : Array Oper} {n : Nat} {rest : List Oper} {t : Tm} {w : World} {K : Tm → World → Prop} {d : Nat} {ty : TypeId} {pos : String} {af : Array Edge}
theorem half_l {x y : Operand} {T T' : TypeId} {z : Int} (hx : ev t x = .int .u64 z) (hy : ev t y = .int .u64 1) (hd : Nat.blt d n = true) (kk : RunL P ops n rest (upd t d (.int .u64 (z / 2))) w K) : RunL P ops n (⟨some d, .binOp .shr T x y T', ty, pos, af, none⟩ :: rest) t w K :=
  valL rfl rfl hd (by
    show Sem.run P (do let u ← (do eqGuard .shr T x y (ev t x) (ev t y); binOp .shr T (ev t x) (ev t y)); pure (Next.value u)) w = _
    rw [hx, hy, eqGuard_shr]
    show Sem.run P (do let u ← binOp .shr T (.int .u64 z) (.int .u64 1); pure (Next.value u)) w = _
    rw [binOp_shr, shift_shr .u64 .u64 z 1 (by decide) (by decide)]
    rfl) kk
end
theorem swp_mid2 (P Q : List Int) (x y : Int) (n : Nat) (h : n = P.length) : swp (P ++ y :: x :: Q) n (n + 1) = P ++ x :: y :: Q := by
  subst h
  unfold swp
  rw [getD_mid rfl, show (P ++ y :: x :: Q).getD (P.length + 1) 0 = x from by rw [show (P ++ y :: x :: Q) = (P ++ [y]) ++ x :: Q from by simp, getD_mid (by simp)]]
  rw [List.set_append_right _ _ (Nat.le_refl _)]
  simp
theorem getD_in {P Q R : List Int} {n : Nat} (h : n < Q.length) : (P ++ (Q ++ R)).getD (P.length + n) 0 = Q.getD n 0 := by
  rw [List.getD_eq_getElem?_getD, List.getD_eq_getElem?_getD, List.getElem?_append_right (by omega), List.getElem?_append_left (by omega), Nat.add_sub_cancel_left]
theorem srtK_get {key : Int → Int} {l : List Int} (h : SrtK key l) {i j : Nat} (hij : i ≤ j) (hj : j < l.length) : key (l.getD i 0) ≤ key (l.getD j 0) := by
  by_cases e : i = j
  · rw [e]; exact Int.le_refl _
  · have := List.pairwise_iff_getElem.1 h i j (by omega) hj (by omega)
    rw [List.getD_eq_getElem?_getD, List.getD_eq_getElem?_getD, List.getElem?_eq_getElem hj, List.getElem?_eq_getElem (show i < l.length by omega)]
    exact this
section
variable {F : Nat → Prop} {w₀ w : World} {L : List Res} {a : Option Addr} {cap e : Nat} {R : Res} {key : Int → Int} {dom : Int → Prop} {f : FuncId} [FnOk Try.prog f] {l2 : List Value}
theorem symOneL_at (hc : CmpOk f l2 R key dom) {N : Nat} {pre B post : List Int} {x : Int} (S : Sat F w₀ w (row a N cap e 1 (gL encI 0 (pre ++ x :: (B ++ post))) :: R :: L)) (hN : N = pre.length + 1 + B.length + post.length) (hn : N ≤ 1000000) (hx : dom x) (hd : ∀ x ∈ B, dom x) (hs : SrtK key B) :
    Calls Try.prog 81 #[.slice a N cap, .int .i64 (pre.length : Nat), .int .i64 (pre.length + 1 : Nat), .int .i64 (pre.length + 1 + B.length : Nat), .func (.func f) #[] l2.toArray] w fun r w' => r = .returned (.tuple #[]) ∧
      ∃ C, C.Perm (x :: B) ∧ SrtK key C ∧ Sat F w₀ w' (row a N cap e 1 (gL encI 0 (pre ++ (C ++ post))) :: R :: L) := by
  refine enter0 Try.func81 rfl Try.ntmps81 rfl Try.results81 ?_
  repeat' (first | refine move_i_l S rfl rfl ?_ | refine assign_i_l S rfl rfl ?_ | refine nilL ?_ | refine run_seq ?_ | refine run_region ?_ | refine sub_l S rfl rfl (wrap_in (by omega)) rfl ?_ | (refine eql_l S rfl rfl rfl ?_ ?_ <;> intro hcmp <;> try (exfalso; first | omega | exact hcmp (by decide) | exact absurd hcmp (by decide))) | refine run_block ?_ | refine run_cond_true rfl ?_ | refine thenQ_n ?_)
  refine run_while [12, 31, 32, 33, 34, 35, 36, 37, 38, 39, 40, 41, 42, 43, 44, 45, 46, 47, 48, 49, 50, 51, 52, 53] (fun (q : Nat × Nat) t => upd (upd t 10 (.int .i64 (pre.length + 1 + q.1 : Nat))) 11 (.int .i64 (pre.length + 1 + q.2 : Nat))) (fun q w' => (q.1 ≤ q.2 ∧ q.2 ≤ B.length ∧ (∀ u, u < q.1 → key (B.getD u 0) < key x) ∧ ∀ u, q.2 ≤ u → u < B.length → key x ≤ key (B.getD u 0)) ∧ Sat F w₀ w' (row a N cap e 1 (gL encI 0 (pre ++ x :: (B ++ post))) :: R :: L)) (fun q => q.2 - q.1) (0, B.length) ?_ ?_ ?_
  · (repeat (first | exact agree_refl | refine agree_r rfl ?_ | refine agree_l rfl ?_ | refine agree_hv rfl ?_))
  · exact ⟨⟨Nat.zero_le _, Nat.le_refl _, fun u hu => absurd hu (Nat.not_lt_zero u), fun u h1 h2 => absurd h2 (Nat.not_lt.2 h1)⟩, S⟩
  clear S
  rintro ⟨i, j⟩ jj w ⟨⟨hij, hj, hlo, hhi⟩, S⟩
  replace hij : i ≤ j := hij
  replace hj : j ≤ B.length := hj
  replace hlo : ∀ u, u < i → key (B.getD u 0) < key x := hlo
  replace hhi : ∀ u, j ≤ u → u < B.length → key x ≤ key (B.getD u 0) := hhi
  dsimp only
  by_cases hlt : i < j
  · repeat' (first | refine move_i_l S rfl rfl ?_ | (refine lss_l S rfl rfl rfl ?_ ?_ <;> intro hcmp <;> try (exfalso; first | omega | exact hcmp (by decide) | exact absurd hcmp (by decide))) | refine nilL ?_ | refine run_seq ?_ | refine run_skip ?_ | refine run_region ?_ | refine add_l S rfl rfl (wrap_in (by omega)) rfl ?_ | refine convert_l S rfl (wrapu_in (by omega)) rfl ?_ | refine run_block ?_ | refine run_cond_true rfl ?_ | refine thenQ_n ?_)
    refine half_l rfl rfl rfl ?_
    repeat' (first | refine assign_i_l S rfl rfl ?_ | refine nilL ?_ | refine run_seq ?_ | refine convert_l S rfl (wrap_in (by omega)) rfl ?_ | refine thenQ_n ?_)
    obtain ⟨h, hh⟩ : ∃ h, h = (i + j) / 2 := ⟨_, rfl⟩
    have hh1 : i ≤ h ∧ h < j := by omega
    rw [show (((pre.length + 1 + i : Nat) : Int) + ((pre.length + 1 + j : Nat) : Int)) / 2 = ((pre.length + 1 + h : Nat) : Int) from by omega]
    have e1 : (pre ++ x :: (B ++ post)).getD (pre.length + 1 + h) 0 = B.getD h 0 := by
      rw [show (pre ++ x :: (B ++ post)) = (pre ++ [x]) ++ (B ++ post) from by simp, show pre.length + 1 + h = (pre ++ [x]).length + h from by simp, getD_in (by omega)]
    have e2 : (pre ++ x :: (B ++ post)).getD pre.length 0 = x := getD_mid rfl
    have hdb : dom (B.getD h 0) := hd _ (by rw [List.getD_eq_getElem?_getD, List.getElem?_eq_getElem (show h < B.length by omega)]; exact List.getElem_mem _)
    refine run_any S (L' := [row a N cap e 1 (gL encI 0 (pre ++ x :: (B ++ post)))]) (f := 11) mixed rfl ?_
    clear S
    intro w S1
    have S : Sat _ _ w [row a N cap e 1 (gL encI 0 (pre ++ x :: (B ++ post)))] := S1.sub
    all_goals (refine any_pure (i := 0) rfl (by kernel_rfl) S ?_; refine move_o_x rfl rfl ?_)
    all_goals (refine any_pure (i := 1) rfl (by kernel_rfl) S ?_; refine move_s_x rfl rfl ?_)
    all_goals (refine any_pure (i := 2) rfl (by kernel_rfl) S ?_; refine move_i_x rfl rfl ?_)
    all_goals (refine any_pure (i := 3) rfl (by kernel_rfl) S ?_; (first | refine indexAddr_x rfl rfl (idx_cast _) (by first | omega | decide | (simp; done) | (simp; omega)) rfl ?_ | refine indexAddr_x rfl rfl (idx_eq _) (by first | omega | decide | (simp; done) | (simp; omega)) rfl ?_))
    all_goals (refine any_pure (i := 4) rfl (by kernel_rfl) S ?_; (first | refine load_i_x rfl rfl rfl rfl ?_ | refine load_o_x rfl rfl rfl rfl ?_ | refine loadE_i_x rfl (by first | omega | decide | (simp; done) | (simp; omega)) rfl rfl rfl ?_ | refine loadE_o_x rfl (by first | omega | decide | (simp; done) | (simp; omega)) rfl rfl rfl ?_))
    all_goals (refine any_pure (i := 5) rfl (by kernel_rfl) S ?_; refine move_s_x rfl rfl ?_)
    all_goals (refine any_pure (i := 6) rfl (by kernel_rfl) S ?_; refine move_i_x rfl rfl ?_)
    all_goals (refine any_pure (i := 7) rfl (by kernel_rfl) S ?_; (first | refine indexAddr_x rfl rfl (idx_cast _) (by first | omega | decide | (simp; done) | (simp; omega)) rfl ?_ | refine indexAddr_x rfl rfl (idx_eq _) (by first | omega | decide | (simp; done) | (simp; omega)) rfl ?_))
    all_goals (refine any_pure (i := 8) rfl (by kernel_rfl) S ?_; (first | refine load_i_x rfl rfl rfl rfl ?_ | refine load_o_x rfl rfl rfl rfl ?_ | refine loadE_i_x rfl (by first | omega | decide | (simp; done) | (simp; omega)) rfl rfl rfl ?_ | refine loadE_o_x rfl (by first | omega | decide | (simp; done) | (simp; omega)) rfl rfl rfl ?_))
    all_goals refine any_step (i := 9) rfl (by kernel_rfl) ?_
    all_goals replace S := S1
    clear S1
    refine callV (f := f) (l1 := []) (l2 := l2) (l := [.int .i64 (B.getD h 0), .int .i64 x]) rfl (hc _ _ _ hdb hx S.second) (by
      show [Value.int .i64 _, Value.int .i64 _] = _
      rw [e1, e2]) rfl ?_
    rintro e w ⟨z, rfl, hz, hb⟩
    replace S := S.below hb
    clear hb
    refine ⟨_, rfl, ?_⟩
    by_cases hz0 : z < 0
    · have hxy := hz.1 hz0
      all_goals try refine nilL ?_
      all_goals refine ⟨S.sub, ?_⟩
      all_goals (have S1 := S; replace S : Sat _ _ _ [row a N cap e 1 (gL encI 0 (pre ++ x :: (B ++ post)))] := S1.sub)
      all_goals (refine any_pure (i := 10) rfl (by kernel_rfl) S ?_; (refine lss_x rfl rfl rfl ?_ ?_ <;> intro hcmp <;> try (exfalso; first | omega | exact hcmp (by decide) | exact absurd hcmp (by decide))))
      all_goals refine any_end (by kernel_rfl) ?_
      all_goals replace S := S1
      clear S1
      repeat' (first | refine move_i_l S rfl rfl ?_ | refine assign_i_l S rfl rfl ?_ | refine nilL ?_ | refine run_region ?_ | refine add_l S rfl rfl (wrap_in (by omega)) rfl ?_ | refine run_cond_true rfl ?_ | refine thenQ_n ?_ | refine blockQ_n ?_)
      refine ⟨(h + 1, j), ?_, ⟨⟨by show h + 1 ≤ j; omega, hj, fun u hu => ?_, hhi⟩, S⟩, by show j - (h + 1) < j - i; omega⟩
      · dsimp only
        rw [show ((pre.length + 1 + (h + 1) : Nat) : Int) = ((pre.length + 1 + h : Nat) : Int) + 1 from by omega]
        (repeat (first | exact agree_refl | refine agree_r rfl ?_ | refine agree_l rfl ?_ | refine agree_hv rfl ?_))
      · have := srtK_get hs (i := u) (j := h) (by have : u < h + 1 := hu; omega) (by omega)
        omega
    · have hxy : key x ≤ key (B.getD h 0) := by have := fun h => hz0 (hz.2 h); omega
      all_goals try refine nilL ?_
      all_goals refine ⟨S.sub, ?_⟩
      all_goals (have S1 := S; replace S : Sat _ _ _ [row a N cap e 1 (gL encI 0 (pre ++ x :: (B ++ post)))] := S1.sub)
      all_goals (refine any_pure (i := 10) rfl (by kernel_rfl) S ?_; (refine lss_x rfl rfl rfl ?_ ?_ <;> intro hcmp <;> try (exfalso; first | omega | exact hcmp (by decide) | exact absurd hcmp (by decide))))
      all_goals refine any_end (by kernel_rfl) ?_
      all_goals replace S := S1
      clear S1
      repeat' (first | refine move_i_l S rfl rfl ?_ | refine assign_i_l S rfl rfl ?_ | refine nilL ?_ | refine run_region ?_ | refine run_cond_false rfl ?_ | refine thenQ_n ?_ | refine blockQ_n ?_)
      refine ⟨(i, h), ?_, ⟨⟨hh1.1, by show h ≤ B.length; omega, hlo, fun u hu hl => ?_⟩, S⟩, by show h - i < j - i; omega⟩
      · (repeat (first | exact agree_refl | refine agree_r rfl ?_ | refine agree_l rfl ?_ | refine agree_hv rfl ?_))
      · have := srtK_get hs (i := h) (j := u) hu hl
        omega
  · obtain rfl : i = j := by omega
    repeat' (first | refine move_i_l S rfl rfl ?_ | refine assign_i_l S rfl rfl ?_ | (refine lss_l S rfl rfl rfl ?_ ?_ <;> intro hcmp <;> try (exfalso; first | omega | exact hcmp (by decide) | exact absurd hcmp (by decide))) | refine nilL ?_ | refine run_seq ?_ | refine run_region ?_ | refine run_block ?_ | refine run_exit ?_ | refine run_cond_false rfl ?_ | refine thenQ_n ?_ | refine thenQ_e ?_ | refine blockQ_s rfl ?_)
    refine run_while [55, 56, 57, 58, 59, 60, 61, 62, 63, 64, 65, 66, 67, 68, 69, 70, 71, 72, 73, 74, 75, 76] (fun (q : Nat) t => upd t 13 (.int .i64 (pre.length + q : Nat))) (fun q w' => q ≤ i ∧ Sat F w₀ w' (row a N cap e 1 (gL encI 0 (pre ++ B.take q ++ x :: (B.drop q ++ post))) :: R :: L)) (fun q => i - q) 0 ?_ ?_ ?_
    · (repeat (first | exact agree_refl | refine agree_r rfl ?_ | refine agree_l rfl ?_ | refine agree_hv rfl ?_))
    · exact ⟨Nat.zero_le _, by simpa using S⟩
    clear S
    rintro q jj2 w ⟨hq, S⟩
    by_cases hqi : q < i
    · repeat' (first | refine move_i_l S rfl rfl ?_ | (refine lss_l S rfl rfl rfl ?_ ?_ <;> intro hcmp <;> try (exfalso; first | omega | exact hcmp (by decide) | exact absurd hcmp (by decide))) | refine nilL ?_ | refine run_seq ?_ | refine run_skip ?_ | refine run_region ?_ | refine sub_l S rfl rfl (wrap_in (by omega)) rfl ?_ | refine run_block ?_ | refine run_cond_true rfl ?_ | refine thenQ_n ?_)
      have hql : q < B.length := by omega
      obtain ⟨y, hy⟩ : ∃ y, B[q]? = some y := ⟨_, List.getElem?_eq_getElem hql⟩
      have hdr : B.drop q = y :: B.drop (q + 1) := by
        rw [List.drop_eq_getElem_cons hql]
        rw [List.getElem?_eq_getElem hql] at hy
        rw [Option.some.inj hy]
      have htk : B.take (q + 1) = B.take q ++ [y] := by rw [List.take_add_one, hy]; rfl
      have hlc : (pre ++ B.take q ++ x :: (B.drop q ++ post)).length = N := by
        rw [hN]
        simp
        omega
      refine run_anyB_at (c := 15) (f := 18) (L' := [row a N cap e 1 (gL encI 0 (pre ++ B.take q ++ x :: (B.drop q ++ post)))]) [61, 62, 63, 64, 65, 66, 67, 68, 69, 70, 71, 72, 73, 74, 75, 76] (fun (s : Unit) t => t) (fun s w' => Sat F w₀ w' (row a N cap e 1 (gset (gset (gL encI 0 (pre ++ B.take q ++ x :: (B.drop q ++ post))) (pre.length + q) 0 (.int .i64 ((pre ++ B.take q ++ x :: (B.drop q ++ post)).getD (((pre.length + q : Nat) : Int) + 1).toNat 0))) (((pre.length + q : Nat) : Int) + 1).toNat 0 (.int .i64 ((pre ++ B.take q ++ x :: (B.drop q ++ post)).getD (pre.length + q) 0))) :: R :: L)) S mixed rfl ?_ ?_
      · clear S
        intro w S1
        have S : Sat _ _ w [row a N cap e 1 (gL encI 0 (pre ++ B.take q ++ x :: (B.drop q ++ post)))] := S1.sub
        (refine anyB_chain (i := 0) [15] rfl (by kernel_rfl) S ?_; refine move_s_x rfl rfl ?_)
        (refine anyB_chain (i := 1) [15] rfl (by kernel_rfl) S ?_; refine move_i_x rfl rfl ?_)
        (refine anyB_chain (i := 5) [15] rfl (by kernel_rfl) S ?_; refine move_s_x rfl rfl ?_)
        (refine anyB_chain (i := 6) [15] rfl (by kernel_rfl) S ?_; refine move_i_x rfl rfl ?_)
        (refine anyB_chain (i := 7) [15] rfl (by kernel_rfl) S ?_; (first | refine add_x rfl rfl (wrap_in (by omega)) rfl ?_ | refine add_x rfl rfl rfl rfl ?_))
        (refine anyB_chain (i := 8) [15] rfl (by kernel_rfl) S ?_; refine indexAddr_x rfl rfl (idx_eq _) (by omega) rfl ?_)
        (refine anyB_chain (i := 9) [15] rfl (by kernel_rfl) S ?_; (first | refine load_i_x rfl rfl rfl rfl ?_ | refine load_o_x rfl rfl rfl rfl ?_ | refine loadE_i_x rfl (by first | omega | decide | (simp; done) | (simp; omega)) rfl rfl rfl ?_ | refine loadE_o_x rfl (by first | omega | decide | (simp; done) | (simp; omega)) rfl rfl rfl ?_))
        (refine anyB_chain (i := 10) [12, 13, 15] rfl (by kernel_rfl) S ?_; refine move_s_x rfl rfl ?_)
        (refine anyB_chain (i := 11) [12, 13, 15] rfl (by kernel_rfl) S ?_; refine move_i_x rfl rfl ?_)
        (refine anyB_chain (i := 12) [13, 15] rfl (by kernel_rfl) S ?_; (first | refine indexAddr_x rfl rfl (idx_cast _) (by first | omega | decide | (simp; done) | (simp; omega)) rfl ?_ | refine indexAddr_x rfl rfl (idx_eq _) (by first | omega | decide | (simp; done) | (simp; omega)) rfl ?_))
        (refine anyB_chain (i := 13) [15] rfl (by kernel_rfl) S ?_; (first | refine load_i_x rfl rfl rfl rfl ?_ | refine load_o_x rfl rfl rfl rfl ?_ | refine loadE_i_x rfl (by first | omega | decide | (simp; done) | (simp; omega)) rfl rfl rfl ?_ | refine loadE_o_x rfl (by first | omega | decide | (simp; done) | (simp; omega)) rfl rfl rfl ?_))
        (refine anyB_chain (i := 14) [15] rfl (by kernel_rfl) S ?_; (first | refine indexAddr_x rfl rfl (idx_cast _) (by first | omega | decide | (simp; done) | (simp; omega)) rfl ?_ | refine indexAddr_x rfl rfl (idx_eq _) (by first | omega | decide | (simp; done) | (simp; omega)) rfl ?_))
        (refine anyB_free (i := 2) rfl (by kernel_rfl) (fun _ => S) ?_; (first | refine move0 (v := .int _ _) rfl rfl ?_ | refine move0 (v := .slice _ _ _) rfl rfl ?_ | refine move0 rfl rfl ?_ | refine add0 rfl rfl (wrap_in (by omega)) rfl ?_ | refine sub0 rfl rfl (wrap_in (by omega)) rfl ?_))
        (refine anyB_free (i := 3) rfl (by kernel_rfl) (fun _ => S) ?_; (first | refine move0 (v := .int _ _) rfl rfl ?_ | refine move0 (v := .slice _ _ _) rfl rfl ?_ | refine move0 rfl rfl ?_ | refine add0 rfl rfl (wrap_in (by omega)) rfl ?_ | refine sub0 rfl rfl (wrap_in (by omega)) rfl ?_))
        (refine anyB_free (i := 4) rfl (by kernel_rfl) (fun _ => S) ?_; (first | refine move0 (v := .int _ _) rfl rfl ?_ | refine move0 (v := .slice _ _ _) rfl rfl ?_ | refine move0 rfl rfl ?_ | refine add0 rfl rfl (wrap_in (by omega)) rfl ?_ | refine sub0 rfl rfl (wrap_in (by omega)) rfl ?_))
        refine anyB_all (l := [15]) (by kernel_rfl) (by decide) ?_
        intro i hi
        simp only [List.mem_cons, List.not_mem_nil, or_false] at hi
        subst hi
        (refine ⟨_, rfl, ?_⟩; replace S := S1; clear S1; (first | (refine store_i S rfl rfl rfl ?_; clear S; intro w S) | (refine storeE_i S rfl rfl (by omega) rfl ?_; clear S; intro w S)); refine nilL ?_; refine ⟨nope (by kernel_rfl), ?_⟩; have S1 := S)
        refine anyB_all (l := [16]) (by kernel_rfl) (by decide) ?_
        intro i hi
        simp only [List.mem_cons, List.not_mem_nil, or_false] at hi
        subst hi
        (refine ⟨_, rfl, ?_⟩; replace S := S1; clear S1; refine indexAddr_l S rfl rfl (idx_eq _) (by omega) rfl ?_; refine nilL ?_; refine ⟨nope (by kernel_rfl), ?_⟩; have S1 := S)
        refine anyB_all (l := [17]) (by kernel_rfl) (by decide) ?_
        intro i hi
        simp only [List.mem_cons, List.not_mem_nil, or_false] at hi
        subst hi
        (refine ⟨_, rfl, ?_⟩; replace S := S1; clear S1; (first | (refine store_i S rfl rfl rfl ?_; clear S; intro w S) | (refine storeE_i S rfl rfl (by omega) rfl ?_; clear S; intro w S)); refine nilL ?_; refine ⟨nope (by kernel_rfl), ?_⟩; have S1 := S)
        refine anyB_end (by kernel_rfl) ?_
        exact ⟨(), (by (repeat (first | exact agree_refl | refine agree_r rfl ?_ | refine agree_l rfl ?_ | refine agree_hv rfl ?_))), S1⟩
      · clear S
        rintro ⟨⟩ j3 w S
        rw [show (((pre.length + q : Nat) : Int) + 1).toNat = pre.length + q + 1 from by omega] at S
        have hcs : (pre ++ B.take q ++ x :: (B.drop q ++ post)) = (pre ++ B.take q) ++ x :: y :: (B.drop (q + 1) ++ post) := by rw [hdr]; simp
        have hpl : pre.length + q = (pre ++ B.take q).length := by simp; omega
        have hr := row_swp (e := e) (a := a) (cap := cap) (w := w) (i := pre.length + q) (j := pre.length + q + 1) (zs := (pre ++ B.take q ++ x :: (B.drop q ++ post))) (by rw [hlc]; omega) (by rw [hlc]; omega) (by rw [hlc]; exact S.got1)
        have hsw : swp (pre ++ B.take q ++ x :: (B.drop q ++ post)) (pre.length + q) (pre.length + q + 1) = (pre ++ B.take q) ++ y :: x :: (B.drop (q + 1) ++ post) := by rw [hcs, swp_mid2 _ _ _ _ _ hpl]
        rw [hsw, show ((pre ++ B.take q) ++ y :: x :: (B.drop (q + 1) ++ post)).length = N from by rw [← hlc, hcs]; simp] at hr
        have S2 := S.turn1 (r' := row a N cap e 1 (gL encI 0 ((pre ++ B.take q) ++ y :: x :: (B.drop (q + 1) ++ post)))) hr rfl (fun k e => e)
        clear S
        have S := S2
        repeat' (first | refine move_i_l S rfl rfl ?_ | refine assign_i_l S rfl rfl ?_ | refine nilL ?_ | refine run_region ?_ | refine add_l S rfl rfl (wrap_in (by omega)) rfl ?_ | refine thenQ_n ?_ | refine blockQ_n ?_)
        refine ⟨q + 1, ?_, ⟨by omega, ?_⟩, by omega⟩
        · rw [show ((pre.length + (q + 1) : Nat) : Int) = ((pre.length + q : Nat) : Int) + 1 from by omega]
          (repeat (first | exact agree_refl | refine agree_r rfl ?_ | refine agree_l rfl ?_ | refine agree_hv rfl ?_))
        · rw [htk]
          simpa using S
    · repeat' (first | refine move_i_l S rfl rfl ?_ | (refine lss_l S rfl rfl rfl ?_ ?_ <;> intro hcmp <;> try (exfalso; first | omega | exact hcmp (by decide) | exact absurd hcmp (by decide))) | refine nilL ?_ | refine run_seq ?_ | refine run_region ?_ | refine sub_l S rfl rfl (wrap_in (by omega)) rfl ?_ | refine run_ret ?_ | refine run_exit ?_ | refine run_cond_false rfl ?_ | refine thenQ_n ?_ | refine thenQ_r ?_ | refine thenQ_e ?_ | refine blockQ_s rfl ?_ | refine ret0_l ?_)
      obtain rfl : q = i := by omega
      refine ⟨rfl, B.take q ++ x :: B.drop q, ?_, ?_, by simpa using S⟩
      · refine List.perm_middle.trans ?_
        rw [List.take_append_drop]
      · refine List.pairwise_append.2 ⟨hs.sublist (List.take_sublist _ _), List.pairwise_cons.2 ⟨fun u hu => ?_, hs.sublist (List.drop_sublist _ _)⟩, fun u hu v hv => ?_⟩
        · obtain ⟨k, hk, rfl⟩ := List.getElem_of_mem hu
          rw [List.getElem_drop]
          rw [List.length_drop] at hk
          have := hhi (q + k) (by omega) (by omega)
          rwa [List.getD_eq_getElem?_getD, List.getElem?_eq_getElem (show q + k < B.length by omega)] at this
        · obtain ⟨k, hk, rfl⟩ := List.getElem_of_mem hu
          rw [List.getElem_take]
          rw [List.length_take] at hk
          have h1 := hlo k (by omega)
          rw [List.getD_eq_getElem?_getD, List.getElem?_eq_getElem (show k < B.length by omega)] at h1
          have h1' : key B[k] < key x := h1
          rcases List.mem_cons.1 hv with rfl | hv
          · omega
          · obtain ⟨k2, hk2, rfl⟩ := List.getElem_of_mem hv
            rw [List.getElem_drop]
            rw [List.length_drop] at hk2
            have h2 := hhi (q + k2) (by omega) (by omega)
            rw [List.getD_eq_getElem?_getD, List.getElem?_eq_getElem (show q + k2 < B.length by omega)] at h2
            have h2' : key x ≤ key B[q + k2] := h2
            omega
end
end Go.Proofs.Ytciehimnhnbipaa
