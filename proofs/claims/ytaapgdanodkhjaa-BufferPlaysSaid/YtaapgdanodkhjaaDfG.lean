/- The document's buffer: Copy. -/
import Derived.Test.YtaapgdanodkhjaaDfF
namespace Go.Proofs.Ytaapgdanodkhjaa
open Go.RowKit Go.Lib
set_option linter.unusedVariables false
set_option maxHeartbeats 4000000
section
variable {F : Nat → Prop} {w₀ w w' : World} {L : List Res}
theorem Sat.dcopy {b : Nat} {a : Option Addr} {cap : Nat} {D : List PrS} (S : Sat F w₀ w (dL b a cap D ++ L)) (hn : D.length ≤ 10000) (hzl : ∀ z ∈ D, z.zs.length ≤ 10000) :
    Calls Try.prog 19 #[.pointer (some ⟨b, 0, none⟩)] w fun e w' => ∃ b2 a2 cap2 Z, e = .returned (.pointer (some ⟨b2, 0, none⟩)) ∧ Z.map (·.zs) = D.map (·.zs) ∧ Sat F w₀ w' (dL b2 a2 cap2 Z ++ (dL b a cap D ++ L)) := by
  replace S : Sat F w₀ w (prsR D :: rowD a cap D :: blk b 1 (dC a cap D.length) 46 :: L) := Sat.rev3 S
  obtain ⟨bb, hbb⟩ : ∃ x, x = b := ⟨_, rfl⟩
  subst hbb
  refine enter1 Try.func19 rfl Try.ntmps19 rfl Try.results19 ?_
  repeat' (first | refine assign_p_l S rfl rfl ?_ | refine assign_e_l S rfl rfl ?_ | refine assign_i_l S rfl rfl ?_ | refine nilL ?_ | refine run_seq ?_ | refine run_skip ?_ | refine run_region ?_ | refine move_i_l S rfl rfl ?_ | refine move_p_l S rfl rfl ?_ | refine move_e_l S rfl rfl ?_ | (apply build1_l S; (· repeat (first | exact mapN | apply mapC_i rfl | apply mapC_b rfl | apply mapC_p rfl | apply mapC_s rfl | apply mapC_e rfl | apply mapC_a rfl | apply mapC_o rfl)); (· rfl); (· rfl)) | (refine box_a S rfl rfl rfl ?_; clear S; intro b w S) | refine nilCheck_l S rfl rfl ?_ | refine nilCheckE_l S rfl (by first | omega | decide | (simp; done) | (simp; omega)) rfl ?_ | refine fieldAddr_l S rfl rfl rfl ?_ | refine fieldAddrE_l S rfl (by first | omega | decide | (simp; done) | (simp; omega)) rfl rfl ?_ | refine load_s_l S rfl rfl rfl rfl ?_ | refine loadE_s_l S rfl (by first | omega | decide | (simp; done) | (simp; omega)) rfl rfl rfl ?_ | refine len_l S rfl rfl ?_ | (refine lss_l S rfl rfl rfl ?_ ?_ <;> intro hcmp <;> try (exfalso; first | omega | exact hcmp (by decide) | exact absurd hcmp (by decide))) | refine add_l S rfl rfl (wrap_in (by omega)) rfl ?_ | refine add_l S rfl rfl rfl rfl ?_ | refine assign_o_l S rfl rfl ?_ | refine move_o_l S rfl rfl ?_ | refine load_o_l S rfl rfl rfl rfl ?_ | refine loadE_o_l S rfl (by first | omega | decide | (simp; done) | (simp; omega)) rfl rfl rfl ?_ | refine run_block ?_ | refine run_ret ?_ | refine run_exit ?_ | refine run_cond_true rfl ?_ | refine run_cond_false rfl ?_ | refine thenQ_n ?_ | refine thenQ_r ?_ | refine thenQ_e ?_ | refine blockQ_n ?_ | refine blockQ_r ?_ | refine blockQ_s rfl ?_ | refine blockQ_o rfl ?_ | refine ret1_i rfl ?_ | refine ret1_b rfl ?_ | refine ret1_p rfl ?_ | refine ret1_s rfl ?_ | refine ret1_e rfl ?_ | refine ret1_a rfl ?_ | refine ret1_o rfl ?_ | refine ret1n_i rfl ?_ | refine ret1n_b rfl ?_ | refine ret1n_p rfl ?_ | refine ret1n_s rfl ?_ | refine ret1n_o rfl ?_)
  obtain ⟨bc, hbc⟩ : ∃ x, x = b := ⟨_, rfl⟩
  subst hbc
  replace S : Sat F w₀ w (blk bc 1 (fun i => [Value.slice none 0 0].getD i undef) 46 :: prsR D :: rowD a cap D :: blk bb 1 (dC a cap D.length) 46 :: L) := S
  replace S := S.turn1 (r' := blk bc 1 (dC none 0 0) 46) S.got1 rfl (fun k e => e)
  replace S := S.fresh (r := rowD none 0 []) (Below.refl _ _) ⟨by decide, .inl ⟨rfl, rfl, rfl⟩⟩ (fun k ⟨x, hx, _⟩ => by cases hx)
  replace S := S.fresh (r := prsR []) (Below.refl _ _) (fun z hz => by simp at hz) (fun k ⟨z, hz, _⟩ => by simp at hz)
  refine run_while [7, 8, 9, 10, 11, 12, 13, 14, 15, 16, 17, 18, 19, 20, 21, 22, 23, 24, 25, 26, 27, 28, 29, 30, 31, 32, 33] (fun (q : Nat × Option Addr × Nat × List PrS) t => upd t 4 (.int .i64 (q.1 : Nat))) (fun q w' => (q.1 ≤ D.length ∧ q.2.2.2.map (·.zs) = (D.take q.1).map (·.zs)) ∧ Sat F w₀ w' (prsR q.2.2.2 :: rowD q.2.1 q.2.2.1 q.2.2.2 :: blk bc 1 (dC q.2.1 q.2.2.1 q.2.2.2.length) 46 :: prsR D :: rowD a cap D :: blk bb 1 (dC a cap D.length) 46 :: L)) (fun q => D.length - q.1) (0, none, 0, []) ?_ ?_ ?_
  · (repeat (first | exact agree_refl | refine agree_r rfl ?_ | refine agree_l rfl ?_ | refine agree_hv rfl ?_))
  · exact ⟨⟨Nat.zero_le _, rfl⟩, S⟩
  clear S
  rintro ⟨k, a1, cap1, Z⟩ j w ⟨⟨hk, hZ⟩, S⟩
  replace hk : k ≤ D.length := hk
  replace hZ : Z.map (·.zs) = (D.take k).map (·.zs) := hZ
  replace S : Sat F w₀ w (prsR Z :: rowD a1 cap1 Z :: blk bc 1 (dC a1 cap1 Z.length) 46 :: prsR D :: rowD a cap D :: blk bb 1 (dC a cap D.length) 46 :: L) := S
  have hlz : Z.length = k := by
    have := congrArg List.length hZ
    simp only [List.length_map, List.length_take] at this
    omega
  dsimp only
  by_cases hkl : k < D.length
  · obtain ⟨z, hz⟩ : ∃ z, D[k]? = some z := ⟨_, List.getElem?_eq_getElem hkl⟩
    have hzd : D.getD k prD = z := by rw [List.getD_eq_getElem?_getD, hz]; rfl
    have hzm : D.getD k prD ∈ D := by rw [hzd]; exact List.mem_of_getElem? hz
    have hzn := hzl _ hzm
    have hsl : SlOk w (D.getD k prD).a (D.getD k prD).zs.length (D.getD k prD).cap 2 (gL encQ (0, 0) (D.getD k prD).zs) := (show (prsR D).holds w from S.all (prsR D) (by simp)) _ hzm
    have iz : ∀ (w1 : World), Sat F w₀ w1 (prsR Z :: rowD a1 cap1 Z :: blk bc 1 (dC a1 cap1 Z.length) 46 :: prsR D :: rowD a cap D :: blk bb 1 (dC a cap D.length) 46 :: L) → Sat F w₀ w1 (roR (slL (D.getD k prD).a (D.getD k prD).cap 2 encQ (0, 0) (D.getD k prD).zs) :: prsR Z :: rowD a1 cap1 Z :: blk bc 1 (dC a1 cap1 Z.length) 46 :: prsR D :: rowD a cap D :: blk bb 1 (dC a cap D.length) 46 :: L) := fun w1 S => by
      have p1 : (prsR D :: prsR Z :: rowD a1 cap1 Z :: blk bc 1 (dC a1 cap1 Z.length) 46 :: rowD a cap D :: blk bb 1 (dC a cap D.length) 46 :: L).Perm (prsR Z :: rowD a1 cap1 Z :: blk bc 1 (dC a1 cap1 Z.length) 46 :: prsR D :: rowD a cap D :: blk bb 1 (dC a cap D.length) 46 :: L) := (List.perm_middle (l₁ := [prsR Z, rowD a1 cap1 Z, blk bc 1 (dC a1 cap1 Z.length) 46])).symm
      have S2 := (S.perm p1).prsAt hzm
      exact S2.perm (.cons _ p1.symm)
    replace S := iz _ S
    repeat' (first | refine assign_p_l S rfl rfl ?_ | refine assign_e_l S rfl rfl ?_ | refine assign_i_l S rfl rfl ?_ | refine nilL ?_ | refine run_seq ?_ | refine run_skip ?_ | refine run_region ?_ | refine move_i_l S rfl rfl ?_ | refine move_p_l S rfl rfl ?_ | refine move_e_l S rfl rfl ?_ | (apply build1_l S; (· repeat (first | exact mapN | apply mapC_i rfl | apply mapC_b rfl | apply mapC_p rfl | apply mapC_s rfl | apply mapC_e rfl | apply mapC_a rfl | apply mapC_o rfl)); (· rfl); (· rfl)) | (refine box_a S rfl rfl rfl ?_; clear S; intro b w S) | refine nilCheck_l S rfl rfl ?_ | refine nilCheckE_l S rfl (by first | omega | decide | (simp; done) | (simp; omega)) rfl ?_ | refine fieldAddr_l S rfl rfl rfl ?_ | refine fieldAddrE_l S rfl (by first | omega | decide | (simp; done) | (simp; omega)) rfl rfl ?_ | refine load_s_l S rfl rfl rfl rfl ?_ | refine loadE_s_l S rfl (by first | omega | decide | (simp; done) | (simp; omega)) rfl rfl rfl ?_ | refine len_l S rfl rfl ?_ | (refine lss_l S rfl rfl rfl ?_ ?_ <;> intro hcmp <;> try (exfalso; first | omega | exact hcmp (by decide) | exact absurd hcmp (by decide))) | refine add_l S rfl rfl (wrap_in (by omega)) rfl ?_ | refine add_l S rfl rfl rfl rfl ?_ | refine assign_o_l S rfl rfl ?_ | refine move_o_l S rfl rfl ?_ | refine load_o_l S rfl rfl rfl rfl ?_ | refine loadE_o_l S rfl (by first | omega | decide | (simp; done) | (simp; omega)) rfl rfl rfl ?_ | refine run_block ?_ | refine run_ret ?_ | refine run_exit ?_ | refine run_cond_true rfl ?_ | refine run_cond_false rfl ?_ | refine thenQ_n ?_ | refine thenQ_r ?_ | refine thenQ_e ?_ | refine blockQ_n ?_ | refine blockQ_r ?_ | refine blockQ_s rfl ?_ | refine blockQ_o rfl ?_ | refine ret1_i rfl ?_ | refine ret1_b rfl ?_ | refine ret1_p rfl ?_ | refine ret1_s rfl ?_ | refine ret1_e rfl ?_ | refine ret1_a rfl ?_ | refine ret1_o rfl ?_ | refine ret1n_i rfl ?_ | refine ret1n_b rfl ?_ | refine ret1n_p rfl ?_ | refine ret1n_s rfl ?_ | refine ret1n_o rfl ?_)
    refine run_anyB_at (c := 18) (f := 19) (L' := [roR (slL (D.getD k prD).a (D.getD k prD).cap 2 encQ (0, 0) (D.getD k prD).zs), blk bc 1 (dC a1 cap1 Z.length) 46, rowD a cap D, blk bb 1 (dC a cap D.length) 46]) [16, 17, 18, 19, 20, 21, 22, 23, 24, 25, 26, 27, 28, 29, 30, 31, 32, 33] (fun (s : Unit) t => t) (fun s w' => ∃ a5 cap5 a6 cap6, Sat F w₀ w' (rowL a5 cap5 35 2 encQ (0, 0) (D.getD k prD).zs :: prsR Z :: rowD a6 cap6 (Z ++ [⟨a5, cap5, (D.getD k prD).zs⟩]) :: blk bc 1 (dC a6 cap6 (Z ++ [(⟨a5, cap5, (D.getD k prD).zs⟩ : PrS)]).length) 46 :: prsR D :: rowD a cap D :: blk bb 1 (dC a cap D.length) 46 :: L)) S mixed rfl ?_ ?_
    · clear S
      intro w S1
      have S : Sat _ _ w [roR (slL (D.getD k prD).a (D.getD k prD).cap 2 encQ (0, 0) (D.getD k prD).zs), blk bc 1 (dC a1 cap1 Z.length) 46, rowD a cap D, blk bb 1 (dC a cap D.length) 46] := S1.sub
      (refine anyB_pure (i := 0) rfl (by kernel_rfl) S ?_; (first | refine move_p_x rfl rfl ?_ | refine move_e_x rfl rfl ?_ | refine move_o_x rfl rfl ?_))
      (refine anyB_pure (i := 1) rfl (by kernel_rfl) S ?_; (first | refine move_p_x rfl rfl ?_ | refine move_e_x rfl rfl ?_ | refine move_o_x rfl rfl ?_))
      (refine anyB_pure (i := 2) rfl (by kernel_rfl) S ?_; (first | refine nilCheck_x rfl rfl ?_ | refine nilCheckE_x rfl (by first | omega | decide | (simp; done) | (simp; omega)) rfl ?_))
      (refine anyB_pure (i := 3) rfl (by kernel_rfl) S ?_; (first | refine fieldAddr_x rfl rfl rfl ?_ | refine fieldAddrE_x rfl (by first | omega | decide | (simp; done) | (simp; omega)) rfl rfl ?_))
      (refine anyB_pure (i := 4) rfl (by kernel_rfl) S ?_; (first | refine load_s_x rfl rfl rfl rfl ?_ | refine load_o_x rfl rfl rfl rfl ?_ | refine loadE_s_x rfl (by first | omega | decide | (simp; done) | (simp; omega)) rfl rfl rfl ?_ | refine loadE_o_x rfl (by first | omega | decide | (simp; done) | (simp; omega)) rfl rfl rfl ?_))
      (refine anyB_pure (i := 6) rfl (by kernel_rfl) S ?_; (first | refine move_p_x rfl rfl ?_ | refine move_e_x rfl rfl ?_ | refine move_o_x rfl rfl ?_))
      (refine anyB_pure (i := 7) rfl (by kernel_rfl) S ?_; (first | refine nilCheck_x rfl rfl ?_ | refine nilCheckE_x rfl (by first | omega | decide | (simp; done) | (simp; omega)) rfl ?_))
      (refine anyB_pure (i := 8) rfl (by kernel_rfl) S ?_; (first | refine fieldAddr_x rfl rfl rfl ?_ | refine fieldAddrE_x rfl (by first | omega | decide | (simp; done) | (simp; omega)) rfl rfl ?_))
      (refine anyB_pure (i := 9) rfl (by kernel_rfl) S ?_; (first | refine load_s_x rfl rfl rfl rfl ?_ | refine load_o_x rfl rfl rfl rfl ?_ | refine loadE_s_x rfl (by first | omega | decide | (simp; done) | (simp; omega)) rfl rfl rfl ?_ | refine loadE_o_x rfl (by first | omega | decide | (simp; done) | (simp; omega)) rfl rfl rfl ?_))
      (refine anyB_pure (i := 10) rfl (by kernel_rfl) S ?_; refine move_i_x rfl rfl ?_)
      (refine anyB_pure (i := 11) rfl (by kernel_rfl) S ?_; (first | refine indexAddr_x rfl rfl (idx_cast _) (by first | omega | decide | (simp; done) | (simp; omega)) rfl ?_ | refine indexAddr_x rfl rfl (idx_eq _) (by first | omega | decide | (simp; done) | (simp; omega)) rfl ?_))
      (refine anyB_pure (i := 12) rfl (by kernel_rfl) S ?_; (first | refine load_s_x rfl rfl rfl rfl ?_ | refine load_o_x rfl rfl rfl rfl ?_ | refine loadE_s_x rfl (by first | omega | decide | (simp; done) | (simp; omega)) rfl rfl rfl ?_ | refine loadE_o_x rfl (by first | omega | decide | (simp; done) | (simp; omega)) rfl rfl rfl ?_))
      refine anyB_all (l := [5]) (by kernel_rfl) (by decide) ?_
      intro i hi
      simp only [List.mem_cons, List.not_mem_nil, or_false] at hi
      subst hi
      (refine ⟨_, rfl, ?_⟩; replace S := S1; clear S1; (refine buildSliceN_l S (vs := []) rfl rfl rfl rfl rfl rfl ?_; clear S; intro b w S); refine nilL ?_; refine ⟨fun _ => S.sub, ?_⟩; have S1 := S; replace S : Sat _ _ _ [roR (slL (D.getD k prD).a (D.getD k prD).cap 2 encQ (0, 0) (D.getD k prD).zs), blk bc 1 (dC a1 cap1 Z.length) 46, rowD a cap D, blk bb 1 (dC a cap D.length) 46] := S1.sub)
      refine anyB_all (l := [13]) (by kernel_rfl) (by decide) ?_
      intro i hi
      simp only [List.mem_cons, List.not_mem_nil, or_false] at hi
      subst hi
      (refine ⟨_, rfl, ?_⟩; replace S := S1; clear S1; (refine append0_l S rfl rfl (by omega) rfl ?_; clear S; intro a5 cap5 w S); refine nilL ?_; refine ⟨fun _ => S.sub, ?_⟩; have S1 := S; replace S : Sat _ _ _ [roR (slL (D.getD k prD).a (D.getD k prD).cap 2 encQ (0, 0) (D.getD k prD).zs), blk bc 1 (dC a1 cap1 Z.length) 46, rowD a cap D, blk bb 1 (dC a cap D.length) 46] := S1.sub)
      refine anyB_all (l := [14]) (by kernel_rfl) (by decide) ?_
      intro i hi
      simp only [List.mem_cons, List.not_mem_nil, or_false] at hi
      subst hi
      (refine ⟨_, rfl, ?_⟩; replace S := S1; clear S1; (first | (refine buildSlice_l S rfl rfl rfl rfl rfl ?_; clear S; intro b w S) | (apply buildSliceN_l S; (· repeat (first | exact vsN | apply vsC rfl)); (· rfl); (· rfl); (· rfl); (· rfl); (· rfl); clear S; intro b w S)); refine nilL ?_; refine ⟨fun _ => S.sub, ?_⟩; have S1 := S; replace S : Sat _ _ _ [roR (slL (D.getD k prD).a (D.getD k prD).cap 2 encQ (0, 0) (D.getD k prD).zs), blk bc 1 (dC a1 cap1 Z.length) 46, rowD a cap D, blk bb 1 (dC a cap D.length) 46] := S1.sub)
      refine anyB_all (l := [15]) (by kernel_rfl) (by decide) ?_
      intro i hi
      simp only [List.mem_cons, List.not_mem_nil, or_false] at hi
      subst hi
      (refine ⟨_, rfl, ?_⟩; replace S := S1; clear S1; (refine append1_l (enc := encD) (z := ⟨a5, cap5, (D.getD k prD).zs⟩) (zs := Z) S rfl rfl (fun j hj => by obtain rfl : j = 0 := (by omega); rfl) (by omega) rfl ?_; clear S; intro a6 cap6 w S); refine nilL ?_; refine ⟨fun _ => S.sub, ?_⟩; have S1 := S; replace S : Sat _ _ _ [roR (slL (D.getD k prD).a (D.getD k prD).cap 2 encQ (0, 0) (D.getD k prD).zs), blk bc 1 (dC a1 cap1 Z.length) 46, rowD a cap D, blk bb 1 (dC a cap D.length) 46] := S1.sub)
      refine anyB_all (l := [16]) (by kernel_rfl) (by decide) ?_
      intro i hi
      simp only [List.mem_cons, List.not_mem_nil, or_false] at hi
      subst hi
      (refine ⟨_, rfl, ?_⟩; replace S := S1; clear S1; (first | refine nilCheck_l S rfl rfl ?_ | refine nilCheckE_l S rfl (by first | omega | decide | (simp; done) | (simp; omega)) rfl ?_); refine nilL ?_; refine ⟨fun _ => S.sub, ?_⟩; have S1 := S; replace S : Sat _ _ _ [roR (slL (D.getD k prD).a (D.getD k prD).cap 2 encQ (0, 0) (D.getD k prD).zs), blk bc 1 (dC a1 cap1 Z.length) 46, rowD a cap D, blk bb 1 (dC a cap D.length) 46] := S1.sub)
      (refine anyB_pure (i := 17) rfl (by kernel_rfl) S ?_; (first | refine fieldAddr_x rfl rfl rfl ?_ | refine fieldAddrE_x rfl (by first | omega | decide | (simp; done) | (simp; omega)) rfl rfl ?_))
      refine anyB_all (l := [18]) (by kernel_rfl) (by decide) ?_
      intro i hi
      simp only [List.mem_cons, List.not_mem_nil, or_false] at hi
      subst hi
      (refine ⟨_, rfl, ?_⟩; replace S := S1; clear S1; (first | (refine store_s S rfl rfl rfl ?_; clear S; intro w S) | (refine storeE_s S rfl rfl (by omega) rfl ?_; clear S; intro w S)); refine nilL ?_; refine ⟨nope (by kernel_rfl), ?_⟩; have S1 := S)
      refine anyB_end (by kernel_rfl) ?_
      skip
      refine ⟨(), (by (repeat (first | exact agree_refl | refine agree_r rfl ?_ | refine agree_l rfl ?_ | refine agree_hv rfl ?_))), a5, cap5, a6, cap6, ?_⟩
      have S2 := Sat.sub (L' := rowL a5 cap5 35 2 encQ (0, 0) (D.getD k prD).zs :: prsR Z :: rowD a6 cap6 (Z ++ [⟨a5, cap5, (D.getD k prD).zs⟩]) :: blk bc 1 (upd (dC a1 cap1 Z.length) (0 + 0) (.slice a6 (Z ++ [(⟨a5, cap5, (D.getD k prD).zs⟩ : PrS)]).length cap6)) 46 :: prsR D :: rowD a cap D :: blk bb 1 (dC a cap D.length) 46 :: L) S1
      have hB := S2.all (blk bc 1 (upd (dC a1 cap1 Z.length) (0 + 0) (.slice a6 (Z ++ [(⟨a5, cap5, (D.getD k prD).zs⟩ : PrS)]).length cap6)) 46) (by simp)
      exact S2.turn (r := blk bc 1 (upd (dC a1 cap1 Z.length) (0 + 0) (.slice a6 (Z ++ [(⟨a5, cap5, (D.getD k prD).zs⟩ : PrS)]).length cap6)) 46) (r' := blk bc 1 (dC a6 cap6 (Z ++ [(⟨a5, cap5, (D.getD k prD).zs⟩ : PrS)]).length) 46) hB rfl (fun k e => e)
    · clear S
      rintro ⟨⟩ j w ⟨a5, cap5, a6, cap6, S⟩
      have S2 := Sat.toPrs (p := ⟨a5, cap5, (D.getD k prD).zs⟩) (D' := Z ++ [⟨a5, cap5, (D.getD k prD).zs⟩]) S (fun z hz => by
        rcases List.mem_append.1 hz with h | h
        · exact .inl h
        · exact .inr (by simpa using h))
      clear S
      have S := S2
      clear S2
      repeat' (first | refine assign_p_l S rfl rfl ?_ | refine assign_e_l S rfl rfl ?_ | refine assign_i_l S rfl rfl ?_ | refine nilL ?_ | refine run_seq ?_ | refine run_skip ?_ | refine run_region ?_ | refine move_i_l S rfl rfl ?_ | refine move_p_l S rfl rfl ?_ | refine move_e_l S rfl rfl ?_ | (apply build1_l S; (· repeat (first | exact mapN | apply mapC_i rfl | apply mapC_b rfl | apply mapC_p rfl | apply mapC_s rfl | apply mapC_e rfl | apply mapC_a rfl | apply mapC_o rfl)); (· rfl); (· rfl)) | (refine box_a S rfl rfl rfl ?_; clear S; intro b w S) | refine nilCheck_l S rfl rfl ?_ | refine nilCheckE_l S rfl (by first | omega | decide | (simp; done) | (simp; omega)) rfl ?_ | refine fieldAddr_l S rfl rfl rfl ?_ | refine fieldAddrE_l S rfl (by first | omega | decide | (simp; done) | (simp; omega)) rfl rfl ?_ | refine load_s_l S rfl rfl rfl rfl ?_ | refine loadE_s_l S rfl (by first | omega | decide | (simp; done) | (simp; omega)) rfl rfl rfl ?_ | refine len_l S rfl rfl ?_ | (refine lss_l S rfl rfl rfl ?_ ?_ <;> intro hcmp <;> try (exfalso; first | omega | exact hcmp (by decide) | exact absurd hcmp (by decide))) | refine add_l S rfl rfl (wrap_in (by omega)) rfl ?_ | refine add_l S rfl rfl rfl rfl ?_ | refine assign_o_l S rfl rfl ?_ | refine move_o_l S rfl rfl ?_ | refine load_o_l S rfl rfl rfl rfl ?_ | refine loadE_o_l S rfl (by first | omega | decide | (simp; done) | (simp; omega)) rfl rfl rfl ?_ | refine run_block ?_ | refine run_ret ?_ | refine run_exit ?_ | refine run_cond_true rfl ?_ | refine run_cond_false rfl ?_ | refine thenQ_n ?_ | refine thenQ_r ?_ | refine thenQ_e ?_ | refine blockQ_n ?_ | refine blockQ_r ?_ | refine blockQ_s rfl ?_ | refine blockQ_o rfl ?_ | refine ret1_i rfl ?_ | refine ret1_b rfl ?_ | refine ret1_p rfl ?_ | refine ret1_s rfl ?_ | refine ret1_e rfl ?_ | refine ret1_a rfl ?_ | refine ret1_o rfl ?_ | refine ret1n_i rfl ?_ | refine ret1n_b rfl ?_ | refine ret1n_p rfl ?_ | refine ret1n_s rfl ?_ | refine ret1n_o rfl ?_)
      refine ⟨(k + 1, a6, cap6, Z ++ [⟨a5, cap5, (D.getD k prD).zs⟩]), ?_, ⟨⟨by show k + 1 ≤ _; omega, by show List.map (·.zs) (Z ++ [_]) = (D.take (k + 1)).map (·.zs); rw [List.take_add_one, hz, List.map_append, List.map_append, hZ, hzd]; rfl⟩, S⟩, by show D.length - (k + 1) < D.length - k; omega⟩
      rw [Int.natCast_add]
      (repeat (first | exact agree_refl | refine agree_r rfl ?_ | refine agree_l rfl ?_ | refine agree_hv rfl ?_))
  · repeat' (first | refine assign_p_l S rfl rfl ?_ | refine assign_e_l S rfl rfl ?_ | refine assign_i_l S rfl rfl ?_ | refine nilL ?_ | refine run_seq ?_ | refine run_skip ?_ | refine run_region ?_ | refine move_i_l S rfl rfl ?_ | refine move_p_l S rfl rfl ?_ | refine move_e_l S rfl rfl ?_ | (apply build1_l S; (· repeat (first | exact mapN | apply mapC_i rfl | apply mapC_b rfl | apply mapC_p rfl | apply mapC_s rfl | apply mapC_e rfl | apply mapC_a rfl | apply mapC_o rfl)); (· rfl); (· rfl)) | (refine box_a S rfl rfl rfl ?_; clear S; intro b w S) | refine nilCheck_l S rfl rfl ?_ | refine nilCheckE_l S rfl (by first | omega | decide | (simp; done) | (simp; omega)) rfl ?_ | refine fieldAddr_l S rfl rfl rfl ?_ | refine fieldAddrE_l S rfl (by first | omega | decide | (simp; done) | (simp; omega)) rfl rfl ?_ | refine load_s_l S rfl rfl rfl rfl ?_ | refine loadE_s_l S rfl (by first | omega | decide | (simp; done) | (simp; omega)) rfl rfl rfl ?_ | refine len_l S rfl rfl ?_ | (refine lss_l S rfl rfl rfl ?_ ?_ <;> intro hcmp <;> try (exfalso; first | omega | exact hcmp (by decide) | exact absurd hcmp (by decide))) | refine add_l S rfl rfl (wrap_in (by omega)) rfl ?_ | refine add_l S rfl rfl rfl rfl ?_ | refine assign_o_l S rfl rfl ?_ | refine move_o_l S rfl rfl ?_ | refine load_o_l S rfl rfl rfl rfl ?_ | refine loadE_o_l S rfl (by first | omega | decide | (simp; done) | (simp; omega)) rfl rfl rfl ?_ | refine run_block ?_ | refine run_ret ?_ | refine run_exit ?_ | refine run_cond_true rfl ?_ | refine run_cond_false rfl ?_ | refine thenQ_n ?_ | refine thenQ_r ?_ | refine thenQ_e ?_ | refine blockQ_n ?_ | refine blockQ_r ?_ | refine blockQ_s rfl ?_ | refine blockQ_o rfl ?_ | refine ret1_i rfl ?_ | refine ret1_b rfl ?_ | refine ret1_p rfl ?_ | refine ret1_s rfl ?_ | refine ret1_e rfl ?_ | refine ret1_a rfl ?_ | refine ret1_o rfl ?_ | refine ret1n_i rfl ?_ | refine ret1n_b rfl ?_ | refine ret1n_p rfl ?_ | refine ret1n_s rfl ?_ | refine ret1n_o rfl ?_)
    obtain rfl : k = D.length := by omega
    rw [List.take_length] at hZ
    have S2 := Sat.rev3 S
    refine ⟨bc, a1, cap1, Z, rfl, hZ, S2.perm ?_⟩
    exact (List.Perm.append_left (dL bc a1 cap1 Z) ((List.Perm.swap _ _ _).trans ((List.Perm.cons _ (.swap _ _ _)).trans (.swap _ _ _))))
end
end Go.Proofs.Ytaapgdanodkhjaa
