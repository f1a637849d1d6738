/- The document's buffer: Merge. -/
import Derived.Test.YtaapgdanodkhjaaDfB
namespace Go.Proofs.Ytaapgdanodkhjaa
open Go.RowKit Go.Lib
set_option linter.unusedVariables false
set_option maxHeartbeats 4000000
section
variable {F : Nat → Prop} {w₀ w w' : World} {L : List Res}
theorem Sat.dmerge {b : Nat} {a : Option Addr} {cap : Nat} {D : List PrS} {p : PrS} (S : Sat F w₀ w (dL b a cap (D ++ [p]) ++ L)) (hn : D.length ≤ 10000) (h0 : 0 < D.length) (hz : (D.getD (D.length - 1) prD).zs.length ≤ 10000) (hp : p.zs.length ≤ 10000) :
    Calls Try.prog 25 #[.pointer (some ⟨b, 0, none⟩)] w fun e w' => e = .returned (.int .i64 0) ∧ ∃ a' cap' q, q.zs = (D.getD (D.length - 1) prD).zs ++ p.zs ∧ Sat F w₀ w' (dL b a' cap' (D.set (D.length - 1) q) ++ L) := by
  obtain ⟨bb, hbb⟩ : ∃ x, x = b := ⟨_, rfl⟩
  subst hbb
  obtain ⟨k, hk⟩ : ∃ k, k = D.length - 1 := ⟨_, rfl⟩
  rw [← hk] at hz ⊢
  have hkl : k < D.length := by omega
  have hzm : D.getD k prD ∈ D ++ [p] := by rw [List.getD_eq_getElem?_getD, List.getElem?_eq_getElem hkl]; simp
  have hl : (D ++ [p]).length = D.length + 1 := by simp
  have hpm : p ∈ D ++ [p] := by simp
  have hlast : (D ++ [p]).getD (((D.length + 1 : Nat) : Int) - 1).toNat prD = p := by rw [show (((D.length + 1 : Nat) : Int) - 1).toNat = D.length from by omega, List.getD_eq_getElem?_getD, List.getElem?_append_right (Nat.le_refl _)]; simp
  replace S : Sat F w₀ w (prsR (D ++ [p]) :: rowD a cap (D ++ [p]) :: blk bb 1 (dC a cap (D ++ [p]).length) 46 :: L) := Sat.rev3 S
  rw [hl] at S
  have hcap : D.length + 1 ≤ cap := by
    have := (RowOk.sl S.second).2.1
    rwa [hl] at this
  have hrow : RowOk w a (D.length + 1) cap 32 1 (gL encD prD (D ++ [p])) := by rw [← hl]; exact S.second
  replace S : Sat F w₀ w (row a (D.length + 1) cap 32 1 (gL encD prD (D ++ [p])) :: prsR (D ++ [p]) :: blk bb 1 (dC a cap (D.length + 1)) 46 :: L) := S.sw.turn1 (r' := row a (D.length + 1) cap 32 1 (gL encD prD (D ++ [p]))) hrow rfl (fun k e => e)
  refine enter1 Try.func25 rfl Try.ntmps25 rfl Try.results25 ?_
  repeat' (first | refine assign_i_l S rfl rfl ?_ | refine move_p_l S rfl rfl ?_ | refine move_e_l S rfl rfl ?_ | refine nilL ?_ | refine run_seq ?_ | refine run_skip ?_ | refine run_region ?_ | refine nilCheck_l S rfl rfl ?_ | refine nilCheckE_l S rfl (by first | omega | decide | (simp; done) | (simp; omega)) rfl ?_ | refine fieldAddr_l S rfl rfl rfl ?_ | refine fieldAddrE_l S rfl (by first | omega | decide | (simp; done) | (simp; omega)) rfl rfl ?_ | refine load_s_l S rfl rfl rfl rfl ?_ | refine loadE_s_l S rfl (by first | omega | decide | (simp; done) | (simp; omega)) rfl rfl rfl ?_ | refine len_l S rfl rfl ?_ | (refine lss_l S rfl rfl rfl ?_ ?_ <;> intro hcmp <;> try (exfalso; first | omega | exact hcmp (by decide) | exact absurd hcmp (by decide))) | refine sub_l S rfl rfl (wrap_in (by omega)) rfl ?_ | refine sub_l S rfl rfl rfl rfl ?_ | refine move_o_l S rfl rfl ?_ | refine load_o_l S rfl rfl rfl rfl ?_ | refine loadE_o_l S rfl (by first | omega | decide | (simp; done) | (simp; omega)) rfl rfl rfl ?_ | refine run_block ?_ | refine run_ret ?_ | refine run_exit ?_ | refine run_cond_true rfl ?_ | refine run_cond_false rfl ?_ | refine thenQ_n ?_ | refine thenQ_r ?_ | refine thenQ_e ?_ | refine blockQ_n ?_ | refine blockQ_r ?_ | refine blockQ_s rfl ?_ | refine blockQ_o rfl ?_ | refine ret1_i rfl ?_ | refine ret1_b rfl ?_ | refine ret1_p rfl ?_ | refine ret1_s rfl ?_ | refine ret1_e rfl ?_ | refine ret1_a rfl ?_ | refine ret1_o rfl ?_ | refine ret1n_i rfl ?_ | refine ret1n_b rfl ?_ | refine ret1n_p rfl ?_ | refine ret1n_s rfl ?_ | refine ret1n_o rfl ?_)
  refine run_any S (L' := [row a (D.length + 1) cap 32 1 (gL encD prD (D ++ [p])), blk bb 1 (dC a cap (D.length + 1)) 46]) (f := 13) mixed rfl ?_
  clear S
  intro w S1
  have S : Sat _ _ w [row a (D.length + 1) cap 32 1 (gL encD prD (D ++ [p])), blk bb 1 (dC a cap (D.length + 1)) 46] := S1.sub
  all_goals (refine any_pure (i := 0) rfl (by kernel_rfl) S ?_; (first | refine move_p_x rfl rfl ?_ | refine move_e_x rfl rfl ?_ | refine move_o_x rfl rfl ?_))
  all_goals (refine any_pure (i := 1) rfl (by kernel_rfl) S ?_; (first | refine nilCheck_x rfl rfl ?_ | refine nilCheckE_x rfl (by first | omega | decide | (simp; done) | (simp; omega)) rfl ?_))
  all_goals (refine any_pure (i := 2) rfl (by kernel_rfl) S ?_; (first | refine fieldAddr_x rfl rfl rfl ?_ | refine fieldAddrE_x rfl (by first | omega | decide | (simp; done) | (simp; omega)) rfl rfl ?_))
  all_goals (refine any_pure (i := 3) rfl (by kernel_rfl) S ?_; (first | refine load_s_x rfl rfl rfl rfl ?_ | refine load_o_x rfl rfl rfl rfl ?_ | refine loadE_s_x rfl (by first | omega | decide | (simp; done) | (simp; omega)) rfl rfl rfl ?_ | refine loadE_o_x rfl (by first | omega | decide | (simp; done) | (simp; omega)) rfl rfl rfl ?_))
  all_goals (refine any_pure (i := 4) rfl (by kernel_rfl) S ?_; (first | refine move_p_x rfl rfl ?_ | refine move_e_x rfl rfl ?_ | refine move_o_x rfl rfl ?_))
  all_goals (refine any_pure (i := 5) rfl (by kernel_rfl) S ?_; (first | refine nilCheck_x rfl rfl ?_ | refine nilCheckE_x rfl (by first | omega | decide | (simp; done) | (simp; omega)) rfl ?_))
  all_goals (refine any_pure (i := 6) rfl (by kernel_rfl) S ?_; (first | refine fieldAddr_x rfl rfl rfl ?_ | refine fieldAddrE_x rfl (by first | omega | decide | (simp; done) | (simp; omega)) rfl rfl ?_))
  all_goals (refine any_pure (i := 7) rfl (by kernel_rfl) S ?_; (first | refine load_s_x rfl rfl rfl rfl ?_ | refine load_o_x rfl rfl rfl rfl ?_ | refine loadE_s_x rfl (by first | omega | decide | (simp; done) | (simp; omega)) rfl rfl rfl ?_ | refine loadE_o_x rfl (by first | omega | decide | (simp; done) | (simp; omega)) rfl rfl rfl ?_))
  all_goals (refine any_pure (i := 8) rfl (by kernel_rfl) S ?_; refine len_x rfl rfl ?_)
  all_goals (refine any_pure (i := 9) rfl (by kernel_rfl) S ?_; (first | refine sub_x rfl rfl (wrap_in (by omega)) rfl ?_ | refine sub_x rfl rfl rfl rfl ?_))
  all_goals (refine any_pure (i := 10) rfl (by kernel_rfl) S ?_; (first | refine indexAddr_x rfl rfl (idx_cast _) (by first | omega | decide | (simp; done) | (simp; omega)) rfl ?_ | refine indexAddr_x rfl rfl (idx_eq _) (by first | omega | decide | (simp; done) | (simp; omega)) rfl ?_))
  all_goals (refine any_pure (i := 11) rfl (by kernel_rfl) S ?_; (first | refine load_s_x rfl rfl rfl rfl ?_ | refine load_o_x rfl rfl rfl rfl ?_ | refine loadE_s_x rfl (by first | omega | decide | (simp; done) | (simp; omega)) rfl rfl rfl ?_ | refine loadE_o_x rfl (by first | omega | decide | (simp; done) | (simp; omega)) rfl rfl rfl ?_))
  all_goals (refine any_pure (i := 12) rfl (by kernel_rfl) S ?_; refine assign_s_x rfl rfl ?_)
  all_goals refine any_end (by kernel_rfl) ?_
  replace S := S1
  clear S1
  have hgl : gL encD prD (D ++ [p]) (((D.length + 1 : Nat) : Int) - 1).toNat 0 = .slice p.a p.zs.length p.cap := by unfold gL; rw [hlast]; rfl
  simp only [hgl, hlast]
  repeat' (first | refine assign_i_l S rfl rfl ?_ | refine move_p_l S rfl rfl ?_ | refine move_e_l S rfl rfl ?_ | refine nilL ?_ | refine run_seq ?_ | refine run_skip ?_ | refine run_region (id := 0) ?_ | refine run_region (id := 1) ?_ | refine run_region (id := 2) ?_ | refine run_region (id := 5) ?_ | refine run_region (id := 7) ?_ | refine nilCheck_l S rfl rfl ?_ | refine nilCheckE_l S rfl (by first | omega | decide | (simp; done) | (simp; omega)) rfl ?_ | refine fieldAddr_l S rfl rfl rfl ?_ | refine fieldAddrE_l S rfl (by first | omega | decide | (simp; done) | (simp; omega)) rfl rfl ?_ | refine load_s_l S rfl rfl rfl rfl ?_ | refine loadE_s_l S rfl (by first | omega | decide | (simp; done) | (simp; omega)) rfl rfl rfl ?_ | refine len_l S rfl rfl ?_ | (refine lss_l S rfl rfl rfl ?_ ?_ <;> intro hcmp <;> try (exfalso; first | omega | exact hcmp (by decide) | exact absurd hcmp (by decide))) | refine sub_l S rfl rfl (wrap_in (by omega)) rfl ?_ | refine sub_l S rfl rfl rfl rfl ?_ | refine move_o_l S rfl rfl ?_ | refine load_o_l S rfl rfl rfl rfl ?_ | refine loadE_o_l S rfl (by first | omega | decide | (simp; done) | (simp; omega)) rfl rfl rfl ?_ | refine run_block ?_ | refine run_ret ?_ | refine run_exit ?_ | refine run_cond_true rfl ?_ | refine run_cond_false rfl ?_ | refine thenQ_n ?_ | refine thenQ_r ?_ | refine thenQ_e ?_ | refine blockQ_n ?_ | refine blockQ_r ?_ | refine blockQ_s rfl ?_ | refine blockQ_o rfl ?_ | refine ret1_i rfl ?_ | refine ret1_b rfl ?_ | refine ret1_p rfl ?_ | refine ret1_s rfl ?_ | refine ret1_e rfl ?_ | refine ret1_a rfl ?_ | refine ret1_o rfl ?_ | refine ret1n_i rfl ?_ | refine ret1n_b rfl ?_ | refine ret1n_p rfl ?_ | refine ret1n_s rfl ?_ | refine ret1n_o rfl ?_)
  have hpre : SlOk w a D.length cap 1 (gL encD prD D) := (SlOk.pre (RowOk.sl S.got1) (Nat.le_succ _)).congr (fun i hi j hj => by
    unfold gL
    rw [List.getD_eq_getElem?_getD, List.getD_eq_getElem?_getD, List.getElem?_append_left hi])
  replace S : Sat F w₀ w (roR (slL a cap 1 encD prD D) :: prsR (D ++ [p]) :: blk bb 1 (dC a cap (D.length + 1)) 46 :: L) := S.toRo (y := roR (slL a cap 1 encD prD D)) hpre rfl rfl (fun k e => e.2)
  refine run_anyB_at (c := 16) (f := 17) (L' := [roR (slL a cap 1 encD prD D), blk bb 1 (dC a cap (D.length + 1)) 46]) [23, 24, 25, 26, 27, 28, 29, 30, 31, 32, 33, 34, 35, 36, 37, 38] (fun (s : Unit) t => t) (fun s w' => ∃ a5 cap5, Sat F w₀ w' (rowD a5 cap5 D :: roR (slL a cap 1 encD prD D) :: prsR (D ++ [p]) :: blk bb 1 (dC a5 cap5 D.length) 46 :: L)) S mixed rfl ?_ ?_
  · clear S
    intro w S1
    have S : Sat _ _ w [roR (slL a cap 1 encD prD D), blk bb 1 (dC a cap (D.length + 1)) 46] := S1.sub
    (refine anyB_pure (i := 0) rfl (by kernel_rfl) S ?_; (first | refine move_p_x rfl rfl ?_ | refine move_e_x rfl rfl ?_ | refine move_o_x rfl rfl ?_))
    (refine anyB_pure (i := 2) rfl (by kernel_rfl) S ?_; (first | refine move_p_x rfl rfl ?_ | refine move_e_x rfl rfl ?_ | refine move_o_x rfl rfl ?_))
    (refine anyB_pure (i := 3) rfl (by kernel_rfl) S ?_; (first | refine nilCheck_x rfl rfl ?_ | refine nilCheckE_x rfl (by first | omega | decide | (simp; done) | (simp; omega)) rfl ?_))
    (refine anyB_pure (i := 4) rfl (by kernel_rfl) S ?_; (first | refine fieldAddr_x rfl rfl rfl ?_ | refine fieldAddrE_x rfl (by first | omega | decide | (simp; done) | (simp; omega)) rfl rfl ?_))
    (refine anyB_pure (i := 5) rfl (by kernel_rfl) S ?_; (first | refine load_s_x rfl rfl rfl rfl ?_ | refine load_o_x rfl rfl rfl rfl ?_ | refine loadE_s_x rfl (by first | omega | decide | (simp; done) | (simp; omega)) rfl rfl rfl ?_ | refine loadE_o_x rfl (by first | omega | decide | (simp; done) | (simp; omega)) rfl rfl rfl ?_))
    (refine anyB_pure (i := 6) rfl (by kernel_rfl) S ?_; (first | refine move_p_x rfl rfl ?_ | refine move_e_x rfl rfl ?_ | refine move_o_x rfl rfl ?_))
    (refine anyB_pure (i := 7) rfl (by kernel_rfl) S ?_; (first | refine nilCheck_x rfl rfl ?_ | refine nilCheckE_x rfl (by first | omega | decide | (simp; done) | (simp; omega)) rfl ?_))
    (refine anyB_pure (i := 8) rfl (by kernel_rfl) S ?_; (first | refine fieldAddr_x rfl rfl rfl ?_ | refine fieldAddrE_x rfl (by first | omega | decide | (simp; done) | (simp; omega)) rfl rfl ?_))
    (refine anyB_pure (i := 9) rfl (by kernel_rfl) S ?_; (first | refine load_s_x rfl rfl rfl rfl ?_ | refine load_o_x rfl rfl rfl rfl ?_ | refine loadE_s_x rfl (by first | omega | decide | (simp; done) | (simp; omega)) rfl rfl rfl ?_ | refine loadE_o_x rfl (by first | omega | decide | (simp; done) | (simp; omega)) rfl rfl rfl ?_))
    (refine anyB_pure (i := 10) rfl (by kernel_rfl) S ?_; refine len_x rfl rfl ?_)
    (refine anyB_pure (i := 11) rfl (by kernel_rfl) S ?_; (first | refine sub_x rfl rfl (wrap_in (by omega)) rfl ?_ | refine sub_x rfl rfl rfl rfl ?_))
    (refine anyB_pure (i := 12) rfl (by kernel_rfl) S ?_; refine slicePre_x rfl (sl_eq (h := D.length) (by omega)) (by omega) rfl ?_)
    refine anyB_all (l := [1]) (by kernel_rfl) (by decide) ?_
    intro i hi
    simp only [List.mem_cons, List.not_mem_nil, or_false] at hi
    subst hi
    (refine ⟨_, rfl, ?_⟩; replace S := S1; clear S1; (refine buildSliceN_l S (vs := []) rfl rfl rfl rfl rfl rfl ?_; clear S; intro b w S); refine nilL ?_; refine ⟨fun _ => S.sub, ?_⟩; have S1 := S; replace S : Sat _ _ _ [roR (slL a cap 1 encD prD D), blk bb 1 (dC a cap (D.length + 1)) 46] := S1.sub)
    refine anyB_all (l := [13]) (by kernel_rfl) (by decide) ?_
    intro i hi
    simp only [List.mem_cons, List.not_mem_nil, or_false] at hi
    subst hi
    (refine ⟨_, rfl, ?_⟩; replace S := S1; clear S1; (first | (refine append_l S rfl rfl (by omega) rfl ?_; clear S; intro a' cap' w S) | (refine append0_l S rfl rfl (by omega) rfl ?_; clear S; intro a' cap' w S) | (refine append1_i S rfl rfl rfl (by omega) rfl ?_; clear S; intro a' cap' w S) | (refine append2_i S rfl rfl rfl rfl (by omega) rfl ?_; clear S; intro a' cap' w S) | (refine appendPre_i S rfl rfl (by omega) (by omega) rfl ?_; clear S; intro a' cap' w S) | (refine appendSuf_i S rfl rfl (by omega) (by omega) rfl ?_; clear S; intro a' cap' w S)); refine nilL ?_; refine ⟨fun _ => S.sub, ?_⟩; have S1 := S; replace S : Sat _ _ _ [roR (slL a cap 1 encD prD D), blk bb 1 (dC a cap (D.length + 1)) 46] := S1.sub)
    refine anyB_all (l := [14]) (by kernel_rfl) (by decide) ?_
    intro i hi
    simp only [List.mem_cons, List.not_mem_nil, or_false] at hi
    subst hi
    (refine ⟨_, rfl, ?_⟩; replace S := S1; clear S1; (first | refine nilCheck_l S rfl rfl ?_ | refine nilCheckE_l S rfl (by first | omega | decide | (simp; done) | (simp; omega)) rfl ?_); refine nilL ?_; refine ⟨fun _ => S.sub, ?_⟩; have S1 := S; replace S : Sat _ _ _ [roR (slL a cap 1 encD prD D), blk bb 1 (dC a cap (D.length + 1)) 46] := S1.sub)
    (refine anyB_pure (i := 15) rfl (by kernel_rfl) S ?_; (first | refine fieldAddr_x rfl rfl rfl ?_ | refine fieldAddrE_x rfl (by first | omega | decide | (simp; done) | (simp; omega)) rfl rfl ?_))
    refine anyB_all (l := [16]) (by kernel_rfl) (by decide) ?_
    intro i hi
    simp only [List.mem_cons, List.not_mem_nil, or_false] at hi
    subst hi
    (refine ⟨_, rfl, ?_⟩; replace S := S1; clear S1; (first | (refine store_s S rfl rfl rfl ?_; clear S; intro w S) | (refine storeE_s S rfl rfl (by omega) rfl ?_; clear S; intro w S)); refine nilL ?_; refine ⟨nope (by kernel_rfl), ?_⟩; have S1 := S)
    refine anyB_end (by kernel_rfl) ?_
    skip
    refine ⟨(), (by (repeat (first | exact agree_refl | refine agree_r rfl ?_ | refine agree_l rfl ?_ | refine agree_hv rfl ?_))), a', cap', ?_⟩
    have S2 := S1.sub (L' := rowD a' cap' D :: roR (slL a cap 1 encD prD D) :: prsR (D ++ [p]) :: blk bb 1 (upd (dC a cap (D.length + 1)) (0 + 0) (Value.slice a' D.length cap')) 46 :: L)
    have S3 := S2.turn (r := blk bb 1 (upd (dC a cap (D.length + 1)) (0 + 0) (Value.slice a' D.length cap')) 46) (r' := blk bb 1 (dC a' cap' D.length) 46) (S2.all (blk bb 1 (upd (dC a cap (D.length + 1)) (0 + 0) (Value.slice a' D.length cap')) 46) (by simp)) rfl (fun k e => e)
    exact S3
  clear S hrow hpre
  rintro ⟨⟩ j w ⟨a5, cap5, S⟩
  replace S : Sat F w₀ w (rowD a5 cap5 D :: prsR (D ++ [p]) :: blk bb 1 (dC a5 cap5 D.length) 46 :: L) := (Sat.sw S).tail
  replace S : Sat F w₀ w (roR (slL p.a p.cap 2 encQ (0, 0) p.zs) :: prsR (D ++ [p]) :: rowD a5 cap5 D :: blk bb 1 (dC a5 cap5 D.length) 46 :: L) := (Sat.sw S).prsAt hpm
  replace S : Sat F w₀ w (roR (slL (D.getD k prD).a (D.getD k prD).cap 2 encQ (0, 0) (D.getD k prD).zs) :: prsR (D ++ [p]) :: roR (slL p.a p.cap 2 encQ (0, 0) p.zs) :: rowD a5 cap5 D :: blk bb 1 (dC a5 cap5 D.length) 46 :: L) := (Sat.sw S).prsAt hzm
  repeat' (first | refine assign_i_l S rfl rfl ?_ | refine move_p_l S rfl rfl ?_ | refine move_e_l S rfl rfl ?_ | refine nilL ?_ | refine run_seq ?_ | refine run_skip ?_ | refine run_region (id := 0) ?_ | refine run_region (id := 1) ?_ | refine run_region (id := 2) ?_ | refine run_region (id := 5) ?_ | refine run_region (id := 7) ?_ | refine nilCheck_l S rfl rfl ?_ | refine nilCheckE_l S rfl (by first | omega | decide | (simp; done) | (simp; omega)) rfl ?_ | refine fieldAddr_l S rfl rfl rfl ?_ | refine fieldAddrE_l S rfl (by first | omega | decide | (simp; done) | (simp; omega)) rfl rfl ?_ | refine load_s_l S rfl rfl rfl rfl ?_ | refine loadE_s_l S rfl (by first | omega | decide | (simp; done) | (simp; omega)) rfl rfl rfl ?_ | refine len_l S rfl rfl ?_ | (refine lss_l S rfl rfl rfl ?_ ?_ <;> intro hcmp <;> try (exfalso; first | omega | exact hcmp (by decide) | exact absurd hcmp (by decide))) | refine sub_l S rfl rfl (wrap_in (by omega)) rfl ?_ | refine sub_l S rfl rfl rfl rfl ?_ | refine move_o_l S rfl rfl ?_ | refine load_o_l S rfl rfl rfl rfl ?_ | refine loadE_o_l S rfl (by first | omega | decide | (simp; done) | (simp; omega)) rfl rfl rfl ?_ | refine run_block ?_ | refine run_ret ?_ | refine run_exit ?_ | refine run_cond_true rfl ?_ | refine run_cond_false rfl ?_ | refine thenQ_n ?_ | refine thenQ_r ?_ | refine thenQ_e ?_ | refine blockQ_n ?_ | refine blockQ_r ?_ | refine blockQ_s rfl ?_ | refine blockQ_o rfl ?_ | refine ret1_i rfl ?_ | refine ret1_b rfl ?_ | refine ret1_p rfl ?_ | refine ret1_s rfl ?_ | refine ret1_e rfl ?_ | refine ret1_a rfl ?_ | refine ret1_o rfl ?_ | refine ret1n_i rfl ?_ | refine ret1n_b rfl ?_ | refine ret1n_p rfl ?_ | refine ret1n_s rfl ?_ | refine ret1n_o rfl ?_)
  rw [show ((D.length : Int) - 1) = (k : Nat) from by omega]
  refine run_anyB_at (c := 17) (f := 18) (L' := [roR (slL (D.getD k prD).a (D.getD k prD).cap 2 encQ (0, 0) (D.getD k prD).zs), roR (slL p.a p.cap 2 encQ (0, 0) p.zs), rowD a5 cap5 D, blk bb 1 (dC a5 cap5 D.length) 46]) [45, 46, 47, 48, 49, 50, 51, 52, 53, 54, 55, 56, 57, 58, 59, 60, 61] (fun (s : Unit) t => t) (fun s w' => ∃ a6 cap6, Sat F w₀ w' (rowL a6 cap6 35 2 encQ (0, 0) ((D.getD k prD).zs ++ p.zs) :: prsR (D ++ [p]) :: row a5 D.length cap5 32 1 (gset (gL encD prD D) k 0 (.slice a6 ((D.getD k prD).zs ++ p.zs).length cap6)) :: blk bb 1 (dC a5 cap5 D.length) 46 :: L)) S mixed rfl ?_ ?_
  · clear S
    intro w S1
    have S : Sat _ _ w [roR (slL (D.getD k prD).a (D.getD k prD).cap 2 encQ (0, 0) (D.getD k prD).zs), roR (slL p.a p.cap 2 encQ (0, 0) p.zs), rowD a5 cap5 D, blk bb 1 (dC a5 cap5 D.length) 46] := S1.sub
    (refine anyB_pure (i := 0) rfl (by kernel_rfl) S ?_; (first | refine move_p_x rfl rfl ?_ | refine move_e_x rfl rfl ?_ | refine move_o_x rfl rfl ?_))
    (refine anyB_pure (i := 1) rfl (by kernel_rfl) S ?_; (first | refine nilCheck_x rfl rfl ?_ | refine nilCheckE_x rfl (by first | omega | decide | (simp; done) | (simp; omega)) rfl ?_))
    (refine anyB_pure (i := 2) rfl (by kernel_rfl) S ?_; (first | refine fieldAddr_x rfl rfl rfl ?_ | refine fieldAddrE_x rfl (by first | omega | decide | (simp; done) | (simp; omega)) rfl rfl ?_))
    (refine anyB_pure (i := 3) rfl (by kernel_rfl) S ?_; (first | refine load_s_x rfl rfl rfl rfl ?_ | refine load_o_x rfl rfl rfl rfl ?_ | refine loadE_s_x rfl (by first | omega | decide | (simp; done) | (simp; omega)) rfl rfl rfl ?_ | refine loadE_o_x rfl (by first | omega | decide | (simp; done) | (simp; omega)) rfl rfl rfl ?_))
    (refine anyB_pure (i := 4) rfl (by kernel_rfl) S ?_; refine move_i_x rfl rfl ?_)
    (refine anyB_pure (i := 6) rfl (by kernel_rfl) S ?_; (first | refine move_p_x rfl rfl ?_ | refine move_e_x rfl rfl ?_ | refine move_o_x rfl rfl ?_))
    (refine anyB_pure (i := 7) rfl (by kernel_rfl) S ?_; (first | refine nilCheck_x rfl rfl ?_ | refine nilCheckE_x rfl (by first | omega | decide | (simp; done) | (simp; omega)) rfl ?_))
    (refine anyB_pure (i := 8) rfl (by kernel_rfl) S ?_; (first | refine fieldAddr_x rfl rfl rfl ?_ | refine fieldAddrE_x rfl (by first | omega | decide | (simp; done) | (simp; omega)) rfl rfl ?_))
    (refine anyB_pure (i := 9) rfl (by kernel_rfl) S ?_; (first | refine load_s_x rfl rfl rfl rfl ?_ | refine load_o_x rfl rfl rfl rfl ?_ | refine loadE_s_x rfl (by first | omega | decide | (simp; done) | (simp; omega)) rfl rfl rfl ?_ | refine loadE_o_x rfl (by first | omega | decide | (simp; done) | (simp; omega)) rfl rfl rfl ?_))
    (refine anyB_pure (i := 10) rfl (by kernel_rfl) S ?_; refine move_i_x rfl rfl ?_)
    (refine anyB_pure (i := 11) rfl (by kernel_rfl) S ?_; (first | refine indexAddr_x rfl rfl (idx_cast _) (by first | omega | decide | (simp; done) | (simp; omega)) rfl ?_ | refine indexAddr_x rfl rfl (idx_eq _) (by first | omega | decide | (simp; done) | (simp; omega)) rfl ?_))
    (refine anyB_pure (i := 12) rfl (by kernel_rfl) S ?_; (first | refine load_s_x rfl rfl rfl rfl ?_ | refine load_o_x rfl rfl rfl rfl ?_ | refine loadE_s_x rfl (by first | omega | decide | (simp; done) | (simp; omega)) rfl rfl rfl ?_ | refine loadE_o_x rfl (by first | omega | decide | (simp; done) | (simp; omega)) rfl rfl rfl ?_))
    (refine anyB_pure (i := 14) rfl (by kernel_rfl) S ?_; refine move_s_x rfl rfl ?_)
    refine anyB_all (l := [5]) (by kernel_rfl) (by decide) ?_
    intro i hi
    simp only [List.mem_cons, List.not_mem_nil, or_false] at hi
    subst hi
    (refine ⟨_, rfl, ?_⟩; replace S := S1; clear S1; (refine buildSliceN_l S (vs := []) rfl rfl rfl rfl rfl rfl ?_; clear S; intro b w S); refine nilL ?_; refine ⟨fun _ => S.sub, ?_⟩; have S1 := S; replace S : Sat _ _ _ [roR (slL (D.getD k prD).a (D.getD k prD).cap 2 encQ (0, 0) (D.getD k prD).zs), roR (slL p.a p.cap 2 encQ (0, 0) p.zs), rowD a5 cap5 D, blk bb 1 (dC a5 cap5 D.length) 46] := S1.sub)
    refine anyB_all (l := [13]) (by kernel_rfl) (by decide) ?_
    intro i hi
    simp only [List.mem_cons, List.not_mem_nil, or_false] at hi
    subst hi
    (refine ⟨_, rfl, ?_⟩; replace S := S1; clear S1; (first | (refine append_l S rfl rfl (by omega) rfl ?_; clear S; intro a' cap' w S) | (refine append0_l S rfl rfl (by omega) rfl ?_; clear S; intro a' cap' w S) | (refine append1_i S rfl rfl rfl (by omega) rfl ?_; clear S; intro a' cap' w S) | (refine append2_i S rfl rfl rfl rfl (by omega) rfl ?_; clear S; intro a' cap' w S) | (refine appendPre_i S rfl rfl (by omega) (by omega) rfl ?_; clear S; intro a' cap' w S) | (refine appendSuf_i S rfl rfl (by omega) (by omega) rfl ?_; clear S; intro a' cap' w S)); refine nilL ?_; refine ⟨fun _ => S.sub, ?_⟩; have S1 := S; replace S : Sat _ _ _ [roR (slL (D.getD k prD).a (D.getD k prD).cap 2 encQ (0, 0) (D.getD k prD).zs), roR (slL p.a p.cap 2 encQ (0, 0) p.zs), rowD a5 cap5 D, blk bb 1 (dC a5 cap5 D.length) 46] := S1.sub)
    refine anyB_all (l := [15]) (by kernel_rfl) (by decide) ?_
    intro i hi
    simp only [List.mem_cons, List.not_mem_nil, or_false] at hi
    subst hi
    (refine ⟨_, rfl, ?_⟩; replace S := S1; clear S1; (refine append_l (enc := encQ) (zs := (D.getD k prD).zs) (ys := p.zs) S rfl rfl (by omega) rfl ?_; clear S; intro a6 cap6 w S); refine nilL ?_; refine ⟨fun _ => S.sub, ?_⟩; have S1 := S; replace S : Sat _ _ _ [roR (slL (D.getD k prD).a (D.getD k prD).cap 2 encQ (0, 0) (D.getD k prD).zs), roR (slL p.a p.cap 2 encQ (0, 0) p.zs), rowD a5 cap5 D, blk bb 1 (dC a5 cap5 D.length) 46] := S1.sub)
    (refine anyB_pure (i := 16) rfl (by kernel_rfl) S ?_; (first | refine indexAddr_x rfl rfl (idx_cast _) (by first | omega | decide | (simp; done) | (simp; omega)) rfl ?_ | refine indexAddr_x rfl rfl (idx_eq _) (by first | omega | decide | (simp; done) | (simp; omega)) rfl ?_))
    refine anyB_all (l := [17]) (by kernel_rfl) (by decide) ?_
    intro i hi
    simp only [List.mem_cons, List.not_mem_nil, or_false] at hi
    subst hi
    (refine ⟨_, rfl, ?_⟩; replace S := S1; clear S1; (first | (refine store_s S rfl rfl rfl ?_; clear S; intro w S) | (refine storeE_s S rfl rfl (by omega) rfl ?_; clear S; intro w S)); refine nilL ?_; refine ⟨nope (by kernel_rfl), ?_⟩; have S1 := S)
    refine anyB_end (by kernel_rfl) ?_
    skip
    exact ⟨(), (by (repeat (first | exact agree_refl | refine agree_r rfl ?_ | refine agree_l rfl ?_ | refine agree_hv rfl ?_))), a6, cap6, S1.sub⟩
  · clear S
    rintro ⟨⟩ j w ⟨a6, cap6, S⟩
    repeat' (first | refine assign_i_l S rfl rfl ?_ | refine move_p_l S rfl rfl ?_ | refine move_e_l S rfl rfl ?_ | refine nilL ?_ | refine run_seq ?_ | refine run_skip ?_ | refine run_region (id := 0) ?_ | refine run_region (id := 1) ?_ | refine run_region (id := 2) ?_ | refine run_region (id := 5) ?_ | refine run_region (id := 7) ?_ | refine nilCheck_l S rfl rfl ?_ | refine nilCheckE_l S rfl (by first | omega | decide | (simp; done) | (simp; omega)) rfl ?_ | refine fieldAddr_l S rfl rfl rfl ?_ | refine fieldAddrE_l S rfl (by first | omega | decide | (simp; done) | (simp; omega)) rfl rfl ?_ | refine load_s_l S rfl rfl rfl rfl ?_ | refine loadE_s_l S rfl (by first | omega | decide | (simp; done) | (simp; omega)) rfl rfl rfl ?_ | refine len_l S rfl rfl ?_ | (refine lss_l S rfl rfl rfl ?_ ?_ <;> intro hcmp <;> try (exfalso; first | omega | exact hcmp (by decide) | exact absurd hcmp (by decide))) | refine sub_l S rfl rfl (wrap_in (by omega)) rfl ?_ | refine sub_l S rfl rfl rfl rfl ?_ | refine move_o_l S rfl rfl ?_ | refine load_o_l S rfl rfl rfl rfl ?_ | refine loadE_o_l S rfl (by first | omega | decide | (simp; done) | (simp; omega)) rfl rfl rfl ?_ | refine run_block ?_ | refine run_ret ?_ | refine run_exit ?_ | refine run_cond_true rfl ?_ | refine run_cond_false rfl ?_ | refine thenQ_n ?_ | refine thenQ_r ?_ | refine thenQ_e ?_ | refine blockQ_n ?_ | refine blockQ_r ?_ | refine blockQ_s rfl ?_ | refine blockQ_o rfl ?_ | refine ret1_i rfl ?_ | refine ret1_b rfl ?_ | refine ret1_p rfl ?_ | refine ret1_s rfl ?_ | refine ret1_e rfl ?_ | refine ret1_a rfl ?_ | refine ret1_o rfl ?_ | refine ret1n_i rfl ?_ | refine ret1n_b rfl ?_ | refine ret1n_p rfl ?_ | refine ret1n_s rfl ?_ | refine ret1n_o rfl ?_)
    refine ⟨rfl, a5, cap5, ⟨a6, cap6, (D.getD k prD).zs ++ p.zs⟩, rfl, ?_⟩
    have S2 := Sat.toPrs (p := ⟨a6, cap6, (D.getD k prD).zs ++ p.zs⟩) (D' := D.set k ⟨a6, cap6, (D.getD k prD).zs ++ p.zs⟩) S (fun z hz => (List.mem_or_eq_of_mem_set hz).imp (fun h => by simp [h]) id)
    have S3 := S2.rev3
    have S4 := (S3.sw.turn1 (r' := rowD a5 cap5 (D.set k ⟨a6, cap6, (D.getD k prD).zs ++ p.zs⟩)) (row_set hkl ⟨a6, cap6, (D.getD k prD).zs ++ p.zs⟩ S3.second) rfl (fun k e => e)).sw
    have e : (D.set k ⟨a6, cap6, (D.getD k prD).zs ++ p.zs⟩).length = D.length := List.length_set
    show Sat F w₀ w (blk bb 1 (dC a5 cap5 (D.set k ⟨a6, cap6, (D.getD k prD).zs ++ p.zs⟩).length) 46 :: rowD a5 cap5 (D.set k ⟨a6, cap6, (D.getD k prD).zs ++ p.zs⟩) :: prsR (D.set k ⟨a6, cap6, (D.getD k prD).zs ++ p.zs⟩) :: L)
    rw [e]
    exact S4
end
end Go.Proofs.Ytaapgdanodkhjaa
