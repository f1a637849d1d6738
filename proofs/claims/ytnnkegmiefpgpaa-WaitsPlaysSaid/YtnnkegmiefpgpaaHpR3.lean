/- heap: owners and versions; a new heap of the document's; its steps. heap: the document's heap goes with it. -/
import Derived.Test.YtnnkegmiefpgpaaHpR
import Derived.Test.YtnnkegmiefpgpaaHpG
import Derived.Test.YtnnkegmiefpgpaaHpOw
namespace Go.Proofs.Ytnnkegmiefpgpaa
open Go.RowKit Go.Lib
set_option linter.unusedVariables false
set_option maxHeartbeats 2000000
set_option maxHeartbeats 1000000
def NewRef (w0 w' : World) (R : RefS) (v : Value) : Prop := ∃ b A, v = .pointer (some ⟨b, 0, none⟩) ∧ (refR b A R).holds w' ∧ ∀ k, (refR b A R).foot k → w0.heap.size ≤ k
def newR (zs : List Int) (st : Nat) (limit : Int) : RefS := ⟨zs, List.replicate st (-1), List.replicate st 0, 0, limit⟩
theorem rnew_no (a : Option Addr) (cap : Nat) (zs : List Int) (stripes limit : Int) (hg : ¬ goodNew zs.length stripes limit) (w0 : World) (h : SlOk w0 a zs.length cap 1 (gL encI 0 zs)) :
    Calls Try.prog 39 #[.slice a zs.length cap, .int .i64 stripes, .int .i64 limit] w0 fun e w' => e = .returned (.tuple #[.pointer none, .int .i64 1]) ∧ Below w0.heap.size w0 w' := by
  unfold goodNew at hg
  have S := Sat.reads (r := slL a cap 1 encI 0 zs) h
  have hm := h.small
  refine enter2 Try.func39 rfl Try.ntmps39 rfl Try.results39 ?_
  repeat' (first | refine move_i_l S rfl rfl ?_ | refine assign_i_l S rfl rfl ?_ | refine move_b_l S rfl rfl ?_ | refine nilL ?_ | refine run_seq ?_ | refine run_skip ?_ | refine run_region ?_ | refine onL rfl rfl ?_ | refine offL rfl rfl rfl rfl ?_ | refine offL0 rfl rfl rfl ?_ | refine offLU rfl rfl rfl ?_ | refine pick_tb_l S rfl rfl rfl ?_ | refine pick_fb_l S rfl rfl rfl ?_ | (refine lss_l S rfl rfl rfl ?_ ?_ <;> intro hcmp <;> try (exfalso; first | omega | exact hcmp (by decide) | exact absurd hcmp (by decide))) | refine assign_p_l S rfl rfl ?_ | refine assign_e_l S rfl rfl ?_ | refine move_s_l S rfl rfl ?_ | refine len_l S rfl rfl ?_ | (refine gtr_l S rfl rfl rfl ?_ ?_ <;> intro hcmp <;> try (exfalso; first | omega | exact hcmp (by decide) | exact absurd hcmp (by decide))) | refine move_p_l S rfl rfl ?_ | refine move_e_l S rfl rfl ?_ | refine nilCheck_l S rfl rfl ?_ | refine nilCheckE_l S rfl (by first | omega | decide | (simp; done) | (simp; omega)) rfl ?_ | refine fieldAddr_l S rfl rfl rfl ?_ | refine fieldAddrE_l S rfl (by first | omega | decide | (simp; done) | (simp; omega)) rfl rfl ?_ | refine load_s_l S rfl rfl rfl rfl ?_ | refine loadE_s_l S rfl (by first | omega | decide | (simp; done) | (simp; omega)) rfl rfl rfl ?_ | refine indexAddr_l S rfl rfl (idx_cast _) (by first | omega | decide | (simp; done) | (simp; omega)) rfl ?_ | refine indexAddr_l S rfl rfl (idx_eq _) (by first | omega | decide | (simp; done) | (simp; omega)) rfl ?_ | (refine store_i S rfl rfl rfl ?_; clear S; intro w S) | (refine storeE_i S rfl rfl (by omega) rfl ?_; clear S; intro w S) | refine add_l S rfl rfl (wrap_in (by omega)) rfl ?_ | refine add_l S rfl rfl rfl rfl ?_ | refine assign_o_l S rfl rfl ?_ | refine move_o_l S rfl rfl ?_ | refine load_o_l S rfl rfl rfl rfl ?_ | refine loadE_o_l S rfl (by first | omega | decide | (simp; done) | (simp; omega)) rfl rfl rfl ?_ | refine run_block ?_ | refine run_ret ?_ | refine run_exit ?_ | refine run_cond_true rfl ?_ | refine run_cond_false rfl ?_ | refine thenQ_n ?_ | refine thenQ_r ?_ | refine thenQ_e ?_ | refine blockQ_n ?_ | refine blockQ_r ?_ | refine blockQ_s rfl ?_ | refine blockQ_o rfl ?_ | refine ret2_ii rfl rfl ?_ | refine ret2_ib rfl rfl ?_ | refine ret2_ip rfl rfl ?_ | refine ret2_is rfl rfl ?_ | refine ret2_io rfl rfl ?_ | refine ret2_bi rfl rfl ?_ | refine ret2_bb rfl rfl ?_ | refine ret2_bp rfl rfl ?_ | refine ret2_bs rfl rfl ?_ | refine ret2_bo rfl rfl ?_ | refine ret2_pi rfl rfl ?_ | refine ret2_pb rfl rfl ?_ | refine ret2_pp rfl rfl ?_ | refine ret2_ps rfl rfl ?_ | refine ret2_po rfl rfl ?_ | refine ret2_si rfl rfl ?_ | refine ret2_sb rfl rfl ?_ | refine ret2_sp rfl rfl ?_ | refine ret2_ss rfl rfl ?_ | refine ret2_so rfl rfl ?_ | refine ret2_ei rfl rfl ?_ | refine ret2_eb rfl rfl ?_ | refine ret2_ep rfl rfl ?_ | refine ret2_es rfl rfl ?_ | refine ret2_eo rfl rfl ?_ | refine ret2_ai rfl rfl ?_ | refine ret2_ab rfl rfl ?_ | refine ret2_ap rfl rfl ?_ | refine ret2_as rfl rfl ?_ | refine ret2_ao rfl rfl ?_ | refine ret2_oi rfl rfl ?_ | refine ret2_ob rfl rfl ?_ | refine ret2_op rfl rfl ?_ | refine ret2_os rfl rfl ?_ | refine ret2_oo rfl rfl ?_)
  all_goals exact ⟨rfl, S.chg.below⟩
theorem rnew_yes (a : Option Addr) (cap : Nat) (zs : List Int) (k : Nat) (limit : Int) (hg : goodNew zs.length k limit) (w0 : World) (h : SlOk w0 a zs.length cap 1 (gL encI 0 zs)) :
    Calls Try.prog 39 #[.slice a zs.length cap, .int .i64 k, .int .i64 limit] w0 fun e w' => ∃ p, e = .returned (.tuple #[p, .int .i64 0]) ∧ NewRef w0 w' (newR zs k limit) p ∧ Below w0.heap.size w0 w' := by
  unfold goodNew at hg
  have S := Sat.reads (r := slL a cap 1 encI 0 zs) h
  have hm := h.small
  refine enter2 Try.func39 rfl Try.ntmps39 rfl Try.results39 ?_
  repeat' (first | refine move_i_l S rfl rfl ?_ | refine assign_i_l S rfl rfl ?_ | refine move_b_l S rfl rfl ?_ | refine nilL ?_ | refine run_seq ?_ | refine run_skip ?_ | refine run_region ?_ | refine onL rfl rfl ?_ | refine offL rfl rfl rfl rfl ?_ | refine offL0 rfl rfl rfl ?_ | refine offLU rfl rfl rfl ?_ | refine pick_tb_l S rfl rfl rfl ?_ | refine pick_fb_l S rfl rfl rfl ?_ | (refine lss_l S rfl rfl rfl ?_ ?_ <;> intro hcmp <;> try (exfalso; first | omega | exact hcmp (by decide) | exact absurd hcmp (by decide))) | refine assign_p_l S rfl rfl ?_ | refine assign_e_l S rfl rfl ?_ | refine move_s_l S rfl rfl ?_ | refine len_l S rfl rfl ?_ | (refine gtr_l S rfl rfl rfl ?_ ?_ <;> intro hcmp <;> try (exfalso; first | omega | exact hcmp (by decide) | exact absurd hcmp (by decide))) | refine move_p_l S rfl rfl ?_ | refine move_e_l S rfl rfl ?_ | refine nilCheck_l S rfl rfl ?_ | refine nilCheckE_l S rfl (by first | omega | decide | (simp; done) | (simp; omega)) rfl ?_ | refine fieldAddr_l S rfl rfl rfl ?_ | refine fieldAddrE_l S rfl (by first | omega | decide | (simp; done) | (simp; omega)) rfl rfl ?_ | refine load_s_l S rfl rfl rfl rfl ?_ | refine loadE_s_l S rfl (by first | omega | decide | (simp; done) | (simp; omega)) rfl rfl rfl ?_ | refine indexAddr_l S rfl rfl (idx_cast _) (by first | omega | decide | (simp; done) | (simp; omega)) rfl ?_ | refine indexAddr_l S rfl rfl (idx_eq _) (by first | omega | decide | (simp; done) | (simp; omega)) rfl ?_ | (refine store_i S rfl rfl rfl ?_; clear S; intro w S) | (refine storeE_i S rfl rfl (by omega) rfl ?_; clear S; intro w S) | refine add_l S rfl rfl (wrap_in (by omega)) rfl ?_ | refine add_l S rfl rfl rfl rfl ?_ | refine assign_o_l S rfl rfl ?_ | refine move_o_l S rfl rfl ?_ | refine load_o_l S rfl rfl rfl rfl ?_ | refine loadE_o_l S rfl (by first | omega | decide | (simp; done) | (simp; omega)) rfl rfl rfl ?_ | refine run_block ?_ | refine run_ret ?_ | refine run_exit ?_ | refine run_cond_true rfl ?_ | refine run_cond_false rfl ?_ | refine thenQ_n ?_ | refine thenQ_r ?_ | refine thenQ_e ?_ | refine blockQ_n ?_ | refine blockQ_r ?_ | refine blockQ_s rfl ?_ | refine blockQ_o rfl ?_ | refine ret2_ii rfl rfl ?_ | refine ret2_ib rfl rfl ?_ | refine ret2_ip rfl rfl ?_ | refine ret2_is rfl rfl ?_ | refine ret2_io rfl rfl ?_ | refine ret2_bi rfl rfl ?_ | refine ret2_bb rfl rfl ?_ | refine ret2_bp rfl rfl ?_ | refine ret2_bs rfl rfl ?_ | refine ret2_bo rfl rfl ?_ | refine ret2_pi rfl rfl ?_ | refine ret2_pb rfl rfl ?_ | refine ret2_pp rfl rfl ?_ | refine ret2_ps rfl rfl ?_ | refine ret2_po rfl rfl ?_ | refine ret2_si rfl rfl ?_ | refine ret2_sb rfl rfl ?_ | refine ret2_sp rfl rfl ?_ | refine ret2_ss rfl rfl ?_ | refine ret2_so rfl rfl ?_ | refine ret2_ei rfl rfl ?_ | refine ret2_eb rfl rfl ?_ | refine ret2_ep rfl rfl ?_ | refine ret2_es rfl rfl ?_ | refine ret2_eo rfl rfl ?_ | refine ret2_ai rfl rfl ?_ | refine ret2_ab rfl rfl ?_ | refine ret2_ap rfl rfl ?_ | refine ret2_as rfl rfl ?_ | refine ret2_ao rfl rfl ?_ | refine ret2_oi rfl rfl ?_ | refine ret2_ob rfl rfl ?_ | refine ret2_op rfl rfl ?_ | refine ret2_os rfl rfl ?_ | refine ret2_oo rfl rfl ?_)
  refine run_any_at (L' := []) (f := 11) [36, 37, 38, 39, 40, 41, 42, 43, 44, 45] (fun (s : Nat × Option Addr × Nat × Nat × Nat) t => upd t 8 (.pointer (some ⟨s.1, 0, none⟩))) (fun s w' => Sat (fun _ => False) w0 w' [blk s.1 5 (fun i => [Value.slice s.2.1 zs.length s.2.2.1, .slice (some ⟨s.2.2.2.1, 0, none⟩) k k, .slice (some ⟨s.2.2.2.2, 0, none⟩) k k, .int .i64 0, .int .i64 limit].getD i undef) 126, rowL s.2.1 s.2.2.1 2 1 encI 0 zs, row (some ⟨s.2.2.2.1, 0, none⟩) k k 3 1 (fun _ j => (Value.int .i64 0).cells.getD j undef), row (some ⟨s.2.2.2.2, 0, none⟩) k k 3 1 (fun _ j => (Value.int .i64 0).cells.getD j undef), roR (slL a cap 1 encI 0 zs)]) S mixed rfl ?_ ?_
  · clear S
    intro w S1
    have S : Sat _ _ w [] := S1.sub
    (refine any_pure (i := 1) rfl (by kernel_rfl) S ?_; refine move_s_x rfl rfl ?_)
    (refine any_pure (i := 3) rfl (by kernel_rfl) S ?_; refine move_i_x rfl rfl ?_)
    (refine any_pure (i := 4) rfl (by kernel_rfl) S ?_; refine move_i_x rfl rfl ?_)
    (refine any_pure (i := 6) rfl (by kernel_rfl) S ?_; refine move_i_x rfl rfl ?_)
    refine any_all (l := [0, 5, 7]) (by kernel_rfl) (by decide) ?_
    intro i hi
    simp only [List.mem_cons, List.not_mem_nil, or_false] at hi
    rcases hi with rfl | rfl | rfl
    · (refine ⟨_, rfl, ?_⟩; replace S := S1; clear S1; (refine buildSliceN_l S (vs := []) rfl rfl rfl rfl rfl rfl ?_; clear S; intro b w S); refine nilL ?_; refine ⟨S.sub, ?_⟩; have S1 := S; replace S : Sat _ _ _ [] := S1.sub)
      refine any_all (l := [2, 5, 7]) (by kernel_rfl) (by decide) ?_
      intro i hi
      simp only [List.mem_cons, List.not_mem_nil, or_false] at hi
      rcases hi with rfl | rfl | rfl
      · (refine ⟨_, rfl, ?_⟩; replace S := S1; clear S1; (first | (refine append_l S rfl rfl (by omega) rfl ?_; clear S; intro a' cap' w S) | (refine append0_l S rfl rfl (by omega) rfl ?_; clear S; intro a' cap' w S) | (refine append1_i S rfl rfl rfl (by omega) rfl ?_; clear S; intro a' cap' w S) | (refine append2_i S rfl rfl rfl rfl (by omega) rfl ?_; clear S; intro a' cap' w S) | (refine appendPre_i S rfl rfl (by omega) (by omega) rfl ?_; clear S; intro a' cap' w S) | (refine appendSuf_i S rfl rfl (by omega) (by omega) rfl ?_; clear S; intro a' cap' w S)); refine nilL ?_; refine ⟨S.sub, ?_⟩; have S1 := S; replace S : Sat _ _ _ [] := S1.sub)
        refine any_all (l := [5, 7]) (by kernel_rfl) (by decide) ?_
        intro i hi
        simp only [List.mem_cons, List.not_mem_nil, or_false] at hi
        rcases hi with rfl | rfl
        · (refine ⟨_, rfl, ?_⟩; replace S := S1; clear S1; (refine makeSlice_l S rfl rfl rfl (by omega) rfl ?_; clear S; intro b w S); refine nilL ?_; refine ⟨S.sub, ?_⟩; have S1 := S; replace S : Sat _ _ _ [] := S1.sub)
          (refine any_step (i := 7) rfl (by kernel_rfl) ?_; replace S := S1; clear S1; (refine makeSlice_l S rfl rfl rfl (by omega) rfl ?_; clear S; intro b w S); refine nilL ?_; refine ⟨S.sub, ?_⟩; have S1 := S; replace S : Sat _ _ _ [] := S1.sub)
          (refine any_pure (i := 8) rfl (by kernel_rfl) S ?_; (apply build5_x; (· repeat (first | exact mapN | apply mapC_i rfl | apply mapC_b rfl | apply mapC_p rfl | apply mapC_s rfl | apply mapC_e rfl | apply mapC_a rfl | apply mapC_o rfl)); (· rfl); (· rfl)))
          (refine any_step (i := 9) rfl (by kernel_rfl) ?_; replace S := S1; clear S1; (refine box_a S rfl rfl rfl ?_; clear S; intro b w S); refine nilL ?_; refine ⟨S.sub, ?_⟩; have S1 := S; replace S : Sat _ _ _ [] := S1.sub)
          (refine any_pure (i := 10) rfl (by kernel_rfl) S ?_; (first | refine assign_p_x rfl rfl ?_ | refine assign_e_x rfl rfl ?_ | refine assign_o_x rfl rfl ?_))
          refine any_end (by kernel_rfl) ?_
          refine ⟨(_, _, _, _, _), ?_, S1.perm (by first | exact List.Perm.refl _ | exact List.Perm.cons _ (List.Perm.swap _ _ _) | exact List.Perm.cons _ (List.Perm.cons _ (List.Perm.swap _ _ _)) | exact List.Perm.cons _ ((List.Perm.swap _ _ _).trans (List.Perm.cons _ (List.Perm.swap _ _ _))) | exact List.Perm.cons _ ((List.Perm.cons _ (List.Perm.swap _ _ _)).trans (List.Perm.swap _ _ _)) | exact List.Perm.cons _ ((List.Perm.swap _ _ _).trans ((List.Perm.cons _ (List.Perm.swap _ _ _)).trans (List.Perm.swap _ _ _))))⟩; (repeat (first | exact agree_refl | refine agree_r rfl ?_ | refine agree_l rfl ?_ | refine agree_hv rfl ?_))
        · (refine ⟨_, rfl, ?_⟩; replace S := S1; clear S1; (refine makeSlice_l S rfl rfl rfl (by omega) rfl ?_; clear S; intro b w S); refine nilL ?_; refine ⟨S.sub, ?_⟩; have S1 := S; replace S : Sat _ _ _ [] := S1.sub)
          (refine any_step (i := 5) rfl (by kernel_rfl) ?_; replace S := S1; clear S1; (refine makeSlice_l S rfl rfl rfl (by omega) rfl ?_; clear S; intro b w S); refine nilL ?_; refine ⟨S.sub, ?_⟩; have S1 := S; replace S : Sat _ _ _ [] := S1.sub)
          (refine any_pure (i := 8) rfl (by kernel_rfl) S ?_; (apply build5_x; (· repeat (first | exact mapN | apply mapC_i rfl | apply mapC_b rfl | apply mapC_p rfl | apply mapC_s rfl | apply mapC_e rfl | apply mapC_a rfl | apply mapC_o rfl)); (· rfl); (· rfl)))
          (refine any_step (i := 9) rfl (by kernel_rfl) ?_; replace S := S1; clear S1; (refine box_a S rfl rfl rfl ?_; clear S; intro b w S); refine nilL ?_; refine ⟨S.sub, ?_⟩; have S1 := S; replace S : Sat _ _ _ [] := S1.sub)
          (refine any_pure (i := 10) rfl (by kernel_rfl) S ?_; (first | refine assign_p_x rfl rfl ?_ | refine assign_e_x rfl rfl ?_ | refine assign_o_x rfl rfl ?_))
          refine any_end (by kernel_rfl) ?_
          refine ⟨(_, _, _, _, _), ?_, S1.perm (by first | exact List.Perm.refl _ | exact List.Perm.cons _ (List.Perm.swap _ _ _) | exact List.Perm.cons _ (List.Perm.cons _ (List.Perm.swap _ _ _)) | exact List.Perm.cons _ ((List.Perm.swap _ _ _).trans (List.Perm.cons _ (List.Perm.swap _ _ _))) | exact List.Perm.cons _ ((List.Perm.cons _ (List.Perm.swap _ _ _)).trans (List.Perm.swap _ _ _)) | exact List.Perm.cons _ ((List.Perm.swap _ _ _).trans ((List.Perm.cons _ (List.Perm.swap _ _ _)).trans (List.Perm.swap _ _ _))))⟩; (repeat (first | exact agree_refl | refine agree_r rfl ?_ | refine agree_l rfl ?_ | refine agree_hv rfl ?_))
      · (refine ⟨_, rfl, ?_⟩; replace S := S1; clear S1; (refine makeSlice_l S rfl rfl rfl (by omega) rfl ?_; clear S; intro b w S); refine nilL ?_; refine ⟨S.sub, ?_⟩; have S1 := S; replace S : Sat _ _ _ [] := S1.sub)
        refine any_all (l := [2, 7]) (by kernel_rfl) (by decide) ?_
        intro i hi
        simp only [List.mem_cons, List.not_mem_nil, or_false] at hi
        rcases hi with rfl | rfl
        · (refine ⟨_, rfl, ?_⟩; replace S := S1; clear S1; (first | (refine append_l S rfl rfl (by omega) rfl ?_; clear S; intro a' cap' w S) | (refine append0_l S rfl rfl (by omega) rfl ?_; clear S; intro a' cap' w S) | (refine append1_i S rfl rfl rfl (by omega) rfl ?_; clear S; intro a' cap' w S) | (refine append2_i S rfl rfl rfl rfl (by omega) rfl ?_; clear S; intro a' cap' w S) | (refine appendPre_i S rfl rfl (by omega) (by omega) rfl ?_; clear S; intro a' cap' w S) | (refine appendSuf_i S rfl rfl (by omega) (by omega) rfl ?_; clear S; intro a' cap' w S)); refine nilL ?_; refine ⟨S.sub, ?_⟩; have S1 := S; replace S : Sat _ _ _ [] := S1.sub)
          (refine any_step (i := 7) rfl (by kernel_rfl) ?_; replace S := S1; clear S1; (refine makeSlice_l S rfl rfl rfl (by omega) rfl ?_; clear S; intro b w S); refine nilL ?_; refine ⟨S.sub, ?_⟩; have S1 := S; replace S : Sat _ _ _ [] := S1.sub)
          (refine any_pure (i := 8) rfl (by kernel_rfl) S ?_; (apply build5_x; (· repeat (first | exact mapN | apply mapC_i rfl | apply mapC_b rfl | apply mapC_p rfl | apply mapC_s rfl | apply mapC_e rfl | apply mapC_a rfl | apply mapC_o rfl)); (· rfl); (· rfl)))
          (refine any_step (i := 9) rfl (by kernel_rfl) ?_; replace S := S1; clear S1; (refine box_a S rfl rfl rfl ?_; clear S; intro b w S); refine nilL ?_; refine ⟨S.sub, ?_⟩; have S1 := S; replace S : Sat _ _ _ [] := S1.sub)
          (refine any_pure (i := 10) rfl (by kernel_rfl) S ?_; (first | refine assign_p_x rfl rfl ?_ | refine assign_e_x rfl rfl ?_ | refine assign_o_x rfl rfl ?_))
          refine any_end (by kernel_rfl) ?_
          refine ⟨(_, _, _, _, _), ?_, S1.perm (by first | exact List.Perm.refl _ | exact List.Perm.cons _ (List.Perm.swap _ _ _) | exact List.Perm.cons _ (List.Perm.cons _ (List.Perm.swap _ _ _)) | exact List.Perm.cons _ ((List.Perm.swap _ _ _).trans (List.Perm.cons _ (List.Perm.swap _ _ _))) | exact List.Perm.cons _ ((List.Perm.cons _ (List.Perm.swap _ _ _)).trans (List.Perm.swap _ _ _)) | exact List.Perm.cons _ ((List.Perm.swap _ _ _).trans ((List.Perm.cons _ (List.Perm.swap _ _ _)).trans (List.Perm.swap _ _ _))))⟩; (repeat (first | exact agree_refl | refine agree_r rfl ?_ | refine agree_l rfl ?_ | refine agree_hv rfl ?_))
        · (refine ⟨_, rfl, ?_⟩; replace S := S1; clear S1; (refine makeSlice_l S rfl rfl rfl (by omega) rfl ?_; clear S; intro b w S); refine nilL ?_; refine ⟨S.sub, ?_⟩; have S1 := S; replace S : Sat _ _ _ [] := S1.sub)
          (refine any_step (i := 2) rfl (by kernel_rfl) ?_; replace S := S1; clear S1; (first | (refine append_l S rfl rfl (by omega) rfl ?_; clear S; intro a' cap' w S) | (refine append0_l S rfl rfl (by omega) rfl ?_; clear S; intro a' cap' w S) | (refine append1_i S rfl rfl rfl (by omega) rfl ?_; clear S; intro a' cap' w S) | (refine append2_i S rfl rfl rfl rfl (by omega) rfl ?_; clear S; intro a' cap' w S) | (refine appendPre_i S rfl rfl (by omega) (by omega) rfl ?_; clear S; intro a' cap' w S) | (refine appendSuf_i S rfl rfl (by omega) (by omega) rfl ?_; clear S; intro a' cap' w S)); refine nilL ?_; refine ⟨S.sub, ?_⟩; have S1 := S; replace S : Sat _ _ _ [] := S1.sub)
          (refine any_pure (i := 8) rfl (by kernel_rfl) S ?_; (apply build5_x; (· repeat (first | exact mapN | apply mapC_i rfl | apply mapC_b rfl | apply mapC_p rfl | apply mapC_s rfl | apply mapC_e rfl | apply mapC_a rfl | apply mapC_o rfl)); (· rfl); (· rfl)))
          (refine any_step (i := 9) rfl (by kernel_rfl) ?_; replace S := S1; clear S1; (refine box_a S rfl rfl rfl ?_; clear S; intro b w S); refine nilL ?_; refine ⟨S.sub, ?_⟩; have S1 := S; replace S : Sat _ _ _ [] := S1.sub)
          (refine any_pure (i := 10) rfl (by kernel_rfl) S ?_; (first | refine assign_p_x rfl rfl ?_ | refine assign_e_x rfl rfl ?_ | refine assign_o_x rfl rfl ?_))
          refine any_end (by kernel_rfl) ?_
          refine ⟨(_, _, _, _, _), ?_, S1.perm (by first | exact List.Perm.refl _ | exact List.Perm.cons _ (List.Perm.swap _ _ _) | exact List.Perm.cons _ (List.Perm.cons _ (List.Perm.swap _ _ _)) | exact List.Perm.cons _ ((List.Perm.swap _ _ _).trans (List.Perm.cons _ (List.Perm.swap _ _ _))) | exact List.Perm.cons _ ((List.Perm.cons _ (List.Perm.swap _ _ _)).trans (List.Perm.swap _ _ _)) | exact List.Perm.cons _ ((List.Perm.swap _ _ _).trans ((List.Perm.cons _ (List.Perm.swap _ _ _)).trans (List.Perm.swap _ _ _))))⟩; (repeat (first | exact agree_refl | refine agree_r rfl ?_ | refine agree_l rfl ?_ | refine agree_hv rfl ?_))
      · (refine ⟨_, rfl, ?_⟩; replace S := S1; clear S1; (refine makeSlice_l S rfl rfl rfl (by omega) rfl ?_; clear S; intro b w S); refine nilL ?_; refine ⟨S.sub, ?_⟩; have S1 := S; replace S : Sat _ _ _ [] := S1.sub)
        refine any_all (l := [2, 5]) (by kernel_rfl) (by decide) ?_
        intro i hi
        simp only [List.mem_cons, List.not_mem_nil, or_false] at hi
        rcases hi with rfl | rfl
        · (refine ⟨_, rfl, ?_⟩; replace S := S1; clear S1; (first | (refine append_l S rfl rfl (by omega) rfl ?_; clear S; intro a' cap' w S) | (refine append0_l S rfl rfl (by omega) rfl ?_; clear S; intro a' cap' w S) | (refine append1_i S rfl rfl rfl (by omega) rfl ?_; clear S; intro a' cap' w S) | (refine append2_i S rfl rfl rfl rfl (by omega) rfl ?_; clear S; intro a' cap' w S) | (refine appendPre_i S rfl rfl (by omega) (by omega) rfl ?_; clear S; intro a' cap' w S) | (refine appendSuf_i S rfl rfl (by omega) (by omega) rfl ?_; clear S; intro a' cap' w S)); refine nilL ?_; refine ⟨S.sub, ?_⟩; have S1 := S; replace S : Sat _ _ _ [] := S1.sub)
          (refine any_step (i := 5) rfl (by kernel_rfl) ?_; replace S := S1; clear S1; (refine makeSlice_l S rfl rfl rfl (by omega) rfl ?_; clear S; intro b w S); refine nilL ?_; refine ⟨S.sub, ?_⟩; have S1 := S; replace S : Sat _ _ _ [] := S1.sub)
          (refine any_pure (i := 8) rfl (by kernel_rfl) S ?_; (apply build5_x; (· repeat (first | exact mapN | apply mapC_i rfl | apply mapC_b rfl | apply mapC_p rfl | apply mapC_s rfl | apply mapC_e rfl | apply mapC_a rfl | apply mapC_o rfl)); (· rfl); (· rfl)))
          (refine any_step (i := 9) rfl (by kernel_rfl) ?_; replace S := S1; clear S1; (refine box_a S rfl rfl rfl ?_; clear S; intro b w S); refine nilL ?_; refine ⟨S.sub, ?_⟩; have S1 := S; replace S : Sat _ _ _ [] := S1.sub)
          (refine any_pure (i := 10) rfl (by kernel_rfl) S ?_; (first | refine assign_p_x rfl rfl ?_ | refine assign_e_x rfl rfl ?_ | refine assign_o_x rfl rfl ?_))
          refine any_end (by kernel_rfl) ?_
          refine ⟨(_, _, _, _, _), ?_, S1.perm (by first | exact List.Perm.refl _ | exact List.Perm.cons _ (List.Perm.swap _ _ _) | exact List.Perm.cons _ (List.Perm.cons _ (List.Perm.swap _ _ _)) | exact List.Perm.cons _ ((List.Perm.swap _ _ _).trans (List.Perm.cons _ (List.Perm.swap _ _ _))) | exact List.Perm.cons _ ((List.Perm.cons _ (List.Perm.swap _ _ _)).trans (List.Perm.swap _ _ _)) | exact List.Perm.cons _ ((List.Perm.swap _ _ _).trans ((List.Perm.cons _ (List.Perm.swap _ _ _)).trans (List.Perm.swap _ _ _))))⟩; (repeat (first | exact agree_refl | refine agree_r rfl ?_ | refine agree_l rfl ?_ | refine agree_hv rfl ?_))
        · (refine ⟨_, rfl, ?_⟩; replace S := S1; clear S1; (refine makeSlice_l S rfl rfl rfl (by omega) rfl ?_; clear S; intro b w S); refine nilL ?_; refine ⟨S.sub, ?_⟩; have S1 := S; replace S : Sat _ _ _ [] := S1.sub)
          (refine any_step (i := 2) rfl (by kernel_rfl) ?_; replace S := S1; clear S1; (first | (refine append_l S rfl rfl (by omega) rfl ?_; clear S; intro a' cap' w S) | (refine append0_l S rfl rfl (by omega) rfl ?_; clear S; intro a' cap' w S) | (refine append1_i S rfl rfl rfl (by omega) rfl ?_; clear S; intro a' cap' w S) | (refine append2_i S rfl rfl rfl rfl (by omega) rfl ?_; clear S; intro a' cap' w S) | (refine appendPre_i S rfl rfl (by omega) (by omega) rfl ?_; clear S; intro a' cap' w S) | (refine appendSuf_i S rfl rfl (by omega) (by omega) rfl ?_; clear S; intro a' cap' w S)); refine nilL ?_; refine ⟨S.sub, ?_⟩; have S1 := S; replace S : Sat _ _ _ [] := S1.sub)
          (refine any_pure (i := 8) rfl (by kernel_rfl) S ?_; (apply build5_x; (· repeat (first | exact mapN | apply mapC_i rfl | apply mapC_b rfl | apply mapC_p rfl | apply mapC_s rfl | apply mapC_e rfl | apply mapC_a rfl | apply mapC_o rfl)); (· rfl); (· rfl)))
          (refine any_step (i := 9) rfl (by kernel_rfl) ?_; replace S := S1; clear S1; (refine box_a S rfl rfl rfl ?_; clear S; intro b w S); refine nilL ?_; refine ⟨S.sub, ?_⟩; have S1 := S; replace S : Sat _ _ _ [] := S1.sub)
          (refine any_pure (i := 10) rfl (by kernel_rfl) S ?_; (first | refine assign_p_x rfl rfl ?_ | refine assign_e_x rfl rfl ?_ | refine assign_o_x rfl rfl ?_))
          refine any_end (by kernel_rfl) ?_
          refine ⟨(_, _, _, _, _), ?_, S1.perm (by first | exact List.Perm.refl _ | exact List.Perm.cons _ (List.Perm.swap _ _ _) | exact List.Perm.cons _ (List.Perm.cons _ (List.Perm.swap _ _ _)) | exact List.Perm.cons _ ((List.Perm.swap _ _ _).trans (List.Perm.cons _ (List.Perm.swap _ _ _))) | exact List.Perm.cons _ ((List.Perm.cons _ (List.Perm.swap _ _ _)).trans (List.Perm.swap _ _ _)) | exact List.Perm.cons _ ((List.Perm.swap _ _ _).trans ((List.Perm.cons _ (List.Perm.swap _ _ _)).trans (List.Perm.swap _ _ _))))⟩; (repeat (first | exact agree_refl | refine agree_r rfl ?_ | refine agree_l rfl ?_ | refine agree_hv rfl ?_))
    · (refine ⟨_, rfl, ?_⟩; replace S := S1; clear S1; (refine makeSlice_l S rfl rfl rfl (by omega) rfl ?_; clear S; intro b w S); refine nilL ?_; refine ⟨S.sub, ?_⟩; have S1 := S; replace S : Sat _ _ _ [] := S1.sub)
      refine any_all (l := [0, 7]) (by kernel_rfl) (by decide) ?_
      intro i hi
      simp only [List.mem_cons, List.not_mem_nil, or_false] at hi
      rcases hi with rfl | rfl
      · (refine ⟨_, rfl, ?_⟩; replace S := S1; clear S1; (refine buildSliceN_l S (vs := []) rfl rfl rfl rfl rfl rfl ?_; clear S; intro b w S); refine nilL ?_; refine ⟨S.sub, ?_⟩; have S1 := S; replace S : Sat _ _ _ [] := S1.sub)
        refine any_all (l := [2, 7]) (by kernel_rfl) (by decide) ?_
        intro i hi
        simp only [List.mem_cons, List.not_mem_nil, or_false] at hi
        rcases hi with rfl | rfl
        · (refine ⟨_, rfl, ?_⟩; replace S := S1; clear S1; (first | (refine append_l S rfl rfl (by omega) rfl ?_; clear S; intro a' cap' w S) | (refine append0_l S rfl rfl (by omega) rfl ?_; clear S; intro a' cap' w S) | (refine append1_i S rfl rfl rfl (by omega) rfl ?_; clear S; intro a' cap' w S) | (refine append2_i S rfl rfl rfl rfl (by omega) rfl ?_; clear S; intro a' cap' w S) | (refine appendPre_i S rfl rfl (by omega) (by omega) rfl ?_; clear S; intro a' cap' w S) | (refine appendSuf_i S rfl rfl (by omega) (by omega) rfl ?_; clear S; intro a' cap' w S)); refine nilL ?_; refine ⟨S.sub, ?_⟩; have S1 := S; replace S : Sat _ _ _ [] := S1.sub)
          (refine any_step (i := 7) rfl (by kernel_rfl) ?_; replace S := S1; clear S1; (refine makeSlice_l S rfl rfl rfl (by omega) rfl ?_; clear S; intro b w S); refine nilL ?_; refine ⟨S.sub, ?_⟩; have S1 := S; replace S : Sat _ _ _ [] := S1.sub)
          (refine any_pure (i := 8) rfl (by kernel_rfl) S ?_; (apply build5_x; (· repeat (first | exact mapN | apply mapC_i rfl | apply mapC_b rfl | apply mapC_p rfl | apply mapC_s rfl | apply mapC_e rfl | apply mapC_a rfl | apply mapC_o rfl)); (· rfl); (· rfl)))
          (refine any_step (i := 9) rfl (by kernel_rfl) ?_; replace S := S1; clear S1; (refine box_a S rfl rfl rfl ?_; clear S; intro b w S); refine nilL ?_; refine ⟨S.sub, ?_⟩; have S1 := S; replace S : Sat _ _ _ [] := S1.sub)
          (refine any_pure (i := 10) rfl (by kernel_rfl) S ?_; (first | refine assign_p_x rfl rfl ?_ | refine assign_e_x rfl rfl ?_ | refine assign_o_x rfl rfl ?_))
          refine any_end (by kernel_rfl) ?_
          refine ⟨(_, _, _, _, _), ?_, S1.perm (by first | exact List.Perm.refl _ | exact List.Perm.cons _ (List.Perm.swap _ _ _) | exact List.Perm.cons _ (List.Perm.cons _ (List.Perm.swap _ _ _)) | exact List.Perm.cons _ ((List.Perm.swap _ _ _).trans (List.Perm.cons _ (List.Perm.swap _ _ _))) | exact List.Perm.cons _ ((List.Perm.cons _ (List.Perm.swap _ _ _)).trans (List.Perm.swap _ _ _)) | exact List.Perm.cons _ ((List.Perm.swap _ _ _).trans ((List.Perm.cons _ (List.Perm.swap _ _ _)).trans (List.Perm.swap _ _ _))))⟩; (repeat (first | exact agree_refl | refine agree_r rfl ?_ | refine agree_l rfl ?_ | refine agree_hv rfl ?_))
        · (refine ⟨_, rfl, ?_⟩; replace S := S1; clear S1; (refine makeSlice_l S rfl rfl rfl (by omega) rfl ?_; clear S; intro b w S); refine nilL ?_; refine ⟨S.sub, ?_⟩; have S1 := S; replace S : Sat _ _ _ [] := S1.sub)
          (refine any_step (i := 2) rfl (by kernel_rfl) ?_; replace S := S1; clear S1; (first | (refine append_l S rfl rfl (by omega) rfl ?_; clear S; intro a' cap' w S) | (refine append0_l S rfl rfl (by omega) rfl ?_; clear S; intro a' cap' w S) | (refine append1_i S rfl rfl rfl (by omega) rfl ?_; clear S; intro a' cap' w S) | (refine append2_i S rfl rfl rfl rfl (by omega) rfl ?_; clear S; intro a' cap' w S) | (refine appendPre_i S rfl rfl (by omega) (by omega) rfl ?_; clear S; intro a' cap' w S) | (refine appendSuf_i S rfl rfl (by omega) (by omega) rfl ?_; clear S; intro a' cap' w S)); refine nilL ?_; refine ⟨S.sub, ?_⟩; have S1 := S; replace S : Sat _ _ _ [] := S1.sub)
          (refine any_pure (i := 8) rfl (by kernel_rfl) S ?_; (apply build5_x; (· repeat (first | exact mapN | apply mapC_i rfl | apply mapC_b rfl | apply mapC_p rfl | apply mapC_s rfl | apply mapC_e rfl | apply mapC_a rfl | apply mapC_o rfl)); (· rfl); (· rfl)))
          (refine any_step (i := 9) rfl (by kernel_rfl) ?_; replace S := S1; clear S1; (refine box_a S rfl rfl rfl ?_; clear S; intro b w S); refine nilL ?_; refine ⟨S.sub, ?_⟩; have S1 := S; replace S : Sat _ _ _ [] := S1.sub)
          (refine any_pure (i := 10) rfl (by kernel_rfl) S ?_; (first | refine assign_p_x rfl rfl ?_ | refine assign_e_x rfl rfl ?_ | refine assign_o_x rfl rfl ?_))
          refine any_end (by kernel_rfl) ?_
          refine ⟨(_, _, _, _, _), ?_, S1.perm (by first | exact List.Perm.refl _ | exact List.Perm.cons _ (List.Perm.swap _ _ _) | exact List.Perm.cons _ (List.Perm.cons _ (List.Perm.swap _ _ _)) | exact List.Perm.cons _ ((List.Perm.swap _ _ _).trans (List.Perm.cons _ (List.Perm.swap _ _ _))) | exact List.Perm.cons _ ((List.Perm.cons _ (List.Perm.swap _ _ _)).trans (List.Perm.swap _ _ _)) | exact List.Perm.cons _ ((List.Perm.swap _ _ _).trans ((List.Perm.cons _ (List.Perm.swap _ _ _)).trans (List.Perm.swap _ _ _))))⟩; (repeat (first | exact agree_refl | refine agree_r rfl ?_ | refine agree_l rfl ?_ | refine agree_hv rfl ?_))
      · (refine ⟨_, rfl, ?_⟩; replace S := S1; clear S1; (refine makeSlice_l S rfl rfl rfl (by omega) rfl ?_; clear S; intro b w S); refine nilL ?_; refine ⟨S.sub, ?_⟩; have S1 := S; replace S : Sat _ _ _ [] := S1.sub)
        (refine any_step (i := 0) rfl (by kernel_rfl) ?_; replace S := S1; clear S1; (refine buildSliceN_l S (vs := []) rfl rfl rfl rfl rfl rfl ?_; clear S; intro b w S); refine nilL ?_; refine ⟨S.sub, ?_⟩; have S1 := S; replace S : Sat _ _ _ [] := S1.sub)
        (refine any_step (i := 2) rfl (by kernel_rfl) ?_; replace S := S1; clear S1; (first | (refine append_l S rfl rfl (by omega) rfl ?_; clear S; intro a' cap' w S) | (refine append0_l S rfl rfl (by omega) rfl ?_; clear S; intro a' cap' w S) | (refine append1_i S rfl rfl rfl (by omega) rfl ?_; clear S; intro a' cap' w S) | (refine append2_i S rfl rfl rfl rfl (by omega) rfl ?_; clear S; intro a' cap' w S) | (refine appendPre_i S rfl rfl (by omega) (by omega) rfl ?_; clear S; intro a' cap' w S) | (refine appendSuf_i S rfl rfl (by omega) (by omega) rfl ?_; clear S; intro a' cap' w S)); refine nilL ?_; refine ⟨S.sub, ?_⟩; have S1 := S; replace S : Sat _ _ _ [] := S1.sub)
        (refine any_pure (i := 8) rfl (by kernel_rfl) S ?_; (apply build5_x; (· repeat (first | exact mapN | apply mapC_i rfl | apply mapC_b rfl | apply mapC_p rfl | apply mapC_s rfl | apply mapC_e rfl | apply mapC_a rfl | apply mapC_o rfl)); (· rfl); (· rfl)))
        (refine any_step (i := 9) rfl (by kernel_rfl) ?_; replace S := S1; clear S1; (refine box_a S rfl rfl rfl ?_; clear S; intro b w S); refine nilL ?_; refine ⟨S.sub, ?_⟩; have S1 := S; replace S : Sat _ _ _ [] := S1.sub)
        (refine any_pure (i := 10) rfl (by kernel_rfl) S ?_; (first | refine assign_p_x rfl rfl ?_ | refine assign_e_x rfl rfl ?_ | refine assign_o_x rfl rfl ?_))
        refine any_end (by kernel_rfl) ?_
        refine ⟨(_, _, _, _, _), ?_, S1.perm (by first | exact List.Perm.refl _ | exact List.Perm.cons _ (List.Perm.swap _ _ _) | exact List.Perm.cons _ (List.Perm.cons _ (List.Perm.swap _ _ _)) | exact List.Perm.cons _ ((List.Perm.swap _ _ _).trans (List.Perm.cons _ (List.Perm.swap _ _ _))) | exact List.Perm.cons _ ((List.Perm.cons _ (List.Perm.swap _ _ _)).trans (List.Perm.swap _ _ _)) | exact List.Perm.cons _ ((List.Perm.swap _ _ _).trans ((List.Perm.cons _ (List.Perm.swap _ _ _)).trans (List.Perm.swap _ _ _))))⟩; (repeat (first | exact agree_refl | refine agree_r rfl ?_ | refine agree_l rfl ?_ | refine agree_hv rfl ?_))
    · (refine ⟨_, rfl, ?_⟩; replace S := S1; clear S1; (refine makeSlice_l S rfl rfl rfl (by omega) rfl ?_; clear S; intro b w S); refine nilL ?_; refine ⟨S.sub, ?_⟩; have S1 := S; replace S : Sat _ _ _ [] := S1.sub)
      refine any_all (l := [0, 5]) (by kernel_rfl) (by decide) ?_
      intro i hi
      simp only [List.mem_cons, List.not_mem_nil, or_false] at hi
      rcases hi with rfl | rfl
      · (refine ⟨_, rfl, ?_⟩; replace S := S1; clear S1; (refine buildSliceN_l S (vs := []) rfl rfl rfl rfl rfl rfl ?_; clear S; intro b w S); refine nilL ?_; refine ⟨S.sub, ?_⟩; have S1 := S; replace S : Sat _ _ _ [] := S1.sub)
        refine any_all (l := [2, 5]) (by kernel_rfl) (by decide) ?_
        intro i hi
        simp only [List.mem_cons, List.not_mem_nil, or_false] at hi
        rcases hi with rfl | rfl
        · (refine ⟨_, rfl, ?_⟩; replace S := S1; clear S1; (first | (refine append_l S rfl rfl (by omega) rfl ?_; clear S; intro a' cap' w S) | (refine append0_l S rfl rfl (by omega) rfl ?_; clear S; intro a' cap' w S) | (refine append1_i S rfl rfl rfl (by omega) rfl ?_; clear S; intro a' cap' w S) | (refine append2_i S rfl rfl rfl rfl (by omega) rfl ?_; clear S; intro a' cap' w S) | (refine appendPre_i S rfl rfl (by omega) (by omega) rfl ?_; clear S; intro a' cap' w S) | (refine appendSuf_i S rfl rfl (by omega) (by omega) rfl ?_; clear S; intro a' cap' w S)); refine nilL ?_; refine ⟨S.sub, ?_⟩; have S1 := S; replace S : Sat _ _ _ [] := S1.sub)
          (refine any_step (i := 5) rfl (by kernel_rfl) ?_; replace S := S1; clear S1; (refine makeSlice_l S rfl rfl rfl (by omega) rfl ?_; clear S; intro b w S); refine nilL ?_; refine ⟨S.sub, ?_⟩; have S1 := S; replace S : Sat _ _ _ [] := S1.sub)
          (refine any_pure (i := 8) rfl (by kernel_rfl) S ?_; (apply build5_x; (· repeat (first | exact mapN | apply mapC_i rfl | apply mapC_b rfl | apply mapC_p rfl | apply mapC_s rfl | apply mapC_e rfl | apply mapC_a rfl | apply mapC_o rfl)); (· rfl); (· rfl)))
          (refine any_step (i := 9) rfl (by kernel_rfl) ?_; replace S := S1; clear S1; (refine box_a S rfl rfl rfl ?_; clear S; intro b w S); refine nilL ?_; refine ⟨S.sub, ?_⟩; have S1 := S; replace S : Sat _ _ _ [] := S1.sub)
          (refine any_pure (i := 10) rfl (by kernel_rfl) S ?_; (first | refine assign_p_x rfl rfl ?_ | refine assign_e_x rfl rfl ?_ | refine assign_o_x rfl rfl ?_))
          refine any_end (by kernel_rfl) ?_
          refine ⟨(_, _, _, _, _), ?_, S1.perm (by first | exact List.Perm.refl _ | exact List.Perm.cons _ (List.Perm.swap _ _ _) | exact List.Perm.cons _ (List.Perm.cons _ (List.Perm.swap _ _ _)) | exact List.Perm.cons _ ((List.Perm.swap _ _ _).trans (List.Perm.cons _ (List.Perm.swap _ _ _))) | exact List.Perm.cons _ ((List.Perm.cons _ (List.Perm.swap _ _ _)).trans (List.Perm.swap _ _ _)) | exact List.Perm.cons _ ((List.Perm.swap _ _ _).trans ((List.Perm.cons _ (List.Perm.swap _ _ _)).trans (List.Perm.swap _ _ _))))⟩; (repeat (first | exact agree_refl | refine agree_r rfl ?_ | refine agree_l rfl ?_ | refine agree_hv rfl ?_))
        · (refine ⟨_, rfl, ?_⟩; replace S := S1; clear S1; (refine makeSlice_l S rfl rfl rfl (by omega) rfl ?_; clear S; intro b w S); refine nilL ?_; refine ⟨S.sub, ?_⟩; have S1 := S; replace S : Sat _ _ _ [] := S1.sub)
          (refine any_step (i := 2) rfl (by kernel_rfl) ?_; replace S := S1; clear S1; (first | (refine append_l S rfl rfl (by omega) rfl ?_; clear S; intro a' cap' w S) | (refine append0_l S rfl rfl (by omega) rfl ?_; clear S; intro a' cap' w S) | (refine append1_i S rfl rfl rfl (by omega) rfl ?_; clear S; intro a' cap' w S) | (refine append2_i S rfl rfl rfl rfl (by omega) rfl ?_; clear S; intro a' cap' w S) | (refine appendPre_i S rfl rfl (by omega) (by omega) rfl ?_; clear S; intro a' cap' w S) | (refine appendSuf_i S rfl rfl (by omega) (by omega) rfl ?_; clear S; intro a' cap' w S)); refine nilL ?_; refine ⟨S.sub, ?_⟩; have S1 := S; replace S : Sat _ _ _ [] := S1.sub)
          (refine any_pure (i := 8) rfl (by kernel_rfl) S ?_; (apply build5_x; (· repeat (first | exact mapN | apply mapC_i rfl | apply mapC_b rfl | apply mapC_p rfl | apply mapC_s rfl | apply mapC_e rfl | apply mapC_a rfl | apply mapC_o rfl)); (· rfl); (· rfl)))
          (refine any_step (i := 9) rfl (by kernel_rfl) ?_; replace S := S1; clear S1; (refine box_a S rfl rfl rfl ?_; clear S; intro b w S); refine nilL ?_; refine ⟨S.sub, ?_⟩; have S1 := S; replace S : Sat _ _ _ [] := S1.sub)
          (refine any_pure (i := 10) rfl (by kernel_rfl) S ?_; (first | refine assign_p_x rfl rfl ?_ | refine assign_e_x rfl rfl ?_ | refine assign_o_x rfl rfl ?_))
          refine any_end (by kernel_rfl) ?_
          refine ⟨(_, _, _, _, _), ?_, S1.perm (by first | exact List.Perm.refl _ | exact List.Perm.cons _ (List.Perm.swap _ _ _) | exact List.Perm.cons _ (List.Perm.cons _ (List.Perm.swap _ _ _)) | exact List.Perm.cons _ ((List.Perm.swap _ _ _).trans (List.Perm.cons _ (List.Perm.swap _ _ _))) | exact List.Perm.cons _ ((List.Perm.cons _ (List.Perm.swap _ _ _)).trans (List.Perm.swap _ _ _)) | exact List.Perm.cons _ ((List.Perm.swap _ _ _).trans ((List.Perm.cons _ (List.Perm.swap _ _ _)).trans (List.Perm.swap _ _ _))))⟩; (repeat (first | exact agree_refl | refine agree_r rfl ?_ | refine agree_l rfl ?_ | refine agree_hv rfl ?_))
      · (refine ⟨_, rfl, ?_⟩; replace S := S1; clear S1; (refine makeSlice_l S rfl rfl rfl (by omega) rfl ?_; clear S; intro b w S); refine nilL ?_; refine ⟨S.sub, ?_⟩; have S1 := S; replace S : Sat _ _ _ [] := S1.sub)
        (refine any_step (i := 0) rfl (by kernel_rfl) ?_; replace S := S1; clear S1; (refine buildSliceN_l S (vs := []) rfl rfl rfl rfl rfl rfl ?_; clear S; intro b w S); refine nilL ?_; refine ⟨S.sub, ?_⟩; have S1 := S; replace S : Sat _ _ _ [] := S1.sub)
        (refine any_step (i := 2) rfl (by kernel_rfl) ?_; replace S := S1; clear S1; (first | (refine append_l S rfl rfl (by omega) rfl ?_; clear S; intro a' cap' w S) | (refine append0_l S rfl rfl (by omega) rfl ?_; clear S; intro a' cap' w S) | (refine append1_i S rfl rfl rfl (by omega) rfl ?_; clear S; intro a' cap' w S) | (refine append2_i S rfl rfl rfl rfl (by omega) rfl ?_; clear S; intro a' cap' w S) | (refine appendPre_i S rfl rfl (by omega) (by omega) rfl ?_; clear S; intro a' cap' w S) | (refine appendSuf_i S rfl rfl (by omega) (by omega) rfl ?_; clear S; intro a' cap' w S)); refine nilL ?_; refine ⟨S.sub, ?_⟩; have S1 := S; replace S : Sat _ _ _ [] := S1.sub)
        (refine any_pure (i := 8) rfl (by kernel_rfl) S ?_; (apply build5_x; (· repeat (first | exact mapN | apply mapC_i rfl | apply mapC_b rfl | apply mapC_p rfl | apply mapC_s rfl | apply mapC_e rfl | apply mapC_a rfl | apply mapC_o rfl)); (· rfl); (· rfl)))
        (refine any_step (i := 9) rfl (by kernel_rfl) ?_; replace S := S1; clear S1; (refine box_a S rfl rfl rfl ?_; clear S; intro b w S); refine nilL ?_; refine ⟨S.sub, ?_⟩; have S1 := S; replace S : Sat _ _ _ [] := S1.sub)
        (refine any_pure (i := 10) rfl (by kernel_rfl) S ?_; (first | refine assign_p_x rfl rfl ?_ | refine assign_e_x rfl rfl ?_ | refine assign_o_x rfl rfl ?_))
        refine any_end (by kernel_rfl) ?_
        refine ⟨(_, _, _, _, _), ?_, S1.perm (by first | exact List.Perm.refl _ | exact List.Perm.cons _ (List.Perm.swap _ _ _) | exact List.Perm.cons _ (List.Perm.cons _ (List.Perm.swap _ _ _)) | exact List.Perm.cons _ ((List.Perm.swap _ _ _).trans (List.Perm.cons _ (List.Perm.swap _ _ _))) | exact List.Perm.cons _ ((List.Perm.cons _ (List.Perm.swap _ _ _)).trans (List.Perm.swap _ _ _)) | exact List.Perm.cons _ ((List.Perm.swap _ _ _).trans ((List.Perm.cons _ (List.Perm.swap _ _ _)).trans (List.Perm.swap _ _ _))))⟩; (repeat (first | exact agree_refl | refine agree_r rfl ?_ | refine agree_l rfl ?_ | refine agree_hv rfl ?_))
  · clear S
    rintro ⟨b, xa, xc, bo, bv⟩ j w S
    simp only at S ⊢
    repeat' (first | refine move_i_l S rfl rfl ?_ | refine assign_i_l S rfl rfl ?_ | refine move_b_l S rfl rfl ?_ | refine nilL ?_ | refine run_seq ?_ | refine run_skip ?_ | refine run_region ?_ | refine onL rfl rfl ?_ | refine offL rfl rfl rfl rfl ?_ | refine offL0 rfl rfl rfl ?_ | refine offLU rfl rfl rfl ?_ | refine pick_tb_l S rfl rfl rfl ?_ | refine pick_fb_l S rfl rfl rfl ?_ | (refine lss_l S rfl rfl rfl ?_ ?_ <;> intro hcmp <;> try (exfalso; first | omega | exact hcmp (by decide) | exact absurd hcmp (by decide))) | refine assign_p_l S rfl rfl ?_ | refine assign_e_l S rfl rfl ?_ | refine move_s_l S rfl rfl ?_ | refine len_l S rfl rfl ?_ | (refine gtr_l S rfl rfl rfl ?_ ?_ <;> intro hcmp <;> try (exfalso; first | omega | exact hcmp (by decide) | exact absurd hcmp (by decide))) | refine move_p_l S rfl rfl ?_ | refine move_e_l S rfl rfl ?_ | refine nilCheck_l S rfl rfl ?_ | refine nilCheckE_l S rfl (by first | omega | decide | (simp; done) | (simp; omega)) rfl ?_ | refine fieldAddr_l S rfl rfl rfl ?_ | refine fieldAddrE_l S rfl (by first | omega | decide | (simp; done) | (simp; omega)) rfl rfl ?_ | refine load_s_l S rfl rfl rfl rfl ?_ | refine loadE_s_l S rfl (by first | omega | decide | (simp; done) | (simp; omega)) rfl rfl rfl ?_ | refine indexAddr_l S rfl rfl (idx_cast _) (by first | omega | decide | (simp; done) | (simp; omega)) rfl ?_ | refine indexAddr_l S rfl rfl (idx_eq _) (by first | omega | decide | (simp; done) | (simp; omega)) rfl ?_ | (refine store_i S rfl rfl rfl ?_; clear S; intro w S) | (refine storeE_i S rfl rfl (by omega) rfl ?_; clear S; intro w S) | refine add_l S rfl rfl (wrap_in (by omega)) rfl ?_ | refine add_l S rfl rfl rfl rfl ?_ | refine assign_o_l S rfl rfl ?_ | refine move_o_l S rfl rfl ?_ | refine load_o_l S rfl rfl rfl rfl ?_ | refine loadE_o_l S rfl (by first | omega | decide | (simp; done) | (simp; omega)) rfl rfl rfl ?_ | refine run_block ?_ | refine run_ret ?_ | refine run_exit ?_ | refine run_cond_true rfl ?_ | refine run_cond_false rfl ?_ | refine thenQ_n ?_ | refine thenQ_r ?_ | refine thenQ_e ?_ | refine blockQ_n ?_ | refine blockQ_r ?_ | refine blockQ_s rfl ?_ | refine blockQ_o rfl ?_ | refine ret2_ii rfl rfl ?_ | refine ret2_ib rfl rfl ?_ | refine ret2_ip rfl rfl ?_ | refine ret2_is rfl rfl ?_ | refine ret2_io rfl rfl ?_ | refine ret2_bi rfl rfl ?_ | refine ret2_bb rfl rfl ?_ | refine ret2_bp rfl rfl ?_ | refine ret2_bs rfl rfl ?_ | refine ret2_bo rfl rfl ?_ | refine ret2_pi rfl rfl ?_ | refine ret2_pb rfl rfl ?_ | refine ret2_pp rfl rfl ?_ | refine ret2_ps rfl rfl ?_ | refine ret2_po rfl rfl ?_ | refine ret2_si rfl rfl ?_ | refine ret2_sb rfl rfl ?_ | refine ret2_sp rfl rfl ?_ | refine ret2_ss rfl rfl ?_ | refine ret2_so rfl rfl ?_ | refine ret2_ei rfl rfl ?_ | refine ret2_eb rfl rfl ?_ | refine ret2_ep rfl rfl ?_ | refine ret2_es rfl rfl ?_ | refine ret2_eo rfl rfl ?_ | refine ret2_ai rfl rfl ?_ | refine ret2_ab rfl rfl ?_ | refine ret2_ap rfl rfl ?_ | refine ret2_as rfl rfl ?_ | refine ret2_ao rfl rfl ?_ | refine ret2_oi rfl rfl ?_ | refine ret2_ob rfl rfl ?_ | refine ret2_op rfl rfl ?_ | refine ret2_os rfl rfl ?_ | refine ret2_oo rfl rfl ?_)
    replace S := S.reRow (a := some ⟨bo, 0, none⟩) (g' := fun i _ => .int .i64 (if i < 0 then -1 else 0)) (fun i hi j hj => by
      obtain rfl : j = 0 := by omega
      show Value.int .i64 0 = _
      rw [if_neg (by omega)])
    refine run_while [46, 47, 48, 49, 50, 51, 52, 53, 54, 55, 56] (fun (q : Nat) t => upd t 9 (.int .i64 q)) (fun q w' => q ≤ k ∧ Sat (fun _ => False) w0 w' [blk b 5 (fun i => [Value.slice xa zs.length xc, .slice (some ⟨bo, 0, none⟩) k k, .slice (some ⟨bv, 0, none⟩) k k, .int .i64 0, .int .i64 limit].getD i undef) 126, rowL xa xc 2 1 encI 0 zs, row (some ⟨bo, 0, none⟩) k k 3 1 (fun i _ => .int .i64 (if i < q then -1 else 0)), row (some ⟨bv, 0, none⟩) k k 3 1 (fun _ j => (Value.int .i64 0).cells.getD j undef), roR (slL a cap 1 encI 0 zs)]) (fun q => k - q) 0 ?_ ?_ ?_
    · (repeat (first | exact agree_refl | refine agree_r rfl ?_ | refine agree_l rfl ?_ | refine agree_hv rfl ?_))
    · exact ⟨Nat.zero_le _, S⟩
    clear S
    rintro q j w ⟨hq, S⟩
    by_cases hqk : q < k
    · repeat' (first | refine move_i_l S rfl rfl ?_ | refine assign_i_l S rfl rfl ?_ | refine move_b_l S rfl rfl ?_ | refine nilL ?_ | refine run_seq ?_ | refine run_skip ?_ | refine run_region ?_ | refine onL rfl rfl ?_ | refine offL rfl rfl rfl rfl ?_ | refine offL0 rfl rfl rfl ?_ | refine offLU rfl rfl rfl ?_ | refine pick_tb_l S rfl rfl rfl ?_ | refine pick_fb_l S rfl rfl rfl ?_ | (refine lss_l S rfl rfl rfl ?_ ?_ <;> intro hcmp <;> try (exfalso; first | omega | exact hcmp (by decide) | exact absurd hcmp (by decide))) | refine assign_p_l S rfl rfl ?_ | refine assign_e_l S rfl rfl ?_ | refine move_s_l S rfl rfl ?_ | refine len_l S rfl rfl ?_ | (refine gtr_l S rfl rfl rfl ?_ ?_ <;> intro hcmp <;> try (exfalso; first | omega | exact hcmp (by decide) | exact absurd hcmp (by decide))) | refine move_p_l S rfl rfl ?_ | refine move_e_l S rfl rfl ?_ | refine nilCheck_l S rfl rfl ?_ | refine nilCheckE_l S rfl (by first | omega | decide | (simp; done) | (simp; omega)) rfl ?_ | refine fieldAddr_l S rfl rfl rfl ?_ | refine fieldAddrE_l S rfl (by first | omega | decide | (simp; done) | (simp; omega)) rfl rfl ?_ | refine load_s_l S rfl rfl rfl rfl ?_ | refine loadE_s_l S rfl (by first | omega | decide | (simp; done) | (simp; omega)) rfl rfl rfl ?_ | refine indexAddr_l S rfl rfl (idx_cast _) (by first | omega | decide | (simp; done) | (simp; omega)) rfl ?_ | refine indexAddr_l S rfl rfl (idx_eq _) (by first | omega | decide | (simp; done) | (simp; omega)) rfl ?_ | (refine store_i S rfl rfl rfl ?_; clear S; intro w S) | (refine storeE_i S rfl rfl (by omega) rfl ?_; clear S; intro w S) | refine add_l S rfl rfl (wrap_in (by omega)) rfl ?_ | refine add_l S rfl rfl rfl rfl ?_ | refine assign_o_l S rfl rfl ?_ | refine move_o_l S rfl rfl ?_ | refine load_o_l S rfl rfl rfl rfl ?_ | refine loadE_o_l S rfl (by first | omega | decide | (simp; done) | (simp; omega)) rfl rfl rfl ?_ | refine run_block ?_ | refine run_ret ?_ | refine run_exit ?_ | refine run_cond_true rfl ?_ | refine run_cond_false rfl ?_ | refine thenQ_n ?_ | refine thenQ_r ?_ | refine thenQ_e ?_ | refine blockQ_n ?_ | refine blockQ_r ?_ | refine blockQ_s rfl ?_ | refine blockQ_o rfl ?_ | refine ret2_ii rfl rfl ?_ | refine ret2_ib rfl rfl ?_ | refine ret2_ip rfl rfl ?_ | refine ret2_is rfl rfl ?_ | refine ret2_io rfl rfl ?_ | refine ret2_bi rfl rfl ?_ | refine ret2_bb rfl rfl ?_ | refine ret2_bp rfl rfl ?_ | refine ret2_bs rfl rfl ?_ | refine ret2_bo rfl rfl ?_ | refine ret2_pi rfl rfl ?_ | refine ret2_pb rfl rfl ?_ | refine ret2_pp rfl rfl ?_ | refine ret2_ps rfl rfl ?_ | refine ret2_po rfl rfl ?_ | refine ret2_si rfl rfl ?_ | refine ret2_sb rfl rfl ?_ | refine ret2_sp rfl rfl ?_ | refine ret2_ss rfl rfl ?_ | refine ret2_so rfl rfl ?_ | refine ret2_ei rfl rfl ?_ | refine ret2_eb rfl rfl ?_ | refine ret2_ep rfl rfl ?_ | refine ret2_es rfl rfl ?_ | refine ret2_eo rfl rfl ?_ | refine ret2_ai rfl rfl ?_ | refine ret2_ab rfl rfl ?_ | refine ret2_ap rfl rfl ?_ | refine ret2_as rfl rfl ?_ | refine ret2_ao rfl rfl ?_ | refine ret2_oi rfl rfl ?_ | refine ret2_ob rfl rfl ?_ | refine ret2_op rfl rfl ?_ | refine ret2_os rfl rfl ?_ | refine ret2_oo rfl rfl ?_)
      refine ⟨q + 1, ?_, ⟨by omega, ?_⟩, by omega⟩
      · rw [Int.natCast_add]
        (repeat (first | exact agree_refl | refine agree_r rfl ?_ | refine agree_l rfl ?_ | refine agree_hv rfl ?_))
      · refine S.reRow (a := some ⟨bo, 0, none⟩) (fun i hi j hj => ?_)
        obtain rfl : j = 0 := by omega
        unfold gset
        by_cases e : i = q
        · subst e; rw [if_pos ⟨rfl, rfl⟩, if_pos (by omega)]
        · rw [if_neg (fun x => e x.1)]
          show Value.int .i64 (if i < q then -1 else 0) = _
          by_cases e2 : i < q
          · rw [if_pos e2, if_pos (by omega)]
          · rw [if_neg e2, if_neg (by omega)]
    · repeat' (first | refine move_i_l S rfl rfl ?_ | refine assign_i_l S rfl rfl ?_ | refine move_b_l S rfl rfl ?_ | refine nilL ?_ | refine run_seq ?_ | refine run_skip ?_ | refine run_region ?_ | refine onL rfl rfl ?_ | refine offL rfl rfl rfl rfl ?_ | refine offL0 rfl rfl rfl ?_ | refine offLU rfl rfl rfl ?_ | refine pick_tb_l S rfl rfl rfl ?_ | refine pick_fb_l S rfl rfl rfl ?_ | (refine lss_l S rfl rfl rfl ?_ ?_ <;> intro hcmp <;> try (exfalso; first | omega | exact hcmp (by decide) | exact absurd hcmp (by decide))) | refine assign_p_l S rfl rfl ?_ | refine assign_e_l S rfl rfl ?_ | refine move_s_l S rfl rfl ?_ | refine len_l S rfl rfl ?_ | (refine gtr_l S rfl rfl rfl ?_ ?_ <;> intro hcmp <;> try (exfalso; first | omega | exact hcmp (by decide) | exact absurd hcmp (by decide))) | refine move_p_l S rfl rfl ?_ | refine move_e_l S rfl rfl ?_ | refine nilCheck_l S rfl rfl ?_ | refine nilCheckE_l S rfl (by first | omega | decide | (simp; done) | (simp; omega)) rfl ?_ | refine fieldAddr_l S rfl rfl rfl ?_ | refine fieldAddrE_l S rfl (by first | omega | decide | (simp; done) | (simp; omega)) rfl rfl ?_ | refine load_s_l S rfl rfl rfl rfl ?_ | refine loadE_s_l S rfl (by first | omega | decide | (simp; done) | (simp; omega)) rfl rfl rfl ?_ | refine indexAddr_l S rfl rfl (idx_cast _) (by first | omega | decide | (simp; done) | (simp; omega)) rfl ?_ | refine indexAddr_l S rfl rfl (idx_eq _) (by first | omega | decide | (simp; done) | (simp; omega)) rfl ?_ | (refine store_i S rfl rfl rfl ?_; clear S; intro w S) | (refine storeE_i S rfl rfl (by omega) rfl ?_; clear S; intro w S) | refine add_l S rfl rfl (wrap_in (by omega)) rfl ?_ | refine add_l S rfl rfl rfl rfl ?_ | refine assign_o_l S rfl rfl ?_ | refine move_o_l S rfl rfl ?_ | refine load_o_l S rfl rfl rfl rfl ?_ | refine loadE_o_l S rfl (by first | omega | decide | (simp; done) | (simp; omega)) rfl rfl rfl ?_ | refine run_block ?_ | refine run_ret ?_ | refine run_exit ?_ | refine run_cond_true rfl ?_ | refine run_cond_false rfl ?_ | refine thenQ_n ?_ | refine thenQ_r ?_ | refine thenQ_e ?_ | refine blockQ_n ?_ | refine blockQ_r ?_ | refine blockQ_s rfl ?_ | refine blockQ_o rfl ?_ | refine ret2_ii rfl rfl ?_ | refine ret2_ib rfl rfl ?_ | refine ret2_ip rfl rfl ?_ | refine ret2_is rfl rfl ?_ | refine ret2_io rfl rfl ?_ | refine ret2_bi rfl rfl ?_ | refine ret2_bb rfl rfl ?_ | refine ret2_bp rfl rfl ?_ | refine ret2_bs rfl rfl ?_ | refine ret2_bo rfl rfl ?_ | refine ret2_pi rfl rfl ?_ | refine ret2_pb rfl rfl ?_ | refine ret2_pp rfl rfl ?_ | refine ret2_ps rfl rfl ?_ | refine ret2_po rfl rfl ?_ | refine ret2_si rfl rfl ?_ | refine ret2_sb rfl rfl ?_ | refine ret2_sp rfl rfl ?_ | refine ret2_ss rfl rfl ?_ | refine ret2_so rfl rfl ?_ | refine ret2_ei rfl rfl ?_ | refine ret2_eb rfl rfl ?_ | refine ret2_ep rfl rfl ?_ | refine ret2_es rfl rfl ?_ | refine ret2_eo rfl rfl ?_ | refine ret2_ai rfl rfl ?_ | refine ret2_ab rfl rfl ?_ | refine ret2_ap rfl rfl ?_ | refine ret2_as rfl rfl ?_ | refine ret2_ao rfl rfl ?_ | refine ret2_oi rfl rfl ?_ | refine ret2_ob rfl rfl ?_ | refine ret2_op rfl rfl ?_ | refine ret2_os rfl rfl ?_ | refine ret2_oo rfl rfl ?_)
      have S2 := S.turn (r := row (some ⟨bo, 0, none⟩) k k 3 1 (fun i _ => .int .i64 (if i < q then -1 else 0))) (r' := rowR (some ⟨bo, 0, none⟩) k (List.replicate k (-1))) (by
        have := RowOk.congr (g' := gL encI 0 (List.replicate k (-1))) (S.all (row (some ⟨bo, 0, none⟩) k k 3 1 (fun i _ => .int .i64 (if i < q then -1 else 0))) (by simp)) (fun i hi j hj => by
          obtain rfl : j = 0 := by omega
          unfold gL
          rw [List.getD_eq_getElem?_getD, List.getElem?_replicate, if_pos hi, if_pos (by omega)]
          rfl)
        show RowOk _ _ (List.replicate k (-1 : Int)).length _ _ _ _
        rw [List.length_replicate]; exact this) rfl (fun k e => e)
      have S3 := S2.turn (r := row (some ⟨bv, 0, none⟩) k k 3 1 (fun _ j => (Value.int .i64 0).cells.getD j undef)) (r' := rowR (some ⟨bv, 0, none⟩) k (List.replicate k 0)) (by
        have := RowOk.congr (g' := gL encI 0 (List.replicate k 0)) (S.all (row (some ⟨bv, 0, none⟩) k k 3 1 (fun _ j => (Value.int .i64 0).cells.getD j undef)) (by simp)) (fun i hi j hj => by
          obtain rfl : j = 0 := by omega
          unfold gL
          rw [List.getD_eq_getElem?_getD, List.getElem?_replicate, if_pos hi]
          rfl)
        show RowOk _ _ (List.replicate k (0 : Int)).length _ _ _ _
        rw [List.length_replicate]; exact this) rfl (fun k e => e)
      have S4 := S3.turn1 (r' := blk b 5 (refC ⟨xa, some ⟨bo, 0, none⟩, some ⟨bv, 0, none⟩, xc, k, k⟩ (newR zs k limit)) 126) (by
        have := S.got1
        have e1 : (newR zs k limit).owns.length = k := by simp [newR]
        have e2 : (newR zs k limit).vers.length = k := by simp [newR]
        show w.heap[b]? = some (.cells #[.slice xa zs.length xc, .slice (some ⟨bo, 0, none⟩) (newR zs k limit).owns.length k, .slice (some ⟨bv, 0, none⟩) (newR zs k limit).vers.length k, .int .i64 0, .int .i64 limit] 126 (0, 0))
        rw [e1, e2]; exact this) rfl (fun k e => e)
      have S5 : Sat (fun _ => False) w0 w (refL b ⟨xa, some ⟨bo, 0, none⟩, some ⟨bv, 0, none⟩, xc, k, k⟩ (newR zs k limit)) := S4.sub (L' := [blk b 5 (refC ⟨xa, some ⟨bo, 0, none⟩, some ⟨bv, 0, none⟩, xc, k, k⟩ (newR zs k limit)) 126, rowL xa xc 2 1 encI 0 zs, rowR (some ⟨bo, 0, none⟩) k (List.replicate k (-1)), rowR (some ⟨bv, 0, none⟩) k (List.replicate k 0)])
      refine ⟨_, rfl, ⟨b, _, rfl, ref_shut S5, fun q hq => Nat.le_of_not_lt fun hlt => ?_⟩, S.chg.below⟩
      rcases hq with hq | hq | hq | hq
      · exact S5.own _ (List.mem_cons_self ..) rfl q hq hlt
      · exact S5.own (valsR xa xc zs) (by simp [newR]) rfl q hq hlt
      · exact S5.own (rowR (some ⟨bo, 0, none⟩) k (List.replicate k (-1))) (by simp [newR]) rfl q hq hlt
      · exact S5.own (rowR (some ⟨bv, 0, none⟩) k (List.replicate k 0)) (by simp [newR]) rfl q hq hlt
end Go.Proofs.Ytnnkegmiefpgpaa
namespace Go.Proofs.Ytnnkegmiefpgpaa
open Go.RowKit Go.Lib
set_option linter.unusedVariables false
set_option maxHeartbeats 2000000
def refOf (H : HeapS) : RefS := ⟨H.vals, H.locks.map (·.1), H.locks.map (·.2), H.clock, H.limit⟩
def OwnOk (H : HeapS) : Prop := ∀ i, i < H.locks.length → -1 ≤ (H.locks.getD i (0, 0)).1
theorem fstD (l : List (Int × Int)) (i : Nat) : (l.map (·.1)).getD i 0 = (l.getD i (0, 0)).1 := by
  rw [List.getD_eq_getElem?_getD, List.getD_eq_getElem?_getD, List.getElem?_map]
  cases l[i]? <;> rfl
theorem sndD (l : List (Int × Int)) (i : Nat) : (l.map (·.2)).getD i 0 = (l.getD i (0, 0)).2 := by
  rw [List.getD_eq_getElem?_getD, List.getD_eq_getElem?_getD, List.getElem?_map]
  cases l[i]? <;> rfl
theorem owns_len (H : HeapS) : (refOf H).owns.length = H.locks.length := by simp [refOf]
theorem vers_len (H : HeapS) : (refOf H).vers.length = H.locks.length := by simp [refOf]
theorem ownsD (H : HeapS) (i : Nat) : (refOf H).owns.getD i 0 = (H.locks.getD i (0, 0)).1 := fstD _ _
theorem versD (H : HeapS) (i : Nat) : (refOf H).vers.getD i 0 = (H.locks.getD i (0, 0)).2 := sndD _ _
theorem ris_iff (H : HeapS) (s : Int) : rIs (refOf H) s ↔ (0 ≤ s ∧ s < H.locks.length) := by unfold rIs; rw [owns_len]
theorem set_fst (l : List (Int × Int)) (i : Nat) (z : Int × Int) : (l.set i z).map (·.1) = (l.map (·.1)).set i z.1 := by rw [List.map_set]
theorem set_snd (l : List (Int × Int)) (i : Nat) (z : Int × Int) : (l.set i z).map (·.2) = (l.map (·.2)).set i z.2 := by rw [List.map_set]
theorem set_sndD (l : List (Int × Int)) (i : Nat) (x : Int) : (l.set i (x, (l.getD i (0, 0)).2)).map (·.2) = l.map (·.2) := by
  rw [set_snd]
  apply List.ext_getElem?
  intro j
  rw [List.getElem?_set]
  by_cases e : i = j
  · subst e
    by_cases hi : i < (l.map (·.2)).length
    · rw [if_pos rfl, if_pos hi, List.getElem?_map]
      rw [List.length_map] at hi
      simp [List.getD_eq_getElem?_getD, List.getElem?_eq_getElem hi]
    · rw [if_pos rfl, if_neg hi, List.getElem?_eq_none (by omega)]
  · rw [if_neg e]
theorem rown_e (H : HeapS) (s who : Int) (hk : OwnOk H) : rOwnE (refOf H) s who = ownE H s who := by
  unfold rOwnE ownE
  rw [ownsD]
  simp only [ris_iff]
  by_cases hs : 0 ≤ s ∧ s < (H.locks.length : Int)
  · have := hk s.toNat (by omega)
    have hs2 : ¬ ¬ (0 ≤ s ∧ s < (H.locks.length : Int)) := fun h => h hs
    rw [if_neg hs2, if_neg hs2]
    by_cases h1 : who < 0 ∨ 5 < who
    · rw [if_pos h1, if_pos (by omega)]
    · rw [if_neg h1, if_neg (show ¬ (who < 0 ∨ 6 ≤ who) by omega)]
      by_cases h2 : 0 ≤ (H.locks.getD s.toNat (0, 0)).1
      · rw [if_pos h2, if_pos (by omega)]
      · rw [if_neg h2, if_neg (by omega)]
  · rw [if_pos hs, if_pos hs]
theorem rown_r (H : HeapS) (s who : Int) (hk : OwnOk H) : rOwnR (refOf H) s who = refOf (ownH H s who) := by
  unfold rOwnR ownH
  rw [rown_e H s who hk]
  split
  · unfold refOf
    simp only [set_sndD, set_fst]
  · rfl
theorem rlet_e (H : HeapS) (s who : Int) : rLetE (refOf H) s who = letE H s who := by
  unfold rLetE letE
  rw [ownsD]
  simp only [ris_iff]
theorem rlet_r (H : HeapS) (s who : Int) : rLetR (refOf H) s who = refOf (letH H s who) := by
  unfold rLetR letH
  rw [rlet_e]
  split
  · unfold refOf
    simp only [set_sndD, set_fst]
  · rfl
theorem rfree_e (H : HeapS) (s who ver : Int) : rFreeE (refOf H) s who ver = freeE H s who ver := by
  unfold rFreeE freeE letE
  rw [ownsD, versD]
  simp only [ris_iff]
  by_cases hs : 0 ≤ s ∧ s < (H.locks.length : Int)
  · have hs2 : ¬ ¬ (0 ≤ s ∧ s < (H.locks.length : Int)) := fun h => h hs
    rw [if_neg hs2, if_neg hs2]
    by_cases h1 : who < 0 ∨ (H.locks.getD s.toNat (0, 0)).1 ≠ who
    · rw [if_pos h1, if_pos h1, if_pos (by decide)]
    · rw [if_neg h1, if_neg h1, if_neg (show ¬ ((0 : Int) ≠ 0) by decide)]; rfl
  · rw [if_pos hs, if_pos hs, if_pos (by decide)]
theorem rfree_r (H : HeapS) (s who ver : Int) : rFreeR (refOf H) s who ver = refOf (freeH H s who ver) := by
  unfold rFreeR freeH
  rw [rfree_e]
  split
  · unfold refOf
    simp only [set_snd, set_fst]
  · rfl
theorem rbump_r (H : HeapS) : rBumpR (refOf H) = refOf (bumpH H) := by
  unfold rBumpR bumpH
  show (if H.limit ≤ H.clock then _ else _) = _
  split <;> rfl
theorem rset_r (H : HeapS) (v z : Int) : rSetR (refOf H) v z = refOf (setH H v z) := by
  unfold rSetR setH rSetE
  show (if (if v < 0 ∨ (H.vals.length : Int) ≤ v then (5 : Int) else 0) = 0 then _ else _) = _
  by_cases h : v < 0 ∨ (H.vals.length : Int) ≤ v
  · rw [if_pos h, if_pos h, if_neg (by decide)]
  · rw [if_neg h, if_neg h, if_pos rfl]; rfl
theorem OwnOk.put {H : HeapS} (h : OwnOk H) {s : Nat} (hs : s < H.locks.length) {z : Int × Int} (hz : -1 ≤ z.1) : OwnOk { H with locks := H.locks.set s z } := fun i hi => by
  have hi' : i < H.locks.length := by simpa using hi
  rw [show ({ H with locks := H.locks.set s z } : HeapS).locks = H.locks.set s z from rfl, getD_set' hs]
  split
  · exact hz
  · exact h i hi'
theorem OwnOk.step {H : HeapS} (h : OwnOk H) (x : StepS) : OwnOk (stepH H x) := by
  unfold stepH
  split
  · unfold ownH
    split
    · rename_i e
      have := ownE_zero e
      exact h.put (by omega) (by show -1 ≤ x.who; omega)
    · exact h
  · split
    · unfold letH
      split
      · rename_i e
        have := letE_zero e
        exact h.put (by omega) (by show (-1 : Int) ≤ -1; omega)
      · exact h
    · split
      · unfold freeH
        split
        · rename_i e
          have := letE_zero (freeE_zero e).1
          exact h.put (by omega) (by show (-1 : Int) ≤ -1; omega)
        · exact h
      · split
        · unfold bumpH; split <;> exact h
        · unfold setH; split <;> exact h
theorem OwnOk.new (zs : List Int) (stripes limit : Int) : OwnOk (newH zs stripes limit) := fun i hi => by
  show -1 ≤ ((List.replicate stripes.toNat ((-1 : Int), (0 : Int))).getD i (0, 0)).1
  have : i < stripes.toNat := by simpa [newH] using hi
  simp [List.getD_eq_getElem?_getD, this]
theorem OwnOk.play {l : List StepS} : ∀ {H : HeapS}, OwnOk H → OwnOk (playH H l) := by
  induction l with
  | nil => exact fun h => h
  | cons s l ih => exact fun h => ih (h.step s)
theorem refOf_new (zs : List Int) (k : Nat) (limit : Int) : refOf (newH zs k limit) = newR zs k limit := by
  simp [refOf, newH, newR]
theorem rvalue_eq (H : HeapS) (v : Int) : rValue (refOf H) v = valueV H v := rfl
theorem rstripe_eq (H : HeapS) (v : Int) : rStripe (refOf H) v = stripeV H v := by unfold rStripe stripeV; rw [owns_len]; rfl
theorem rowner_eq (H : HeapS) (s : Int) : rOwner (refOf H) s = ownerV H s := by unfold rOwner ownerV; rw [ownsD]; simp only [ris_iff]
theorem rversion_eq (H : HeapS) (s : Int) : rVersion (refOf H) s = versionV H s := by unfold rVersion versionV; rw [versD]; simp only [ris_iff]
set_option maxHeartbeats 1000000
section
variable {bh : Nat} {A : RA} {H : HeapS} {w0 : World} (h : (refR bh A (refOf H)).holds w0)
include h
end
end Go.Proofs.Ytnnkegmiefpgpaa
