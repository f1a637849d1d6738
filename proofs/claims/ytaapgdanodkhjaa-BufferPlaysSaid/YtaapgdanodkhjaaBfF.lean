/- buffer: Drop. -/
import Derived.Test.YtaapgdanodkhjaaBfE
namespace Go.Proofs.Ytaapgdanodkhjaa
open Go.RowKit Go.Lib
set_option linter.unusedVariables false
set_option maxHeartbeats 2000000
theorem bfpop1_at {b : Nat} {a : Option Addr} {cap : Nat} {X : BfX} {w0 : World} (h : (bfR b a cap X).holds w0) (hx : X.length < 2) :
    Calls Try.prog 35 #[.pointer (some ⟨b, 0, none⟩)] w0 fun e w' => e = .returned (.tuple #[.map none, .int .i64 7]) ∧ Below w0.heap.size w0 w' := by
  have S := Sat.reads h
  have hl : (X.map (·.1)).length = X.length := List.length_map _
  refine enter2 Try.func35 rfl Try.ntmps35 rfl Try.results35 ?_
  repeat' (first | refine assign_i_l S rfl rfl ?_ | refine move_p_l S rfl rfl ?_ | refine move_e_l S rfl rfl ?_ | refine nilL ?_ | refine run_seq ?_ | refine run_skip ?_ | refine run_region (id := 0) ?_ | refine run_region (id := 1) ?_ | refine run_region (id := 2) ?_ | refine run_region (id := 3) ?_ | refine run_region (id := 4) ?_ | refine run_region (id := 7) ?_ | refine assign_b_l S rfl rfl ?_ | refine eqlP_l S rfl rfl rfl ?_ | refine eqlE_l S rfl rfl (by omega) rfl ?_ | refine nilCheck_l S rfl rfl ?_ | refine nilCheckE_l S rfl (by first | omega | decide | (simp; done) | (simp; omega)) rfl ?_ | refine fieldAddr_l S rfl rfl rfl ?_ | refine fieldAddrE_l S rfl (by first | omega | decide | (simp; done) | (simp; omega)) rfl rfl ?_ | refine load_s_l S rfl rfl rfl rfl ?_ | refine loadE_s_l S rfl (by first | omega | decide | (simp; done) | (simp; omega)) rfl rfl rfl ?_ | refine len_l S rfl rfl ?_ | (refine lss_l S rfl rfl rfl ?_ ?_ <;> intro hcmp <;> try (exfalso; first | omega | exact hcmp (by decide) | exact absurd hcmp (by decide))) | refine assign_o_l S rfl rfl ?_ | refine move_o_l S rfl rfl ?_ | refine load_o_l S rfl rfl rfl rfl ?_ | refine loadE_o_l S rfl (by first | omega | decide | (simp; done) | (simp; omega)) rfl rfl rfl ?_ | refine run_block ?_ | refine run_ret ?_ | refine run_exit ?_ | refine run_cond_true rfl ?_ | refine run_cond_false rfl ?_ | refine thenQ_n ?_ | refine thenQ_r ?_ | refine thenQ_e ?_ | refine blockQ_n ?_ | refine blockQ_r ?_ | refine blockQ_s rfl ?_ | refine blockQ_o rfl ?_ | refine ret2_ii rfl rfl ?_ | refine ret2_ib rfl rfl ?_ | refine ret2_ip rfl rfl ?_ | refine ret2_is rfl rfl ?_ | refine ret2_io rfl rfl ?_ | refine ret2_bi rfl rfl ?_ | refine ret2_bb rfl rfl ?_ | refine ret2_bp rfl rfl ?_ | refine ret2_bs rfl rfl ?_ | refine ret2_bo rfl rfl ?_ | refine ret2_pi rfl rfl ?_ | refine ret2_pb rfl rfl ?_ | refine ret2_pp rfl rfl ?_ | refine ret2_ps rfl rfl ?_ | refine ret2_po rfl rfl ?_ | refine ret2_si rfl rfl ?_ | refine ret2_sb rfl rfl ?_ | refine ret2_sp rfl rfl ?_ | refine ret2_ss rfl rfl ?_ | refine ret2_so rfl rfl ?_ | refine ret2_ei rfl rfl ?_ | refine ret2_eb rfl rfl ?_ | refine ret2_ep rfl rfl ?_ | refine ret2_es rfl rfl ?_ | refine ret2_eo rfl rfl ?_ | refine ret2_ai rfl rfl ?_ | refine ret2_ab rfl rfl ?_ | refine ret2_ap rfl rfl ?_ | refine ret2_as rfl rfl ?_ | refine ret2_ao rfl rfl ?_ | refine ret2_oi rfl rfl ?_ | refine ret2_ob rfl rfl ?_ | refine ret2_op rfl rfl ?_ | refine ret2_os rfl rfl ?_ | refine ret2_oo rfl rfl ?_)
  all_goals exact ⟨rfl, S.chg.below⟩
theorem bfdrop_at {b : Nat} {a : Option Addr} {cap : Nat} {Y : BfX} {m : Nat} {M : LvM} {w0 : World} (h : (bfR b a cap (Y ++ [(m, M)])).holds w0) (hn : Y.length ≤ 100000) (hy : 0 < Y.length) :
    Calls Try.prog 15 #[.pointer (some ⟨b, 0, none⟩)] w0 fun e w' => e = .returned (.int .i64 0) ∧ BfTo b a cap (Y ++ [(m, M)]) Y w0 w' := by
  have S : Sat (bfR b a cap (Y ++ [(m, M)])).foot w0 w0 [] := Sat.start _ w0
  refine enter1 Try.func15 rfl Try.ntmps15 rfl Try.results15 ?_
  repeat' (first | refine assign_i_l S rfl rfl ?_ | refine move_p_l S rfl rfl ?_ | refine move_e_l S rfl rfl ?_ | refine nilL ?_ | refine run_seq ?_ | refine run_skip ?_ | refine run_region ?_ | refine extract_i_l S rfl rfl rfl ?_ | refine move_i_l S rfl rfl ?_ | refine move_o_l S rfl rfl ?_ | refine extract_o_l S rfl rfl rfl ?_ | refine assign_o_l S rfl rfl ?_ | refine run_block ?_ | refine run_ret ?_ | refine run_exit ?_ | refine run_cond_true rfl ?_ | refine run_cond_false rfl ?_ | refine thenQ_n ?_ | refine thenQ_r ?_ | refine thenQ_e ?_ | refine blockQ_n ?_ | refine blockQ_r ?_ | refine blockQ_s rfl ?_ | refine blockQ_o rfl ?_ | refine ret1_i rfl ?_ | refine ret1_b rfl ?_ | refine ret1_p rfl ?_ | refine ret1_s rfl ?_ | refine ret1_e rfl ?_ | refine ret1_a rfl ?_ | refine ret1_o rfl ?_ | refine ret1n_i rfl ?_ | refine ret1n_b rfl ?_ | refine ret1n_p rfl ?_ | refine ret1n_s rfl ?_ | refine ret1n_o rfl ?_)
  refine callL (bfpop_at h hn hy) rfl rfl ?_
  rintro e w' ⟨rfl, S'⟩
  clear S
  have S := S'
  clear S'
  refine ⟨_, rfl, ?_⟩
  repeat' (first | refine assign_i_l S rfl rfl ?_ | refine move_p_l S rfl rfl ?_ | refine move_e_l S rfl rfl ?_ | refine nilL ?_ | refine run_seq ?_ | refine run_skip ?_ | refine run_region ?_ | refine extract_i_l S rfl rfl rfl ?_ | refine move_i_l S rfl rfl ?_ | refine move_o_l S rfl rfl ?_ | refine extract_o_l S rfl rfl rfl ?_ | refine assign_o_l S rfl rfl ?_ | refine run_block ?_ | refine run_ret ?_ | refine run_exit ?_ | refine run_cond_true rfl ?_ | refine run_cond_false rfl ?_ | refine thenQ_n ?_ | refine thenQ_r ?_ | refine thenQ_e ?_ | refine blockQ_n ?_ | refine blockQ_r ?_ | refine blockQ_s rfl ?_ | refine blockQ_o rfl ?_ | refine ret1_i rfl ?_ | refine ret1_b rfl ?_ | refine ret1_p rfl ?_ | refine ret1_s rfl ?_ | refine ret1_e rfl ?_ | refine ret1_a rfl ?_ | refine ret1_o rfl ?_ | refine ret1n_i rfl ?_ | refine ret1n_b rfl ?_ | refine ret1n_p rfl ?_ | refine ret1n_s rfl ?_ | refine ret1n_o rfl ?_)
  refine ⟨rfl, a, cap, bf_shut (L := []) (S.sub (L' := bfL b a cap Y)), S.chg, fun k hk => .inl (top_foot.2 ?_)⟩
  rcases hk with hk | hk | hk
  · exact .inl hk
  · exact .inr (.inl hk)
  · exact .inr (.inr (.inl hk))
end Go.Proofs.Ytaapgdanodkhjaa
