/- buffer: Put. -/
import Derived.Test.YtaapgdanodkhjaaBfB
namespace Go.Proofs.Ytaapgdanodkhjaa
open Go.RowKit Go.Lib
set_option linter.unusedVariables false
set_option maxHeartbeats 2000000
theorem top_cell (Y : BfX) (m : Nat) (i j : Nat) (h : i = Y.length) : gL encH 0 (Y.map (·.1) ++ [m]) i j = .map (some m) := by
  subst h
  unfold gL
  rw [List.getD_eq_getElem?_getD, List.getElem?_append_right (by simp)]
  simp [encH]
/-- Such a buffer lies there now; nothing else is changed. -/
def BfTo (b : Nat) (a : Option Addr) (cap : Nat) (X X' : BfX) (w0 w' : World) : Prop := ∃ a' cap', (bfR b a' cap' X').holds w' ∧ Chg (bfR b a cap X).foot w0 w' ∧ ∀ k, (bfR b a' cap' X').foot k → (bfR b a cap X).foot k ∨ w0.heap.size ≤ k
theorem top_foot {b : Nat} {a : Option Addr} {cap : Nat} {Y : BfX} {m : Nat} {M : LvM} {k : Nat} : (bfR b a cap (Y ++ [(m, M)])).foot k ↔ k = b ∨ (∃ x, a = some x ∧ x.block = k) ∨ (mapsR Y).foot k ∨ k = m := by
  show (k = b ∨ (∃ x, a = some x ∧ x.block = k) ∨ (mapsR (Y ++ [(m, M)])).foot k) ↔ _
  rw [maps_foot]
theorem bfput_at {b : Nat} {a : Option Addr} {cap : Nat} {Y : BfX} {m : Nat} {M : LvM} {w0 : World} (h : (bfR b a cap (Y ++ [(m, M)])).holds w0) (hn : Y.length ≤ 100000) (v x : Int) :
    Calls Try.prog 20 #[.pointer (some ⟨b, 0, none⟩), .int .i64 v, .int .i64 x] w0 fun e w' => e = .returned (.int .i64 0) ∧ BfTo b a cap (Y ++ [(m, M)]) (Y ++ [(m, putM M v x)]) w0 w' := by
  have S := top_open h
  have hl : (Y.map (·.1) ++ [m]).length = Y.length + 1 := by simp
  refine enter1 Try.func20 rfl Try.ntmps20 rfl Try.results20 ?_
  repeat' (first | refine assign_i_l S rfl rfl ?_ | refine move_p_l S rfl rfl ?_ | refine move_e_l S rfl rfl ?_ | refine nilL ?_ | refine run_seq ?_ | refine run_skip ?_ | refine run_region ?_ | refine eqlP_l S rfl rfl rfl ?_ | refine eqlE_l S rfl rfl (by omega) rfl ?_ | refine move_o_l S rfl rfl ?_ | refine run_block ?_ | refine run_ret ?_ | refine run_exit ?_ | refine run_cond_true rfl ?_ | refine run_cond_false rfl ?_ | refine thenQ_n ?_ | refine thenQ_r ?_ | refine thenQ_e ?_ | refine blockQ_n ?_ | refine blockQ_r ?_ | refine blockQ_s rfl ?_ | refine blockQ_o rfl ?_ | refine ret1_i rfl ?_ | refine ret1_b rfl ?_ | refine ret1_p rfl ?_ | refine ret1_s rfl ?_ | refine ret1_e rfl ?_ | refine ret1_a rfl ?_ | refine ret1_o rfl ?_ | refine ret1n_i rfl ?_ | refine ret1n_b rfl ?_ | refine ret1n_p rfl ?_ | refine ret1n_s rfl ?_ | refine ret1n_o rfl ?_)
  refine run_any S (L' := [blk b 1 (bfC a cap (Y.map (·.1) ++ [m])) 55, rowH a cap (Y.map (·.1) ++ [m])]) (f := 15) mixed rfl ?_
  clear S
  intro w S1
  have S : Sat _ _ w [blk b 1 (bfC a cap (Y.map (·.1) ++ [m])) 55, rowH a cap (Y.map (·.1) ++ [m])] := S1.sub
  all_goals (refine any_pure (i := 0) rfl (by kernel_rfl) S ?_; (first | refine move_p_x rfl rfl ?_ | refine move_e_x rfl rfl ?_ | refine move_o_x rfl rfl ?_))
  all_goals (refine any_pure (i := 1) rfl (by kernel_rfl) S ?_; (first | refine nilCheck_x rfl rfl ?_ | refine nilCheckE_x rfl (by first | omega | decide | (simp; done) | (simp; omega)) rfl ?_))
  all_goals (refine any_pure (i := 2) rfl (by kernel_rfl) S ?_; (first | refine fieldAddr_x rfl rfl rfl ?_ | refine fieldAddrE_x rfl (by first | omega | decide | (simp; done) | (simp; omega)) rfl rfl ?_))
  all_goals (refine any_pure (i := 3) rfl (by kernel_rfl) S ?_; (first | refine load_s_x rfl rfl rfl rfl ?_ | refine load_o_x rfl rfl rfl rfl ?_ | refine loadE_s_x rfl (by first | omega | decide | (simp; done) | (simp; omega)) rfl rfl rfl ?_ | refine loadE_o_x rfl (by first | omega | decide | (simp; done) | (simp; omega)) rfl rfl rfl ?_))
  all_goals (refine any_pure (i := 4) rfl (by kernel_rfl) S ?_; (first | refine move_p_x rfl rfl ?_ | refine move_e_x rfl rfl ?_ | refine move_o_x rfl rfl ?_))
  all_goals (refine any_pure (i := 5) rfl (by kernel_rfl) S ?_; (first | refine nilCheck_x rfl rfl ?_ | refine nilCheckE_x rfl (by first | omega | decide | (simp; done) | (simp; omega)) rfl ?_))
  all_goals (refine any_pure (i := 6) rfl (by kernel_rfl) S ?_; (first | refine fieldAddr_x rfl rfl rfl ?_ | refine fieldAddrE_x rfl (by first | omega | decide | (simp; done) | (simp; omega)) rfl rfl ?_))
  all_goals (refine any_pure (i := 7) rfl (by kernel_rfl) S ?_; (first | refine load_s_x rfl rfl rfl rfl ?_ | refine load_o_x rfl rfl rfl rfl ?_ | refine loadE_s_x rfl (by first | omega | decide | (simp; done) | (simp; omega)) rfl rfl rfl ?_ | refine loadE_o_x rfl (by first | omega | decide | (simp; done) | (simp; omega)) rfl rfl rfl ?_))
  all_goals (refine any_pure (i := 8) rfl (by kernel_rfl) S ?_; refine len_x rfl rfl ?_)
  all_goals (refine any_pure (i := 9) rfl (by kernel_rfl) S ?_; (first | refine sub_x rfl rfl (wrap_in (by omega)) rfl ?_ | refine sub_x rfl rfl rfl rfl ?_))
  all_goals (refine any_pure (i := 10) rfl (by kernel_rfl) S ?_; (first | refine indexAddr_x rfl rfl (idx_cast _) (by first | omega | decide | (simp; done) | (simp; omega)) rfl ?_ | refine indexAddr_x rfl rfl (idx_eq _) (by first | omega | decide | (simp; done) | (simp; omega)) rfl ?_))
  all_goals (refine any_pure (i := 11) rfl (by kernel_rfl) S ?_; (first | refine load_o_x rfl rfl rfl rfl ?_ | refine loadE_o_x rfl (by first | omega | decide | (simp; done) | (simp; omega)) rfl rfl rfl ?_))
  all_goals (refine any_pure (i := 12) rfl (by kernel_rfl) S ?_; refine move_i_x rfl rfl ?_)
  all_goals (refine any_pure (i := 13) rfl (by kernel_rfl) S ?_; refine move_i_x rfl rfl ?_)
  all_goals refine any_step (i := 14) rfl (by kernel_rfl) ?_
  all_goals replace S := S1
  refine mapPut_l (b := m) (m := M) (enc := encV) (a := x) S (top_cell Y m (((Y.map (·.1) ++ [m]).length : Int) - 1).toNat 0 (by omega)) rfl rfl ?_
  clear S S1
  intro w S
  all_goals try refine nilL ?_
  all_goals refine ⟨S.sub, ?_⟩
  all_goals (have S1 := S; replace S : Sat _ _ _ [blk b 1 (bfC a cap (Y.map (·.1) ++ [m])) 55, rowH a cap (Y.map (·.1) ++ [m])] := S1.sub)
  all_goals refine any_end (by kernel_rfl) ?_
  all_goals replace S := S1
  all_goals repeat' (first | refine assign_i_l S rfl rfl ?_ | refine move_p_l S rfl rfl ?_ | refine move_e_l S rfl rfl ?_ | refine nilL ?_ | refine run_seq ?_ | refine run_skip ?_ | refine run_region ?_ | refine eqlP_l S rfl rfl rfl ?_ | refine eqlE_l S rfl rfl (by omega) rfl ?_ | refine move_o_l S rfl rfl ?_ | refine run_block ?_ | refine run_ret ?_ | refine run_exit ?_ | refine run_cond_true rfl ?_ | refine run_cond_false rfl ?_ | refine thenQ_n ?_ | refine thenQ_r ?_ | refine thenQ_e ?_ | refine blockQ_n ?_ | refine blockQ_r ?_ | refine blockQ_s rfl ?_ | refine blockQ_o rfl ?_ | refine ret1_i rfl ?_ | refine ret1_b rfl ?_ | refine ret1_p rfl ?_ | refine ret1_s rfl ?_ | refine ret1_e rfl ?_ | refine ret1_a rfl ?_ | refine ret1_o rfl ?_ | refine ret1n_i rfl ?_ | refine ret1n_b rfl ?_ | refine ret1n_p rfl ?_ | refine ret1n_s rfl ?_ | refine ret1n_o rfl ?_)
  exact ⟨rfl, a, cap, top_shut (L := []) S, S.chg, fun k hk => .inl (top_foot.2 (top_foot.1 hk))⟩
end Go.Proofs.Ytaapgdanodkhjaa
