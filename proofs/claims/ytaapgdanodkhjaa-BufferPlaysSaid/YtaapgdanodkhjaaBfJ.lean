/- buffer: Merge. -/
import Derived.Test.YtaapgdanodkhjaaBfI
namespace Go.Proofs.Ytaapgdanodkhjaa
open Go.RowKit Go.Lib
set_option linter.unusedVariables false
set_option maxHeartbeats 2000000
theorem bfmerge_at {b : Nat} {a : Option Addr} {cap : Nat} {Z : BfX} {m1 m : Nat} {M1 M : LvM} {w0 : World} (h : (bfR b a cap ((Z ++ [(m1, M1)]) ++ [(m, M)])).holds w0) (hn : Z.length ≤ 10000) :
    Calls Try.prog 24 #[.pointer (some ⟨b, 0, none⟩)] w0 fun e w' => e = .returned (.int .i64 0) ∧ ∃ l, l.Perm M ∧ BfTo b a cap ((Z ++ [(m1, M1)]) ++ [(m, M)]) (Z ++ [(m1, putAll M1 l)]) w0 w' := by
  have S : Sat (bfR b a cap ((Z ++ [(m1, M1)]) ++ [(m, M)])).foot w0 w0 [] := Sat.start _ w0
  have hzl : (Z ++ [(m1, M1)]).length = Z.length + 1 := by simp
  have hzm : (List.map (fun p : Nat × LvM => p.1) Z ++ [m1]).length = Z.length + 1 := by simp
  refine enter1 Try.func24 rfl Try.ntmps24 rfl Try.results24 ?_
  repeat' (first | refine assign_i_l S rfl rfl ?_ | refine move_i_l S rfl rfl ?_ | refine move_p_l S rfl rfl ?_ | refine nilL ?_ | refine run_seq ?_ | refine run_skip ?_ | refine run_region ?_ | refine move_e_l S rfl rfl ?_ | refine extract_i_l S rfl rfl rfl ?_ | (refine eql_l S rfl rfl rfl ?_ ?_ <;> intro hcmp <;> try (exfalso; first | omega | exact hcmp (by decide) | exact absurd hcmp (by decide))) | refine move_o_l S rfl rfl ?_ | refine extract_o_l S rfl rfl rfl ?_ | refine assign_o_l S rfl rfl ?_ | refine run_block ?_ | refine run_ret ?_ | refine run_exit ?_ | refine run_cond_true rfl ?_ | refine run_cond_false rfl ?_ | refine thenQ_n ?_ | refine thenQ_r ?_ | refine thenQ_e ?_ | refine blockQ_n ?_ | refine blockQ_r ?_ | refine blockQ_s rfl ?_ | refine blockQ_o rfl ?_ | refine ret1_i rfl ?_ | refine ret1_b rfl ?_ | refine ret1_p rfl ?_ | refine ret1_s rfl ?_ | refine ret1_e rfl ?_ | refine ret1_a rfl ?_ | refine ret1_o rfl ?_ | refine ret1n_i rfl ?_ | refine ret1n_b rfl ?_ | refine ret1n_p rfl ?_ | refine ret1n_s rfl ?_ | refine ret1n_o rfl ?_)
  refine callL (bfpop_at h (by omega) (by omega)) rfl rfl ?_
  rintro e w' ⟨rfl, S'⟩
  clear S
  have S := S'
  clear S'
  rw [show List.map (fun p : Nat × LvM => p.1) (Z ++ [(m1, M1)]) = (List.map (fun p : Nat × LvM => p.1) Z ++ [m1]) from by simp] at S
  replace S := Sat.mapsTop (S.perm (List.perm_middle (l₁ := [mapR m encV M, blk b 1 (bfC a cap (List.map (fun p : Nat × LvM => p.1) Z ++ [m1])) 55, rowH a cap (List.map (fun p : Nat × LvM => p.1) Z ++ [m1])]) (l₂ := [])).symm)
  replace S := (S.perm (List.perm_middle (l₁ := [mapR m1 encV M1, mapsR Z]) (a := mapR m encV M)).symm).sw
  replace S : Sat (bfR b a cap ((Z ++ [(m1, M1)]) ++ [(m, M)])).foot w0 w' [mapR m1 encV M1, mapR m encV M, mapsR Z, blk b 1 (bfC a cap (List.map (fun p : Nat × LvM => p.1) Z ++ [m1])) 55, rowH a cap (List.map (fun p : Nat × LvM => p.1) Z ++ [m1])] := S
  refine ⟨_, rfl, ?_⟩
  repeat' (first | refine assign_i_l S rfl rfl ?_ | refine move_i_l S rfl rfl ?_ | refine move_p_l S rfl rfl ?_ | refine nilL ?_ | refine run_seq ?_ | refine run_skip ?_ | refine run_region ?_ | refine move_e_l S rfl rfl ?_ | refine extract_i_l S rfl rfl rfl ?_ | (refine eql_l S rfl rfl rfl ?_ ?_ <;> intro hcmp <;> try (exfalso; first | omega | exact hcmp (by decide) | exact absurd hcmp (by decide))) | refine move_o_l S rfl rfl ?_ | refine extract_o_l S rfl rfl rfl ?_ | refine assign_o_l S rfl rfl ?_ | refine run_block ?_ | refine run_ret ?_ | refine run_exit ?_ | refine run_cond_true rfl ?_ | refine run_cond_false rfl ?_ | refine thenQ_n ?_ | refine thenQ_r ?_ | refine thenQ_e ?_ | refine blockQ_n ?_ | refine blockQ_r ?_ | refine blockQ_s rfl ?_ | refine blockQ_o rfl ?_ | refine ret1_i rfl ?_ | refine ret1_b rfl ?_ | refine ret1_p rfl ?_ | refine ret1_s rfl ?_ | refine ret1_e rfl ?_ | refine ret1_a rfl ?_ | refine ret1_o rfl ?_ | refine ret1n_i rfl ?_ | refine ret1n_b rfl ?_ | refine ret1n_p rfl ?_ | refine ret1n_s rfl ?_ | refine ret1n_o rfl ?_)
  refine run_any S (L' := [blk b 1 (bfC a cap (List.map (fun p : Nat × LvM => p.1) Z ++ [m1])) 55, rowH a cap (List.map (fun p : Nat × LvM => p.1) Z ++ [m1])]) (f := 14) mixed rfl ?_
  clear S
  intro w S1
  have S : Sat _ _ w [blk b 1 (bfC a cap (List.map (fun p : Nat × LvM => p.1) Z ++ [m1])) 55, rowH a cap (List.map (fun p : Nat × LvM => p.1) Z ++ [m1])] := S1.sub
  all_goals (refine any_pure (i := 0) rfl (by kernel_rfl) S ?_; (first | refine move_p_x rfl rfl ?_ | refine move_e_x rfl rfl ?_ | refine move_o_x rfl rfl ?_))
  all_goals (refine any_pure (i := 1) rfl (by kernel_rfl) S ?_; (first | refine nilCheck_x rfl rfl ?_ | refine nilCheckE_x rfl (by first | omega | decide | (simp; done) | (simp; omega)) rfl ?_))
  all_goals (refine any_pure (i := 2) rfl (by kernel_rfl) S ?_; (first | refine fieldAddr_x rfl rfl rfl ?_ | refine fieldAddrE_x rfl (by first | omega | decide | (simp; done) | (simp; omega)) rfl rfl ?_))
  all_goals (refine any_pure (i := 3) rfl (by kernel_rfl) S ?_; (first | refine load_s_x rfl rfl rfl rfl ?_ | refine load_o_x rfl rfl rfl rfl ?_ | refine loadE_s_x rfl (by first | omega | decide | (simp; done) | (simp; omega)) rfl rfl rfl ?_ | refine loadE_o_x rfl (by first | omega | decide | (simp; done) | (simp; omega)) rfl rfl rfl ?_))
  all_goals (refine any_pure (i := 4) rfl (by kernel_rfl) S ?_; (first | refine move_p_x rfl rfl ?_ | refine move_e_x rfl rfl ?_ | refine move_o_x rfl rfl ?_))
  all_goals (refine any_pure (i := 5) rfl (by kernel_rfl) S ?_; (first | refine nilCheck_x rfl rfl ?_ | refine nilCheckE_x rfl (by first | omega | decide | (simp; done) | (simp; omega)) rfl ?_))
  all_goals (refine any_pure (i := 6) rfl (by kernel_rfl) S ?_; (first | refine fieldAddr_x rfl rfl rfl ?_ | refine fieldAddrE_x rfl (by first | omega | decide | (simp; done) | (simp; omega)) rfl rfl ?_))
  all_goals (refine any_pure (i := 7) rfl (by kernel_rfl) S ?_; (first | refine load_s_x rfl rfl rfl rfl ?_ | refine load_o_x rfl rfl rfl rfl ?_ | refine loadE_s_x rfl (by first | omega | decide | (simp; done) | (simp; omega)) rfl rfl rfl ?_ | refine loadE_o_x rfl (by first | omega | decide | (simp; done) | (simp; omega)) rfl rfl rfl ?_))
  all_goals (refine any_pure (i := 8) rfl (by kernel_rfl) S ?_; refine len_x rfl rfl ?_)
  all_goals (refine any_pure (i := 9) rfl (by kernel_rfl) S ?_; (first | refine sub_x rfl rfl (wrap_in (by omega)) rfl ?_ | refine sub_x rfl rfl rfl rfl ?_))
  all_goals (refine any_pure (i := 10) rfl (by kernel_rfl) S ?_; (first | refine indexAddr_x rfl rfl (idx_cast _) (by first | omega | decide | (simp; done) | (simp; omega)) rfl ?_ | refine indexAddr_x rfl rfl (idx_eq _) (by first | omega | decide | (simp; done) | (simp; omega)) rfl ?_))
  all_goals (refine any_pure (i := 11) rfl (by kernel_rfl) S ?_; (first | refine load_o_x rfl rfl rfl rfl ?_ | refine loadE_o_x rfl (by first | omega | decide | (simp; done) | (simp; omega)) rfl rfl rfl ?_))
  all_goals (refine any_pure (i := 12) rfl (by kernel_rfl) S ?_; refine move_o_x rfl rfl ?_)
  all_goals refine any_step (i := 13) rfl (by kernel_rfl) ?_
  all_goals replace S := S1
  refine callL (Sat.mcopy S) (congrArg (fun v : Value => [v, Value.map (some m)]) (top_cell Z m1 (((List.map (fun p : Nat × LvM => p.1) Z ++ [m1]).length : Int) - 1).toNat 0 (by omega))) rfl ?_
  rintro e w' ⟨rfl, l, hl, S'⟩
  clear S S1
  have S := S'
  clear S'
  refine ⟨_, rfl, ?_⟩
  all_goals try refine nilL ?_
  all_goals refine ⟨S.sub, ?_⟩
  all_goals (have S1 := S; replace S : Sat _ _ _ [blk b 1 (bfC a cap (List.map (fun p : Nat × LvM => p.1) Z ++ [m1])) 55, rowH a cap (List.map (fun p : Nat × LvM => p.1) Z ++ [m1])] := S1.sub)
  all_goals refine any_end (by kernel_rfl) ?_
  all_goals replace S := S1
  all_goals repeat' (first | refine assign_i_l S rfl rfl ?_ | refine move_i_l S rfl rfl ?_ | refine move_p_l S rfl rfl ?_ | refine nilL ?_ | refine run_seq ?_ | refine run_skip ?_ | refine run_region ?_ | refine move_e_l S rfl rfl ?_ | refine extract_i_l S rfl rfl rfl ?_ | (refine eql_l S rfl rfl rfl ?_ ?_ <;> intro hcmp <;> try (exfalso; first | omega | exact hcmp (by decide) | exact absurd hcmp (by decide))) | refine move_o_l S rfl rfl ?_ | refine extract_o_l S rfl rfl rfl ?_ | refine assign_o_l S rfl rfl ?_ | refine run_block ?_ | refine run_ret ?_ | refine run_exit ?_ | refine run_cond_true rfl ?_ | refine run_cond_false rfl ?_ | refine thenQ_n ?_ | refine thenQ_r ?_ | refine thenQ_e ?_ | refine blockQ_n ?_ | refine blockQ_r ?_ | refine blockQ_s rfl ?_ | refine blockQ_o rfl ?_ | refine ret1_i rfl ?_ | refine ret1_b rfl ?_ | refine ret1_p rfl ?_ | refine ret1_s rfl ?_ | refine ret1_e rfl ?_ | refine ret1_a rfl ?_ | refine ret1_o rfl ?_ | refine ret1n_i rfl ?_ | refine ret1n_b rfl ?_ | refine ret1n_p rfl ?_ | refine ret1n_s rfl ?_ | refine ret1n_o rfl ?_)
  replace S := S.mapsShut.rev3.sw
  have he : List.map (fun p : Nat × LvM => p.1) (Z ++ [(m1, putAll M1 l)]) = (List.map (fun p : Nat × LvM => p.1) Z ++ [m1]) := by simp
  rw [← he] at S
  refine ⟨rfl, l, hl, a, cap, bf_shut (L := []) S, S.chg, fun k hk => .inl (top_foot.2 ?_)⟩
  rcases top_foot.1 hk with e | e | e | e
  · exact .inl e
  · exact .inr (.inl e)
  · exact .inr (.inr (.inl (maps_foot.2 (.inl e))))
  · exact .inr (.inr (.inl (maps_foot.2 (.inr e))))
end Go.Proofs.Ytaapgdanodkhjaa
