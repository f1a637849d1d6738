/- buffer: maps.Copy of levels. -/
import Derived.Test.YtaapgdanodkhjaaBfG
namespace Go.Proofs.Ytaapgdanodkhjaa
open Go.RowKit Go.Lib
set_option linter.unusedVariables false
set_option maxHeartbeats 2000000
/-- These put, one behind the other. -/
def putAll (M : LvM) (l : LvM) : LvM := l.foldl (fun m p => putM m p.1 p.2) M
theorem putAll_add (M l : LvM) (p : Int × Int) : putAll M (l ++ [p]) = putM (putAll M l) p.1 p.2 := by
  unfold putAll
  rw [List.foldl_append]
  rfl
theorem mcopy_at {d s : Nat} {M N : LvM} {F : Nat → Prop} {w0 : World} (S : Sat F w0 w0 [mapR d encV M, roR (mapR s encV N)]) :
    Calls Try.prog 31 #[.map (some d), .map (some s)] w0 fun e w' => e = .returned (.tuple #[]) ∧ ∃ l, l.Perm N ∧ Sat F w0 w' [mapR d encV (putAll M l)] := by
  obtain ⟨es, clock, hE, S2⟩ := Sat.mapEnts (b := s) (enc := encV) (m := N) S
  clear S
  have S : Sat F w0 w0 [mapR d encV M, roR (mapE s es clock)] := S2
  clear S2
  refine enter0 Try.func31 rfl Try.ntmps31 rfl Try.results31 ?_
  repeat' (first | refine extract_i_l S rfl rfl rfl ?_ | refine assign_i_l S rfl rfl ?_ | refine move_i_l S rfl rfl ?_ | refine nilL ?_ | refine run_seq ?_ | refine run_skip ?_ | refine run_region ?_ | refine extract_b_l S rfl rfl rfl ?_ | refine move_o_l S rfl rfl ?_ | refine run_block ?_ | refine run_ret ?_ | refine run_exit ?_ | refine run_cond_true rfl ?_ | refine run_cond_false rfl ?_ | refine thenQ_n ?_ | refine thenQ_r ?_ | refine thenQ_e ?_ | refine blockQ_n ?_ | refine blockQ_r ?_ | refine blockQ_s rfl ?_ | refine blockQ_o rfl ?_ | refine ret0_l ?_ | refine ret0_n ?_)
  refine range_l S rfl rfl ?_
  clear S
  intro r w S
  repeat' (first | refine extract_i_l S rfl rfl rfl ?_ | refine assign_i_l S rfl rfl ?_ | refine move_i_l S rfl rfl ?_ | refine nilL ?_ | refine run_seq ?_ | refine run_skip ?_ | refine run_region ?_ | refine extract_b_l S rfl rfl rfl ?_ | refine move_o_l S rfl rfl ?_ | refine run_block ?_ | refine run_ret ?_ | refine run_exit ?_ | refine run_cond_true rfl ?_ | refine run_cond_false rfl ?_ | refine thenQ_n ?_ | refine thenQ_r ?_ | refine thenQ_e ?_ | refine blockQ_n ?_ | refine blockQ_r ?_ | refine blockQ_s rfl ?_ | refine blockQ_o rfl ?_ | refine ret0_l ?_ | refine ret0_n ?_)
  refine run_while [8, 9, 10, 11, 12, 13, 14, 15] (fun (q : LvM × LvM × Array Nat × Value × Value) t => upd (upd t 4 q.2.2.2.1) 5 q.2.2.2.2) (fun q w' => WkOk encV N es clock q.2.2.1 q.1 q.2.1 ∧ Sat F w0 w' [wkR r s clock q.2.2.1, mapR d encV (putAll M q.1), roR (mapE s es clock)]) (fun q => q.2.1.length) ([], N, #[], undef, undef) ?_ ?_ ?_
  · (repeat (first | exact agree_refl | refine agree_r rfl ?_ | refine agree_l rfl ?_ | refine agree_hv rfl ?_))
  · exact ⟨WkOk.start hE, S⟩
  clear S
  rintro ⟨pre, post, seen, u4, u5⟩ j w ⟨hk, S⟩
  replace hk : WkOk encV N es clock seen pre post := hk
  replace S : Sat F w0 w [wkR r s clock seen, mapR d encV (putAll M pre), roR (mapE s es clock)] := S
  dsimp only
  repeat' (first | refine extract_i_l S rfl rfl rfl ?_ | refine assign_i_l S rfl rfl ?_ | refine move_i_l S rfl rfl ?_ | refine nilL ?_ | refine run_seq ?_ | refine run_skip ?_ | refine run_region ?_ | refine extract_b_l S rfl rfl rfl ?_ | refine move_o_l S rfl rfl ?_ | refine run_block ?_ | refine run_ret ?_ | refine run_exit ?_ | refine run_cond_true rfl ?_ | refine run_cond_false rfl ?_ | refine thenQ_n ?_ | refine thenQ_r ?_ | refine thenQ_e ?_ | refine blockQ_n ?_ | refine blockQ_r ?_ | refine blockQ_s rfl ?_ | refine blockQ_o rfl ?_ | refine ret0_l ?_ | refine ret0_n ?_)
  refine next_l S rfl hk rfl ?_ ?_
  · rintro rfl
    repeat' (first | refine extract_i_l S rfl rfl rfl ?_ | refine assign_i_l S rfl rfl ?_ | refine move_i_l S rfl rfl ?_ | refine nilL ?_ | refine run_seq ?_ | refine run_skip ?_ | refine run_region ?_ | refine extract_b_l S rfl rfl rfl ?_ | refine move_o_l S rfl rfl ?_ | refine run_block ?_ | refine run_ret ?_ | refine run_exit ?_ | refine run_cond_true rfl ?_ | refine run_cond_false rfl ?_ | refine thenQ_n ?_ | refine thenQ_r ?_ | refine thenQ_e ?_ | refine blockQ_n ?_ | refine blockQ_r ?_ | refine blockQ_s rfl ?_ | refine blockQ_o rfl ?_ | refine ret0_l ?_ | refine ret0_n ?_)
    have hp := hk.perm
    rw [List.append_nil] at hp
    exact ⟨rfl, pre, hp, S.sub⟩
  · clear S
    intro p post' seen' w hk' S
    replace S : Sat F w0 w [wkR r s clock seen', mapR d encV (putAll M pre), roR (mapE s es clock)] := S
    have hl1 : pre.length + post.length = N.length := by rw [← List.length_append]; exact hk.perm.length_eq
    have hl2 : pre.length + 1 + post'.length = N.length := by
      have := hk'.perm.length_eq
      rw [List.length_append, List.length_append] at this
      exact this
    repeat' (first | refine extract_i_l S rfl rfl rfl ?_ | refine assign_i_l S rfl rfl ?_ | refine move_i_l S rfl rfl ?_ | refine nilL ?_ | refine run_seq ?_ | refine run_skip ?_ | refine run_region ?_ | refine extract_b_l S rfl rfl rfl ?_ | refine move_o_l S rfl rfl ?_ | refine run_block ?_ | refine run_ret ?_ | refine run_exit ?_ | refine run_cond_true rfl ?_ | refine run_cond_false rfl ?_ | refine thenQ_n ?_ | refine thenQ_r ?_ | refine thenQ_e ?_ | refine blockQ_n ?_ | refine blockQ_r ?_ | refine blockQ_s rfl ?_ | refine blockQ_o rfl ?_ | refine ret0_l ?_ | refine ret0_n ?_)
    refine entry_l S rfl hk' rfl ?_
    repeat' (first | refine extract_i_l S rfl rfl rfl ?_ | refine assign_i_l S rfl rfl ?_ | refine move_i_l S rfl rfl ?_ | refine nilL ?_ | refine run_seq ?_ | refine run_skip ?_ | refine run_region ?_ | refine extract_b_l S rfl rfl rfl ?_ | refine move_o_l S rfl rfl ?_ | refine run_block ?_ | refine run_ret ?_ | refine run_exit ?_ | refine run_cond_true rfl ?_ | refine run_cond_false rfl ?_ | refine thenQ_n ?_ | refine thenQ_r ?_ | refine thenQ_e ?_ | refine blockQ_n ?_ | refine blockQ_r ?_ | refine blockQ_s rfl ?_ | refine blockQ_o rfl ?_ | refine ret0_l ?_ | refine ret0_n ?_)
    refine mapPut_l (b := d) (m := putAll M pre) (enc := encV) (a := p.2) (k := p.1) S rfl rfl rfl ?_
    clear S
    intro w S
    repeat' (first | refine extract_i_l S rfl rfl rfl ?_ | refine assign_i_l S rfl rfl ?_ | refine move_i_l S rfl rfl ?_ | refine nilL ?_ | refine run_seq ?_ | refine run_skip ?_ | refine run_region ?_ | refine extract_b_l S rfl rfl rfl ?_ | refine move_o_l S rfl rfl ?_ | refine run_block ?_ | refine run_ret ?_ | refine run_exit ?_ | refine run_cond_true rfl ?_ | refine run_cond_false rfl ?_ | refine thenQ_n ?_ | refine thenQ_r ?_ | refine thenQ_e ?_ | refine blockQ_n ?_ | refine blockQ_r ?_ | refine blockQ_s rfl ?_ | refine blockQ_o rfl ?_ | refine ret0_l ?_ | refine ret0_n ?_)
    refine ⟨(pre ++ [p], post', seen', .int .i64 p.1, .int .i64 p.2), ?_, ⟨hk', by show Sat F w0 w [wkR r s clock seen', mapR d encV (putAll M (pre ++ [p])), roR (mapE s es clock)]; rw [putAll_add]; exact S⟩, by show post'.length < post.length; omega⟩
    (repeat (first | exact agree_refl | refine agree_r rfl ?_ | refine agree_l rfl ?_ | refine agree_hv rfl ?_))
end Go.Proofs.Ytaapgdanodkhjaa
