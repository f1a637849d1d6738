/- buffer: maps.Clone of a level. -/
import Derived.Test.YtaapgdanodkhjaaBfL
import Derived.Laws.Externs
namespace Go.Proofs.Ytaapgdanodkhjaa
open Go.RowKit Go.Lib
set_option linter.unusedVariables false
set_option maxHeartbeats 2000000
section
variable {S : Nat → Prop} {w₀ : World} {L : List Res}
variable {P : Program} {ops : Array Oper} {n : Nat} {rest : List Oper} {t : Tm} {w : World} {K : Tm → World → Prop} {d : Nat} {ty : TypeId} {pos : String} {af : Array Edge}
theorem mkIface_l {T e : TypeId} [hT : TyMapI P T e] {x : Operand} {v : Value} (hx : ev t x = v) (hd : Nat.blt d n = true) (kk : RunL P ops n rest (upd t d (.iface T v)) w K) : RunL P ops n (⟨some d, .makeInterface T x, ty, pos, af, none⟩ :: rest) t w K :=
  valL rfl rfl hd (by
    obtain ⟨k, hu, _⟩ := hT.ex
    show Sem.run P (do pure (Next.value (← Instr.makeInterface T (ev t x)))) w = _
    rw [hx]
    simp [Instr.makeInterface, run_underlying hu, go_sem, Result.andThen]) kk
theorem assertM_l {T T' e : TypeId} [hT : TyMapI P T e] {x : Operand} {v : Value} (hx : ev t x = .iface T v) (hd : Nat.blt d n = true) (kk : RunL P ops n rest (upd t d v) w K) : RunL P ops n (⟨some d, .typeAssert x T' T false, ty, pos, af, none⟩ :: rest) t w K :=
  valL rfl rfl hd (by
    obtain ⟨k, hu, _⟩ := hT.ex
    show Sem.run P (do pure (Next.value (← Instr.typeAssert (ev t x) T' T false))) w = _
    rw [hx]
    simp [Instr.typeAssert, run_underlying hu, go_sem, Result.andThen]) kk
theorem cloneX {r : Nat} {es : Array MapEntry} {clock : Nat} {T : TypeId} (hb : w.heap[r]? = some (.map es clock)) :
    (Extern.MapsClone.clone #[.iface T (.map (some r))]).run P w = .ok (.iface T (.map (some w.heap.size))) (w.alloc (.map es clock)) := by
  have e : Extern.MapsClone.clone #[.iface T (.map (some r))] = (getObj r >>= fun o => match o with
      | .map entries clock => (newObj (.map entries clock) >>= fun n => pure (.iface T (.map (some n))))
      | _ => stuck "maps.clone: a map expected") := rfl
  rw [e]
  simp [MapKept.run_getObj_map hb, Result.andThen, go_sem]
/-- A call of what the model stands in for. -/
theorem callX_l {f : FuncId} {l0 : List Operand} {ats : Array TypeId} {l : List Value} {v : Value} {w' : World} (hc : (callFunc f l.toArray).run P w = .ok (.value v) w') (hv : l0.map (ev t) = l) (hd : Nat.blt d n = true) (kk : RunL P ops n rest (upd t d v) w' K) : RunL P ops n (⟨some d, .call ⟨.value (.func f), l0.toArray, ats⟩, ty, pos, af, none⟩ :: rest) t w K := by
  unfold RunL at kk ⊢
  intro Q hQ a ha
  refine wpList_plain rfl fun K' hK => ?_
  unfold Oper.wp
  rw [execOp_call_go, ha.eval, List.map_toArray, hv, Array.empty_append, Array.append_empty, hc, Oper.upon_value]
  exact hK _ _ (kk Q hQ _ (ha.put hd v))
end
theorem mclone_at {m : Nat} {M : LvM} {w0 : World} (h : (mapR m encV M).holds w0) :
    Calls Try.prog 36 #[.map (some m)] w0 fun e w' => ∃ c, e = .returned (.map (some c)) ∧ (mapR c encV M).holds w' ∧ w0.heap.size ≤ c ∧ Below w0.heap.size w0 w' := by
  have S := Sat.reads h
  refine enter1 Try.func36 rfl Try.ntmps36 rfl Try.results36 ?_
  repeat' (first | refine eqlM_l S rfl rfl rfl ?_ | refine assign_o_l S rfl rfl ?_ | refine move_o_l S rfl rfl ?_ | refine nilL ?_ | refine run_seq ?_ | refine run_skip ?_ | refine run_region ?_ | refine run_block ?_ | refine run_ret ?_ | refine run_exit ?_ | refine run_cond_true rfl ?_ | refine run_cond_false rfl ?_ | refine thenQ_n ?_ | refine thenQ_r ?_ | refine thenQ_e ?_ | refine blockQ_n ?_ | refine blockQ_r ?_ | refine blockQ_s rfl ?_ | refine blockQ_o rfl ?_ | refine ret1_i rfl ?_ | refine ret1_b rfl ?_ | refine ret1_p rfl ?_ | refine ret1_s rfl ?_ | refine ret1_e rfl ?_ | refine ret1_a rfl ?_ | refine ret1_o rfl ?_ | refine ret1n_i rfl ?_ | refine ret1n_b rfl ?_ | refine ret1n_p rfl ?_ | refine ret1n_s rfl ?_ | refine ret1n_o rfl ?_)
  refine mkIface_l rfl rfl ?_
  repeat' (first | refine eqlM_l S rfl rfl rfl ?_ | refine assign_o_l S rfl rfl ?_ | refine move_o_l S rfl rfl ?_ | refine nilL ?_ | refine run_seq ?_ | refine run_skip ?_ | refine run_region ?_ | refine run_block ?_ | refine run_ret ?_ | refine run_exit ?_ | refine run_cond_true rfl ?_ | refine run_cond_false rfl ?_ | refine thenQ_n ?_ | refine thenQ_r ?_ | refine thenQ_e ?_ | refine blockQ_n ?_ | refine blockQ_r ?_ | refine blockQ_s rfl ?_ | refine blockQ_o rfl ?_ | refine ret1_i rfl ?_ | refine ret1_b rfl ?_ | refine ret1_p rfl ?_ | refine ret1_s rfl ?_ | refine ret1_e rfl ?_ | refine ret1_a rfl ?_ | refine ret1_o rfl ?_ | refine ret1n_i rfl ?_ | refine ret1n_b rfl ?_ | refine ret1n_p rfl ?_ | refine ret1n_s rfl ?_ | refine ret1n_o rfl ?_)
  obtain ⟨es, clock, hb, hE⟩ := h.ents
  have hc : (callFunc 41 [Value.iface 52 (.map (some m))].toArray).run Try.prog w0 = .ok (.value (.iface 52 (.map (some w0.heap.size)))) (w0.alloc (.map es clock)) := by
    rw [run_callFunc_extern Try.func41 (by kernel_rfl) (by kernel_rfl) (by kernel_rfl) (e := Extern.MapsClone.clone) (by kernel_rfl), cloneX hb]
    rfl
  have hm : MapOk (w0.alloc (.map es clock)) w0.heap.size encV M := hE.map (heap_alloc_new w0 _)
  refine callX_l hc rfl rfl ?_
  replace S := S.fresh (r := mapR w0.heap.size encV M) ((Below.refl _ w0).alloc (Nat.le_refl _) _) hm (fun k e => by cases e; exact Nat.le_refl _)
  repeat' (first | refine eqlM_l S rfl rfl rfl ?_ | refine assign_o_l S rfl rfl ?_ | refine move_o_l S rfl rfl ?_ | refine nilL ?_ | refine run_seq ?_ | refine run_skip ?_ | refine run_region ?_ | refine run_block ?_ | refine run_ret ?_ | refine run_exit ?_ | refine run_cond_true rfl ?_ | refine run_cond_false rfl ?_ | refine thenQ_n ?_ | refine thenQ_r ?_ | refine thenQ_e ?_ | refine blockQ_n ?_ | refine blockQ_r ?_ | refine blockQ_s rfl ?_ | refine blockQ_o rfl ?_ | refine ret1_i rfl ?_ | refine ret1_b rfl ?_ | refine ret1_p rfl ?_ | refine ret1_s rfl ?_ | refine ret1_e rfl ?_ | refine ret1_a rfl ?_ | refine ret1_o rfl ?_ | refine ret1n_i rfl ?_ | refine ret1n_b rfl ?_ | refine ret1n_p rfl ?_ | refine ret1n_s rfl ?_ | refine ret1n_o rfl ?_)
  refine assertM_l rfl rfl ?_
  repeat' (first | refine eqlM_l S rfl rfl rfl ?_ | refine assign_o_l S rfl rfl ?_ | refine move_o_l S rfl rfl ?_ | refine nilL ?_ | refine run_seq ?_ | refine run_skip ?_ | refine run_region ?_ | refine run_block ?_ | refine run_ret ?_ | refine run_exit ?_ | refine run_cond_true rfl ?_ | refine run_cond_false rfl ?_ | refine thenQ_n ?_ | refine thenQ_r ?_ | refine thenQ_e ?_ | refine blockQ_n ?_ | refine blockQ_r ?_ | refine blockQ_s rfl ?_ | refine blockQ_o rfl ?_ | refine ret1_i rfl ?_ | refine ret1_b rfl ?_ | refine ret1_p rfl ?_ | refine ret1_s rfl ?_ | refine ret1_e rfl ?_ | refine ret1_a rfl ?_ | refine ret1_o rfl ?_ | refine ret1n_i rfl ?_ | refine ret1n_b rfl ?_ | refine ret1n_p rfl ?_ | refine ret1n_s rfl ?_ | refine ret1n_o rfl ?_)
  exact ⟨_, rfl, S.got1, Nat.le_refl _, S.chg.below⟩
end Go.Proofs.Ytaapgdanodkhjaa
