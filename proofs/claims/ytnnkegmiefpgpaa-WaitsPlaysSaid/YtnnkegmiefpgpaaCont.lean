/- slices.IndexFunc, slices.ContainsFunc of ints, with a function that changes nothing. slices.DeleteFunc of ints, with a function that changes nothing. -/
import Derived.Test.YtnnkegmiefpgpaaGen
import Derived.Test.YtnnkegmiefpgpaaFacts
import Derived.Test.YtnnkegmiefpgpaaMap
namespace Go.Proofs.Ytnnkegmiefpgpaa
open Go.RowKit Go.Lib
set_option linter.unusedVariables false
set_option maxHeartbeats 2000000
section
variable {f : FuncId} [FnOk Try.prog f] {l2 : List Value} {p : Int → Bool} {I : World → Prop}
theorem any_take_succ' {α : Type} {p : α → Bool} {d : α} {l : List α} {q : Nat} (h : q < l.length) : (l.take (q + 1)).any p = ((l.take q).any p || p (l.getD q d)) := by
  rw [List.take_succ_eq_append_getElem h, List.any_append, List.getD_eq_getElem?_getD, List.getElem?_eq_getElem h]
  simp
/-- The first place, or -1. -/
def idxI (p : Int → Bool) (zs : List Int) : Int := if zs.any p then (zs.findIdx p : Nat) else -1
theorem idxI_le (p : Int → Bool) (zs : List Int) : decide (0 ≤ idxI p zs) = zs.any p := by
  unfold idxI
  cases zs.any p with
  | true => rw [if_pos rfl]; exact decide_eq_true (by omega)
  | false => rw [if_neg (by decide)]; decide
theorem idxI_at {p : Int → Bool} {zs : List Int} {q : Nat} (hq : q < zs.length) (h0 : (zs.take q).any p = false) (h1 : p (zs.getD q 0) = true) : idxI p zs = q := by
  have ha : zs.any p = true := by
    rw [List.any_eq_true]
    rw [List.getD_eq_getElem?_getD, List.getElem?_eq_getElem hq] at h1
    exact ⟨_, List.getElem_mem hq, h1⟩
  unfold idxI
  rw [if_pos ha]
  have : zs.findIdx p = q := by
    rw [List.findIdx_eq hq]
    rw [List.getD_eq_getElem?_getD, List.getElem?_eq_getElem hq] at h1
    refine ⟨h1, fun j hj => ?_⟩
    have h2 := (List.any_eq_false.1 h0) zs[j] (List.mem_take_iff_getElem.2 ⟨j, by omega, rfl⟩)
    simpa using h2
  rw [this]
theorem index_at (hI : ∀ w w', I w → Below w.heap.size w w' → I w') (hf : ∀ x w, I w → Calls Try.prog f ([] ++ [Value.int .i64 x] ++ l2).toArray w fun e w' => e = .returned (.bool (p x)) ∧ Below w.heap.size w w')
    (a : Option Addr) (cap : Nat) (zs : List Int) (w0 : World) (hi : I w0) (hs : SlOk w0 a zs.length cap 1 (gL encI 0 zs)) :
    Calls Try.prog 79 #[.slice a zs.length cap, .func (.func f) #[] l2.toArray] w0 fun e w' => e = .returned (.int .i64 (idxI p zs)) ∧ Below w0.heap.size w0 w' := by
  have hm := hs.small
  have S := Sat.reads (r := slL a cap 1 encI 0 zs) hs
  refine enter1 Try.func79 rfl Try.ntmps79 rfl Try.results79 ?_
  repeat' (first | refine move_i_l S rfl rfl ?_ | refine assign_i_l S rfl rfl ?_ | refine move_s_l S rfl rfl ?_ | refine nilL ?_ | refine run_seq ?_ | refine run_skip ?_ | refine run_region ?_ | refine len_l S rfl rfl ?_ | (refine lss_l S rfl rfl rfl ?_ ?_ <;> intro hcmp <;> try (exfalso; first | omega | exact hcmp (by decide) | exact absurd hcmp (by decide))) | refine indexAddr_l S rfl rfl (idx_cast _) (by first | omega | decide | (simp; done) | (simp; omega)) rfl ?_ | refine indexAddr_l S rfl rfl (idx_eq _) (by first | omega | decide | (simp; done) | (simp; omega)) rfl ?_ | refine load_i_l S rfl rfl rfl rfl ?_ | refine loadE_i_l S rfl (by first | omega | decide | (simp; done) | (simp; omega)) rfl rfl rfl ?_ | refine add_l S rfl rfl (wrap_in (by omega)) rfl ?_ | refine add_l S rfl rfl rfl rfl ?_ | refine move_o_l S rfl rfl ?_ | refine load_o_l S rfl rfl rfl rfl ?_ | refine loadE_o_l S rfl (by first | omega | decide | (simp; done) | (simp; omega)) rfl rfl rfl ?_ | refine run_block ?_ | refine run_ret ?_ | refine run_exit ?_ | refine run_cond_true rfl ?_ | refine run_cond_false rfl ?_ | refine thenQ_n ?_ | refine thenQ_r ?_ | refine thenQ_e ?_ | refine blockQ_n ?_ | refine blockQ_r ?_ | refine blockQ_s rfl ?_ | refine blockQ_o rfl ?_ | refine ret1_i rfl ?_ | refine ret1_b rfl ?_ | refine ret1_p rfl ?_ | refine ret1_s rfl ?_ | refine ret1_e rfl ?_ | refine ret1_a rfl ?_ | refine ret1_o rfl ?_ | refine ret1n_i rfl ?_ | refine ret1n_b rfl ?_ | refine ret1n_p rfl ?_ | refine ret1n_s rfl ?_ | refine ret1n_o rfl ?_)
  refine run_while [4, 5, 9, 10, 11, 12, 13, 14, 15, 16, 17, 18] (fun (q : Nat) t => upd t 8 (.int .i64 q)) (fun q w' => q ≤ zs.length ∧ (zs.take q).any p = false ∧ Sat (fun _ => False) w0 w' [roR (slL a cap 1 encI 0 zs)]) (fun q => zs.length - q) 0 ?_ ?_ ?_
  · (repeat (first | exact agree_refl | refine agree_r rfl ?_ | refine agree_l rfl ?_ | refine agree_hv rfl ?_))
  · exact ⟨Nat.zero_le _, rfl, S⟩
  clear S
  rintro q j w ⟨hq, hn, S⟩
  by_cases hql : q < zs.length
  · have hsucc := any_take_succ' (p := p) (d := 0) (l := zs) hql
    rw [hn] at hsucc
    repeat' (first | refine move_i_l S rfl rfl ?_ | refine assign_i_l S rfl rfl ?_ | refine move_s_l S rfl rfl ?_ | refine nilL ?_ | refine run_seq ?_ | refine run_skip ?_ | refine run_region ?_ | refine len_l S rfl rfl ?_ | (refine lss_l S rfl rfl rfl ?_ ?_ <;> intro hcmp <;> try (exfalso; first | omega | exact hcmp (by decide) | exact absurd hcmp (by decide))) | refine indexAddr_l S rfl rfl (idx_cast _) (by first | omega | decide | (simp; done) | (simp; omega)) rfl ?_ | refine indexAddr_l S rfl rfl (idx_eq _) (by first | omega | decide | (simp; done) | (simp; omega)) rfl ?_ | refine load_i_l S rfl rfl rfl rfl ?_ | refine loadE_i_l S rfl (by first | omega | decide | (simp; done) | (simp; omega)) rfl rfl rfl ?_ | refine add_l S rfl rfl (wrap_in (by omega)) rfl ?_ | refine add_l S rfl rfl rfl rfl ?_ | refine move_o_l S rfl rfl ?_ | refine load_o_l S rfl rfl rfl rfl ?_ | refine loadE_o_l S rfl (by first | omega | decide | (simp; done) | (simp; omega)) rfl rfl rfl ?_ | refine run_block ?_ | refine run_ret ?_ | refine run_exit ?_ | refine run_cond_true rfl ?_ | refine run_cond_false rfl ?_ | refine thenQ_n ?_ | refine thenQ_r ?_ | refine thenQ_e ?_ | refine blockQ_n ?_ | refine blockQ_r ?_ | refine blockQ_s rfl ?_ | refine blockQ_o rfl ?_ | refine ret1_i rfl ?_ | refine ret1_b rfl ?_ | refine ret1_p rfl ?_ | refine ret1_s rfl ?_ | refine ret1_e rfl ?_ | refine ret1_a rfl ?_ | refine ret1_o rfl ?_ | refine ret1n_i rfl ?_ | refine ret1n_b rfl ?_ | refine ret1n_p rfl ?_ | refine ret1n_s rfl ?_ | refine ret1n_o rfl ?_)
    refine callV (f := f) (l1 := []) (l2 := l2) (l := [.int .i64 (zs.getD q 0)]) rfl (hf (zs.getD q 0) _ (hI _ _ hi S.chg.below)) rfl rfl ?_
    rintro e w ⟨rfl, hb⟩
    replace S := S.below hb
    clear hb
    refine ⟨_, rfl, ?_⟩
    obtain ⟨r, hr⟩ : ∃ r, p (zs.getD q 0) = r := ⟨_, rfl⟩
    rw [hr] at hsucc ⊢
    cases r with
    | true =>
      repeat' (first | refine move_i_l S rfl rfl ?_ | refine assign_i_l S rfl rfl ?_ | refine move_s_l S rfl rfl ?_ | refine nilL ?_ | refine run_seq ?_ | refine run_skip ?_ | refine run_region ?_ | refine len_l S rfl rfl ?_ | (refine lss_l S rfl rfl rfl ?_ ?_ <;> intro hcmp <;> try (exfalso; first | omega | exact hcmp (by decide) | exact absurd hcmp (by decide))) | refine indexAddr_l S rfl rfl (idx_cast _) (by first | omega | decide | (simp; done) | (simp; omega)) rfl ?_ | refine indexAddr_l S rfl rfl (idx_eq _) (by first | omega | decide | (simp; done) | (simp; omega)) rfl ?_ | refine load_i_l S rfl rfl rfl rfl ?_ | refine loadE_i_l S rfl (by first | omega | decide | (simp; done) | (simp; omega)) rfl rfl rfl ?_ | refine add_l S rfl rfl (wrap_in (by omega)) rfl ?_ | refine add_l S rfl rfl rfl rfl ?_ | refine move_o_l S rfl rfl ?_ | refine load_o_l S rfl rfl rfl rfl ?_ | refine loadE_o_l S rfl (by first | omega | decide | (simp; done) | (simp; omega)) rfl rfl rfl ?_ | refine run_block ?_ | refine run_ret ?_ | refine run_exit ?_ | refine run_cond_true rfl ?_ | refine run_cond_false rfl ?_ | refine thenQ_n ?_ | refine thenQ_r ?_ | refine thenQ_e ?_ | refine blockQ_n ?_ | refine blockQ_r ?_ | refine blockQ_s rfl ?_ | refine blockQ_o rfl ?_ | refine ret1_i rfl ?_ | refine ret1_b rfl ?_ | refine ret1_p rfl ?_ | refine ret1_s rfl ?_ | refine ret1_e rfl ?_ | refine ret1_a rfl ?_ | refine ret1_o rfl ?_ | refine ret1n_i rfl ?_ | refine ret1n_b rfl ?_ | refine ret1n_p rfl ?_ | refine ret1n_s rfl ?_ | refine ret1n_o rfl ?_)
      exact ⟨by rw [idxI_at hql hn hr], S.chg.below⟩
    | false =>
      repeat' (first | refine move_i_l S rfl rfl ?_ | refine assign_i_l S rfl rfl ?_ | refine move_s_l S rfl rfl ?_ | refine nilL ?_ | refine run_seq ?_ | refine run_skip ?_ | refine run_region ?_ | refine len_l S rfl rfl ?_ | (refine lss_l S rfl rfl rfl ?_ ?_ <;> intro hcmp <;> try (exfalso; first | omega | exact hcmp (by decide) | exact absurd hcmp (by decide))) | refine indexAddr_l S rfl rfl (idx_cast _) (by first | omega | decide | (simp; done) | (simp; omega)) rfl ?_ | refine indexAddr_l S rfl rfl (idx_eq _) (by first | omega | decide | (simp; done) | (simp; omega)) rfl ?_ | refine load_i_l S rfl rfl rfl rfl ?_ | refine loadE_i_l S rfl (by first | omega | decide | (simp; done) | (simp; omega)) rfl rfl rfl ?_ | refine add_l S rfl rfl (wrap_in (by omega)) rfl ?_ | refine add_l S rfl rfl rfl rfl ?_ | refine move_o_l S rfl rfl ?_ | refine load_o_l S rfl rfl rfl rfl ?_ | refine loadE_o_l S rfl (by first | omega | decide | (simp; done) | (simp; omega)) rfl rfl rfl ?_ | refine run_block ?_ | refine run_ret ?_ | refine run_exit ?_ | refine run_cond_true rfl ?_ | refine run_cond_false rfl ?_ | refine thenQ_n ?_ | refine thenQ_r ?_ | refine thenQ_e ?_ | refine blockQ_n ?_ | refine blockQ_r ?_ | refine blockQ_s rfl ?_ | refine blockQ_o rfl ?_ | refine ret1_i rfl ?_ | refine ret1_b rfl ?_ | refine ret1_p rfl ?_ | refine ret1_s rfl ?_ | refine ret1_e rfl ?_ | refine ret1_a rfl ?_ | refine ret1_o rfl ?_ | refine ret1n_i rfl ?_ | refine ret1n_b rfl ?_ | refine ret1n_p rfl ?_ | refine ret1n_s rfl ?_ | refine ret1n_o rfl ?_)
      refine ⟨q + 1, ?_, ⟨by omega, hsucc, S⟩, by omega⟩
      rw [Int.natCast_add]
      (repeat (first | exact agree_refl | refine agree_r rfl ?_ | refine agree_l rfl ?_ | refine agree_hv rfl ?_))
  · repeat' (first | refine move_i_l S rfl rfl ?_ | refine assign_i_l S rfl rfl ?_ | refine move_s_l S rfl rfl ?_ | refine nilL ?_ | refine run_seq ?_ | refine run_skip ?_ | refine run_region ?_ | refine len_l S rfl rfl ?_ | (refine lss_l S rfl rfl rfl ?_ ?_ <;> intro hcmp <;> try (exfalso; first | omega | exact hcmp (by decide) | exact absurd hcmp (by decide))) | refine indexAddr_l S rfl rfl (idx_cast _) (by first | omega | decide | (simp; done) | (simp; omega)) rfl ?_ | refine indexAddr_l S rfl rfl (idx_eq _) (by first | omega | decide | (simp; done) | (simp; omega)) rfl ?_ | refine load_i_l S rfl rfl rfl rfl ?_ | refine loadE_i_l S rfl (by first | omega | decide | (simp; done) | (simp; omega)) rfl rfl rfl ?_ | refine add_l S rfl rfl (wrap_in (by omega)) rfl ?_ | refine add_l S rfl rfl rfl rfl ?_ | refine move_o_l S rfl rfl ?_ | refine load_o_l S rfl rfl rfl rfl ?_ | refine loadE_o_l S rfl (by first | omega | decide | (simp; done) | (simp; omega)) rfl rfl rfl ?_ | refine run_block ?_ | refine run_ret ?_ | refine run_exit ?_ | refine run_cond_true rfl ?_ | refine run_cond_false rfl ?_ | refine thenQ_n ?_ | refine thenQ_r ?_ | refine thenQ_e ?_ | refine blockQ_n ?_ | refine blockQ_r ?_ | refine blockQ_s rfl ?_ | refine blockQ_o rfl ?_ | refine ret1_i rfl ?_ | refine ret1_b rfl ?_ | refine ret1_p rfl ?_ | refine ret1_s rfl ?_ | refine ret1_e rfl ?_ | refine ret1_a rfl ?_ | refine ret1_o rfl ?_ | refine ret1n_i rfl ?_ | refine ret1n_b rfl ?_ | refine ret1n_p rfl ?_ | refine ret1n_s rfl ?_ | refine ret1n_o rfl ?_)
    rw [List.take_of_length_le (by omega)] at hn
    refine ⟨?_, S.chg.below⟩
    unfold idxI
    rw [hn]
    rfl
theorem contains_at (hI : ∀ w w', I w → Below w.heap.size w w' → I w') (hf : ∀ x w, I w → Calls Try.prog f ([] ++ [Value.int .i64 x] ++ l2).toArray w fun e w' => e = .returned (.bool (p x)) ∧ Below w.heap.size w w')
    (a : Option Addr) (cap : Nat) (zs : List Int) (w0 : World) (hi : I w0) (hs : SlOk w0 a zs.length cap 1 (gL encI 0 zs)) :
    Calls Try.prog 54 #[.slice a zs.length cap, .func (.func f) #[] l2.toArray] w0 fun e w' => e = .returned (.bool (zs.any p)) ∧ Below w0.heap.size w0 w' := by
  have S := Sat.reads (r := slL a cap 1 encI 0 zs) hs
  refine enter1 Try.func54 rfl Try.ntmps54 rfl Try.results54 ?_
  repeat' (first | refine assign_b_l S rfl rfl ?_ | refine move_s_l S rfl rfl ?_ | (refine geq_l S rfl rfl rfl ?_ ?_ <;> intro hcmp <;> try (exfalso; first | omega | exact hcmp (by decide) | exact absurd hcmp (by decide))) | refine nilL ?_ | refine run_seq ?_ | refine run_skip ?_ | refine run_region ?_ | refine move_o_l S rfl rfl ?_ | refine run_block ?_ | refine run_ret ?_ | refine run_exit ?_ | refine run_cond_true rfl ?_ | refine run_cond_false rfl ?_ | refine thenQ_n ?_ | refine thenQ_r ?_ | refine thenQ_e ?_ | refine blockQ_n ?_ | refine blockQ_r ?_ | refine blockQ_s rfl ?_ | refine blockQ_o rfl ?_ | refine ret1_i rfl ?_ | refine ret1_b rfl ?_ | refine ret1_p rfl ?_ | refine ret1_s rfl ?_ | refine ret1_e rfl ?_ | refine ret1_a rfl ?_ | refine ret1_o rfl ?_ | refine ret1n_i rfl ?_ | refine ret1n_b rfl ?_ | refine ret1n_p rfl ?_ | refine ret1n_s rfl ?_ | refine ret1n_o rfl ?_)
  refine callL (index_at hI hf a cap zs w0 hi hs) rfl rfl ?_
  rintro e w' ⟨rfl, hb⟩
  replace S := S.below hb
  clear hb
  have hr := idxI_le p zs
  obtain ⟨r, hrr⟩ : ∃ r, idxI p zs = r := ⟨_, rfl⟩
  rw [hrr] at hr ⊢
  refine ⟨_, rfl, ?_⟩
  repeat' (first | refine assign_b_l S rfl rfl ?_ | refine move_s_l S rfl rfl ?_ | (refine geq_l S rfl rfl rfl ?_ ?_ <;> intro hcmp <;> try (exfalso; first | omega | exact hcmp (by decide) | exact absurd hcmp (by decide))) | refine nilL ?_ | refine run_seq ?_ | refine run_skip ?_ | refine run_region ?_ | refine move_o_l S rfl rfl ?_ | refine run_block ?_ | refine run_ret ?_ | refine run_exit ?_ | refine run_cond_true rfl ?_ | refine run_cond_false rfl ?_ | refine thenQ_n ?_ | refine thenQ_r ?_ | refine thenQ_e ?_ | refine blockQ_n ?_ | refine blockQ_r ?_ | refine blockQ_s rfl ?_ | refine blockQ_o rfl ?_ | refine ret1_i rfl ?_ | refine ret1_b rfl ?_ | refine ret1_p rfl ?_ | refine ret1_s rfl ?_ | refine ret1_e rfl ?_ | refine ret1_a rfl ?_ | refine ret1_o rfl ?_ | refine ret1n_i rfl ?_ | refine ret1n_b rfl ?_ | refine ret1n_p rfl ?_ | refine ret1n_s rfl ?_ | refine ret1n_o rfl ?_)
  · rw [← hr, decide_eq_true hcmp]; exact ⟨rfl, S.chg.below⟩
  · rw [← hr, decide_eq_false hcmp]; exact ⟨rfl, S.chg.below⟩
end
end Go.Proofs.Ytnnkegmiefpgpaa
namespace Go.Proofs.Ytnnkegmiefpgpaa
open Go.RowKit Go.Lib
set_option linter.unusedVariables false
set_option maxHeartbeats 2000000
section
variable {S : Nat → Prop} {w₀ : World} {L : List Res}
variable {P : Program} {ops : Array Oper} {n : Nat} {rest : List Oper} {t : Tm} {w : World} {K : Tm → World → Prop} {d : Nat} {ty : TypeId} {pos : String} {af : Array Edge}
/-- clear(s[i:]), nothing told of what is cleared. -/
theorem clearSuf_l (hS : Sat S w₀ w L) {T : TypeId} {e e' : Nat} [hT : TySl P T e' 1] {k : IntKind} {z : Int} [hz : TyZ P e' (.int k z)] {x : Operand} {a : Option Addr} {len cap i m c : Nat} {g : Nat → Nat → Value} {f : Res → List Res} [hp : PickR L a len cap e 1 g f]
    (hx : ev t x = .slice (subA a i cap 1) m c) (hm : i + m = len)
    (kk : ∀ w', Sat S w₀ w' (f (row a i cap e 1 g)) → RunL P ops n rest t w' K) : RunL P ops n (⟨none, .call ⟨.builtin .clear, #[x], #[T]⟩, ty, pos, af, none⟩ :: rest) t w K := by
  have hp1 := hp.pick
  have hr : RowOk w a len cap e 1 g := hS.holds (r := row a len cap e 1 g)
  have exec : ∀ w', (Builtin.clear_ #[T] ty #[.slice (subA a i cap 1) m c]).run P w = .ok (.tuple #[]) w' → Sat S w₀ w' (f (row a i cap e 1 g)) → RunL P ops n (⟨none, .call ⟨.builtin .clear, #[x], #[T]⟩, ty, pos, af, none⟩ :: rest) t w K := by
    intro w' hrun hsat
    refine dropL (v := .tuple #[]) rfl rfl ?_ (kk w' hsat)
    rw [BigFrame.execOp_builtin, show Array.map (ev t) #[x] = #[.slice (subA a i cap 1) m c] from by simp [hx]]
    show Sem.run P (do pure (Next.value (← Builtin.clear_ #[T] ty #[.slice (subA a i cap 1) m c]))) w = _
    rw [Sem.run_bind, hrun]
    rfl
  obtain ⟨h0, h⟩ := hr
  by_cases hz0 : m = 0
  · subst hz0
    refine exec w ?_ ?_
    · cases hsub : subA a i cap 1 with
      | none => simp [Builtin.clear_, run_underlying hT.eq]
      | some p => simp [Builtin.clear_, run_underlying hT.eq]
    · have : i = len := by omega
      subst this
      exact hS.turn (r := row a i cap e 1 g) ⟨h0, h⟩ rfl (fun k e => e)
  · rcases h with ⟨_, hl, _⟩ | ⟨b, cur, rfl, r1, r2, r3, r4, r5⟩
    · omega
    · have ea : subA (some ⟨b, 0, none⟩) i cap 1 = some ⟨b, i, none⟩ := by
        rw [subA_eq, if_neg (by omega)]; simp [Addr.add_lit]
      rw [ea] at exec
      have hcl : (Builtin.zeroCells (Value.cells (.int k z)) m).toList.length = m := by simp [Builtin.zeroCells, Value.cells]
      have hone : ∀ v ∈ (Builtin.zeroCells (Value.cells (.int k z)) m).toList, v.oneCell' = true := fun v hv => by
        simp only [Builtin.zeroCells, Value.cells, Array.toList_map, List.mem_map] at hv
        obtain ⟨q, _, rfl⟩ := hv
        have : q % (#[Value.int k z] : Array Value).size = 0 := by simp; omega
        rw [this]
        rfl
      have hst := run_storeCells_at P b i e (Builtin.zeroCells (Value.cells (.int k z)) m).toList 0 cur w r1 (by rw [hcl, r4]; omega) hone
      simp only [Nat.add_zero] at hst
      refine exec (w.setRow b (cur.toList.take i ++ (Builtin.zeroCells (Value.cells (.int k z)) m).toList ++ cur.toList.drop (i + (Builtin.zeroCells (Value.cells (.int k z)) m).toList.length)).toArray) ?_ ?_
      · clear exec kk
        obtain ⟨m', rfl⟩ : ∃ m', m = m' + 1 := ⟨m - 1, by omega⟩
        simp [Builtin.clear_, run_underlying hT.eq, hz.run, hst, Result.andThen]
      · refine hS.swap (r := row (some ⟨b, 0, none⟩) len cap e 1 g) rfl ?_ ?_ rfl (fun k e => .inl e)
        · exact ⟨rfl, rfl, rfl, by simp [World.setRow], fun k hk hn => setRow_other w b k _ (fun e => hn ⟨_, rfl, e.symm⟩)⟩
        · refine ⟨h0, .inr ⟨b, _, rfl, setRow_heap w b cur _ e _ r1, by omega, r3, ?_, fun i' hi' j hj => ?_⟩⟩
          · simp only [List.size_toArray, List.length_append, List.length_take, List.length_drop, Array.length_toList, hcl]
            omega
          · obtain rfl : j = 0 := by omega
            have := r5 i' (by omega) 0 (by omega)
            rw [List.getElem?_toArray, List.append_assoc, List.getElem?_append_left (by rw [List.length_take, Array.length_toList]; omega), List.getElem?_take, if_pos (by omega), Array.getElem?_toList]
            exact this
end
section
variable {f : FuncId} [FnOk Try.prog f] {l2 : List Value} {p : Int → Bool}
theorem dropP_succ {zs : List Int} {q : Nat} (h : q < zs.length) : ((zs.take (q + 1)).filter fun z => !p z) = ((zs.take q).filter fun z => !p z) ++ (if p (zs.getD q 0) = true then [] else [zs.getD q 0]) := by
  rw [List.take_succ_eq_append_getElem h, List.filter_append, List.getD_eq_getElem?_getD, List.getElem?_eq_getElem h]
  cases hp : p zs[q] <;> simp [hp]
theorem deleteFunc_at {Lro : List Res} (hf : ∀ x w, Sat (fun _ => False) w w Lro → Calls Try.prog f ([] ++ [Value.int .i64 x] ++ l2).toArray w fun e w' => e = .returned (.bool (p x)) ∧ Below w.heap.size w w')
    (hro : Lro.all (·.ro) = true) (a : Option Addr) (cap : Nat) (zs : List Int) (w0 : World) (S : Sat (fun k => ∃ x, a = some x ∧ x.block = k) w0 w0 (rowL a cap 3 1 encI 0 zs :: Lro)) :
    Calls Try.prog 57 #[.slice a zs.length cap, .func (.func f) #[] l2.toArray] w0 fun e w' => e = .returned (.slice a (zs.filter fun z => !p z).length cap) ∧ RowOk w' a (zs.filter fun z => !p z).length cap 3 1 (gL encI 0 (zs.filter fun z => !p z)) ∧ Chg (fun k => ∃ x, a = some x ∧ x.block = k) w0 w' := by
  have hlro : ∀ {S' : Nat → Prop} {w : World} {x : Res}, Sat S' w0 w (x :: Lro) → Sat (fun _ => False) w w Lro := fun h => ⟨Chg.refl _ _, fun r hr => h.all r (by simp [hr]), (List.pairwise_cons.1 h.sep).2, fun r hr hx => by have := List.all_eq_true.1 hro r hr; rw [hx] at this; cases this⟩
  have hreb : ∀ w w', Sat (fun _ => False) w w Lro → Below w.heap.size w w' → Sat (fun _ => False) w' w' Lro := fun w w' h hb => ⟨Chg.refl _ _, fun r hr => (h.below hb).all r hr, h.sep, fun r hr hx => by have := List.all_eq_true.1 hro r hr; rw [hx] at this; cases this⟩
  have hm := (RowOk.sl (S.got1)).small
  have hcap : zs.length ≤ cap := (RowOk.sl (S.got1)).2.1
  refine enter1 Try.func57 rfl Try.ntmps57 rfl Try.results57 ?_
  repeat' (first | refine move_i_l S rfl rfl ?_ | refine move_s_l S rfl rfl ?_ | refine assign_i_l S rfl rfl ?_ | refine nilL ?_ | refine run_seq ?_ | refine run_skip ?_ | refine run_region ?_ | refine assign_s_l S rfl rfl ?_ | refine add_l S rfl rfl (wrap_in (by omega)) rfl ?_ | refine add_l S rfl rfl rfl rfl ?_ | refine indexAddr_l S rfl rfl (idx_cast _) (by first | omega | decide | (simp; done) | (simp; omega)) rfl ?_ | refine indexAddr_l S rfl rfl (idx_eq _) (by first | omega | decide | (simp; done) | (simp; omega)) rfl ?_ | (refine eql_l S rfl rfl rfl ?_ ?_ <;> intro hcmp <;> try (exfalso; first | omega | exact hcmp (by decide) | exact absurd hcmp (by decide))) | refine len_l S rfl rfl ?_ | (refine lss_l S rfl rfl rfl ?_ ?_ <;> intro hcmp <;> try (exfalso; first | omega | exact hcmp (by decide) | exact absurd hcmp (by decide))) | refine load_i_l S rfl rfl rfl rfl ?_ | refine loadE_i_l S rfl (by first | omega | decide | (simp; done) | (simp; omega)) rfl rfl rfl ?_ | refine not_l S rfl rfl ?_ | (refine store_i S rfl rfl rfl ?_; clear S; intro w S) | (refine storeE_i S rfl rfl (by omega) rfl ?_; clear S; intro w S) | refine sliceSuf_l S rfl rfl (by omega) rfl ?_ | refine slicePre_l S rfl rfl (by omega) rfl ?_ | refine move_o_l S rfl rfl ?_ | refine load_o_l S rfl rfl rfl rfl ?_ | refine loadE_o_l S rfl (by first | omega | decide | (simp; done) | (simp; omega)) rfl rfl rfl ?_ | refine run_block ?_ | refine run_ret ?_ | refine run_exit ?_ | refine run_cond_true rfl ?_ | refine run_cond_false rfl ?_ | refine thenQ_n ?_ | refine thenQ_r ?_ | refine thenQ_e ?_ | refine blockQ_n ?_ | refine blockQ_r ?_ | refine blockQ_s rfl ?_ | refine blockQ_o rfl ?_ | refine ret1_i rfl ?_ | refine ret1_b rfl ?_ | refine ret1_p rfl ?_ | refine ret1_s rfl ?_ | refine ret1_e rfl ?_ | refine ret1_a rfl ?_ | refine ret1_o rfl ?_ | refine ret1n_i rfl ?_ | refine ret1n_b rfl ?_ | refine ret1n_p rfl ?_ | refine ret1n_s rfl ?_ | refine ret1n_o rfl ?_)
  refine callL (index_at (f := f) (l2 := l2) (p := p) (I := fun w => Sat (fun _ => False) w w Lro) hreb hf a cap zs _ (hlro S) (RowOk.sl S.got1)) rfl rfl ?_
  rintro e w ⟨rfl, hb⟩
  replace S := S.below hb
  clear hb
  refine ⟨_, rfl, ?_⟩
  by_cases hany : zs.any p = true
  · have hi : idxI p zs = (zs.findIdx p : Nat) := if_pos hany
    have hlt : zs.findIdx p < zs.length := List.findIdx_lt_length_of_exists (by simpa using hany)
    have hpre : ((zs.take (zs.findIdx p + 1)).filter fun z => !p z) = zs.take (zs.findIdx p) := by
      rw [dropP_succ hlt]
      have h1 : p (zs.getD (zs.findIdx p) 0) = true := by
        rw [List.getD_eq_getElem?_getD, List.getElem?_eq_getElem hlt]; exact List.findIdx_getElem
      rw [if_pos h1, List.append_nil, List.filter_eq_self]
      intro z hz
      obtain ⟨j, hj, rfl⟩ := List.mem_take_iff_getElem.1 hz
      have := List.not_of_lt_findIdx (show j < zs.findIdx p by omega)
      simpa using this
    rw [hi]
    generalize zs.findIdx p = i0 at *
    repeat' (first | refine move_i_l S rfl rfl ?_ | refine move_s_l S rfl rfl ?_ | refine assign_i_l S rfl rfl ?_ | refine nilL ?_ | refine run_seq ?_ | refine run_skip ?_ | refine run_region ?_ | refine assign_s_l S rfl rfl ?_ | refine add_l S rfl rfl (wrap_in (by omega)) rfl ?_ | refine add_l S rfl rfl rfl rfl ?_ | refine indexAddr_l S rfl rfl (idx_cast _) (by first | omega | decide | (simp; done) | (simp; omega)) rfl ?_ | refine indexAddr_l S rfl rfl (idx_eq _) (by first | omega | decide | (simp; done) | (simp; omega)) rfl ?_ | (refine eql_l S rfl rfl rfl ?_ ?_ <;> intro hcmp <;> try (exfalso; first | omega | exact hcmp (by decide) | exact absurd hcmp (by decide))) | refine len_l S rfl rfl ?_ | (refine lss_l S rfl rfl rfl ?_ ?_ <;> intro hcmp <;> try (exfalso; first | omega | exact hcmp (by decide) | exact absurd hcmp (by decide))) | refine load_i_l S rfl rfl rfl rfl ?_ | refine loadE_i_l S rfl (by first | omega | decide | (simp; done) | (simp; omega)) rfl rfl rfl ?_ | refine not_l S rfl rfl ?_ | (refine store_i S rfl rfl rfl ?_; clear S; intro w S) | (refine storeE_i S rfl rfl (by omega) rfl ?_; clear S; intro w S) | refine sliceSuf_l S rfl rfl (by omega) rfl ?_ | refine slicePre_l S rfl rfl (by omega) rfl ?_ | refine move_o_l S rfl rfl ?_ | refine load_o_l S rfl rfl rfl rfl ?_ | refine loadE_o_l S rfl (by first | omega | decide | (simp; done) | (simp; omega)) rfl rfl rfl ?_ | refine run_block ?_ | refine run_ret ?_ | refine run_exit ?_ | refine run_cond_true rfl ?_ | refine run_cond_false rfl ?_ | refine thenQ_n ?_ | refine thenQ_r ?_ | refine thenQ_e ?_ | refine blockQ_n ?_ | refine blockQ_r ?_ | refine blockQ_s rfl ?_ | refine blockQ_o rfl ?_ | refine ret1_i rfl ?_ | refine ret1_b rfl ?_ | refine ret1_p rfl ?_ | refine ret1_s rfl ?_ | refine ret1_e rfl ?_ | refine ret1_a rfl ?_ | refine ret1_o rfl ?_ | refine ret1n_i rfl ?_ | refine ret1n_b rfl ?_ | refine ret1n_p rfl ?_ | refine ret1n_s rfl ?_ | refine ret1n_o rfl ?_)
    refine run_while [7, 16, 17, 18, 19, 20, 21, 22, 23, 24, 25, 26, 27, 28, 29, 30, 31, 32, 33, 34, 35] (fun (q : Nat × List Int) t => upd (upd t 6 (.int .i64 q.1)) 5 (.int .i64 ((zs.take q.1).filter fun z => !p z).length)) (fun q w' => i0 + 1 ≤ q.1 ∧ q.1 ≤ zs.length ∧ q.2.length = zs.length ∧ q.2.take ((zs.take q.1).filter fun z => !p z).length = ((zs.take q.1).filter fun z => !p z) ∧ q.2.drop q.1 = zs.drop q.1 ∧ Sat (fun k => ∃ x, a = some x ∧ x.block = k) w0 w' (row a zs.length cap 3 1 (gL encI 0 q.2) :: Lro)) (fun q => zs.length - q.1) (i0 + 1, zs) ?_ ?_ ?_
    · rw [hpre, List.length_take, Nat.min_eq_left (by omega), Int.natCast_add]
      (repeat (first | exact agree_refl | refine agree_r rfl ?_ | refine agree_l rfl ?_ | refine agree_hv rfl ?_))
    · refine ⟨Nat.le_refl _, by omega, rfl, ?_, rfl, S⟩
      rw [hpre, List.length_take, Nat.min_eq_left (by omega)]
    clear S
    rintro ⟨q, c⟩ j w ⟨h1, h2, h3, h4, h5, S⟩
    replace h1 : i0 + 1 ≤ q := h1
    replace h2 : q ≤ zs.length := h2
    replace h3 : c.length = zs.length := h3
    replace h4 : c.take ((zs.take q).filter fun z => !p z).length = ((zs.take q).filter fun z => !p z) := h4
    replace h5 : c.drop q = zs.drop q := h5
    replace S : Sat (fun k => ∃ x, a = some x ∧ x.block = k) w0 w (row a zs.length cap 3 1 (gL encI 0 c) :: Lro) := S
    dsimp only
    have hle : ((zs.take q).filter fun z => !p z).length ≤ q := Nat.le_trans (List.length_filter_le _ _) (by rw [List.length_take]; omega)
    by_cases hq : q < zs.length
    · have hsucc := dropP_succ (p := p) hq
      have hcq : c.getD q 0 = zs.getD q 0 := by
        have e1 : (c.drop q)[0]? = (zs.drop q)[0]? := by rw [h5]
        rw [List.getElem?_drop, List.getElem?_drop, Nat.add_zero] at e1
        rw [List.getD_eq_getElem?_getD, List.getD_eq_getElem?_getD, e1]
      repeat' (first | refine move_i_l S rfl rfl ?_ | refine move_s_l S rfl rfl ?_ | refine assign_i_l S rfl rfl ?_ | refine nilL ?_ | refine run_seq ?_ | refine run_skip ?_ | refine run_region ?_ | refine assign_s_l S rfl rfl ?_ | refine add_l S rfl rfl (wrap_in (by omega)) rfl ?_ | refine add_l S rfl rfl rfl rfl ?_ | refine indexAddr_l S rfl rfl (idx_cast _) (by first | omega | decide | (simp; done) | (simp; omega)) rfl ?_ | refine indexAddr_l S rfl rfl (idx_eq _) (by first | omega | decide | (simp; done) | (simp; omega)) rfl ?_ | (refine eql_l S rfl rfl rfl ?_ ?_ <;> intro hcmp <;> try (exfalso; first | omega | exact hcmp (by decide) | exact absurd hcmp (by decide))) | refine len_l S rfl rfl ?_ | (refine lss_l S rfl rfl rfl ?_ ?_ <;> intro hcmp <;> try (exfalso; first | omega | exact hcmp (by decide) | exact absurd hcmp (by decide))) | refine load_i_l S rfl rfl rfl rfl ?_ | refine loadE_i_l S rfl (by first | omega | decide | (simp; done) | (simp; omega)) rfl rfl rfl ?_ | refine not_l S rfl rfl ?_ | (refine store_i S rfl rfl rfl ?_; clear S; intro w S) | (refine storeE_i S rfl rfl (by omega) rfl ?_; clear S; intro w S) | refine sliceSuf_l S rfl rfl (by omega) rfl ?_ | refine slicePre_l S rfl rfl (by omega) rfl ?_ | refine move_o_l S rfl rfl ?_ | refine load_o_l S rfl rfl rfl rfl ?_ | refine loadE_o_l S rfl (by first | omega | decide | (simp; done) | (simp; omega)) rfl rfl rfl ?_ | refine run_block ?_ | refine run_ret ?_ | refine run_exit ?_ | refine run_cond_true rfl ?_ | refine run_cond_false rfl ?_ | refine thenQ_n ?_ | refine thenQ_r ?_ | refine thenQ_e ?_ | refine blockQ_n ?_ | refine blockQ_r ?_ | refine blockQ_s rfl ?_ | refine blockQ_o rfl ?_ | refine ret1_i rfl ?_ | refine ret1_b rfl ?_ | refine ret1_p rfl ?_ | refine ret1_s rfl ?_ | refine ret1_e rfl ?_ | refine ret1_a rfl ?_ | refine ret1_o rfl ?_ | refine ret1n_i rfl ?_ | refine ret1n_b rfl ?_ | refine ret1n_p rfl ?_ | refine ret1n_s rfl ?_ | refine ret1n_o rfl ?_)
      refine callV (f := f) (l1 := []) (l2 := l2) (l := [.int .i64 (c.getD q 0)]) rfl (hf (c.getD q 0) _ (hlro S)) rfl rfl ?_
      rintro e w ⟨rfl, hb⟩
      replace S := S.below hb
      clear hb
      refine ⟨_, rfl, ?_⟩
      rw [hcq]
      cases hp : p (zs.getD q 0) with
      | true =>
        rw [hp, if_pos rfl, List.append_nil] at hsucc
        repeat' (first | refine move_i_l S rfl rfl ?_ | refine move_s_l S rfl rfl ?_ | refine assign_i_l S rfl rfl ?_ | refine nilL ?_ | refine run_seq ?_ | refine run_skip ?_ | refine run_region ?_ | refine assign_s_l S rfl rfl ?_ | refine add_l S rfl rfl (wrap_in (by omega)) rfl ?_ | refine add_l S rfl rfl rfl rfl ?_ | refine indexAddr_l S rfl rfl (idx_cast _) (by first | omega | decide | (simp; done) | (simp; omega)) rfl ?_ | refine indexAddr_l S rfl rfl (idx_eq _) (by first | omega | decide | (simp; done) | (simp; omega)) rfl ?_ | (refine eql_l S rfl rfl rfl ?_ ?_ <;> intro hcmp <;> try (exfalso; first | omega | exact hcmp (by decide) | exact absurd hcmp (by decide))) | refine len_l S rfl rfl ?_ | (refine lss_l S rfl rfl rfl ?_ ?_ <;> intro hcmp <;> try (exfalso; first | omega | exact hcmp (by decide) | exact absurd hcmp (by decide))) | refine load_i_l S rfl rfl rfl rfl ?_ | refine loadE_i_l S rfl (by first | omega | decide | (simp; done) | (simp; omega)) rfl rfl rfl ?_ | refine not_l S rfl rfl ?_ | (refine store_i S rfl rfl rfl ?_; clear S; intro w S) | (refine storeE_i S rfl rfl (by omega) rfl ?_; clear S; intro w S) | refine sliceSuf_l S rfl rfl (by omega) rfl ?_ | refine slicePre_l S rfl rfl (by omega) rfl ?_ | refine move_o_l S rfl rfl ?_ | refine load_o_l S rfl rfl rfl rfl ?_ | refine loadE_o_l S rfl (by first | omega | decide | (simp; done) | (simp; omega)) rfl rfl rfl ?_ | refine run_block ?_ | refine run_ret ?_ | refine run_exit ?_ | refine run_cond_true rfl ?_ | refine run_cond_false rfl ?_ | refine thenQ_n ?_ | refine thenQ_r ?_ | refine thenQ_e ?_ | refine blockQ_n ?_ | refine blockQ_r ?_ | refine blockQ_s rfl ?_ | refine blockQ_o rfl ?_ | refine ret1_i rfl ?_ | refine ret1_b rfl ?_ | refine ret1_p rfl ?_ | refine ret1_s rfl ?_ | refine ret1_e rfl ?_ | refine ret1_a rfl ?_ | refine ret1_o rfl ?_ | refine ret1n_i rfl ?_ | refine ret1n_b rfl ?_ | refine ret1n_p rfl ?_ | refine ret1n_s rfl ?_ | refine ret1n_o rfl ?_)
        refine ⟨(q + 1, c), ?_, ⟨by show i0 + 1 ≤ q + 1; omega, by show q + 1 ≤ _; omega, h3, ?_, ?_, S⟩, by show zs.length - (q + 1) < zs.length - q; omega⟩
        · rw [hsucc, Int.natCast_add]
          (repeat (first | exact agree_refl | refine agree_r rfl ?_ | refine agree_l rfl ?_ | refine agree_hv rfl ?_))
        · show c.take ((zs.take (q + 1)).filter fun z => !p z).length = ((zs.take (q + 1)).filter fun z => !p z)
          rw [hsucc]; exact h4
        · show c.drop (q + 1) = zs.drop (q + 1)
          rw [← List.drop_drop, ← List.drop_drop, h5]
      | false =>
        rw [hp, if_neg (by decide)] at hsucc
        have hlc : ((zs.take q).filter fun z => !p z).length < zs.length := by omega
        repeat' (first | refine move_i_l S rfl rfl ?_ | refine move_s_l S rfl rfl ?_ | refine assign_i_l S rfl rfl ?_ | refine nilL ?_ | refine run_seq ?_ | refine run_skip ?_ | refine run_region ?_ | refine assign_s_l S rfl rfl ?_ | refine add_l S rfl rfl (wrap_in (by omega)) rfl ?_ | refine add_l S rfl rfl rfl rfl ?_ | refine indexAddr_l S rfl rfl (idx_cast _) (by first | omega | decide | (simp; done) | (simp; omega)) rfl ?_ | refine indexAddr_l S rfl rfl (idx_eq _) (by first | omega | decide | (simp; done) | (simp; omega)) rfl ?_ | (refine eql_l S rfl rfl rfl ?_ ?_ <;> intro hcmp <;> try (exfalso; first | omega | exact hcmp (by decide) | exact absurd hcmp (by decide))) | refine len_l S rfl rfl ?_ | (refine lss_l S rfl rfl rfl ?_ ?_ <;> intro hcmp <;> try (exfalso; first | omega | exact hcmp (by decide) | exact absurd hcmp (by decide))) | refine load_i_l S rfl rfl rfl rfl ?_ | refine loadE_i_l S rfl (by first | omega | decide | (simp; done) | (simp; omega)) rfl rfl rfl ?_ | refine not_l S rfl rfl ?_ | (refine store_i S rfl rfl rfl ?_; clear S; intro w S) | (refine storeE_i S rfl rfl (by omega) rfl ?_; clear S; intro w S) | refine sliceSuf_l S rfl rfl (by omega) rfl ?_ | refine slicePre_l S rfl rfl (by omega) rfl ?_ | refine move_o_l S rfl rfl ?_ | refine load_o_l S rfl rfl rfl rfl ?_ | refine loadE_o_l S rfl (by first | omega | decide | (simp; done) | (simp; omega)) rfl rfl rfl ?_ | refine run_block ?_ | refine run_ret ?_ | refine run_exit ?_ | refine run_cond_true rfl ?_ | refine run_cond_false rfl ?_ | refine thenQ_n ?_ | refine thenQ_r ?_ | refine thenQ_e ?_ | refine blockQ_n ?_ | refine blockQ_r ?_ | refine blockQ_s rfl ?_ | refine blockQ_o rfl ?_ | refine ret1_i rfl ?_ | refine ret1_b rfl ?_ | refine ret1_p rfl ?_ | refine ret1_s rfl ?_ | refine ret1_e rfl ?_ | refine ret1_a rfl ?_ | refine ret1_o rfl ?_ | refine ret1n_i rfl ?_ | refine ret1n_b rfl ?_ | refine ret1n_p rfl ?_ | refine ret1n_s rfl ?_ | refine ret1n_o rfl ?_)
        replace S := S.reRow (a := a) (len := zs.length) (g' := gL encI 0 (c.set ((zs.take q).filter fun z => !p z).length (zs.getD q 0))) (fun i hi j hj => by
          have h := encI_set2 c ((zs.take q).filter fun z => !p z).length (zs.getD q 0) (by omega) i (by omega) j hj
          exact h)
        refine ⟨(q + 1, c.set ((zs.take q).filter fun z => !p z).length (zs.getD q 0)), ?_, ⟨by show i0 + 1 ≤ q + 1; omega, by show q + 1 ≤ _; omega, by simpa using h3, ?_, ?_, S⟩, by show zs.length - (q + 1) < zs.length - q; omega⟩
        · rw [hsucc, List.length_append, List.length_singleton, Int.natCast_add, Int.natCast_add]
          (repeat (first | exact agree_refl | refine agree_r rfl ?_ | refine agree_l rfl ?_ | refine agree_hv rfl ?_))
        · show (c.set _ _).take ((zs.take (q + 1)).filter fun z => !p z).length = ((zs.take (q + 1)).filter fun z => !p z)
          rw [hsucc, List.length_append, List.length_singleton, List.take_succ_eq_append_getElem (by simp; omega), List.take_set_of_le (Nat.le_refl _), h4]
          try simp
        · show (c.set _ _).drop (q + 1) = zs.drop (q + 1)
          rw [List.drop_set_of_lt (by omega), ← List.drop_drop, ← List.drop_drop, h5]
    · have hqe : q = zs.length := by omega
      subst hqe
      rw [List.take_length] at h4 hle
      rw [List.take_length]
      have hcapl : (zs.filter fun z => !p z).length ≤ zs.length := List.length_filter_le _ _
      repeat' (first | refine move_i_l S rfl rfl ?_ | refine move_s_l S rfl rfl ?_ | refine assign_i_l S rfl rfl ?_ | refine nilL ?_ | refine run_seq ?_ | refine run_skip ?_ | refine run_region ?_ | refine assign_s_l S rfl rfl ?_ | refine add_l S rfl rfl (wrap_in (by omega)) rfl ?_ | refine add_l S rfl rfl rfl rfl ?_ | refine indexAddr_l S rfl rfl (idx_cast _) (by first | omega | decide | (simp; done) | (simp; omega)) rfl ?_ | refine indexAddr_l S rfl rfl (idx_eq _) (by first | omega | decide | (simp; done) | (simp; omega)) rfl ?_ | (refine eql_l S rfl rfl rfl ?_ ?_ <;> intro hcmp <;> try (exfalso; first | omega | exact hcmp (by decide) | exact absurd hcmp (by decide))) | refine len_l S rfl rfl ?_ | (refine lss_l S rfl rfl rfl ?_ ?_ <;> intro hcmp <;> try (exfalso; first | omega | exact hcmp (by decide) | exact absurd hcmp (by decide))) | refine load_i_l S rfl rfl rfl rfl ?_ | refine loadE_i_l S rfl (by first | omega | decide | (simp; done) | (simp; omega)) rfl rfl rfl ?_ | refine not_l S rfl rfl ?_ | (refine store_i S rfl rfl rfl ?_; clear S; intro w S) | (refine storeE_i S rfl rfl (by omega) rfl ?_; clear S; intro w S) | refine sliceSuf_l S rfl rfl (by omega) rfl ?_ | refine slicePre_l S rfl rfl (by omega) rfl ?_ | refine move_o_l S rfl rfl ?_ | refine load_o_l S rfl rfl rfl rfl ?_ | refine loadE_o_l S rfl (by first | omega | decide | (simp; done) | (simp; omega)) rfl rfl rfl ?_ | refine run_block ?_ | refine run_ret ?_ | refine run_exit ?_ | refine run_cond_true rfl ?_ | refine run_cond_false rfl ?_ | refine thenQ_n ?_ | refine thenQ_r ?_ | refine thenQ_e ?_ | refine blockQ_n ?_ | refine blockQ_r ?_ | refine blockQ_s rfl ?_ | refine blockQ_o rfl ?_ | refine ret1_i rfl ?_ | refine ret1_b rfl ?_ | refine ret1_p rfl ?_ | refine ret1_s rfl ?_ | refine ret1_e rfl ?_ | refine ret1_a rfl ?_ | refine ret1_o rfl ?_ | refine ret1n_i rfl ?_ | refine ret1n_b rfl ?_ | refine ret1n_p rfl ?_ | refine ret1n_s rfl ?_ | refine ret1n_o rfl ?_)
      refine clearSuf_l (k := .i64) (z := 0) S rfl (by omega) ?_
      clear S
      intro w S
      repeat' (first | refine move_i_l S rfl rfl ?_ | refine move_s_l S rfl rfl ?_ | refine assign_i_l S rfl rfl ?_ | refine nilL ?_ | refine run_seq ?_ | refine run_skip ?_ | refine run_region ?_ | refine assign_s_l S rfl rfl ?_ | refine add_l S rfl rfl (wrap_in (by omega)) rfl ?_ | refine add_l S rfl rfl rfl rfl ?_ | refine indexAddr_l S rfl rfl (idx_cast _) (by first | omega | decide | (simp; done) | (simp; omega)) rfl ?_ | refine indexAddr_l S rfl rfl (idx_eq _) (by first | omega | decide | (simp; done) | (simp; omega)) rfl ?_ | (refine eql_l S rfl rfl rfl ?_ ?_ <;> intro hcmp <;> try (exfalso; first | omega | exact hcmp (by decide) | exact absurd hcmp (by decide))) | refine len_l S rfl rfl ?_ | (refine lss_l S rfl rfl rfl ?_ ?_ <;> intro hcmp <;> try (exfalso; first | omega | exact hcmp (by decide) | exact absurd hcmp (by decide))) | refine load_i_l S rfl rfl rfl rfl ?_ | refine loadE_i_l S rfl (by first | omega | decide | (simp; done) | (simp; omega)) rfl rfl rfl ?_ | refine not_l S rfl rfl ?_ | (refine store_i S rfl rfl rfl ?_; clear S; intro w S) | (refine storeE_i S rfl rfl (by omega) rfl ?_; clear S; intro w S) | refine sliceSuf_l S rfl rfl (by omega) rfl ?_ | refine slicePre_l S rfl rfl (by omega) rfl ?_ | refine move_o_l S rfl rfl ?_ | refine load_o_l S rfl rfl rfl rfl ?_ | refine loadE_o_l S rfl (by first | omega | decide | (simp; done) | (simp; omega)) rfl rfl rfl ?_ | refine run_block ?_ | refine run_ret ?_ | refine run_exit ?_ | refine run_cond_true rfl ?_ | refine run_cond_false rfl ?_ | refine thenQ_n ?_ | refine thenQ_r ?_ | refine thenQ_e ?_ | refine blockQ_n ?_ | refine blockQ_r ?_ | refine blockQ_s rfl ?_ | refine blockQ_o rfl ?_ | refine ret1_i rfl ?_ | refine ret1_b rfl ?_ | refine ret1_p rfl ?_ | refine ret1_s rfl ?_ | refine ret1_e rfl ?_ | refine ret1_a rfl ?_ | refine ret1_o rfl ?_ | refine ret1n_i rfl ?_ | refine ret1n_b rfl ?_ | refine ret1n_p rfl ?_ | refine ret1n_s rfl ?_ | refine ret1n_o rfl ?_)
      have hg : ∀ i, i < (zs.filter fun z => !p z).length → ∀ j, j < 1 → gL encI 0 c i j = gL encI 0 (zs.filter fun z => !p z) i j := fun i hi j hj => by
        show encI (c.getD i 0) j = encI ((zs.filter fun z => !p z).getD i 0) j
        have e1 : ((zs.filter fun z => !p z))[i]? = c[i]? := by
          rw [← h4, List.getElem?_take, if_pos hi]
        rw [List.getD_eq_getElem?_getD, List.getD_eq_getElem?_getD, e1]
      exact ⟨rfl, RowOk.congr S.got1 hg, S.chg⟩
  · have hi : idxI p zs = -1 := if_neg hany
    rw [hi]
    repeat' (first | refine move_i_l S rfl rfl ?_ | refine move_s_l S rfl rfl ?_ | refine assign_i_l S rfl rfl ?_ | refine nilL ?_ | refine run_seq ?_ | refine run_skip ?_ | refine run_region ?_ | refine assign_s_l S rfl rfl ?_ | refine add_l S rfl rfl (wrap_in (by omega)) rfl ?_ | refine add_l S rfl rfl rfl rfl ?_ | refine indexAddr_l S rfl rfl (idx_cast _) (by first | omega | decide | (simp; done) | (simp; omega)) rfl ?_ | refine indexAddr_l S rfl rfl (idx_eq _) (by first | omega | decide | (simp; done) | (simp; omega)) rfl ?_ | (refine eql_l S rfl rfl rfl ?_ ?_ <;> intro hcmp <;> try (exfalso; first | omega | exact hcmp (by decide) | exact absurd hcmp (by decide))) | refine len_l S rfl rfl ?_ | (refine lss_l S rfl rfl rfl ?_ ?_ <;> intro hcmp <;> try (exfalso; first | omega | exact hcmp (by decide) | exact absurd hcmp (by decide))) | refine load_i_l S rfl rfl rfl rfl ?_ | refine loadE_i_l S rfl (by first | omega | decide | (simp; done) | (simp; omega)) rfl rfl rfl ?_ | refine not_l S rfl rfl ?_ | (refine store_i S rfl rfl rfl ?_; clear S; intro w S) | (refine storeE_i S rfl rfl (by omega) rfl ?_; clear S; intro w S) | refine sliceSuf_l S rfl rfl (by omega) rfl ?_ | refine slicePre_l S rfl rfl (by omega) rfl ?_ | refine move_o_l S rfl rfl ?_ | refine load_o_l S rfl rfl rfl rfl ?_ | refine loadE_o_l S rfl (by first | omega | decide | (simp; done) | (simp; omega)) rfl rfl rfl ?_ | refine run_block ?_ | refine run_ret ?_ | refine run_exit ?_ | refine run_cond_true rfl ?_ | refine run_cond_false rfl ?_ | refine thenQ_n ?_ | refine thenQ_r ?_ | refine thenQ_e ?_ | refine blockQ_n ?_ | refine blockQ_r ?_ | refine blockQ_s rfl ?_ | refine blockQ_o rfl ?_ | refine ret1_i rfl ?_ | refine ret1_b rfl ?_ | refine ret1_p rfl ?_ | refine ret1_s rfl ?_ | refine ret1_e rfl ?_ | refine ret1_a rfl ?_ | refine ret1_o rfl ?_ | refine ret1n_i rfl ?_ | refine ret1n_b rfl ?_ | refine ret1n_p rfl ?_ | refine ret1n_s rfl ?_ | refine ret1n_o rfl ?_)
    have hself : (zs.filter fun z => !p z) = zs := List.filter_eq_self.2 fun z hz => by
      have := List.any_eq_false.1 (by simpa using hany) z hz
      simpa using this
    rw [hself]
    exact ⟨rfl, S.got1, S.chg⟩
end
end Go.Proofs.Ytnnkegmiefpgpaa
