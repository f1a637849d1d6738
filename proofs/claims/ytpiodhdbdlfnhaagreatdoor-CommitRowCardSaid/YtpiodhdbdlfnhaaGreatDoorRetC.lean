/- Functions whose results lie in a variable of their own; own and read resources turned. Over any program. -/
import Derived.Test.YtpiodhdbdlfnhaaGreatDoorCut
namespace Go.Proofs.YtpiodhdbdlfnhaaGreatDoor
open Go.RowKit Go.Lib
set_option linter.unusedVariables false
/-- What is asked at the end: the result is read from the variable that slot r points to. -/
def retQC (r : Nat) (m : Nat) (R : Ending → World → Prop) : Exit → Tm → World → Prop
  | .normal, t, w | .ret, t, w => ∃ b l, t r = .pointer (some ⟨b, 0, none⟩) ∧ l.length = m ∧ (∀ i, i < m → w.cell? ⟨b, i, none⟩ = some (l.getD i undef)) ∧ R (.returned (aggV l)) w
  | _, _, _ => False
/-- The same, and a plain second result. -/
def retQC2 (r : Nat) (m : Nat) (r' : Nat) (R : Ending → World → Prop) : Exit → Tm → World → Prop
  | .normal, t, w | .ret, t, w => ∃ b l, t r = .pointer (some ⟨b, 0, none⟩) ∧ l.length = m ∧ (∀ i, i < m → w.cell? ⟨b, i, none⟩ = some (l.getD i undef)) ∧ R (.returned (.tuple #[aggV l, t r'])) w
  | _, _, _ => False
theorem cells_of (l : List Value) (m : Nat) (h : l.length = m) : cellsL m (fun i => l.getD i undef) = l := by
  subst h
  apply List.ext_getElem?
  intro i
  unfold cellsL
  rw [List.getElem?_map]
  by_cases hi : i < l.length
  · rw [List.getElem?_range hi, List.getElem?_eq_getElem hi, Option.map_some, List.getD_eq_getElem?_getD, List.getElem?_eq_getElem hi]; rfl
  · rw [List.getElem?_eq_none (by simp; omega), List.getElem?_eq_none (by omega)]; rfl
theorem load_cells {P : Program} {T : TypeId} {m : Nat} [hA : TyAgg P T true] [hs : TySz P T m] {w : World} {b : Nat} {l : List Value} (hl : l.length = m) (hc : ∀ i, i < m → w.cell? ⟨b, i, none⟩ = some (l.getD i undef)) :
    (loadVar T ⟨b, 0, none⟩).run P w = .ok (aggV l) w := by
  have h := run_loadCells (P := P) w ⟨b, 0, none⟩ m (fun i => l.getD i undef) (fun i hi => by rw [add_lit0, Nat.zero_add]; exact hc i hi)
  have e := cells_of l m hl
  rw [aggV_eq]
  unfold cellsL at e
  have h2 : (loadVar T ⟨b, 0, none⟩).run P w = .ok (.agg ((List.range m).map fun i => l.getD i undef).toArray) w := by
    simp [loadVar, hA.run, hs.run, h]
  rw [h2, e]
section
variable {P : Program} {f : FuncId} {fn : Func} {c : Code} {l : List Value} {w : World} {R : Ending → World → Prop}
theorem enterC {r m : Nat} {T : TypeId} [hA : TyAgg P T true] [hs : TySz P T m] (hf : P.funcs[f]? = some fn) (hb : fn.body = some c) {n : Nat} (hn : fn.ntmps = n) (hl : Nat.ble l.length n = true) (hr : fn.results = #[.cell r T]) (h : Run P n c (argF l) w (retQC r m R)) : Calls P f l.toArray w R := by
  subst hn
  refine calls_run hf hb hl ?_ h
  intro e a w t ha hq
  have key : (∃ b l, t r = .pointer (some ⟨b, 0, none⟩) ∧ l.length = m ∧ (∀ i, i < m → w.cell? ⟨b, i, none⟩ = some (l.getD i undef)) ∧ R (.returned (aggV l)) w) → a.defers = [] ∧ ∃ v, (results fn a.tmps).run P w = .ok v w ∧ R (.returned v) w := by
    rintro ⟨b, l, h1, h2, h3, h4⟩
    refine ⟨ha.defers, aggV l, ?_, h4⟩
    have h5 := load_cells (P := P) (T := T) h2 h3
    have h6 := ha.get r
    rw [h1, Array.getD_eq_getD_getElem?] at h6
    simp [results, hr, h6, asAddr, h5]
  cases e with
  | normal => exact key hq
  | ret => exact key hq
  | _ => exact hq.elim
theorem enterC2 {r r' m : Nat} {T : TypeId} [hA : TyAgg P T true] [hs : TySz P T m] (hf : P.funcs[f]? = some fn) (hb : fn.body = some c) {n : Nat} (hn : fn.ntmps = n) (hl : Nat.ble l.length n = true) (hr : fn.results = #[.cell r T, .tmp r']) (h : Run P n c (argF l) w (retQC2 r m r' R)) : Calls P f l.toArray w R := by
  subst hn
  refine calls_run hf hb hl ?_ h
  intro e a w t ha hq
  have key : (∃ b l, t r = .pointer (some ⟨b, 0, none⟩) ∧ l.length = m ∧ (∀ i, i < m → w.cell? ⟨b, i, none⟩ = some (l.getD i undef)) ∧ R (.returned (.tuple #[aggV l, t r'])) w) → a.defers = [] ∧ ∃ v, (results fn a.tmps).run P w = .ok v w ∧ R (.returned v) w := by
    rintro ⟨b, l, h1, h2, h3, h4⟩
    refine ⟨ha.defers, .tuple #[aggV l, t r'], ?_, h4⟩
    have h5 := load_cells (P := P) (T := T) h2 h3
    have h6 := ha.get r
    rw [h1, Array.getD_eq_getD_getElem?] at h6
    simp [results, hr, h6, asAddr, h5, ← ha.get r']
  cases e with
  | normal => exact key hq
  | ret => exact key hq
  | _ => exact hq.elim
end
section
variable {S : Nat → Prop} {w₀ w : World} {L : List Res} {R : Ending → World → Prop} {t : Tm} {r r' m b : Nat} {c : Tm} {T : TypeId} {v : Value}
theorem retC_l (hS : Sat S w₀ w L) (h : t r = .pointer (some ⟨b, 0, none⟩)) [hp : PickB L b m c T] (k : R (.returned (aggV (cellsL m c))) w) : retQC r m R .ret t w :=
  ⟨b, cellsL m c, h, cellsL_len _ _, fun i hi => by rw [blk_cell (hp.ok w hS.all) i hi, List.getD_eq_getElem?_getD, cellsL_get _ _ _ hi]; rfl, k⟩
theorem retC_n (hS : Sat S w₀ w L) (h : t r = .pointer (some ⟨b, 0, none⟩)) [hp : PickB L b m c T] (k : R (.returned (aggV (cellsL m c))) w) : retQC r m R .normal t w :=
  ⟨b, cellsL m c, h, cellsL_len _ _, fun i hi => by rw [blk_cell (hp.ok w hS.all) i hi, List.getD_eq_getElem?_getD, cellsL_get _ _ _ hi]; rfl, k⟩
theorem retC2_l (hS : Sat S w₀ w L) (h : t r = .pointer (some ⟨b, 0, none⟩)) [hp : PickB L b m c T] (h' : t r' = v) (k : R (.returned (.tuple #[aggV (cellsL m c), v])) w) : retQC2 r m r' R .ret t w := by
  subst h'
  exact ⟨b, cellsL m c, h, cellsL_len _ _, fun i hi => by rw [blk_cell (hp.ok w hS.all) i hi, List.getD_eq_getElem?_getD, cellsL_get _ _ _ hi]; rfl, k⟩
theorem retC2_n (hS : Sat S w₀ w L) (h : t r = .pointer (some ⟨b, 0, none⟩)) [hp : PickB L b m c T] (h' : t r' = v) (k : R (.returned (.tuple #[aggV (cellsL m c), v])) w) : retQC2 r m r' R .normal t w := by
  subst h'
  exact ⟨b, cellsL m c, h, cellsL_len _ _, fun i hi => by rw [blk_cell (hp.ok w hS.all) i hi, List.getD_eq_getElem?_getD, cellsL_get _ _ _ hi]; rfl, k⟩
end
attribute [irreducible] retQC retQC2
section
variable {S : Nat → Prop} {w₀ : World} {L : List Res}
variable {P : Program} {ops : Array Oper} {n : Nat} {rest : List Oper} {t : Tm} {w : World} {K : Tm → World → Prop} {d : Nat} {ty : TypeId} {pos : String} {af : Array Edge}
theorem allocZ_l (hS : Sat S w₀ w L) {T : TypeId} {z : Value} [hz : TyZ P T z] (hd : Nat.blt d n = true) {m : Nat} (hm : z.cells.size = m)
    (k : ∀ b w', Sat S w₀ w' (blk b m (fun i => z.cells.toList.getD i undef) T :: L) → RunL P ops n rest (upd t d (.pointer (some ⟨b, 0, none⟩))) w' K) : RunL P ops n (⟨some d, .alloc T, ty, pos, af, none⟩ :: rest) t w K :=
  alloc_l hS hd (by rw [cells_of _ _ (by simpa using hm)]) k
end
/-- What was owned is read from now on. -/
theorem Sat.toRo {S : Nat → Prop} {w₀ w : World} {L : List Res} {x y : Res} (h : Sat S w₀ w (x :: L)) (hr : y.holds w) (hro : y.ro = true) (h0 : x.ro = false) (hf : ∀ k, y.foot k → x.foot k) : Sat S w₀ w (y :: L) := by
  have hs := List.pairwise_cons.1 h.sep
  refine ⟨h.chg, fun z hz => ?_, .cons (fun z hz => ?_) hs.2, fun z hz => ?_⟩
  · rcases List.mem_cons.1 hz with rfl | hz
    · exact hr
    · exact h.all z (List.mem_cons_of_mem _ hz)
  · rcases hs.1 z hz with e | e
    · rw [h0] at e; cases e.1
    · exact .inr fun k h1 h2 => e k (hf k h1) h2
  · rcases List.mem_cons.1 hz with rfl | hz
    · intro e; rw [hro] at e; cases e
    · exact h.own z (List.mem_cons_of_mem _ hz)
/-- Two resources by themselves, and back. -/
theorem Sat.begin2 {S : Nat → Prop} {w₀ w : World} {L : List Res} {x y : Res} (h : Sat S w₀ w (x :: y :: L)) : Sat (fun k => x.foot k ∨ y.foot k) w w [x, y] := by
  have hs := List.pairwise_cons.1 h.sep
  refine ⟨Chg.refl _ _, fun z hz => ?_, .cons (fun z hz => ?_) (.cons (by simp) .nil), fun z hz _ k hk _ => ?_⟩
  · simp only [List.mem_cons, List.not_mem_nil, or_false] at hz
    rcases hz with rfl | rfl
    · exact h.all z (by simp)
    · exact h.all z (by simp)
  · simp only [List.mem_cons, List.not_mem_nil, or_false] at hz
    subst hz
    exact hs.1 z (by simp)
  · simp only [List.mem_cons, List.not_mem_nil, or_false] at hz
    rcases hz with rfl | rfl
    · exact .inl hk
    · exact .inr hk
theorem Sat.both {S : Nat → Prop} {w₀ w w' : World} {L : List Res} {x y x' y' : Res} (h : Sat S w₀ w (x :: y :: L)) (h' : Sat (fun k => x.foot k ∨ y.foot k) w w' [x', y']) (hx : x.ro = false) (hy : y.ro = false) (hx' : x'.ro = false) (hy' : y'.ro = false) : Sat S w₀ w' (x' :: y' :: L) := by
  have hs := List.pairwise_cons.1 h.sep
  have hs2 := List.pairwise_cons.1 hs.2
  have ap : ∀ z ∈ L, ∀ k, z.foot k → ¬ (x.foot k ∨ y.foot k) := fun z hz k h1 h2 => by
    rcases h2 with h2 | h2
    · rcases hs.1 z (by simp [hz]) with e | e
      · rw [hx] at e; cases e.1
      · exact e k h2 h1
    · rcases hs2.1 z hz with e | e
      · rw [hy] at e; cases e.1
      · exact e k h2 h1
  have keepz : ∀ z ∈ L, z.holds w' := fun z hz => z.loc w w' (h.all z (by simp [hz])) fun k hk => h'.chg.block k (z.lt w k (h.all z (by simp [hz])) hk) (ap z hz k hk)
  have own' : ∀ z, (z = x' ∨ z = y') → ∀ k, z.foot k → (x.foot k ∨ y.foot k) ∨ w.heap.size ≤ k := fun z hz k hk => by
    by_cases hlt : k < w.heap.size
    · rcases hz with rfl | rfl
      · exact .inl (h'.own z (by simp) hx' k hk hlt)
      · exact .inl (h'.own z (by simp) hy' k hk hlt)
    · exact .inr (by omega)
  have apn : ∀ z, (z = x' ∨ z = y') → ∀ u ∈ L, z.apart u := fun z hz u hu => .inr fun k h1 h2 => by
    rcases own' z hz k h1 with e | e
    · exact ap u hu k h2 e
    · have := u.lt w k (h.all u (by simp [hu])) h2; omega
  refine ⟨h.chg.trans h'.chg (fun k hk hr => ?_), fun z hz => ?_, .cons (fun z hz => ?_) (.cons (fun z hz => apn y' (.inr rfl) z hz) hs2.2), fun z hz hro k hk hlt => ?_⟩
  · rcases hr with hr | hr
    · exact h.own x (by simp) hx k hr hk
    · exact h.own y (by simp) hy k hr hk
  · simp only [List.mem_cons] at hz
    rcases hz with rfl | rfl | hz
    · exact h'.all z (by simp)
    · exact h'.all z (by simp)
    · exact keepz z hz
  · simp only [List.mem_cons] at hz
    rcases hz with rfl | hz
    · exact (List.pairwise_cons.1 h'.sep).1 z (by simp)
    · exact apn x' (.inl rfl) z hz
  · simp only [List.mem_cons] at hz
    have hsz := h.chg.size
    rcases hz with rfl | rfl | hz
    · rcases own' z (.inl rfl) k hk with (e | e) | e
      · exact h.own x (by simp) hx k e hlt
      · exact h.own y (by simp) hy k e hlt
      · omega
    · rcases own' z (.inr rfl) k hk with (e | e) | e
      · exact h.own x (by simp) hx k e hlt
      · exact h.own y (by simp) hy k e hlt
      · omega
    · exact h.own z (by simp [hz]) hro k hk hlt
end Go.Proofs.YtpiodhdbdlfnhaaGreatDoor
