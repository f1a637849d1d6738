/- A region whose order is drawn, in general: what changes nothing may be taken first; the rest is gone through. Over any program. -/
import Derived.Test.YtpiodhdbdlfnhaaGreatDoorSl
import Derived.Deep.Quiet
namespace Go.Proofs.YtpiodhdbdlfnhaaGreatDoor
open Go.RowKit Go.Lib
set_option linter.unusedVariables false
section
variable {P : Program} {ops : Array Oper} {C : World → Prop} {Q : Exit → Act → World → Prop}
/-- Only the normal end. -/
def Strict (Q : Exit → Act → World → Prop) : Prop := ∀ e a w, Q e a w → e = .normal
/-- Whatever order, C at each point. -/
def AnyC (P : Program) (ops : Array Oper) (C : World → Prop) (Q : Exit → Act → World → Prop) : Nat → Array Bool → Act → World → Prop
  | 0, listed, a, w => Region.ready .any ops listed = [] ∧ Q .normal a w
  | f + 1, listed, a, w => (Region.ready .any ops listed = [] → Q .normal a w) ∧
    ∀ i ∈ Region.ready .any ops listed, wpOp P ops Q i (fun a' w' => C w' ∧ AnyC P ops C Q f (listed.setIfInBounds i true) a' w') a w
theorem AnyC.any : ∀ (f : Nat) (listed : Array Bool) (a : Act) (w : World), AnyC P ops C Q f listed a w → wpAny P .any ops Q f listed a w
  | 0, _, _, _, h => h
  | f + 1, listed, a, w, h => ⟨h.1, fun i hi => wpOp_mono (fun a' w' hk => AnyC.any f _ a' w' hk.2) (h.2 i hi)⟩
theorem put_defers (a : Act) (x : Option Tmp) (v : Value) (l : List Deferred) : ({ a.put x v with defers := l } : Act) = ({ a with defers := l } : Act).put x v := by cases x <;> rfl
theorem put_defers' (a : Act) (x : Option Tmp) (v : Value) : (a.put x v).defers = a.defers := by cases x <;> rfl
theorem upon_put (hQ : Strict Q) {o : Oper} {a : Act} {x : Option Tmp} {v : Value} (hx : ∀ d, x = some d → o.dst ≠ some d) {next : Act → World → Prop} {r : Result Next}
    (h : o.upon P (a.put x v) next Q r) : o.upon P a (fun a' w' => next (a'.put x v) w') Q r := by
  have noOut : ¬ LetsOut Q := fun ⟨a, w, h⟩ => by cases hQ _ _ _ h
  cases r with
  | ok n w' =>
    cases n <;> simp only [Oper.upon] at h ⊢ <;> try exact h
    case value u => rw [Act.put_comm a v u hx] at h; exact h
    case skip => rw [Act.put_comm a v undef hx] at h; exact h
    case enter f args =>
      refine h.mono ?_
      intro e w'' h
      cases e with
      | returned u => simp only at h ⊢; rw [Act.put_comm a v u hx] at h; exact h
      | panicked c => cases hQ _ _ _ h
      | outgrown => exact (noOut h).elim
    case row r args => exact h.mono fun u w'' h => by rw [Act.put_comm a v u hx] at h; exact h
    case defer d => rw [put_defers, put_defers', Act.put_comm _ v undef hx] at h; exact h
  | halt x w' =>
    cases x <;> simp only [Oper.upon] at h ⊢
    case panic v => cases hQ _ _ _ h
theorem wpOp_put (hQ : Strict Q) {j : Nat} {oi oj : Oper} {v : Value} (hj : ops[j]? = some oj) (hap : oi.apart ops oj = true) (hsj : ∀ cs b, oj.op ≠ .select cs b) {K : Act → World → Prop} {a : Act} {w : World}
    (h : wpOp P ops Q j K (a.put oi.dst v) w) : wpOp P ops Q j (fun a' w' => K (a'.put oi.dst v) w') a w := by
  obtain ⟨h1, h2, h3⟩ := Oper.apart_spec hap
  have noOut : ¬ LetsOut Q := fun ⟨a, w, h⟩ => by cases hQ _ _ _ h
  unfold wpOp at *
  simp only [hj] at *
  rw [wanted_put oj a oi.dst v h1] at h
  split
  · rename_i hw
    simp only [hw, if_true] at h
    rcases h with h | h
    · left
      unfold Oper.wp at h ⊢
      rw [execOp_put oj hsj a oi.dst v h1] at h
      exact upon_put hQ h2 h
    · exact (noOut h.2).elim
  · rename_i hw
    simp only [hw] at h
    rw [Act.put_comm a v undef h2] at h
    exact h
/-- In each world of C operation o leaves v and changes nothing; or it is not asked for. -/
def PureIn (P : Program) (ops : Array Oper) (C : World → Prop) (o : Oper) (v : Value) (a : Act) : Prop :=
  (Region.wanted o (yielded ops a.tmps) = true ∧ ∀ w, C w → (execOp a.eval o).run P w = .ok (.value v) w) ∨ (Region.wanted o (yielded ops a.tmps) = false ∧ v = undef)
theorem PureIn.op {i : Nat} {o : Oper} {v : Value} {a : Act} {w : World} (hi : ops[i]? = some o) (hw : C w) (hy : PureIn P ops C o v a) {K : Act → World → Prop} (h : K (a.put o.dst v) w) : wpOp P ops Q i K a w := by
  unfold wpOp
  simp only [hi]
  rcases hy with ⟨h1, h2⟩ | ⟨h1, rfl⟩
  · simp only [h1, if_true]
    left
    unfold Oper.wp
    rw [h2 w hw]
    exact h
  · simp only [h1, Bool.false_eq_true, if_false]; exact h
theorem PureIn.put {oi oj : Oper} {v : Value} {a : Act} (hsi : ∀ cs b, oi.op ≠ .select cs b) (h3 : ∀ d, oj.dst = some d → d ∉ oi.looksAt ops) (hy : PureIn P ops C oi v a) (u : Value) : PureIn P ops C oi v (a.put oj.dst u) := by
  unfold PureIn at *
  rw [execOp_put oi hsi a oj.dst u h3, wanted_put oi a oj.dst u h3]
  exact hy
theorem AnyC_first (hQ : Strict Q) {i : Nat} {oi : Oper} {v : Value} (hi : ops[i]? = some oi) (hsel : Region.noSelect ops = true) :
    ∀ (fuel : Nat) (listed : Array Bool) (a : Act) (w : World), C w →
      (∀ j oj, ops[j]? = some oj → j ≠ i → listed.getD j true = false → (∀ e ∈ oj.after, Region.binds .any e = true → e.on ≠ i) → oi.apart ops oj = true) →
      i ∈ Region.ready .any ops listed → PureIn P ops C oi v a →
      AnyC P ops C Q fuel (listed.setIfInBounds i true) (a.put oi.dst v) w → AnyC P ops C Q (fuel + 1) listed a w := by
  intro fuel
  have step : ∀ (listed : Array Bool) (a : Act) (w : World), C w →
      (∀ j oj, ops[j]? = some oj → j ≠ i → listed.getD j true = false → (∀ e ∈ oj.after, Region.binds .any e = true → e.on ≠ i) → oi.apart ops oj = true) →
      i ∈ Region.ready .any ops listed → ∀ j ∈ Region.ready .any ops listed, j ≠ i → ∃ oj, ops[j]? = some oj ∧ oi.apart ops oj = true := by
    intro listed a w hC hfree hr j hj hji
    have hj' := hj
    rw [mem_ready] at hj hr
    obtain ⟨h0, oj, hoj, hall⟩ := hj
    refine ⟨oj, hoj, hfree j oj hoj hji h0 fun e he hb hon => ?_⟩
    have := hall e he hb
    rw [hon] at this
    have h1 := hr.1
    rw [Array.getD_eq_getD_getElem?] at this h1
    cases hx : listed[i]? with
    | none => rw [hx] at h1; simp at h1
    | some b => rw [hx] at h1 this; simp at h1 this; rw [h1] at this; cases this
  induction fuel with
  | zero =>
    intro listed a w hC hfree hr hy H
    refine ⟨fun h => (by rw [h] at hr; cases hr), fun j hj => ?_⟩
    by_cases hji : j = i
    · subst hji; exact hy.op hi hC ⟨hC, H⟩
    · have := ready_mono hj hji
      rw [H.1] at this; cases this
  | succ f ih =>
    intro listed a w hC hfree hr hy H
    refine ⟨fun h => (by rw [h] at hr; cases hr), fun j hj => ?_⟩
    by_cases hji : j = i
    · subst hji; exact hy.op hi hC ⟨hC, H⟩
    · obtain ⟨oj, hoj, hap⟩ := step listed a w hC hfree hr j hj hji
      have h2 := H.2 j (ready_mono hj hji)
      have h3 := wpOp_put hQ hoj hap (fun cs b => Region.noSelect_spec hsel j oj cs b hoj) h2
      obtain ⟨a1, a2, a3⟩ := Oper.apart_spec hap
      have h4 : wpOp P ops Q j (fun a' w' => PureIn P ops C oi v a' ∧ C w' ∧ AnyC P ops C Q f ((listed.setIfInBounds i true).setIfInBounds j true) (a'.put oi.dst v) w') a w := by
        have keep : ∀ u, PureIn P ops C oi v (a.put oj.dst u) := fun u => hy.put (fun cs b => Region.noSelect_spec hsel i oi cs b hi) a3 u
        have keepd : ∀ d, PureIn P ops C oi v (({ a with defers := d :: a.defers } : Act).put oj.dst undef) := fun d => PureIn.put (a := { a with defers := d :: a.defers }) (fun cs b => Region.noSelect_spec hsel i oi cs b hi) a3 hy undef
        unfold wpOp at h3 ⊢
        simp only [hoj] at h3 ⊢
        split
        · rename_i hw
          simp only [hw, if_true] at h3
          rcases h3 with h3 | h3
          · left
            unfold Oper.wp at h3 ⊢
            generalize (execOp a.eval oj).run P w = r at *
            cases r with
            | ok n w' =>
              cases n <;> simp only [Oper.upon] at h3 ⊢ <;> try exact h3
              case value u => exact ⟨keep u, h3⟩
              case skip => exact ⟨keep _, h3⟩
              case enter g args =>
                refine h3.mono ?_
                intro e w'' h
                cases e with
                | returned u => exact ⟨keep u, h⟩
                | panicked c => exact h
                | outgrown => exact h
              case row r args => exact h3.mono fun u w'' h => ⟨keep u, h⟩
              case defer d => exact ⟨keepd d, h3⟩
            | halt x w' => cases x <;> simp only [Oper.upon] at h3 ⊢ <;> exact h3
          · exact .inr h3
        · rename_i hw
          simp only [hw] at h3
          exact ⟨keep _, h3⟩
      refine wpOp_mono (fun a' w' hk => ⟨hk.2.1, ih (listed.setIfInBounds j true) a' w' hk.2.1 ?_ (ready_mono hr (Ne.symm hji)) hk.1 ?_⟩) h4
      · intro k ok hk hki hun hno
        refine hfree k ok hk hki ?_ hno
        by_cases hjk : j = k
        · subst hjk
          have hlt : j < listed.size := by
            rcases Nat.lt_or_ge j listed.size with h | h
            · exact h
            · rw [mem_ready] at hj
              have := hj.1
              rw [Array.getD_eq_getD_getElem?, Array.getElem?_eq_none h] at this
              cases this
          rw [Array.getD_eq_getD_getElem?, Array.getElem?_setIfInBounds_self_of_lt hlt] at hun
          cases hun
        · rw [getD_set_ne true hjk] at hun; exact hun
      · rw [Array.setIfInBounds_comm _ _ hji]
        exact hk.2.2
end
end Go.Proofs.YtpiodhdbdlfnhaaGreatDoor
