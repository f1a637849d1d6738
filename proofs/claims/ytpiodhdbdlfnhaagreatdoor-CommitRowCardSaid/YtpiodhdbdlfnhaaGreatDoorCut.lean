/- Parts of rows; a drawn region of which more is known later. Over any program. Drawn regions that end by a change of what was read: behind operation c nothing is asked. Over any program. -/
import Derived.Test.YtpiodhdbdlfnhaaGreatDoorGen
namespace Go.Proofs.YtpiodhdbdlfnhaaGreatDoor
open Go.RowKit Go.Lib
set_option linter.unusedVariables false
section
variable {S : Nat → Prop} {w₀ : World} {L : List Res}
variable {P : Program} {ops : Array Oper} {n : Nat} {rest : List Oper} {t : Tm} {w : World} {K : Tm → World → Prop} {d : Nat} {ty : TypeId} {pos : String} {af : Array Edge}
end
end Go.Proofs.YtpiodhdbdlfnhaaGreatDoor
namespace Go.Proofs.YtpiodhdbdlfnhaaGreatDoor
open Go.RowKit Go.Lib
set_option linter.unusedVariables false
section
variable {P : Program} {ops : Array Oper} {C : World → Prop} {Q : Exit → Act → World → Prop} {c : Nat}
def AnyB (P : Program) (ops : Array Oper) (c : Nat) (C : World → Prop) (Q : Exit → Act → World → Prop) : Nat → Array Bool → Act → World → Prop
  | 0, listed, a, w => Region.ready .any ops listed = [] ∧ Q .normal a w
  | f + 1, listed, a, w => (Region.ready .any ops listed = [] → Q .normal a w) ∧
    ∀ i ∈ Region.ready .any ops listed, wpOp P ops Q i (fun a' w' => ((listed.setIfInBounds i true).getD c true = false → C w') ∧ AnyB P ops c C Q f (listed.setIfInBounds i true) a' w') a w
theorem AnyB.any : ∀ (f : Nat) (listed : Array Bool) (a : Act) (w : World), AnyB P ops c C Q f listed a w → wpAny P .any ops Q f listed a w
  | 0, _, _, _, h => h
  | f + 1, listed, a, w, h => ⟨h.1, fun i hi => wpOp_mono (fun a' w' hk => AnyB.any f _ a' w' hk.2) (h.2 i hi)⟩
theorem AnyB_first (hQ : Strict Q) {i : Nat} {oi oc : Oper} {v : Value} (hi : ops[i]? = some oi) (hsel : Region.noSelect ops = true) (hoc : ops[c]? = some oc) (hdep : ∃ e ∈ oc.after, Region.binds .any e = true ∧ e.on = i) :
    ∀ (fuel : Nat) (listed : Array Bool) (a : Act) (w : World), C w → listed.getD c true = false →
      (∀ j oj, ops[j]? = some oj → j ≠ i → listed.getD j true = false → (∀ e ∈ oj.after, Region.binds .any e = true → e.on ≠ i) → oi.apart ops oj = true) →
      i ∈ Region.ready .any ops listed → PureIn P ops C oi v a →
      AnyB P ops c C Q fuel (listed.setIfInBounds i true) (a.put oi.dst v) w → AnyB P ops c C Q (fuel + 1) listed a w := by
  intro fuel
  have unl : ∀ (listed : Array Bool), i ∈ Region.ready .any ops listed → listed.getD i true = false := fun listed hr => by
    rw [mem_ready] at hr; exact hr.1
  have notc : ∀ (listed : Array Bool), i ∈ Region.ready .any ops listed → ∀ j ∈ Region.ready .any ops listed, j ≠ c := by
    intro listed hr j hj hjc
    subst hjc
    have h1 := unl listed hr
    rw [mem_ready] at hj
    obtain ⟨_, oj, hoj, hall⟩ := hj
    rw [hoc] at hoj
    obtain rfl := Option.some.inj hoj
    obtain ⟨e, he, hb, hon⟩ := hdep
    have := hall e he hb
    rw [hon] at this
    rw [Array.getD_eq_getD_getElem?] at this h1
    cases hx : listed[i]? with
    | none => rw [hx] at h1; simp at h1
    | some b => rw [hx] at h1 this; simp at h1 this; rw [h1] at this; cases this
  have step : ∀ (listed : Array Bool) (a : Act) (w : World), C w →
      (∀ j oj, ops[j]? = some oj → j ≠ i → listed.getD j true = false → (∀ e ∈ oj.after, Region.binds .any e = true → e.on ≠ i) → oi.apart ops oj = true) →
      i ∈ Region.ready .any ops listed → ∀ j ∈ Region.ready .any ops listed, j ≠ i → ∃ oj, ops[j]? = some oj ∧ oi.apart ops oj = true := by
    intro listed a w hC hfree hr j hj hji
    have hj' := hj
    rw [mem_ready] at hj hr
    obtain ⟨h0, oj, hoj, hall⟩ := hj
    refine ⟨oj, hoj, hfree j oj hoj hji h0 fun e he hb hon => ?_⟩
    have := hall e he hb
    rw [hon] at this
    have h1 := hr.1
    rw [Array.getD_eq_getD_getElem?] at this h1
    cases hx : listed[i]? with
    | none => rw [hx] at h1; simp at h1
    | some b => rw [hx] at h1 this; simp at h1 this; rw [h1] at this; cases this
  have hic : ∀ (listed : Array Bool), i ∈ Region.ready .any ops listed → i ≠ c := fun listed hr => notc listed hr i hr
  induction fuel with
  | zero =>
    intro listed a w hC hl hfree hr hy H
    refine ⟨fun h => (by rw [h] at hr; cases hr), fun j hj => ?_⟩
    by_cases hji : j = i
    · subst hji; exact hy.op hi hC ⟨fun _ => hC, H⟩
    · have := ready_mono hj hji
      rw [H.1] at this; cases this
  | succ f ih =>
    intro listed a w hC hl hfree hr hy H
    refine ⟨fun h => (by rw [h] at hr; cases hr), fun j hj => ?_⟩
    by_cases hji : j = i
    · subst hji; exact hy.op hi hC ⟨fun _ => hC, H⟩
    · obtain ⟨oj, hoj, hap⟩ := step listed a w hC hfree hr j hj hji
      have hjc := notc listed hr j hj
      have hci := hic listed hr
      have hl1 : (listed.setIfInBounds j true).getD c true = false := by rw [getD_set_ne true hjc]; exact hl
      have hl2 : ((listed.setIfInBounds i true).setIfInBounds j true).getD c true = false := by rw [getD_set_ne true hjc, getD_set_ne true hci]; exact hl
      have h2 := H.2 j (ready_mono hj hji)
      have h3 := wpOp_put hQ hoj hap (fun cs b => Region.noSelect_spec hsel j oj cs b hoj) h2
      obtain ⟨a1, a2, a3⟩ := Oper.apart_spec hap
      have h4 : wpOp P ops Q j (fun a' w' => PureIn P ops C oi v a' ∧ C w' ∧ AnyB P ops c C Q f ((listed.setIfInBounds i true).setIfInBounds j true) (a'.put oi.dst v) w') a w := by
        have keep : ∀ u, PureIn P ops C oi v (a.put oj.dst u) := fun u => hy.put (fun cs b => Region.noSelect_spec hsel i oi cs b hi) a3 u
        have keepd : ∀ d, PureIn P ops C oi v (({ a with defers := d :: a.defers } : Act).put oj.dst undef) := fun d => PureIn.put (a := { a with defers := d :: a.defers }) (fun cs b => Region.noSelect_spec hsel i oi cs b hi) a3 hy undef
        unfold wpOp at h3 ⊢
        simp only [hoj] at h3 ⊢
        split
        · rename_i hw
          simp only [hw, if_true] at h3
          rcases h3 with h3 | h3
          · left
            unfold Oper.wp at h3 ⊢
            generalize (execOp a.eval oj).run P w = r at *
            cases r with
            | ok n w' =>
              cases n <;> simp only [Oper.upon] at h3 ⊢ <;> try exact h3
              case value u => exact ⟨keep u, h3.1 hl2, h3.2⟩
              case skip => exact ⟨keep _, h3.1 hl2, h3.2⟩
              case enter g args =>
                refine h3.mono ?_
                intro e w'' h
                cases e with
                | returned u => exact ⟨keep u, h.1 hl2, h.2⟩
                | panicked c => exact h
                | outgrown => exact h
              case row r args => exact h3.mono fun u w'' h => ⟨keep u, h.1 hl2, h.2⟩
              case defer d => exact ⟨keepd d, h3.1 hl2, h3.2⟩
            | halt x w' => cases x <;> simp only [Oper.upon] at h3 ⊢ <;> exact h3
          · exact .inr h3
        · rename_i hw
          simp only [hw] at h3
          exact ⟨keep _, h3.1 hl2, h3.2⟩
      refine wpOp_mono (fun a' w' hk => ⟨fun _ => hk.2.1, ih (listed.setIfInBounds j true) a' w' hk.2.1 hl1 ?_ (ready_mono hr (Ne.symm hji)) hk.1 ?_⟩) h4
      · intro k ok hk hki hun hno
        refine hfree k ok hk hki ?_ hno
        by_cases hjk : j = k
        · subst hjk
          have hlt : j < listed.size := by
            rcases Nat.lt_or_ge j listed.size with h | h
            · exact h
            · rw [mem_ready] at hj
              have := hj.1
              rw [Array.getD_eq_getD_getElem?, Array.getElem?_eq_none h] at this
              cases this
          rw [Array.getD_eq_getD_getElem?, Array.getElem?_setIfInBounds_self_of_lt hlt] at hun
          cases hun
        · rw [getD_set_ne true hjk] at hun; exact hun
      · rw [Array.setIfInBounds_comm _ _ hji]
        exact hk.2.2
end
def AnyLB (P : Program) (ops : Array Oper) (c n : Nat) (S : Nat → Prop) (w₀ : World) (L : List Res) (f m : Nat) (t : Tm) (w : World) (K : Tm → World → Prop) : Prop :=
  ∀ Q : Exit → Act → World → Prop, Strict Q → (∀ a' w' t', Agr n a' t' → K t' w' → Q .normal a' w') → ∀ a, Agr n a t → AnyB P ops c (fun w => Sat S w₀ w L) Q f (bitsA ops.size m) a w
theorem nope {x : Bool} {p : Prop} (hx : x = false) : x = true → p := fun h => by rw [hx] at h; cases h
/-- c is bound to come behind i. -/
def bound (ops : Array Oper) (c i : Nat) : Bool := match ops[c]? with
  | some oc => oc.after.any fun e => Region.binds .any e && Nat.beq e.on i
  | none => false
def notYet (ops : Array Oper) (m c : Nat) : Bool := !((bitsA ops.size m).getD c true)
section
variable {S : Nat → Prop} {w₀ : World} {L L' : List Res}
variable {P : Program} {ops : Array Oper} {c n : Nat} {t : Tm} {w : World} {K : Tm → World → Prop} {f m : Nat}
theorem run_anyB_at {id : Nat} {l : List Oper} {Q : Exit → Tm → World → Prop} {σ : Type} (c : Nat) (J : List Nat) (F : σ → Tm → Tm) (I : σ → World → Prop) (hS : Sat S w₀ w L) (hm : P.follows .mixedOrders = true) (hs : Nat.beq l.length f = true)
    (h : ∀ w, Sat S w₀ w L → AnyLB P l.toArray c n S w₀ L' f 0 t w (fun t' w' => ∃ s, Agree J t' (F s t) ∧ I s w')) (k : ∀ s j w, I s w → Q .normal (hv J j (F s t)) w) : Run P n (.region id l.toArray true) t w Q := by
  unfold Run
  intro a ha
  have hs' : l.toArray.size = f := by simpa [Nat.beq_eq] using hs
  refine wp_mono (Q := fun e a w => e = .normal ∧ ∃ t, Agr n a t ∧ Q .normal t w) (wp_region_any hm (AnyB.any (c := c) (C := fun w => Sat S w₀ w L') _ _ _ _ ?_)) ?_
  · have := h { w with drawn := w.drawn + 1 } (hS.below ⟨rfl, rfl, rfl, Nat.le_refl _, fun _ _ => rfl⟩) (fun e a w => e = .normal ∧ ∃ t, Agr n a t ∧ Q .normal t w) (fun _ _ _ h => h.1) (fun a' w' t' h1 ⟨s, h2, h3⟩ => ⟨rfl, t', h1, by rw [agree_hv_eq h2]; exact k s t' w' h3⟩) a ha
    rw [hs']
    have e : bitsA l.toArray.size 0 = Array.replicate f false := by rw [hs']; apply Array.ext'; simp [bitsA, List.map_const']
    rw [e] at this
    exact this
  · rintro e a' w' ⟨rfl, t', h1, h2⟩
    exact ⟨t', h1, h2⟩
theorem anyB_pure {i : Nat} {o : Oper} (hi : ops[i]? = some o) (hc : (canFirst ops m i && (bound ops c i && notYet ops m c)) = true) (hS : Sat S w₀ w L) (h : QX P ops n S w₀ L o t (fun t' => AnyLB P ops c n S w₀ L f (m ||| 2 ^ i) t' w K)) : AnyLB P ops c n S w₀ L (f + 1) m t w K := by
  intro Q hQ hK a ha
  unfold QX at h
  obtain ⟨v, t', hv, hk⟩ := h
  simp only [Bool.and_eq_true] at hc
  obtain ⟨hc, hb, hn⟩ := hc
  simp only [canFirst, Bool.and_eq_true] at hc
  obtain ⟨hsel, hr, hf⟩ := hc
  obtain ⟨oc, hoc, hdep⟩ : ∃ oc, ops[c]? = some oc ∧ ∃ e ∈ oc.after, Region.binds .any e = true ∧ e.on = i := by
    unfold bound at hb
    split at hb
    · rename_i oc hoc
      refine ⟨oc, hoc, ?_⟩
      rw [Array.any_eq_true] at hb
      obtain ⟨k, hk, he⟩ := hb
      simp only [Bool.and_eq_true, Nat.beq_eq] at he
      exact ⟨_, Array.getElem_mem hk, he.1, he.2⟩
    · cases hb
  refine AnyB_first hQ hi hsel hoc hdep f _ a w hS (by simpa [notYet] using hn) (Region.free_spec hi hf) (by simpa using hr) (hv a ha).1 ?_
  rw [bitsA_set]
  exact hk Q hQ hK _ (hv a ha).2
theorem anyB_all {l : List Nat} (hr : readyIs ops m l = true) (hne : l ≠ []) (h : ∀ i ∈ l, ∃ o, ops[i]? = some o ∧ RunL P ops n [o] t w (fun t' w' => (notYet ops (m ||| 2 ^ i) c = true → Sat S w₀ w' L) ∧ AnyLB P ops c n S w₀ L f (m ||| 2 ^ i) t' w' K)) : AnyLB P ops c n S w₀ L (f + 1) m t w K := by
  unfold AnyLB at *
  intro Q hQ hK a ha
  have hr' : Region.ready .any ops (bitsA ops.size m) = l := by simpa [readyIs] using hr
  have noOut : ¬ LetsOut Q := fun ⟨a, w, h⟩ => by cases hQ _ _ _ h
  refine ⟨fun h => (by rw [hr'] at h; exact absurd h hne), fun j hj => ?_⟩
  rw [hr'] at hj
  obtain ⟨o, hi, h⟩ := h j hj
  unfold RunL at h
  have h1 := h (fun e a' w' => e = .normal ∧ ((bitsA ops.size (m ||| 2 ^ j)).getD c true = false → Sat S w₀ w' L) ∧ AnyB P ops c (fun w => Sat S w₀ w L) Q f (bitsA ops.size (m ||| 2 ^ j)) a' w')
    (fun a' w' t' h1 h2 => ⟨rfl, fun e => h2.1 (by simp [notYet, e]), h2.2 Q hQ hK a' h1⟩) a ha
  have noOut2 : ¬ LetsOut (fun e a' w' => e = Exit.normal ∧ ((bitsA ops.size (m ||| 2 ^ j)).getD c true = false → Sat S w₀ w' L) ∧ AnyB P ops c (fun w => Sat S w₀ w L) Q f (bitsA ops.size (m ||| 2 ^ j)) a' w') := fun ⟨a, w, h⟩ => by cases h.1
  have strict2 : Strict (fun e a' w' => e = Exit.normal ∧ ((bitsA ops.size (m ||| 2 ^ j)).getD c true = false → Sat S w₀ w' L) ∧ AnyB P ops c (fun w => Sat S w₀ w L) Q f (bitsA ops.size (m ||| 2 ^ j)) a' w') := fun _ _ _ h => h.1
  simp only [wpList] at h1
  unfold wpOp
  simp only [hi]
  rw [bitsA_set]
  split at h1
  · rename_i hw
    rw [if_pos hw]
    left
    rcases h1 with h1 | h1
    · unfold Oper.wp at h1 ⊢
      generalize (execOp a.eval o).run P w = r at *
      cases r with
      | ok nx w' =>
        cases nx <;> simp only [Oper.upon] at h1 ⊢ <;> try exact h1
        case value u => exact h1.2
        case skip => exact h1.2
        case enter g args =>
          refine h1.mono ?_
          intro e w'' h
          cases e with
          | returned u => exact h.2
          | panicked c => cases strict2 _ _ _ h
          | outgrown => exact (noOut2 h).elim
        case row r args => exact h1.mono fun u w'' h => h.2
        case defer d => exact h1.2
      | halt x w' =>
        cases x <;> simp only [Oper.upon] at h1 ⊢
        case panic v => cases strict2 _ _ _ h1
    · exact (noOut2 h1.2).elim
  · rename_i hw
    rw [if_neg hw]
    exact h1.2
theorem anyB_end (hr : noMore ops m = true) (h : K t w) : AnyLB P ops c n S w₀ L 0 m t w K := by
  intro Q hQ hK a ha
  exact ⟨by simpa [noMore] using hr, hK _ _ _ ha h⟩
end
end Go.Proofs.YtpiodhdbdlfnhaaGreatDoor
