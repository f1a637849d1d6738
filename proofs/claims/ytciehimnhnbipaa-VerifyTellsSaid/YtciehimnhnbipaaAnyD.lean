/- Drawn regions that end by changes: pure operations that come ahead of the change by way of others, and such as read nothing. Over any program. -/
import Derived.Test.YtciehimnhnbipaaAnyB
namespace Go.Proofs.Ytciehimnhnbipaa
open Go.RowKit Go.Lib
set_option linter.unusedVariables false
section
variable {P : Program} {ops : Array Oper} {C : World → Prop} {Q : Exit → Act → World → Prop} {c : Nat}
/-- Each of the row comes behind the one ahead of it. -/
def boundBy (ops : Array Oper) : Nat → List Nat → Bool
  | _, [] => true
  | i, x :: r => bound ops x i && boundBy ops x r
theorem chain_held : ∀ {ch : List Nat} {i : Nat} {listed : Array Bool}, boundBy ops i ch = true → listed.getD i true = false → (∀ x ∈ ch, listed.getD x true = false) → ∀ x ∈ ch, x ∉ Region.ready .any ops listed
  | [], _, _, _, _, _, x, hx, _ => by cases hx
  | y :: r, i, listed, hb, hi, hun, x, hx, hr => by
    simp only [boundBy, Bool.and_eq_true] at hb
    rcases List.mem_cons.1 hx with rfl | hx
    · rw [mem_ready] at hr
      obtain ⟨_, oj, hoj, hall⟩ := hr
      have hb1 := hb.1
      unfold bound at hb1
      rw [hoj] at hb1
      simp only [Array.any_eq_true, Bool.and_eq_true, Nat.beq_eq] at hb1
      obtain ⟨k, hk, h1, h2⟩ := hb1
      have := hall _ (Array.getElem_mem hk) h1
      rw [h2] at this
      rw [Array.getD_eq_getD_getElem?] at this hi
      cases hx : listed[i]? with
      | none => rw [hx] at hi; simp at hi
      | some b => rw [hx] at hi this; simp at hi this; rw [hi] at this; cases this
    · exact chain_held hb.2 (hun y (by simp)) (fun z hz => hun z (by simp [hz])) x hx hr
theorem AnyB_chain (hQ : Strict Q) {i : Nat} {oi : Oper} {v : Value} (ch : List Nat) (hi : ops[i]? = some oi) (hsel : Region.noSelect ops = true) (hdep : boundBy ops i ch = true) (hcc : c ∈ ch) (hnc : i ∉ ch) :
    ∀ (fuel : Nat) (listed : Array Bool) (a : Act) (w : World), C w → (∀ x ∈ ch, listed.getD x true = false) →
      (∀ j oj, ops[j]? = some oj → j ≠ i → listed.getD j true = false → (∀ e ∈ oj.after, Region.binds .any e = true → e.on ≠ i) → oi.apart ops oj = true) →
      i ∈ Region.ready .any ops listed → PureIn P ops C oi v a →
      AnyB P ops c C Q fuel (listed.setIfInBounds i true) (a.put oi.dst v) w → AnyB P ops c C Q (fuel + 1) listed a w := by
  intro fuel
  have unl : ∀ (listed : Array Bool), i ∈ Region.ready .any ops listed → listed.getD i true = false := fun listed hr => by
    rw [mem_ready] at hr; exact hr.1
  have notc : ∀ (listed : Array Bool), (∀ x ∈ ch, listed.getD x true = false) → i ∈ Region.ready .any ops listed → ∀ j ∈ Region.ready .any ops listed, j ∉ ch := fun listed hun hr j hj hjc =>
    chain_held hdep (unl listed hr) hun j hjc hj
  have step : ∀ (listed : Array Bool) (a : Act) (w : World), C w →
      (∀ j oj, ops[j]? = some oj → j ≠ i → listed.getD j true = false → (∀ e ∈ oj.after, Region.binds .any e = true → e.on ≠ i) → oi.apart ops oj = true) →
      i ∈ Region.ready .any ops listed → ∀ j ∈ Region.ready .any ops listed, j ≠ i → ∃ oj, ops[j]? = some oj ∧ oi.apart ops oj = true := by
    intro listed a w hC hfree hr j hj hji
    have hj' := hj
    rw [mem_ready] at hj hr
    obtain ⟨h0, oj, hoj, hall⟩ := hj
    refine ⟨oj, hoj, hfree j oj hoj hji h0 fun e he hb hon => ?_⟩
    have := hall e he hb
    rw [hon] at this
    have h1 := hr.1
    rw [Array.getD_eq_getD_getElem?] at this h1
    cases hx : listed[i]? with
    | none => rw [hx] at h1; simp at h1
    | some b => rw [hx] at h1 this; simp at h1 this; rw [h1] at this; cases this
  induction fuel with
  | zero =>
    intro listed a w hC hl hfree hr hy H
    refine ⟨fun h => (by rw [h] at hr; cases hr), fun j hj => ?_⟩
    by_cases hji : j = i
    · subst hji; exact hy.op hi hC ⟨fun _ => hC, H⟩
    · have := ready_mono hj hji
      rw [H.1] at this; cases this
  | succ f ih =>
    intro listed a w hC hl hfree hr hy H
    refine ⟨fun h => (by rw [h] at hr; cases hr), fun j hj => ?_⟩
    by_cases hji : j = i
    · subst hji; exact hy.op hi hC ⟨fun _ => hC, H⟩
    · obtain ⟨oj, hoj, hap⟩ := step listed a w hC hfree hr j hj hji
      have hjc := notc listed hl hr j hj
      have hl1 : ∀ x ∈ ch, (listed.setIfInBounds j true).getD x true = false := fun x hx => by rw [getD_set_ne true (show j ≠ x from fun e => hjc (by rw [e]; exact hx))]; exact hl x hx
      have hl2 : ((listed.setIfInBounds i true).setIfInBounds j true).getD c true = false := by rw [getD_set_ne true (show j ≠ c from fun e => hjc (by rw [e]; exact hcc)), getD_set_ne true (show i ≠ c from fun e => hnc (by rw [e]; exact hcc))]; exact hl c hcc
      have h2 := H.2 j (ready_mono hj hji)
      have h3 := wpOp_put hQ hoj hap (fun cs b => Region.noSelect_spec hsel j oj cs b hoj) h2
      obtain ⟨a1, a2, a3⟩ := Oper.apart_spec hap
      have h4 : wpOp P ops Q j (fun a' w' => PureIn P ops C oi v a' ∧ C w' ∧ AnyB P ops c C Q f ((listed.setIfInBounds i true).setIfInBounds j true) (a'.put oi.dst v) w') a w := by
        have keep : ∀ u, PureIn P ops C oi v (a.put oj.dst u) := fun u => hy.put (fun cs b => Region.noSelect_spec hsel i oi cs b hi) a3 u
        have keepd : ∀ d, PureIn P ops C oi v (({ a with defers := d :: a.defers } : Act).put oj.dst undef) := fun d => PureIn.put (a := { a with defers := d :: a.defers }) (fun cs b => Region.noSelect_spec hsel i oi cs b hi) a3 hy undef
        unfold wpOp at h3 ⊢
        simp only [hoj] at h3 ⊢
        split
        · rename_i hw
          simp only [hw, if_true] at h3
          rcases h3 with h3 | h3
          · left
            unfold Oper.wp at h3 ⊢
            generalize (execOp a.eval oj).run P w = r at *
            cases r with
            | ok n w' =>
              cases n <;> simp only [Oper.upon] at h3 ⊢ <;> try exact h3
              case value u => exact ⟨keep u, h3.1 hl2, h3.2⟩
              case skip => exact ⟨keep _, h3.1 hl2, h3.2⟩
              case enter g args =>
                refine h3.mono ?_
                intro e w'' h
                cases e with
                | returned u => exact ⟨keep u, h.1 hl2, h.2⟩
                | panicked c => exact h
                | outgrown => exact h
              case row r args => exact h3.mono fun u w'' h => ⟨keep u, h.1 hl2, h.2⟩
              case defer d => exact ⟨keepd d, h3.1 hl2, h3.2⟩
            | halt x w' => cases x <;> simp only [Oper.upon] at h3 ⊢ <;> exact h3
          · exact .inr h3
        · rename_i hw
          simp only [hw] at h3
          exact ⟨keep _, h3.1 hl2, h3.2⟩
      refine wpOp_mono (fun a' w' hk => ⟨fun _ => hk.2.1, ih (listed.setIfInBounds j true) a' w' hk.2.1 hl1 ?_ (ready_mono hr (Ne.symm hji)) hk.1 ?_⟩) h4
      · intro k ok hk hki hun hno
        refine hfree k ok hk hki ?_ hno
        by_cases hjk : j = k
        · subst hjk
          have hlt : j < listed.size := by
            rcases Nat.lt_or_ge j listed.size with h | h
            · exact h
            · rw [mem_ready] at hj
              have := hj.1
              rw [Array.getD_eq_getD_getElem?, Array.getElem?_eq_none h] at this
              cases this
          rw [Array.getD_eq_getD_getElem?, Array.getElem?_setIfInBounds_self_of_lt hlt] at hun
          cases hun
        · rw [getD_set_ne true hjk] at hun; exact hun
      · rw [Array.setIfInBounds_comm _ _ hji]
        exact hk.2.2
theorem AnyB_free (hQ : Strict Q) {i : Nat} {oi : Oper} {v : Value} (hi : ops[i]? = some oi) (hsel : Region.noSelect ops = true) (hic : i ≠ c) :
    ∀ (fuel : Nat) (listed : Array Bool) (a : Act) (w : World), (listed.getD c true = false → C w) →
      (∀ j oj, ops[j]? = some oj → j ≠ i → listed.getD j true = false → (∀ e ∈ oj.after, Region.binds .any e = true → e.on ≠ i) → oi.apart ops oj = true) →
      i ∈ Region.ready .any ops listed → PureIn P ops (fun _ => True) oi v a →
      AnyB P ops c C Q fuel (listed.setIfInBounds i true) (a.put oi.dst v) w → AnyB P ops c C Q (fuel + 1) listed a w := by
  intro fuel
  have unl : ∀ (listed : Array Bool), i ∈ Region.ready .any ops listed → listed.getD i true = false := fun listed hr => by
    rw [mem_ready] at hr; exact hr.1
  have step : ∀ (listed : Array Bool) (a : Act) (w : World),
      (∀ j oj, ops[j]? = some oj → j ≠ i → listed.getD j true = false → (∀ e ∈ oj.after, Region.binds .any e = true → e.on ≠ i) → oi.apart ops oj = true) →
      i ∈ Region.ready .any ops listed → ∀ j ∈ Region.ready .any ops listed, j ≠ i → ∃ oj, ops[j]? = some oj ∧ oi.apart ops oj = true := by
    intro listed a w hfree hr j hj hji
    have hj' := hj
    rw [mem_ready] at hj hr
    obtain ⟨h0, oj, hoj, hall⟩ := hj
    refine ⟨oj, hoj, hfree j oj hoj hji h0 fun e he hb hon => ?_⟩
    have := hall e he hb
    rw [hon] at this
    have h1 := hr.1
    rw [Array.getD_eq_getD_getElem?] at this h1
    cases hx : listed[i]? with
    | none => rw [hx] at h1; simp at h1
    | some b => rw [hx] at h1 this; simp at h1 this; rw [h1] at this; cases this
  induction fuel with
  | zero =>
    intro listed a w hC hfree hr hy H
    refine ⟨fun h => (by rw [h] at hr; cases hr), fun j hj => ?_⟩
    by_cases hji : j = i
    · subst hji; exact hy.op hi trivial ⟨fun h => hC (by rw [getD_set_ne true hic] at h; exact h), H⟩
    · have := ready_mono hj hji
      rw [H.1] at this; cases this
  | succ f ih =>
    intro listed a w hC hfree hr hy H
    refine ⟨fun h => (by rw [h] at hr; cases hr), fun j hj => ?_⟩
    by_cases hji : j = i
    · subst hji; exact hy.op hi trivial ⟨fun h => hC (by rw [getD_set_ne true hic] at h; exact h), H⟩
    · obtain ⟨oj, hoj, hap⟩ := step listed a w hfree hr j hj hji
      have hl2 : (listed.setIfInBounds j true).getD c true = false → ((listed.setIfInBounds i true).setIfInBounds j true).getD c true = false := fun h => by
        rw [Array.setIfInBounds_comm _ _ (Ne.symm hji), getD_set_ne true hic]; exact h
      have h2 := H.2 j (ready_mono hj hji)
      have h3 := wpOp_put hQ hoj hap (fun cs b => Region.noSelect_spec hsel j oj cs b hoj) h2
      obtain ⟨a1, a2, a3⟩ := Oper.apart_spec hap
      have h4 : wpOp P ops Q j (fun a' w' => PureIn P ops (fun _ => True) oi v a' ∧ ((listed.setIfInBounds j true).getD c true = false → C w') ∧ AnyB P ops c C Q f ((listed.setIfInBounds i true).setIfInBounds j true) (a'.put oi.dst v) w') a w := by
        have keep : ∀ u, PureIn P ops (fun _ => True) oi v (a.put oj.dst u) := fun u => hy.put (fun cs b => Region.noSelect_spec hsel i oi cs b hi) a3 u
        have keepd : ∀ d, PureIn P ops (fun _ => True) oi v (({ a with defers := d :: a.defers } : Act).put oj.dst undef) := fun d => PureIn.put (a := { a with defers := d :: a.defers }) (fun cs b => Region.noSelect_spec hsel i oi cs b hi) a3 hy undef
        unfold wpOp at h3 ⊢
        simp only [hoj] at h3 ⊢
        split
        · rename_i hw
          simp only [hw, if_true] at h3
          rcases h3 with h3 | h3
          · left
            unfold Oper.wp at h3 ⊢
            generalize (execOp a.eval oj).run P w = r at *
            cases r with
            | ok n w' =>
              cases n <;> simp only [Oper.upon] at h3 ⊢ <;> try exact h3
              case value u => exact ⟨keep u, fun g => h3.1 (hl2 g), h3.2⟩
              case skip => exact ⟨keep _, fun g => h3.1 (hl2 g), h3.2⟩
              case enter g args =>
                refine h3.mono ?_
                intro e w'' h
                cases e with
                | returned u => exact ⟨keep u, fun g => h.1 (hl2 g), h.2⟩
                | panicked c => exact h
                | outgrown => exact h
              case row r args => exact h3.mono fun u w'' h => ⟨keep u, fun g => h.1 (hl2 g), h.2⟩
              case defer d => exact ⟨keepd d, fun g => h3.1 (hl2 g), h3.2⟩
            | halt x w' => cases x <;> simp only [Oper.upon] at h3 ⊢ <;> exact h3
          · exact .inr h3
        · rename_i hw
          simp only [hw] at h3
          exact ⟨keep _, fun g => h3.1 (hl2 g), h3.2⟩
      refine wpOp_mono (fun a' w' hk => ⟨hk.2.1, ih (listed.setIfInBounds j true) a' w' hk.2.1 ?_ (ready_mono hr (Ne.symm hji)) hk.1 ?_⟩) h4
      · intro k ok hk hki hun hno
        refine hfree k ok hk hki ?_ hno
        by_cases hjk : j = k
        · subst hjk
          have hlt : j < listed.size := by
            rcases Nat.lt_or_ge j listed.size with h | h
            · exact h
            · rw [mem_ready] at hj
              have := hj.1
              rw [Array.getD_eq_getD_getElem?, Array.getElem?_eq_none h] at this
              cases this
          rw [Array.getD_eq_getD_getElem?, Array.getElem?_setIfInBounds_self_of_lt hlt] at hun
          cases hun
        · rw [getD_set_ne true hjk] at hun; exact hun
      · rw [Array.setIfInBounds_comm _ _ hji]
        exact hk.2.2
end
section
variable {S : Nat → Prop} {w₀ : World} {L : List Res} {P : Program} {ops : Array Oper} {c n : Nat} {t : Tm} {w : World} {K : Tm → World → Prop} {KQ : Tm → Prop} {f m d : Nat} {ty : TypeId} {pos : String} {af : Array Edge}
theorem anyB_chain {i : Nat} {o : Oper} (ch : List Nat) (hi : ops[i]? = some o) (hc : (canFirst ops m i && (boundBy ops i ch && (ch.all (notYet ops m) && (ch.contains c && !ch.contains i)))) = true) (hS : Sat S w₀ w L) (h : QX P ops n S w₀ L o t (fun t' => AnyLB P ops c n S w₀ L f (m ||| 2 ^ i) t' w K)) : AnyLB P ops c n S w₀ L (f + 1) m t w K := by
  intro Q hQ hK a ha
  unfold QX at h
  obtain ⟨v, t', hv, hk⟩ := h
  simp only [Bool.and_eq_true] at hc
  obtain ⟨hc, hb, hn, hcc, hnc⟩ := hc
  simp only [canFirst, Bool.and_eq_true] at hc
  obtain ⟨hsel, hr, hf⟩ := hc
  refine AnyB_chain hQ ch hi hsel hb (by simpa using hcc) (by simpa using hnc) f _ a w hS (fun x hx => by simpa [notYet] using List.all_eq_true.1 hn x hx) (Region.free_spec hi hf) (by simpa using hr) (hv a ha).1 ?_
  rw [bitsA_set]
  exact hk Q hQ hK _ (hv a ha).2
/-- What reads nothing. -/
def QX0 (P : Program) (ops : Array Oper) (n : Nat) (o : Oper) (t : Tm) (KQ : Tm → Prop) : Prop := ∃ v t', (∀ a, Agr n a t → PureIn P ops (fun _ => True) o v a ∧ Agr n (a.put o.dst v) t') ∧ KQ t'
theorem anyB_free {i : Nat} {o : Oper} (hi : ops[i]? = some o) (hc : (canFirst ops m i && !(Nat.beq i c)) = true) (hS : notYet ops m c = true → Sat S w₀ w L) (h : QX0 P ops n o t (fun t' => AnyLB P ops c n S w₀ L f (m ||| 2 ^ i) t' w K)) : AnyLB P ops c n S w₀ L (f + 1) m t w K := by
  intro Q hQ hK a ha
  unfold QX0 at h
  obtain ⟨v, t', hv, hk⟩ := h
  simp only [Bool.and_eq_true] at hc
  obtain ⟨hc, hnc⟩ := hc
  simp only [canFirst, Bool.and_eq_true] at hc
  obtain ⟨hsel, hr, hf⟩ := hc
  refine AnyB_free hQ hi hsel (fun e => by subst e; simp at hnc) f _ a w (fun h => hS (by simp [notYet, h])) (Region.free_spec hi hf) (by simpa using hr) (hv a ha).1 ?_
  rw [bitsA_set]
  exact hk Q hQ hK _ (hv a ha).2
theorem val0 {o : Oper} {v : Value} (hg : o.guard = none) (hdst : o.dst = some d) (hd : Nat.blt d n = true) (hr : ∀ w, (execOp (ev t) o).run P w = .ok (.value v) w) (kk : KQ (upd t d v)) : QX0 P ops n o t KQ :=
  ⟨v, upd t d v, fun a ha => ⟨.inl ⟨by simp [Region.wanted, hg], fun w hw => by rw [ha.eval]; exact hr w⟩, by rw [hdst]; exact ha.put hd v⟩, kk⟩
theorem move0 {x : Operand} {v : Value} (hx : ev t x = v) (hd : Nat.blt d n = true) (kk : KQ (upd t d v)) : QX0 P ops n ⟨some d, .move x, ty, pos, af, none⟩ t KQ :=
  val0 rfl rfl hd (fun w => by show Sem.run P (pure (Next.value (ev t x))) w = _; rw [hx]; rfl) kk
theorem add0 {x y : Operand} {T T' : TypeId} {k : IntKind} {a b : Int} {c : Int} (hx : ev t x = .int k a) (hy : ev t y = .int k b) (hc : k.wrap (a + b) = c) (hd : Nat.blt d n = true) (kk : KQ (upd t d (.int k c))) : QX0 P ops n ⟨some d, .binOp .add T x y T', ty, pos, af, none⟩ t KQ :=
  val0 rfl rfl hd (fun w => by show Sem.run P (do let u ← (do eqGuard .add T x y (ev t x) (ev t y); binOp .add T (ev t x) (ev t y)); pure (Next.value u)) w = _; rw [hx, hy, eqGuard_at_int]; show Sem.run P (do let u ← binOp .add T (.int k a) (.int k b); pure (Next.value u)) w = _; rw [binOp_add]; rw [← hc]; rfl) kk
theorem sub0 {x y : Operand} {T T' : TypeId} {k : IntKind} {a b : Int} {c : Int} (hx : ev t x = .int k a) (hy : ev t y = .int k b) (hc : k.wrap (a - b) = c) (hd : Nat.blt d n = true) (kk : KQ (upd t d (.int k c))) : QX0 P ops n ⟨some d, .binOp .sub T x y T', ty, pos, af, none⟩ t KQ :=
  val0 rfl rfl hd (fun w => by show Sem.run P (do let u ← (do eqGuard .sub T x y (ev t x) (ev t y); binOp .sub T (ev t x) (ev t y)); pure (Next.value u)) w = _; rw [hx, hy, eqGuard_at_int]; show Sem.run P (do let u ← binOp .sub T (.int k a) (.int k b); pure (Next.value u)) w = _; rw [binOp_sub]; rw [← hc]; rfl) kk
end
end Go.Proofs.Ytciehimnhnbipaa
