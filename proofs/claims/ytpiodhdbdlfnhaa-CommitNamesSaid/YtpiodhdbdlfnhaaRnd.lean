/- Code whose activation is a round of a range over a function, or bears the mark of one. Over any program. -/
import Derived.Test.YtpiodhdbdlfnhaaMid
import Derived.RangeFuncFrom
import Derived.RangeFuncLeaves
import Derived.RangeFuncCalls
import Derived.OwnWalkIn
import Derived.OrdersIn
import Derived.Sort.LoopGhostIn
namespace Go.Proofs.Ytpiodhdbdlfnhaa
open Go.RowKit Go.Lib
set_option linter.unusedVariables false
/-- The fence of an activation, or of a round. -/
def fen (ρ : Option Nat) : Fence := { Fence.wide with round := ρ }
theorem fen_none : fen none = Fence.wide := rfl
theorem fen_some (l : Nat) : fen (some l) = Fence.wide.inRound l := rfl
theorem callsIn_fen {ρ : Option Nat} {n : Nat} {P : Program} {f : FuncId} {args : Array Value} {w : World} {R : Ending → World → Prop} (h : Calls P f args w R) : CallsIn (fen ρ) n P f args w R := by
  have h2 : CallsIn Fence.wide n P f args w R := callsIn_wide.2 h
  cases ρ with
  | none => exact h2
  | some l => exact CallsIn.inRound l h2
theorem rowsIn_fen {ρ : Option Nat} {n : Nat} {P : Program} {row : String} {args : Array Value} {w : World} {R : Value → World → Prop} (h : Rows P row args w R) : RowsIn (fen ρ) n P row args w R := fun c cs _ => by
  obtain ⟨v, w', h1, h2⟩ := h c cs
  refine ⟨v, w', h1, ?_⟩
  have h3 : StepsIn (Machine.fenced P Fence.wide) P (lone (Frame.ofRow P row args .normal) (c :: cs) w) (lone (c.finish v) cs w') := stepsIn_wide.2 h2
  exact h3
def plainOp (o : Oper) : Bool := match o.op with | .defer _ => false | _ => true
theorem plainOp_spec {o : Oper} (h : plainOp o = true) : ∀ c, o.op ≠ .defer c := fun c e => by unfold plainOp at h; rw [e] at h; cases h
/-- No call of a value: that might be yield. -/
def noVal (o : Oper) : Bool := match o.op with | .call c => (match c.callee with | .value (.tmp _) => false | _ => true) | _ => true
def withD (ds : List Deferred) (a : Act) : Act := { a with defers := a.defers ++ ds }
theorem withD_eval (ds : List Deferred) (a : Act) : (withD ds a).eval = a.eval := by funext x; cases x <;> rfl
theorem withD_put (ds : List Deferred) (a : Act) (x : Option Tmp) (v : Value) : (withD ds a).put x v = withD ds (a.put x v) := by cases x <;> rfl
section
variable {ρ : Option Nat} {ds : List Deferred} {k : Nat} {P : Program} {ops : Array Oper} {Q Q' : Exit → Act → World → Prop}
/-- One operation. -/
theorem wp_ds {o : Oper} {a : Act} {w : World} {next next' : Act → World → Prop} (hp : plainOp o = true) (hQ : Strict Q) (hn : ∀ a w, next a w → next' (withD ds a) w)
    (h : o.wp P a w next Q) : o.wpIn (fen ρ) k P (withD ds a) w next' Q' := by
  have noOut : ¬ LetsOut Q := fun ⟨a, w, h⟩ => by cases hQ _ _ _ h
  refine ⟨fun _ _ => trivial, ?_⟩
  rw [Oper.semAt_eq _ _ _ (plainOp_spec hp), withD_eval]
  unfold Oper.wp at h
  cases hr : (execOp a.eval o).run P w with
  | ok nx w' =>
    rw [hr] at h
    cases nx <;> simp only [Oper.upon, Oper.uponIn] at h ⊢
    case value v => rw [withD_put]; exact hn _ _ h
    case skip => rw [withD_put]; exact hn _ _ h
    case enter f args =>
      refine ⟨(fun e => by cases e), callsIn_fen (h.mono ?_)⟩
      intro e w'' h
      cases e with
      | returned v => show next' _ _; rw [withD_put]; exact hn _ _ h
      | panicked c => cases hQ _ _ _ h
      | outgrown => exact (noOut h).elim
    case row r args => exact ⟨(fun e => by cases e), rowsIn_fen (h.mono fun v w'' h => by rw [withD_put]; exact hn _ _ h)⟩
    case defer d =>
      have e : ({ withD ds a with defers := d :: (withD ds a).defers } : Act) = withD ds { a with defers := d :: a.defers } := rfl
      rw [e, withD_put]
      exact hn _ _ h
  | halt x w' =>
    rw [hr] at h
    cases x <;> simp only [Oper.upon, Oper.uponIn] at h ⊢
    case panic v => cases hQ _ _ _ h
theorem wpList_ds (hQ : Strict Q) (hq : ∀ a w, Q .normal a w → Q' .normal (withD ds a) w) : ∀ (l : List Oper), l.all plainOp = true → ∀ a w, wpList P ops Q l a w → wpListIn (fen ρ) k P ops Q' l (withD ds a) w := by
  have noOut : ¬ LetsOut Q := fun ⟨a, w, h⟩ => by cases hQ _ _ _ h
  intro l
  induction l with
  | nil => intro _ a w h; exact hq a w h
  | cons o l ih =>
    intro hp a w h
    simp only [List.all_cons, Bool.and_eq_true] at hp
    unfold wpList at h
    unfold wpListIn
    have ht : (withD ds a).tmps = a.tmps := rfl
    rw [ht]
    split at h
    · rename_i hw
      rw [if_pos hw]
      rcases h with h | h
      · exact wp_ds hp.1 hQ (fun a w h => ih hp.2 a w h) h
      · exact (noOut h.2).elim
    · rename_i hw
      rw [if_neg hw]
      exact ⟨fun _ _ => trivial, by rw [withD_put]; exact ih hp.2 _ _ h⟩
theorem wpAny_ds (hQ : Strict Q) (hq : ∀ a w, Q .normal a w → Q' .normal (withD ds a) w) (hp : ops.toList.all plainOp = true) : ∀ (f : Nat) (listed : Array Bool) (a : Act) (w : World), wpAny P .any ops Q f listed a w → wpAnyIn (fen ρ) k P .any ops Q' f listed (withD ds a) w := by
  have noOut : ¬ LetsOut Q := fun ⟨a, w, h⟩ => by cases hQ _ _ _ h
  intro f
  induction f with
  | zero => intro listed a w h; exact ⟨h.1, hq _ _ h.2⟩
  | succ f ih =>
    intro listed a w h
    refine ⟨fun e => hq _ _ (h.1 e), fun i hi => ?_⟩
    have h2 := h.2 i hi
    unfold wpOp at h2
    unfold wpOpIn
    cases ho : ops[i]? with
    | none => rw [ho] at h2; exact ih _ _ _ h2
    | some o =>
      rw [ho] at h2
      have hpo : plainOp o = true := List.all_eq_true.1 hp o (List.mem_of_getElem? (by rw [Array.getElem?_toList]; exact ho))
      have ht : (withD ds a).tmps = a.tmps := rfl
      simp only [ht] at h2 ⊢
      split at h2
      · rename_i hw
        rw [if_pos hw]
        rcases h2 with h2 | h2
        · exact wp_ds hpo hQ (fun a w h => ih _ a w h) h2
        · exact (noOut h2.2).elim
      · rename_i hw
        rw [if_neg hw]
        exact ⟨fun _ _ => trivial, by rw [withD_put]; exact ih _ _ _ h2⟩
end
structure AgrD (n : Nat) (a : Act) (t : Tm) : Prop where
  size : a.tmps.size = n
  get : ∀ i, a.tmps.getD i undef = t i
theorem AgrD.eval {n : Nat} {a : Act} {t : Tm} (h : AgrD n a t) : a.eval = ev t := by
  funext x; cases x <;> simp [Act.eval, ev, h.get]
theorem Agr.toD {n : Nat} {a : Act} {t : Tm} (h : Agr n a t) : AgrD n a t := ⟨h.size, h.get⟩
theorem AgrD.bare {n : Nat} {a : Act} {t : Tm} (h : AgrD n a t) : Agr n { a with defers := [] } t ∧ withD a.defers { a with defers := [] } = a := ⟨⟨h.size, h.get, rfl⟩, rfl⟩
abbrev MQ := List Deferred → Exit → Tm → World → Prop
def liftM (n : Nat) (Q : MQ) : Exit → Act → World → Prop := fun e a w => ∃ t, AgrD n a t ∧ Q a.defers e t w
def RunM (ρ : Option Nat) (ds : List Deferred) (P : Program) (n : Nat) (c : Code) (t : Tm) (w : World) (Q : MQ) : Prop :=
  ∀ a, AgrD n a t → a.defers = ds → c.wpIn (fen ρ) 9 P (liftM n Q) a w
section
variable {ρ : Option Nat} {ds : List Deferred} {P : Program} {n : Nat} {t : Tm} {w : World} {Q : MQ}
theorem runM_seq {x y : Code} (h : RunM ρ ds P n x t w (fun ds' => thenQ (fun t' w' => RunM ρ ds' P n y t' w' Q) (Q ds'))) : RunM ρ ds P n (.seq x y) t w Q := fun a ha hd => by
  refine wpIn_seq (wpIn_mono (h a ha hd) ?_)
  rintro e a' w' ⟨t', ha', hq⟩
  by_cases he : e = .normal
  · subst he
    exact thenQ_inv_n hq a' ha' rfl
  · have := thenQ_inv he hq
    cases e with
    | normal => exact absurd rfl he
    | _ => exact ⟨t', ha', this⟩
theorem runM_skip (h : Q ds .normal t w) : RunM ρ ds P n .skip t w Q := fun a ha hd => wpIn_skip ⟨t, ha, hd ▸ h⟩
theorem runM_exit {id : Nat} (h : Q ds (.exit id) t w) : RunM ρ ds P n (.exit id) t w Q := fun a ha hd => wpIn_exit ⟨t, ha, hd ▸ h⟩
theorem runM_ret (h : Q ds .ret t w) : RunM ρ ds P n .ret t w Q := fun a ha hd => wpIn_ret ⟨t, ha, hd ▸ h⟩
theorem runM_cond_true {c : Operand} {x y : Code} (hc : ev t c = .bool true) (h : RunM ρ ds P n x t w Q) : RunM ρ ds P n (.cond c x y) t w Q := fun a ha hd =>
  wpIn_cond_true (by rw [ha.eval, hc]) (h a ha hd)
theorem runM_cond_false {c : Operand} {x y : Code} (hc : ev t c = .bool false) (h : RunM ρ ds P n y t w Q) : RunM ρ ds P n (.cond c x y) t w Q := fun a ha hd =>
  wpIn_cond_false (by rw [ha.eval, hc]) (h a ha hd)
theorem blockQ_inv {id : Nat} {Q : Exit → Tm → World → Prop} {e : Exit} (he : ∀ i, e ≠ .exit i) (h : blockQ id Q e t w) : Q e t w := by
  unfold blockQ at h
  cases e with
  | exit i => exact absurd rfl (he i)
  | _ => exact h
theorem blockQ_inv_e {id i : Nat} {Q : Exit → Tm → World → Prop} (h : blockQ id Q (.exit i) t w) : if i = id then Q .normal t w else Q (.exit i) t w := by
  unfold blockQ at h
  exact h
theorem runM_block {id : Nat} {c : Code} (h : RunM ρ ds P n c t w (fun ds' => blockQ id (Q ds'))) : RunM ρ ds P n (.block id c) t w Q := fun a ha hd => by
  refine wpIn_block (wpIn_mono (h a ha hd) ?_)
  rintro e a' w' ⟨t', ha', hq⟩
  cases e with
  | exit id' =>
    have hq := blockQ_inv_e hq
    simp only [Exit.inBlock]
    split at hq
    · rename_i h; rw [if_pos h]; exact ⟨t', ha', hq⟩
    · rename_i h; rw [if_neg h]; exact ⟨t', ha', hq⟩
  | _ => exact ⟨t', ha', blockQ_inv (fun i e => by cases e) hq⟩
theorem runM_region {id : Nat} {l : List Oper} (hp : l.all plainOp = true) (h : RunL P l.toArray n l t w (Q ds .normal)) : RunM ρ ds P n (.region id l.toArray false) t w Q := fun a ha hd => by
  unfold RunL at h
  obtain ⟨h1, h2⟩ := ha.bare
  have := h (fun e a' w' => e = .normal ∧ ∃ t', Agr n a' t' ∧ Q ds .normal t' w') (fun a' w' t' h3 h4 => ⟨rfl, t', h3, h4⟩) _ h1
  have h3 := wpList_ds (ρ := ρ) (ds := ds) (k := 9) (Q' := liftM n Q) (fun e a w h => h.1) (fun a w h => by
    obtain ⟨_, t', g1, g2⟩ := h
    refine ⟨t', ⟨g1.size, g1.get⟩, ?_⟩
    rw [show (withD ds a).defers = ds from by unfold withD; rw [g1.defers]; rfl]
    exact g2) l hp _ _ this
  rw [← hd, h2] at h3
  exact wpIn_region_lit h3
theorem runM_any {S : Nat → Prop} {w₀ : World} {L L' : List Res} {f : Nat} {id : Nat} {l : List Oper} (hp : l.all plainOp = true) (hS : Sat S w₀ w L) (hm : P.follows .mixedOrders = true) (hs : Nat.beq l.length f = true)
    (h : ∀ w, Sat S w₀ w L → AnyL P l.toArray n S w₀ L' f 0 t w (Q ds .normal)) : RunM ρ ds P n (.region id l.toArray true) t w Q := fun a ha hd => by
  have hs' : l.toArray.size = f := by simpa [Nat.beq_eq] using hs
  obtain ⟨h1, h2⟩ := ha.bare
  have h0 := h { w with drawn := w.drawn + 1 } (hS.below ⟨rfl, rfl, rfl, Nat.le_refl _, fun _ _ => rfl⟩)
  unfold AnyL at h0
  have := h0 (fun e a' w' => e = .normal ∧ ∃ t', Agr n a' t' ∧ Q ds .normal t' w') (fun _ _ _ h => h.1) (fun a' w' t' h3 h4 => ⟨rfl, t', h3, h4⟩) _ h1
  have h3 := wpAny_ds (ρ := ρ) (ds := ds) (k := 9) (Q' := liftM n Q) (fun e a w h => h.1) (fun a w h => by
    obtain ⟨_, t', g1, g2⟩ := h
    refine ⟨t', ⟨g1.size, g1.get⟩, ?_⟩
    rw [show (withD ds a).defers = ds from by unfold withD; rw [g1.defers]; rfl]
    exact g2) (by simpa using hp) _ _ _ _ (AnyC.any _ _ _ _ this)
  rw [← hd, h2] at h3
  refine wpIn_region_any hm ?_
  rw [hs']
  have e : bitsA l.toArray.size 0 = Array.replicate f false := by rw [hs']; apply Array.ext'; simp [bitsA, List.map_const']
  rw [e] at h3
  exact h3
theorem runM_draws {S : Nat → Prop} {w₀ : World} {L : List Res} {id : Nat} {l : List Oper} (hp : l.all plainOp = true) (hS : Sat S w₀ w L) (hm : P.follows .mixedOrders = true) (hB : Region.lexB .any l.toArray = true)
    (h : QL P l.toArray n S w₀ L l t (fun t' => ∀ w, Sat S w₀ w L → Q ds .normal t' w)) : RunM ρ ds P n (.region id l.toArray true) t w Q := fun a ha hd => by
  obtain ⟨h1, h2⟩ := ha.bare
  have hB' := hB
  simp only [Region.lexB, Bool.and_eq_true] at hB'
  have hC : Sat S w₀ { w with drawn := w.drawn + 1 } L := hS.below ⟨rfl, rfl, rfl, Nat.le_refl _, fun _ _ => rfl⟩
  unfold QL at h
  have h0 := h (fun a' => ∃ t', Agr n a' t' ∧ ∀ w', Sat S w₀ w' L → Q ds .normal t' w') (fun a' t' g1 g2 => ⟨t', g1, g2⟩) _ h1
  have h4 := wpAnyQ_lex (C := fun w => Sat S w₀ w L) (md := .any) hB'.1 l.toArray.toList 0 (Array.replicate l.toArray.size false) { a with defers := [] } (by simp) (by simpa using hB'.2) h0
  have h5 := wpAny_of_quiet (Q' := fun e a' w' => e = .normal ∧ ∃ t', Agr n a' t' ∧ Q ds .normal t' w') (fun a' w' hw' g => ⟨rfl, by obtain ⟨t', g1, g2⟩ := g; exact ⟨t', g1, g2 w' hw'⟩⟩) _ _ _ _ hC h4
  have h3 := wpAny_ds (ρ := ρ) (ds := ds) (k := 9) (Q' := liftM n Q) (fun e a w h => h.1) (fun a w h => by
    obtain ⟨_, t', g1, g2⟩ := h
    refine ⟨t', ⟨g1.size, g1.get⟩, ?_⟩
    rw [show (withD ds a).defers = ds from by unfold withD; rw [g1.defers]; rfl]
    exact g2) (by simpa using hp) _ _ _ _ h5
  rw [← hd, h2] at h3
  refine wpIn_region_any hm ?_
  simpa using h3
theorem runM_loop {σ : Type} {c : Code} (inv : σ → Tm → World → Prop) (m : σ → Nat) (s0 : σ) (h0 : inv s0 t w)
    (round : ∀ s t w, inv s t w → RunM ρ ds P n c t w (fun ds' => thenQ (fun t' w' => ds' = ds ∧ ∃ s', inv s' t' w' ∧ m s' < m s) (Q ds'))) : RunM ρ ds P n (.loop c) t w Q := fun a ha hd => by
  refine wpIn_loop_ghost (fun k a w => ∃ s t, m s = k ∧ AgrD n a t ∧ a.defers = ds ∧ inv s t w) (m s0) ⟨s0, t, rfl, ha, hd, h0⟩ ?_
  rintro k a w ⟨s, t, rfl, ha, hd, hi⟩
  refine wpIn_mono (round s t w hi a ha hd) ?_
  rintro e a' w' ⟨t', ha', hq⟩
  by_cases he : e = .normal
  · subst he
    obtain ⟨hd', s', hi', hlt⟩ := thenQ_inv_n hq
    exact ⟨m s', hlt, s', t', rfl, ha', hd', hi'⟩
  · have := thenQ_inv he hq
    cases e with
    | normal => exact absurd rfl he
    | _ => exact ⟨t', ha', this⟩
theorem runM_while {c : Code} {σ : Type} (J : List Nat) (F : σ → Tm → Tm) (I : σ → World → Prop) (m : σ → Nat) (s0 : σ) (h0 : Agree J t (F s0 t)) (hi : I s0 w)
    (round : ∀ s j w, I s w → RunM ρ ds P n c (hv J j (F s t)) w (fun ds' => thenQ (fun t' w' => ds' = ds ∧ ∃ s', Agree J t' (F s' t) ∧ I s' w' ∧ m s' < m s) (Q ds'))) : RunM ρ ds P n (.loop c) t w Q := by
  refine runM_loop (fun s t' w => ∃ j, t' = hv J j (F s t) ∧ I s w) m s0 ⟨t, agree_hv' h0, hi⟩ ?_
  rintro s t' w ⟨j, rfl, hI⟩
  have := round s j w hI
  unfold RunM at this ⊢
  intro a ha hd
  refine wpIn_mono (this a ha hd) ?_
  rintro e a' w' ⟨t', ha', hq⟩
  refine ⟨t', ha', ?_⟩
  by_cases he : e = .normal
  · subst he
    obtain ⟨hd', s', h1, h2, h3⟩ := thenQ_inv_n hq
    exact thenQ_n ⟨hd', s', ⟨t', agree_hv' h1, h2⟩, h3⟩
  · exact thenQ_out he (thenQ_inv he hq)
theorem runM_mono {c : Code} {Q' : MQ} (h : RunM ρ ds P n c t w Q) (hq : ∀ ds e t w, Q ds e t w → Q' ds e t w) : RunM ρ ds P n c t w Q' := by
  unfold RunM at h ⊢
  intro a ha hd
  refine wpIn_mono (h a ha hd) ?_
  rintro e a' w' ⟨t', ha', hh⟩
  exact ⟨t', ha', hq _ _ _ _ hh⟩
end
/-! What is asked at a function's end, marks and all. -/
def markD (D : Nat) : Deferred := { target := .collected D, args := #[] }
def endM (Q0 : Exit → Tm → World → Prop) : MQ
  | [], e, t, w => Q0 e t w
  | d :: ds, e, t, w => ∃ D, d = markD D ∧ w.heap[D]? = some (.deferred (some [])) ∧ endM Q0 ds e t (w.putObj D (.deferred none))
theorem endM_nil {Q0 : Exit → Tm → World → Prop} {e : Exit} {t : Tm} {w : World} (h : Q0 e t w) : endM Q0 [] e t w := h
theorem endM_leaves {P : Program} {fn : Func} {R : Ending → World → Prop} {Q0 : Exit → Tm → World → Prop} {e : Exit} {t : Tm} {n : Nat} {a : Act} (ha : AgrD n a t)
    (hq : ∀ w, Q0 e t w → (e = .normal ∨ e = .ret) ∧ ∃ v, (results fn a.tmps).run P w = .ok v w ∧ R (.returned v) w) : ∀ (ds : List Deferred) (w : World), endM Q0 ds e t w → (e = .normal ∨ e = .ret) ∧ LeavesInM Fence.wide 9 P fn a.tmps R ds .returning w
  | [], w, h => by
    obtain ⟨h1, v, h2, h3⟩ := hq w h
    exact ⟨h1, v, h2, h3⟩
  | d :: ds, w, h => by
    obtain ⟨D, rfl, hD, h⟩ := h
    obtain ⟨h1, h2⟩ := endM_leaves ha hq ds _ h
    exact ⟨h1, by simp, .inl ⟨D, _, rfl, run_takeDeferred hD, h2⟩⟩
theorem calls_runM {P : Program} {f : FuncId} {fn : Func} {c : Code} {l : List Value} {w : World} {R : Ending → World → Prop} {Q0 : Exit → Tm → World → Prop} (hf : P.funcs[f]? = some fn) (hb : fn.body = some c) (hl : Nat.ble l.length fn.ntmps = true)
    (hq : ∀ e a w t, AgrD fn.ntmps a t → Q0 e t w → (e = .normal ∨ e = .ret) ∧ ∃ v, (results fn a.tmps).run P w = .ok v w ∧ R (.returned v) w) (h : RunM none [] P fn.ntmps c (argF l) w (endM Q0)) : Calls P f l.toArray w R := by
  refine callsIn_wide.1 (callsIn_of_wp_marks (n := 9) hf hb trivial ?_ rfl)
  unfold RunM at h
  have h1 := h _ (agr_args fn.ntmps l hl).toD rfl
  refine wpIn_mono h1 ?_
  rintro e a w' ⟨t, ha, hq'⟩
  obtain ⟨h2, h3⟩ := endM_leaves (P := P) (fn := fn) (R := R) ha (fun w hw => hq e a w t ha hw) _ _ hq'
  rcases h2 with rfl | rfl
  · exact h3
  · exact h3
section
variable {P : Program} {f : FuncId} {fn : Func} {c : Code} {l : List Value} {w : World} {R : Ending → World → Prop}
theorem retQ1_inv {r : Nat} {R : Ending → World → Prop} {e : Exit} {t : Tm} {w : World} (h : retQ1 r R e t w) : (e = .normal ∨ e = .ret) ∧ R (.returned (t r)) w := by
  unfold retQ1 at h
  cases e with
  | normal => exact ⟨.inl rfl, h⟩
  | ret => exact ⟨.inr rfl, h⟩
  | _ => exact h.elim
theorem retQ2_inv {r r' : Nat} {R : Ending → World → Prop} {e : Exit} {t : Tm} {w : World} (h : retQ2 r r' R e t w) : (e = .normal ∨ e = .ret) ∧ R (.returned (.tuple #[t r, t r'])) w := by
  unfold retQ2 at h
  cases e with
  | normal => exact ⟨.inl rfl, h⟩
  | ret => exact ⟨.inr rfl, h⟩
  | _ => exact h.elim
theorem retQ0_inv {R : Ending → World → Prop} {e : Exit} {t : Tm} {w : World} (h : retQ0 R e t w) : (e = .normal ∨ e = .ret) ∧ R (.returned (.tuple #[])) w := by
  unfold retQ0 at h
  cases e with
  | normal => exact ⟨.inl rfl, h⟩
  | ret => exact ⟨.inr rfl, h⟩
  | _ => exact h.elim
theorem enterM1 {r : Nat} (hf : P.funcs[f]? = some fn) (hb : fn.body = some c) {n : Nat} (hn : fn.ntmps = n) (hl : Nat.ble l.length n = true) (hr : fn.results = #[.tmp r]) (h : RunM none [] P n c (argF l) w (endM (retQ1 r R))) : Calls P f l.toArray w R := by
  subst hn
  refine calls_runM hf hb hl ?_ h
  intro e a w t ha hq
  obtain ⟨h1, h2⟩ := retQ1_inv hq
  exact ⟨h1, t r, by simp [results, hr, ← ha.get r, go_sem], h2⟩
theorem enterM2 {r r' : Nat} (hf : P.funcs[f]? = some fn) (hb : fn.body = some c) {n : Nat} (hn : fn.ntmps = n) (hl : Nat.ble l.length n = true) (hr : fn.results = #[.tmp r, .tmp r']) (h : RunM none [] P n c (argF l) w (endM (retQ2 r r' R))) : Calls P f l.toArray w R := by
  subst hn
  refine calls_runM hf hb hl ?_ h
  intro e a w t ha hq
  obtain ⟨h1, h2⟩ := retQ2_inv hq
  exact ⟨h1, .tuple #[t r, t r'], by simp [results, hr, ← ha.get r, ← ha.get r', go_sem], h2⟩
theorem enterM0 (hf : P.funcs[f]? = some fn) (hb : fn.body = some c) {n : Nat} (hn : fn.ntmps = n) (hl : Nat.ble l.length n = true) (hr : fn.results = #[]) (h : RunM none [] P n c (argF l) w (endM (retQ0 R))) : Calls P f l.toArray w R := by
  subst hn
  refine calls_runM hf hb hl ?_ h
  intro e a w t ha hq
  obtain ⟨h1, h2⟩ := retQ0_inv hq
  exact ⟨h1, .tuple #[], by simp [results, hr, go_sem], h2⟩
end
theorem blk1_eq (b : Nat) (c : Tm) (v : Value) (T : TypeId) : blk b 1 (upd c 0 v) T = blk b 1 (fun _ => v) T := rfl
/-! One block whose object is known. -/
def objR (k : Nat) (o : Obj) : Res where
  foot j := j = k
  ro := false
  holds w := w.heap[k]? = some o
  lt w j h e := by subst e; exact lt_of_heap h
  loc w w' h e := (e k rfl).trans h
theorem Sat.tail {S : Nat → Prop} {w₀ w : World} {r : Res} {L : List Res} (h : Sat S w₀ w (r :: L)) : Sat S w₀ w L := ⟨h.chg, fun x hx => h.all x (by simp [hx]), (List.pairwise_cons.1 h.sep).2, fun x hx => h.own x (by simp [hx])⟩
theorem Sat.putObj {S : Nat → Prop} {w₀ w : World} {L : List Res} {f : Res → List Res} {k : Nat} {o : Obj} (h : Sat S w₀ w L) [hp : Pick L (objR k o) f] (o' : Obj) : Sat S w₀ (w.putObj k o') (f (objR k o')) := by
  have hk : w.heap[k]? = some o := h.holds (r := objR k o)
  exact h.swap (r := objR k o) (r' := objR k o') rfl ⟨rfl, rfl, rfl, by simp, fun j hj hn => World.putObj_heap_other hn⟩ (World.putObj_heap_same (lt_of_heap hk)) rfl (fun j e => .inl e)
theorem Sat.allocObj {S : Nat → Prop} {w₀ w : World} {L : List Res} (h : Sat S w₀ w L) (o : Obj) : Sat S w₀ (w.alloc o) (objR w.heap.size o :: L) :=
  h.fresh (r := objR w.heap.size o) ((Below.refl _ w).alloc (Nat.le_refl _) o) (World.alloc_heap_new w o) (fun k e => by cases e; exact Nat.le_refl _)
def defR (D : Nat) : Res := objR D (.deferred (some []))
def goneR (D : Nat) : Res := objR D (.deferred none)
class PickD (L : List Res) (D : Nat) (f : outParam (Res → List Res)) : Prop where
  pick : Pick L (defR D) f
instance pickD_head (D : Nat) (L : List Res) : PickD (defR D :: L) D (fun x => x :: L) := ⟨inferInstance⟩
instance pickD_tail (x : Res) (D : Nat) (L : List Res) (f : Res → List Res) [h : PickD L D f] : PickD (x :: L) D (fun y => x :: f y) := ⟨@pick_tail x _ L f h.pick⟩
theorem endM_one {S : Nat → Prop} {w₀ w : World} {L : List Res} {f : Res → List Res} {D : Nat} {ds : List Deferred} {Q0 : Exit → Tm → World → Prop} {e : Exit} {t : Tm} (hS : Sat S w₀ w L) [hp : PickD L D f] (h : ∀ w', Sat S w₀ w' (f (goneR D)) → endM Q0 ds e t w') : endM Q0 (markD D :: ds) e t w := by
  have := hp.pick
  exact ⟨D, rfl, hS.holds (r := defR D), h _ (hS.putObj (k := D) (hp := hp.pick) (.deferred none))⟩
/-! The loop. -/
def recO (fn : FuncId) (tmps : Array Value) (ps : Array Tmp) (assign body : Code) (D : Nat) (st : LoopState) (pe : Option Code) : Obj :=
  .loop { state := st, pending := pe, fn := fn, tmps := tmps, params := ps, assign := assign, body := body, defers := D }
/-- What a record is of: the frame, the code. -/
structure RecS where
  fn : FuncId
  tmps : Array Value
  ps : Array Tmp
  assign : Code
  body : Code
  D : Nat
def recR (l : Nat) (r : RecS) (st : LoopState) (pe : Option Code) : Res := objR l (recO r.fn r.tmps r.ps r.assign r.body r.D st pe)
/-- How the function that is ranged over leaves things. -/
def rangeEnd (P : Program) (n : Nat) (ds : List Deferred) (t : Tm) (S : Nat → Prop) (w₀ : World) (l : Nat) (r : RecS) (Q : MQ) (w' : World) : Prop :=
  (∃ L', Sat S w₀ w' (recR l r .ready none :: L') ∧ ∀ w2, Sat S w₀ w2 L' → Q (markD r.D :: ds) .normal t w2) ∨
  (∃ c L', Sat S w₀ w' (recR l r .done (some c) :: L') ∧ ∀ w2, Sat S w₀ w2 L' → RunM none (markD r.D :: ds) P n c t w2 Q)
theorem runM_range {P : Program} {n : Nat} {ds : List Deferred} {t : Tm} {w : World} {Q : MQ} {S : Nat → Prop} {w₀ : World} {L : List Res} {g : Operand} {ps : Array Tmp} {assign body : Code} {gf : FuncId} {lb : List Value} [hf : FnOk P gf]
    (hg : ev t g = .func (.func gf) #[] lb.toArray) (hS : Sat S w₀ w L)
    (h : ∀ (l : Nat) (r : RecS), r.ps = ps → r.assign = assign → r.body = body → (∀ ds', AgrD n { tmps := r.tmps, defers := ds' } t) → ∀ w1, Sat S w₀ w1 (recR l r .ready none :: defR r.D :: L) →
      Calls P gf ((Value.func (.yield l) #[] #[]) :: lb).toArray w1 fun e w' => (∃ v, e = .returned v) ∧ rangeEnd P n ds t S w₀ l r Q w') : RunM none ds P n (.rangeFunc g ps assign body) t w Q := by
  unfold RunM
  intro a ha hd
  rw [fen_none]
  refine wpIn_rangeFunc ?_
  intro fn hfn
  have hS1 := (hS.allocObj (.deferred (some [])))
  have hS2 := hS1.allocObj (recO fn a.tmps ps assign body w.heap.size .ready none)
  rw [World.size_alloc] at hS2
  obtain ⟨W1, hW1⟩ : ∃ W1, W1 = (w.alloc (.deferred (some []))).alloc (recO fn a.tmps ps assign body w.heap.size .ready none) := ⟨_, rfl⟩
  rw [← hW1] at hS2
  refine ⟨w.heap.size + 1, [{ target := .collected w.heap.size, args := #[] }], W1, { target := .fn (.func gf) lb.toArray, args := #[.func (.yield (w.heap.size + 1)) #[] #[]] }, W1, gf,
    #[.func (.yield (w.heap.size + 1)) #[] #[]] ++ lb.toArray, W1, by rw [hW1]; exact run_enterLoop_outer _ _ _ _ _, ?_, fun _ _ => trivial, ?_, fun _ => by decide, ?_⟩
  · have hg2 : a.eval g = .func (.func gf) #[] lb.toArray := by rw [ha.eval]; exact hg
    simp only [resolve, hg2]
    simp [go_sem]
  · simp [invoke, go_sem, hf.call]
  · have h1 := h (w.heap.size + 1) ⟨fn, a.tmps, ps, assign, body, w.heap.size⟩ rfl rfl rfl (fun ds' => ⟨ha.size, ha.get⟩) _ hS2
    have e0 : ((Value.func (.yield (w.heap.size + 1)) #[] #[]) :: lb).toArray = #[.func (.yield (w.heap.size + 1)) #[] #[]] ++ lb.toArray := by simp
    rw [e0] at h1
    refine callsIn_wide.2 (h1.mono ?_)
    rintro e w' ⟨⟨v, rfl⟩, h2⟩
    have hds : ({ a with defers := [{ target := .collected w.heap.size, args := #[] }] ++ a.defers } : Act).defers = markD w.heap.size :: ds := by rw [← hd]; rfl
    rcases h2 with ⟨L', g1, g2⟩ | ⟨c, L', g1, g2⟩
    · have hk := g1.got1
      refine ⟨none, _, run_endLoop (P := P) hk (by simp), ?_⟩
      refine ⟨t, ⟨ha.size, ha.get⟩, ?_⟩
      rw [hds]
      exact g2 _ (g1.putObj (hp := pick_head _ _) (k := w.heap.size + 1) (o := recO fn a.tmps ps assign body w.heap.size .ready none) _).tail
    · have hk := g1.got1
      refine ⟨some c, _, run_endLoop (P := P) hk (by simp), ?_⟩
      have g3 := g2 _ (g1.putObj (hp := pick_head _ _) (k := w.heap.size + 1) (o := recO fn a.tmps ps assign body w.heap.size .done (some c)) (.loop { state := .exhausted, pending := some c, fn := fn, tmps := a.tmps, params := ps, assign := assign, body := body, defers := w.heap.size })).tail
      unfold RunM at g3
      exact g3 _ ⟨ha.size, ha.get⟩ hds
/-! A round. -/
theorem roundIn_any {n m : Nat} {P : Program} {l : Nat} {f : FuncId} {tmps : Array Value} {assign body : Code} {w : World} {R : Ending → World → Prop} (h : RoundIn Fence.wide n P l f tmps assign body w R) : RoundIn Fence.wide m P l f tmps assign body w R :=
  ⟨h.1, fun c cs _ => h.2 c cs (room_wide _)⟩
/-- What yield does there. -/
def Yields1 (P : Program) (l : Nat) (args : List Value) (w : World) (R : Ending → World → Prop) : Prop :=
  ∃ fn tmps assign body, (Instr.yield l args.toArray).run P w = .ok (.round l fn tmps assign body) w ∧ RoundIn Fence.wide 8 P l fn tmps assign body w R
theorem Yields1.mono {P : Program} {l : Nat} {args : List Value} {w : World} {R R' : Ending → World → Prop} (h : Yields1 P l args w R) (hr : ∀ e w', R e w' → R' e w') : Yields1 P l args w R' := by
  obtain ⟨fn, tmps, assign, body, h1, h2⟩ := h
  exact ⟨fn, tmps, assign, body, h1, h2.mono hr⟩
/-- How a body's walk may end: off its end, or by a jump. -/
def roundEnd (S : Nat → Prop) (w₀ : World) (l : Nat) (r : RecS) (R : Ending → World → Prop) (e : Exit) (w : World) : Prop :=
  match e with
  | .normal => ∃ L', Sat S w₀ w (recR l r .busy none :: L') ∧ ∀ w', Sat S w₀ w' (recR l r .ready none :: L') → R (.returned (.bool true)) w'
  | .ret => ∃ L', Sat S w₀ w (recR l r .busy none :: L') ∧ ∀ w', Sat S w₀ w' (recR l r .done (some .ret) :: L') → R (.returned (.bool false)) w'
  | .exit i => ∃ L', Sat S w₀ w (recR l r .busy none :: L') ∧ ∀ w', Sat S w₀ w' (recR l r .done (some (.exit i)) :: L') → R (.returned (.bool false)) w'
  | _ => False
def roundQ (S : Nat → Prop) (w₀ : World) (l : Nat) (r : RecS) (R : Ending → World → Prop) : MQ := fun _ e _ w => roundEnd S w₀ l r R e w
theorem fold_agr {n : Nat} {ds : List Deferred} : ∀ (l : List (Tmp × Value)) (a : Array Value) (t : Tm), AgrD n { tmps := a, defers := ds } t → l.all (fun p => Nat.blt p.1 n) = true →
    AgrD n { tmps := l.foldl (fun tm p => tm.setIfInBounds p.1 p.2) a, defers := ds } (l.foldl (fun t p => upd t p.1 p.2) t)
  | [], a, t, h, _ => h
  | p :: l, a, t, h, hl => by
    simp only [List.all_cons, Bool.and_eq_true] at hl
    simp only [List.foldl_cons]
    refine fold_agr l _ _ ?_ hl.2
    have h1 : Agr n { tmps := a, defers := [] } t := ⟨h.size, h.get, rfl⟩
    have := h1.put hl.1 p.2
    exact ⟨this.size, this.get⟩
theorem yields_round {P : Program} {n : Nat} {S : Nat → Prop} {w₀ w : World} {L : List Res} {l : Nat} {r : RecS} {args : List Value} {t t1 : Tm} {R : Ending → World → Prop} {ps : Array Tmp} {assign body : Code}
    (hrp : r.ps = ps) (hra : r.assign = assign) (hrb : r.body = body) (ha : ∀ ds', AgrD n { tmps := r.tmps, defers := ds' } t) (hS : Sat S w₀ w (recR l r .ready none :: L)) (hsz : Nat.beq args.length ps.size = true) (hps : (ps.toList.zip args).all (fun p => Nat.blt p.1 n) = true)
    (ht : (ps.toList.zip args).foldl (fun t p => upd t p.1 p.2) t = t1)
    (h : RunM (some l) [] P n assign t1 w (fun ds' e t2 w2 => ds' = [] ∧ e = .normal ∧ ∃ L2, Sat S w₀ w2 (recR l r .ready none :: L2) ∧ ∀ w3, Sat S w₀ w3 (recR l r .busy none :: L2) → RunM (some l) [] P n body t2 w3 (roundQ S w₀ l r R))) :
    Yields1 P l args w R := by
  subst hrp hra hrb
  have hk := hS.got1
  have hsz' : args.toArray.size = r.ps.size := by simpa [Nat.beq_eq] using hsz
  refine ⟨r.fn, _, r.assign, r.body, run_yield (P := P) hk hsz', roundIn_any (n := 9) (roundIn_of_wpIn trivial ?_)⟩
  have hzip : (r.ps.zip args.toArray).foldl (fun (tmps : Array Value) (x : Tmp × Value) => tmps.setIfInBounds x.1 x.2) r.tmps = (r.ps.toList.zip args).foldl (fun tm p => tm.setIfInBounds p.1 p.2) r.tmps := by
    rw [← Array.foldl_toList, Array.toList_zip]
  unfold RunM at h
  have hag := fold_agr (r.ps.toList.zip args) r.tmps t (ha []) hps
  rw [ht] at hag
  have h1 := h _ hag rfl
  rw [fen_some] at h1
  have h2 : r.assign.wpIn (Fence.wide.inRound l) 9 P (Exit.then (fun a₁ w₁ => ∃ w₂, (Instr.beginRound l).run P w₁ = .ok () w₂ ∧ r.body.wpIn (Fence.wide.inRound l) 9 P (roundPost P l R) a₁ w₂) (fun _ _ _ => False)) { tmps := (r.ps.toList.zip args).foldl (fun tm p => tm.setIfInBounds p.1 p.2) r.tmps, defers := [] } w := by
    refine wpIn_mono h1 ?_
    rintro e a2 w2 ⟨t2, hag2, hd2, rfl, L2, g1, g2⟩
    have hk2 := g1.got1
    refine ⟨_, run_beginRound hk2 rfl, ?_⟩
    have g3 := g2 _ (g1.putObj (hp := pick_head _ _) (k := l) (o := recO r.fn r.tmps r.ps r.assign r.body r.D .ready none) (recO r.fn r.tmps r.ps r.assign r.body r.D .busy none))
    unfold RunM at g3
    have g4 := g3 a2 hag2 hd2
    refine wpIn_mono g4 ?_
    rintro e a3 w4 ⟨t3, _, hq⟩
    have fin : ∀ (jump : Option Code) (L' : List Res), Sat S w₀ w4 (recR l r .busy none :: L') → (Instr.endRound l jump).run P w4 = .ok (.bool jump.isNone) (w4.putObj l (recO r.fn r.tmps r.ps r.assign r.body r.D (if jump.isNone then .ready else .done) jump)) ∧ Sat S w₀ (w4.putObj l (recO r.fn r.tmps r.ps r.assign r.body r.D (if jump.isNone then .ready else .done) jump)) (recR l r (if jump.isNone then .ready else .done) jump :: L') := fun jump L' hs =>
      ⟨run_endRound (P := P) jump hs.got1, hs.putObj (hp := pick_head _ _) (k := l) (o := recO r.fn r.tmps r.ps r.assign r.body r.D .busy none) _⟩
    cases e with
    | normal =>
      obtain ⟨L', k1, k2⟩ := hq
      obtain ⟨e1, e2⟩ := fin none L' k1
      exact ⟨_, _, e1, k2 _ e2⟩
    | ret =>
      obtain ⟨L', k1, k2⟩ := hq
      obtain ⟨e1, e2⟩ := fin (some .ret) L' k1
      exact ⟨_, _, e1, k2 _ e2⟩
    | exit i =>
      obtain ⟨L', k1, k2⟩ := hq
      obtain ⟨e1, e2⟩ := fin (some (.exit i)) L' k1
      exact ⟨_, _, e1, k2 _ e2⟩
    | goto t => exact hq.elim
    | panic c => exact hq.elim
    | outgrown => exact hq.elim
  rw [← hzip] at h2
  exact h2
/-! A region that calls yield. -/
def RunLY (P : Program) (ops : Array Oper) (n : Nat) (ds : List Deferred) (l : List Oper) (t : Tm) (w : World) (K : Tm → World → Prop) : Prop :=
  ∀ Q : Exit → Act → World → Prop, (∀ a' w' t', AgrD n a' t' → a'.defers = ds → K t' w' → Q .normal a' w') → ∀ a, AgrD n a t → a.defers = ds → wpListIn (fen none) 9 P ops Q l a w
section
variable {P : Program} {ops : Array Oper} {n : Nat} {ds : List Deferred} {rest : List Oper} {t : Tm} {w : World} {K : Tm → World → Prop} {d : Nat} {ty : TypeId} {pos : String} {af : Array Edge}
theorem runM_regionY {id : Nat} {l : List Oper} {Q : MQ} (h : RunLY P l.toArray n ds l t w (Q ds .normal)) : RunM none ds P n (.region id l.toArray false) t w Q := fun a ha hd =>
  wpIn_region_lit (h _ (fun a' w' t' h1 h2 h3 => ⟨t', h1, by rw [h2]; exact h3⟩) a ha hd)
theorem y_nil (h : K t w) : RunLY P ops n ds [] t w K := fun Q hQ a ha hd => hQ a w t ha hd h
theorem y_one {o : Oper} (hp : plainOp o = true) (hv : noVal o = true) (h : RunL P ops n [o] t w (fun t' w' => RunLY P ops n ds rest t' w' K)) : RunLY P ops n ds (o :: rest) t w K := fun Q hQ a ha hd => by
  unfold RunL at h
  obtain ⟨h1, h2⟩ := ha.bare
  have hs : Strict (fun (e : Exit) (a : Act) (w : World) => e = .normal ∧ ∃ t', Agr n a t' ∧ RunLY P ops n ds rest t' w K) := fun e a w h => h.1
  have h3 := h (fun e a w => e = .normal ∧ ∃ t', Agr n a t' ∧ RunLY P ops n ds rest t' w K) (fun a' w' t' g1 g2 => ⟨rfl, t', g1, g2⟩) _ h1
  have noOut : ¬ LetsOut (fun (e : Exit) (a : Act) (w : World) => e = .normal ∧ ∃ t', Agr n a t' ∧ RunLY P ops n ds rest t' w K) := fun ⟨a, w, h⟩ => by cases hs _ _ _ h
  have go : ∀ (a : Act) (w : World), (∃ t', Agr n a t' ∧ RunLY P ops n ds rest t' w K) → wpListIn (fen none) 9 P ops Q rest (withD ds a) w := fun a w ⟨t', g1, g2⟩ =>
    g2 Q hQ _ ⟨g1.size, g1.get⟩ (by unfold withD; rw [g1.defers]; rfl)
  unfold wpList at h3
  rw [← h2, hd]
  unfold wpListIn
  have ht : (withD ds { a with defers := [] }).tmps = ({ a with defers := [] } : Act).tmps := rfl
  rw [ht]
  split at h3
  · rename_i hw
    rw [if_pos hw]
    rcases h3 with h3 | h3
    · exact wp_ds hp hs (fun a w h => go a w h.2) h3
    · exact (noOut h3.2).elim
  · rename_i hw
    rw [if_neg hw]
    exact ⟨fun _ _ => trivial, by rw [withD_put]; exact go _ _ h3.2⟩
theorem y_yield {l : Nat} {x : Operand} {l0 : List Operand} {ats : Array TypeId} {args : List Value} {R : Ending → World → Prop} (hx : ev t x = .func (.yield l) #[] #[]) (hv : l0.map (ev t) = args) (hy : Yields1 P l args w R) (hd : Nat.blt d n = true)
    (k : ∀ e w', R e w' → ∃ v, e = .returned v ∧ RunLY P ops n ds rest (upd t d v) w' K) : RunLY P ops n ds (⟨some d, .call ⟨.value x, l0.toArray, ats⟩, ty, pos, af, none⟩ :: rest) t w K := fun Q hQ a ha hds => by
  obtain ⟨fn, tmps, assign, body, h1, h2⟩ := hy
  refine wpListIn_plain rfl fun K' hK => ?_
  refine ⟨fun _ _ => trivial, ?_⟩
  have e1 : (execOp a.eval ⟨some d, .call ⟨.value x, l0.toArray, ats⟩, ty, pos, af, none⟩).run P w = .ok (.round l fn tmps assign body) w := by
    rw [ha.eval]
    have : Array.map (ev t) l0.toArray = args.toArray := by rw [List.map_toArray, hv]
    simp [execOp, resolve, invoke, hx, this, Deferred.ofValue, h1]
  rw [Oper.semAt_eq _ _ _ (fun c e => by cases e), e1, Oper.uponIn_round]
  refine ⟨(fun e => by cases e), h2.mono ?_⟩
  intro e w' he
  obtain ⟨v, rfl, hk⟩ := k e w' he
  have hput := ha.bare.1.put hd v
  exact hK _ _ (hk Q hQ _ ⟨hput.size, hput.get⟩ hds)
end
instance (priority := low) subl_refl (L : List Res) : Subl L L := ⟨List.Sublist.refl _⟩
/-- A function to be ranged over, by its elements: whatever resources T the caller has, p is the function's own. -/
def Iter {α : Type} (P : Program) (gf : FuncId) (lb : List Value) (enc : α → List Value) (N : Nat) (ok : List α → Prop) (Lit : List Res) : Prop :=
  ∀ (σ : Type) (T : σ → List Res) (R : List α → σ → Prop) (Z : World → Prop) (S : Nat → Prop) (w₀ : World) (l : Nat) (w : World) (s0 : σ),
    Sat S w₀ w (T s0) → (∀ s, ∀ r ∈ Lit, r ∈ T s) → R [] s0 →
    (∀ pre x s (p : Res) w, pre.length < N → R pre s → Sat S w₀ w (p :: T s) → Yields1 P l (enc x) w fun e w' =>
      (e = .returned (.bool true) ∧ ∃ s', R (pre ++ [x]) s' ∧ Sat S w₀ w' (p :: T s')) ∨ (e = .returned (.bool false) ∧ Z w')) →
    Calls P gf (Value.func (.yield l) #[] #[] :: lb).toArray w fun e w' => (∃ v, e = .returned v) ∧ ((∃ s xs, ok xs ∧ R xs s ∧ Sat S w₀ w' (T s)) ∨ Z w')
section
variable {S : Nat → Prop} {w₀ w : World} {l : Nat} {r : RecS} {R : Ending → World → Prop} {ds : List Deferred} {t : Tm}
theorem roundQ_n (L' : List Res) (hS : Sat S w₀ w (recR l r .busy none :: L')) (h : ∀ w, Sat S w₀ w (recR l r .ready none :: L') → R (.returned (.bool true)) w) : roundQ S w₀ l r R ds .normal t w := ⟨L', hS, h⟩
theorem roundQ_r (L' : List Res) (hS : Sat S w₀ w (recR l r .busy none :: L')) (h : ∀ w, Sat S w₀ w (recR l r .done (some .ret) :: L') → R (.returned (.bool false)) w) : roundQ S w₀ l r R ds .ret t w := ⟨L', hS, h⟩
theorem roundQ_e {i : Nat} (L' : List Res) (hS : Sat S w₀ w (recR l r .busy none :: L')) (h : ∀ w, Sat S w₀ w (recR l r .done (some (.exit i)) :: L') → R (.returned (.bool false)) w) : roundQ S w₀ l r R ds (.exit i) t w := ⟨L', hS, h⟩
end
attribute [irreducible] RunM RunLY endM roundQ
end Go.Proofs.Ytpiodhdbdlfnhaa
