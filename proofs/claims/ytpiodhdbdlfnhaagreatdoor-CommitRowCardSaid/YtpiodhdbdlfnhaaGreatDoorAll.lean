/- Drawn regions in which several effects are ready at once. Over any program. -/
import Derived.Test.YtpiodhdbdlfnhaaGreatDoorMore
namespace Go.Proofs.YtpiodhdbdlfnhaaGreatDoor
open Go.RowKit Go.Lib
set_option linter.unusedVariables false
theorem agree_hv_eq {J : List Nat} {t g : Tm} (h : Agree J t g) : t = hv J t g := by
  funext i
  unfold hv
  cases e : memb J i with
  | true => rfl
  | false => exact h i e
def readyIs (ops : Array Oper) (m : Nat) (l : List Nat) : Bool := decide (Region.ready .any ops (bitsA ops.size m) = l)
section
variable {S : Nat → Prop} {w₀ : World} {L L' : List Res}
variable {P : Program} {ops : Array Oper} {n : Nat} {t : Tm} {w : World} {K : Tm → World → Prop} {f m : Nat}
theorem run_any_to {id : Nat} {l : List Oper} {Q : Exit → Tm → World → Prop} (K' : Tm → World → Prop) (hS : Sat S w₀ w L) (hm : P.follows .mixedOrders = true) (hs : Nat.beq l.length f = true)
    (h : ∀ w, Sat S w₀ w L → AnyL P l.toArray n S w₀ L' f 0 t w K') (k : ∀ t' w', K' t' w' → Q .normal t' w') : Run P n (.region id l.toArray true) t w Q :=
  run_any hS hm hs fun w hw => by
    have h1 := h w hw
    unfold AnyL at *
    intro Q' hQ hK a ha
    exact h1 Q' hQ (fun a' w' t' h2 h3 => hK a' w' t' h2 (k t' w' h3)) a ha
theorem run_any_at {id : Nat} {l : List Oper} {Q : Exit → Tm → World → Prop} {σ : Type} (J : List Nat) (F : σ → Tm → Tm) (I : σ → World → Prop) (hS : Sat S w₀ w L) (hm : P.follows .mixedOrders = true) (hs : Nat.beq l.length f = true)
    (h : ∀ w, Sat S w₀ w L → AnyL P l.toArray n S w₀ L' f 0 t w (fun t' w' => ∃ s, Agree J t' (F s t) ∧ I s w')) (k : ∀ s j w, I s w → Q .normal (hv J j (F s t)) w) : Run P n (.region id l.toArray true) t w Q :=
  run_any_to _ hS hm hs h fun t' w' ⟨s, h1, h2⟩ => by rw [agree_hv_eq h1]; exact k s t' w' h2
theorem any_all {l : List Nat} (hr : readyIs ops m l = true) (hne : l ≠ []) (h : ∀ i ∈ l, ∃ o, ops[i]? = some o ∧ RunL P ops n [o] t w (fun t' w' => Sat S w₀ w' L ∧ AnyL P ops n S w₀ L f (m ||| 2 ^ i) t' w' K)) : AnyL P ops n S w₀ L (f + 1) m t w K := by
  unfold AnyL at *
  intro Q hQ hK a ha
  have hr' : Region.ready .any ops (bitsA ops.size m) = l := by simpa [readyIs] using hr
  have noOut : ¬ LetsOut Q := fun ⟨a, w, h⟩ => by cases hQ _ _ _ h
  refine ⟨fun h => (by rw [hr'] at h; exact absurd h hne), fun j hj => ?_⟩
  rw [hr'] at hj
  obtain ⟨o, hi, h⟩ := h j hj
  unfold RunL at h
  have h1 := h (fun e a' w' => e = .normal ∧ Sat S w₀ w' L ∧ AnyC P ops (fun w => Sat S w₀ w L) Q f (bitsA ops.size (m ||| 2 ^ j)) a' w')
    (fun a' w' t' h1 h2 => ⟨rfl, h2.1, h2.2 Q hQ hK a' h1⟩) a ha
  have noOut2 : ¬ LetsOut (fun e a' w' => e = Exit.normal ∧ Sat S w₀ w' L ∧ AnyC P ops (fun w => Sat S w₀ w L) Q f (bitsA ops.size (m ||| 2 ^ j)) a' w') := fun ⟨a, w, h⟩ => by cases h.1
  have strict2 : Strict (fun e a' w' => e = Exit.normal ∧ Sat S w₀ w' L ∧ AnyC P ops (fun w => Sat S w₀ w L) Q f (bitsA ops.size (m ||| 2 ^ j)) a' w') := fun _ _ _ h => h.1
  simp only [wpList] at h1
  unfold wpOp
  simp only [hi]
  rw [bitsA_set]
  split at h1
  · rename_i hw
    rw [if_pos hw]
    left
    rcases h1 with h1 | h1
    · unfold Oper.wp at h1 ⊢
      generalize (execOp a.eval o).run P w = r at *
      cases r with
      | ok nx w' =>
        cases nx <;> simp only [Oper.upon] at h1 ⊢ <;> try exact h1
        case value u => exact h1.2
        case skip => exact h1.2
        case enter g args =>
          refine h1.mono ?_
          intro e w'' h
          cases e with
          | returned u => exact h.2
          | panicked c => cases strict2 _ _ _ h
          | outgrown => exact (noOut2 h).elim
        case row r args => exact h1.mono fun u w'' h => h.2
        case defer d => exact h1.2
      | halt x w' =>
        cases x <;> simp only [Oper.upon] at h1 ⊢
        case panic v => cases strict2 _ _ _ h1
    · exact (noOut2 h1.2).elim
  · rename_i hw
    rw [if_neg hw]
    exact h1.2
end
end Go.Proofs.YtpiodhdbdlfnhaaGreatDoor
