/- A state between two parts of a code, whatever way led to it. Over any program. -/
import Derived.Test.YtpiodhdbdlfnhaaGreatDoorExch
namespace Go.Proofs.YtpiodhdbdlfnhaaGreatDoor
open Go.RowKit Go.Lib
set_option linter.unusedVariables false
theorem run_mono {P : Program} {n : Nat} {c : Code} {t : Tm} {w : World} {Q Q' : Exit → Tm → World → Prop} (h : Run P n c t w Q) (hq : ∀ e t w, Q e t w → Q' e t w) : Run P n c t w Q' := by
  unfold Run at h ⊢
  intro a ha
  refine wp_mono (h a ha) ?_
  rintro e a' w' ⟨t', ha', hh⟩
  exact ⟨t', ha', hq _ _ _ hh⟩
def midQ {σ : Type} (J : List Nat) (T : σ → Tm) (I : σ → World → Prop) (Q : Exit → Tm → World → Prop) : Exit → Tm → World → Prop
  | .normal, t, w => ∃ s, Agree J t (T s) ∧ I s w
  | e, t, w => Q e t w
section
variable {σ : Type} {J : List Nat} {T : σ → Tm} {I : σ → World → Prop} {Q : Exit → Tm → World → Prop} {t : Tm} {w : World}
theorem midQ_n (s : σ) (h : Agree J t (T s)) (h2 : I s w) : midQ J T I Q .normal t w := ⟨s, h, h2⟩
theorem midQ_r (h : Q .ret t w) : midQ J T I Q .ret t w := h
theorem agree_hv' {t t' : Tm} (h : Agree J t t') : t = hv J t t' := by
  funext i
  unfold hv
  cases e : memb J i with
  | true => rfl
  | false => exact h i e
theorem thenQ_out {next : Tm → World → Prop} {e : Exit} (he : e ≠ .normal) (h : Q e t w) : thenQ next Q e t w := by
  unfold thenQ
  cases e with
  | normal => exact absurd rfl he
  | _ => exact h
theorem thenQ_inv {next : Tm → World → Prop} {e : Exit} (he : e ≠ .normal) (h : thenQ next Q e t w) : Q e t w := by
  unfold thenQ at h
  cases e with
  | normal => exact absurd rfl he
  | _ => exact h
theorem thenQ_inv_n {next : Tm → World → Prop} (h : thenQ next Q .normal t w) : next t w := by
  unfold thenQ at h
  exact h
theorem midQ_inv {e : Exit} (he : e ≠ .normal) (h : midQ J T I Q e t w) : Q e t w := by
  cases e with
  | normal => exact absurd rfl he
  | _ => exact h
theorem run_cut_b {P : Program} {n : Nat} {a b : Code} {next : Tm → World → Prop} (J : List Nat) (F : σ → Tm → Tm) (I : σ → World → Prop) (h1 : Run P n a t w (thenQ (fun t' w' => Run P n b t' w' (midQ J (fun s => F s t) I Q)) Q)) (h2 : ∀ s j w, I s w → next (hv J j (F s t)) w) : Run P n a t w (thenQ (fun t' w' => Run P n b t' w' (thenQ next Q)) (thenQ next Q)) := by
  refine run_mono h1 fun e t' w' h => ?_
  by_cases he : e = .normal
  · subst he
    refine thenQ_n (run_mono (thenQ_inv_n h) fun e t2 w2 h => ?_)
    by_cases he : e = .normal
    · subst he
      obtain ⟨s, g1, g2⟩ := (show ∃ s, Agree J t2 (F s t) ∧ I s w2 from h)
      refine thenQ_n ?_
      rw [agree_hv' g1]
      exact h2 s t2 w2 g2
    · exact thenQ_out he (midQ_inv he h)
  · exact thenQ_out he (thenQ_out he (thenQ_inv he h))
end
attribute [irreducible] midQ
end Go.Proofs.YtpiodhdbdlfnhaaGreatDoor
