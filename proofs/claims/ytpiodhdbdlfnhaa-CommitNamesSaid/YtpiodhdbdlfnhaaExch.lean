/- Several resources are changed at once by one that was handed all of them. Over any program. -/
import Derived.Test.YtpiodhdbdlfnhaaGen
namespace Go.Proofs.Ytpiodhdbdlfnhaa
open Go.RowKit Go.Lib
set_option linter.unusedVariables false
theorem Sat.exch {S T : Nat → Prop} {w₀ w w' : World} {A A' L : List Res} (h : Sat S w₀ w (A ++ L)) (h' : Sat T w w' A') (hT : ∀ k, T k → ∃ x ∈ A, x.ro = false ∧ x.foot k) (hA' : ∀ x ∈ A', x.ro = false) : Sat S w₀ w' (A' ++ L) := by
  have hs := List.pairwise_append.1 h.sep
  have ap : ∀ z ∈ L, ∀ k, z.foot k → ¬ T k := fun z hz k h1 h2 => by
    obtain ⟨x, hx, hro, hk⟩ := hT k h2
    rcases hs.2.2 x hx z hz with e | e
    · rw [hro] at e; cases e.1
    · exact e k hk h1
  have keepz : ∀ z ∈ L, z.holds w' := fun z hz => z.loc w w' (h.all z (by simp [hz])) fun k hk => h'.chg.block k (z.lt w k (h.all z (by simp [hz])) hk) (ap z hz k hk)
  have apn : ∀ z ∈ A', ∀ u ∈ L, z.apart u := fun z hz u hu => .inr fun k h1 h2 => by
    have hlt := u.lt w k (h.all u (by simp [hu])) h2
    exact ap u hu k h2 (h'.own z hz (hA' z hz) k h1 hlt)
  refine ⟨h.chg.trans h'.chg (fun k hk hr => ?_), fun z hz => ?_, List.pairwise_append.2 ⟨h'.sep, hs.2.1, apn⟩, fun z hz hro k hk hlt => ?_⟩
  · obtain ⟨x, hx, hro, hk2⟩ := hT k hr
    exact h.own x (by simp [hx]) hro k hk2 hk
  · rcases List.mem_append.1 hz with hz | hz
    · exact h'.all z hz
    · exact keepz z hz
  · rcases List.mem_append.1 hz with hz | hz
    · have hsz := h.chg.size
      obtain ⟨x, hx, hro, hk2⟩ := hT k (h'.own z hz (hA' z hz) k hk (by omega))
      exact h.own x (by simp [hx]) hro k hk2 hlt
    · exact h.own z (by simp [hz]) hro k hk hlt
theorem Sat.sw {S : Nat → Prop} {w₀ w : World} {x y : Res} {L : List Res} (h : Sat S w₀ w (x :: y :: L)) : Sat S w₀ w (y :: x :: L) := h.perm (List.Perm.swap ..)
theorem Sat.rev3 {S : Nat → Prop} {w₀ w : World} {x y z : Res} {L : List Res} (h : Sat S w₀ w (x :: y :: z :: L)) : Sat S w₀ w (z :: y :: x :: L) :=
  h.perm (((List.Perm.swap y z (x :: L)).trans ((List.Perm.swap x z L).cons y)).trans (List.Perm.swap x y (z :: L)))
/-- Some resources by themselves. -/
theorem Sat.beginA {S : Nat → Prop} {w₀ w : World} {A L : List Res} (h : Sat S w₀ w (A ++ L)) : Sat (fun k => ∃ x ∈ A, x.ro = false ∧ x.foot k) w w A :=
  ⟨Chg.refl _ _, fun z hz => h.all z (by simp [hz]), (List.pairwise_append.1 h.sep).1, fun z hz hro k hk _ => ⟨z, hz, hro, hk⟩⟩
theorem Sat.both3 {S : Nat → Prop} {w₀ w w' : World} {L : List Res} {x y x' y' z' : Res} (h : Sat S w₀ w (x :: y :: L)) (h' : Sat (fun k => x.foot k ∨ y.foot k) w w' [z', x', y']) (hx : x.ro = false) (hy : y.ro = false) (hz' : z'.ro = false) (hx' : x'.ro = false) (hy' : y'.ro = false) : Sat S w₀ w' (z' :: x' :: y' :: L) := by
  refine Sat.exch (A := [x, y]) (A' := [z', x', y']) h h' (fun k hk => ?_) (fun u hu => ?_)
  · rcases hk with hk | hk
    · exact ⟨x, by simp, hx, hk⟩
    · exact ⟨y, by simp, hy, hk⟩
  · simp only [List.mem_cons, List.not_mem_nil, or_false] at hu
    rcases hu with rfl | rfl | rfl
    · exact hz'
    · exact hx'
    · exact hy'
/-- Whatever leaves a loop by one block leaves it in one state. -/
def cutQ (id : Nat) (J : List Nat) (T0 : Tm) (I2 : World → Prop) (Q : Exit → Tm → World → Prop) : Exit → Tm → World → Prop
  | .exit id', t, w => if id' = id then Agree J t T0 ∧ I2 w else Q (.exit id') t w
  | e, t, w => Q e t w
theorem cutQ_o {id : Nat} {J : List Nat} {T0 t : Tm} {I2 : World → Prop} {Q : Exit → Tm → World → Prop} {w : World} (h : Agree J t T0) (h2 : I2 w) : cutQ id J T0 I2 Q (.exit id) t w := by
  show if id = id then _ else _
  rw [if_pos rfl]
  exact ⟨h, h2⟩
theorem cutQ_r {id : Nat} {J : List Nat} {T0 t : Tm} {I2 : World → Prop} {Q : Exit → Tm → World → Prop} {w : World} (h : Q .ret t w) : cutQ id J T0 I2 Q .ret t w := h
theorem run_cut {P : Program} {n id : Nat} {c : Code} {t : Tm} {w : World} {Q : Exit → Tm → World → Prop} (J : List Nat) (I2 : World → Prop) (h1 : Run P n c t w (cutQ id J t I2 (blockQ id Q))) (h2 : ∀ j w, I2 w → Q .normal (hv J j t) w) : Run P n c t w (blockQ id Q) := by
  unfold Run at h1 ⊢
  intro a ha
  refine wp_mono (h1 a ha) ?_
  rintro e a' w' ⟨t', ha', hq⟩
  refine ⟨t', ha', ?_⟩
  cases e with
  | exit id' =>
    change (if id' = id then _ else _) at hq
    by_cases e : id' = id
    · rw [if_pos e] at hq
      have : t' = hv J t' t := by
        funext i
        unfold hv
        cases e : memb J i with
        | true => rfl
        | false => exact hq.1 i e
      rw [this]
      exact blockQ_s (by rw [e]; exact Nat.beq_refl _) (h2 t' w' hq.2)
    · rw [if_neg e] at hq
      exact hq
  | _ => exact hq
end Go.Proofs.Ytpiodhdbdlfnhaa
