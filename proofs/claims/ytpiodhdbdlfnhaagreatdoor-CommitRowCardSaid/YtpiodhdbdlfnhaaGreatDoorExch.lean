/- Several resources are changed at once by one that was handed all of them. Over any program. -/
import Derived.Test.YtpiodhdbdlfnhaaGreatDoorGen
namespace Go.Proofs.YtpiodhdbdlfnhaaGreatDoor
open Go.RowKit Go.Lib
set_option linter.unusedVariables false
theorem Sat.exch {S T : Nat → Prop} {w₀ w w' : World} {A A' L : List Res} (h : Sat S w₀ w (A ++ L)) (h' : Sat T w w' A') (hT : ∀ k, T k → ∃ x ∈ A, x.ro = false ∧ x.foot k) (hA' : ∀ x ∈ A', x.ro = false) : Sat S w₀ w' (A' ++ L) := by
  have hs := List.pairwise_append.1 h.sep
  have ap : ∀ z ∈ L, ∀ k, z.foot k → ¬ T k := fun z hz k h1 h2 => by
    obtain ⟨x, hx, hro, hk⟩ := hT k h2
    rcases hs.2.2 x hx z hz with e | e
    · rw [hro] at e; cases e.1
    · exact e k hk h1
  have keepz : ∀ z ∈ L, z.holds w' := fun z hz => z.loc w w' (h.all z (by simp [hz])) fun k hk => h'.chg.block k (z.lt w k (h.all z (by simp [hz])) hk) (ap z hz k hk)
  have apn : ∀ z ∈ A', ∀ u ∈ L, z.apart u := fun z hz u hu => .inr fun k h1 h2 => by
    have hlt := u.lt w k (h.all u (by simp [hu])) h2
    exact ap u hu k h2 (h'.own z hz (hA' z hz) k h1 hlt)
  refine ⟨h.chg.trans h'.chg (fun k hk hr => ?_), fun z hz => ?_, List.pairwise_append.2 ⟨h'.sep, hs.2.1, apn⟩, fun z hz hro k hk hlt => ?_⟩
  · obtain ⟨x, hx, hro, hk2⟩ := hT k hr
    exact h.own x (by simp [hx]) hro k hk2 hk
  · rcases List.mem_append.1 hz with hz | hz
    · exact h'.all z hz
    · exact keepz z hz
  · rcases List.mem_append.1 hz with hz | hz
    · have hsz := h.chg.size
      obtain ⟨x, hx, hro, hk2⟩ := hT k (h'.own z hz (hA' z hz) k hk (by omega))
      exact h.own x (by simp [hx]) hro k hk2 hlt
    · exact h.own z (by simp [hz]) hro k hk hlt
theorem Sat.sw {S : Nat → Prop} {w₀ w : World} {x y : Res} {L : List Res} (h : Sat S w₀ w (x :: y :: L)) : Sat S w₀ w (y :: x :: L) := h.perm (List.Perm.swap ..)
theorem Sat.both3 {S : Nat → Prop} {w₀ w w' : World} {L : List Res} {x y x' y' z' : Res} (h : Sat S w₀ w (x :: y :: L)) (h' : Sat (fun k => x.foot k ∨ y.foot k) w w' [z', x', y']) (hx : x.ro = false) (hy : y.ro = false) (hz' : z'.ro = false) (hx' : x'.ro = false) (hy' : y'.ro = false) : Sat S w₀ w' (z' :: x' :: y' :: L) := by
  refine Sat.exch (A := [x, y]) (A' := [z', x', y']) h h' (fun k hk => ?_) (fun u hu => ?_)
  · rcases hk with hk | hk
    · exact ⟨x, by simp, hx, hk⟩
    · exact ⟨y, by simp, hy, hk⟩
  · simp only [List.mem_cons, List.not_mem_nil, or_false] at hu
    rcases hu with rfl | rfl | rfl
    · exact hz'
    · exact hx'
    · exact hy'
end Go.Proofs.YtpiodhdbdlfnhaaGreatDoor
