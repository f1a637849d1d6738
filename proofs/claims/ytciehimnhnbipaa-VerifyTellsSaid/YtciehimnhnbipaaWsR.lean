/- witness: some. -/
import Derived.Test.YtciehimnhnbipaaWsQ
namespace Go.Proofs.Ytciehimnhnbipaa
open Go.RowKit Go.Lib
set_option linter.unusedVariables false
set_option linter.unusedSimpArgs false
set_option maxHeartbeats 16000000
set_option maxRecDepth 100000
/-- Is there an order that may be, with these ahead? -/
def SomeP (init : List Int) (l : List AtS) (p : List Int) : Prop := ∃ o, p <+: o ∧ ValidO init l o
theorem some_full {init : List Int} {l : List AtS} {p : List Int} (hp : p.length = l.length) : SomeP init l p ↔ ValidO init l p := by
  constructor
  · rintro ⟨o, ⟨t, rfl⟩, h⟩
    have h2 := h.1.length_eq
    unfold plL at h2
    rw [List.length_append, List.length_map, List.length_range] at h2
    obtain rfl : t = [] := List.eq_nil_of_length_eq_zero (by omega)
    rw [List.append_nil] at h
    exact h
  · exact fun h => ⟨p, List.prefix_refl _, h⟩
theorem some_next {init : List Int} {l : List AtS} {p : List Int} (hp : p.length ≠ l.length) : SomeP init l p ↔ ∃ i : Nat, i < l.length ∧ SomeP init l (p ++ [(i : Int)]) := by
  constructor
  · rintro ⟨o, ⟨t, rfl⟩, h⟩
    match t with
    | [] =>
      have h2 := h.1.length_eq
      unfold plL at h2
      rw [List.length_append, List.length_map, List.length_range] at h2
      simp at h2
      exact absurd h2 hp
    | u :: t =>
      obtain ⟨h3, h4⟩ := valid_in h (u := u) (by simp)
      exact ⟨u.toNat, by omega, p ++ u :: t, ⟨t, by rw [show ((u.toNat : Nat) : Int) = u from by omega]; simp⟩, h⟩
  · rintro ⟨i, _, o, ⟨t, rfl⟩, h⟩
    exact ⟨_, ⟨(i : Int) :: t, by simp⟩, h⟩
theorem some_in {init : List Int} {l : List AtS} {p : List Int} {u : Int} (hu : u ∈ p) : ¬ SomeP init l (p ++ [u]) := by
  rintro ⟨o, ⟨t, rfl⟩, h⟩
  have h2 := (List.nodup_append.1 (valid_nodup h)).1
  exact (List.nodup_append.1 h2).2.2 u hu u (by simp) rfl
theorem nodup_len {l : List AtS} {p : List Int} (hn : p.Nodup) (hr : ∀ u ∈ p, 0 ≤ u ∧ u < l.length) : p.length ≤ l.length := by
  refine Nat.le_of_not_lt fun h => ?_
  have hsub : ∀ u ∈ p, u ∈ plL l := fun u hu => by
    obtain ⟨a1, a2⟩ := hr u hu
    unfold plL
    exact List.mem_map.2 ⟨u.toNat, List.mem_range.2 (by omega), by omega⟩
  have := (perm_of_sub hn hsub (by unfold plL; rw [List.length_map, List.length_range]; omega)).length_eq
  unfold plL at this
  rw [List.length_map, List.length_range] at this
  omega
end Go.Proofs.Ytciehimnhnbipaa
