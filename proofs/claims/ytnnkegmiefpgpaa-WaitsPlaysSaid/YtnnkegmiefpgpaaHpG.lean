/- heap: steps. -/
import Derived.Test.YtnnkegmiefpgpaaHpF
namespace Go.Proofs.Ytnnkegmiefpgpaa
open Go.RowKit Go.Lib
set_option linter.unusedVariables false
structure StepS where
  k : Int
  at_ : Int
  who : Int
  ver : Int
  z : Int
def encS (s : StepS) : Nat → Value := fun j => match j with | 0 => .int .u8 s.k | 1 => .int .i64 s.at_ | 2 => .int .i64 s.who | 3 => .int .i64 s.ver | _ => .int .i64 s.z
def stepE (H : HeapS) (s : StepS) : Int := if s.k = 0 then ownE H s.at_ s.who else if s.k = 1 then letE H s.at_ s.who else if s.k = 2 then freeE H s.at_ s.who s.ver else if s.k = 3 then bumpE H else setE H s.at_
def stepN (H : HeapS) (s : StepS) : Int := if s.k = 3 then bumpN H else 0
def stepH (H : HeapS) (s : StepS) : HeapS := if s.k = 0 then ownH H s.at_ s.who else if s.k = 1 then letH H s.at_ s.who else if s.k = 2 then freeH H s.at_ s.who s.ver else if s.k = 3 then bumpH H else setH H s.at_ s.z
section
variable {bh : Nat} {ga va : Option Addr} {gc vc : Nat} {H : HeapS} {w0 : World} (h : (heapR bh ga va gc vc H).holds w0)
include h
end
/-- What holds of each heap that is made and stepped. -/
structure OkH (n st : Nat) (limit : Int) (H : HeapS) : Prop where
  vals : H.vals.length = n
  locks : H.locks.length = st
  lim : H.limit = limit
  c0 : 0 ≤ H.clock
  c1 : H.clock ≤ limit
  ver : ∀ i, i < st → 0 ≤ (H.locks.getD i (0, 0)).2 ∧ (H.locks.getD i (0, 0)).2 ≤ H.clock
theorem getD_set' {l : List (Int × Int)} {s i : Nat} {z : Int × Int} (hs : s < l.length) : (l.set s z).getD i (0, 0) = if i = s then z else l.getD i (0, 0) := by
  rw [List.getD_eq_getElem?_getD, List.getD_eq_getElem?_getD, List.getElem?_set]
  by_cases e : s = i
  · subst e; simp [hs]
  · rw [if_neg e, if_neg (fun x => e x.symm)]
theorem OkH.put {n st : Nat} {limit : Int} {H : HeapS} (h : OkH n st limit H) {s : Nat} (hs : s < st) {z : Int × Int} (hz : 0 ≤ z.2 ∧ z.2 ≤ H.clock) : OkH n st limit { H with locks := H.locks.set s z } :=
  ⟨h.vals, by simp [h.locks], h.lim, h.c0, h.c1, fun i hi => by
    rw [show ({ H with locks := H.locks.set s z } : HeapS).locks = H.locks.set s z from rfl, getD_set' (by rw [h.locks]; exact hs)]
    split
    · exact hz
    · exact h.ver i hi⟩
theorem letE_zero {H : HeapS} {s who : Int} (e : letE H s who = 0) : 0 ≤ s ∧ s < H.locks.length ∧ 0 ≤ who ∧ (H.locks.getD s.toNat (0, 0)).1 = who := by
  unfold letE at e
  split at e
  · simp at e
  · split at e
    · simp at e
    · rename_i h1 h2
      omega
theorem ownE_zero {H : HeapS} {s who : Int} (e : ownE H s who = 0) : 0 ≤ s ∧ s < H.locks.length ∧ 0 ≤ who ∧ who < 6 ∧ (H.locks.getD s.toNat (0, 0)).1 = -1 := by
  unfold ownE at e
  split at e
  · simp at e
  · split at e
    · simp at e
    · split at e
      · simp at e
      · rename_i h1 h2 h3
        omega
theorem freeE_zero {H : HeapS} {s who ver : Int} (e : freeE H s who ver = 0) : letE H s who = 0 ∧ (H.locks.getD s.toNat (0, 0)).2 ≤ ver ∧ ver ≤ H.clock := by
  unfold freeE at e
  split at e
  · rename_i h; exact absurd e h
  · split at e
    · simp at e
    · rename_i h1 h2
      exact ⟨by simpa using h1, by omega⟩
theorem OkH.step {n st : Nat} {limit : Int} {H : HeapS} (h : OkH n st limit H) (s : StepS) : OkH n st limit (stepH H s) := by
  unfold stepH
  split
  · unfold ownH
    split
    · rename_i e
      have := ownE_zero e
      have hl := h.locks
      exact h.put (by omega) (h.ver s.at_.toNat (by omega))
    · exact h
  · split
    · unfold letH
      split
      · rename_i e
        have := letE_zero e
        have hl := h.locks
        exact h.put (by omega) (h.ver s.at_.toNat (by omega))
      · exact h
    · split
      · unfold freeH
        split
        · rename_i e
          obtain ⟨e1, e2, e3⟩ := freeE_zero e
          have := letE_zero e1
          have hl := h.locks
          have hv := h.ver s.at_.toNat (by omega)
          exact h.put (by omega) ⟨by show 0 ≤ s.ver; omega, e3⟩
        · exact h
      · split
        · unfold bumpH
          split
          · exact h
          · rename_i e
            have h3 := h.lim
            have h4 := h.c0
            exact ⟨h.vals, h.locks, h.lim, by show 0 ≤ H.clock + 1; omega, by show H.clock + 1 ≤ limit; omega, fun i hi => by
              have := h.ver i hi
              show 0 ≤ (H.locks.getD i (0, 0)).2 ∧ (H.locks.getD i (0, 0)).2 ≤ H.clock + 1
              omega⟩
        · unfold setH
          split
          · exact h
          · exact ⟨by simp [h.vals], h.locks, h.lim, h.c0, h.c1, h.ver⟩
theorem OkH.new {zs : List Int} {stripes limit : Int} (hg : goodNew zs.length stripes limit) : OkH zs.length stripes.toNat limit (newH zs stripes limit) := by
  unfold goodNew at hg
  refine ⟨rfl, by simp [newH], rfl, by show (0 : Int) ≤ 0; omega, by show (0 : Int) ≤ limit; omega, fun i hi => ?_⟩
  show 0 ≤ ((List.replicate stripes.toNat ((-1 : Int), (0 : Int))).getD i (0, 0)).2 ∧ ((List.replicate stripes.toNat ((-1 : Int), (0 : Int))).getD i (0, 0)).2 ≤ 0
  simp [List.getD_eq_getElem?_getD, hi]
def playH (H : HeapS) (l : List StepS) : HeapS := l.foldl stepH H
theorem OkH.play {n st : Nat} {limit : Int} {l : List StepS} : ∀ {H : HeapS}, OkH n st limit H → OkH n st limit (playH H l) := by
  induction l with
  | nil => exact fun h => h
  | cons s l ih => exact fun h => ih (h.step s)
theorem playH_succ {H : HeapS} {l : List StepS} {i : Nat} {d : StepS} (hi : i < l.length) : playH H (l.take (i + 1)) = stepH (playH H (l.take i)) (l.getD i d) := by
  unfold playH
  rw [List.take_add_one, List.foldl_append, List.getElem?_eq_getElem hi, List.getD_eq_getElem?_getD, List.getElem?_eq_getElem hi]
  rfl
abbrev stepD : StepS := ⟨0, 0, 0, 0, 0⟩
end Go.Proofs.Ytnnkegmiefpgpaa
