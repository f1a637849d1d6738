/- heap: what a step leaves alone. -/
import Derived.Test.YteojbchdkidibaaHpForth
namespace Go.Proofs.Yteojbchdkidibaa
open Go.RowKit Go.Lib
set_option linter.unusedVariables false
theorem ownerV_in {H : HeapS} {s : Int} (h : 0 ≤ s ∧ s < H.locks.length) : ownerV H s = (H.locks.getD s.toNat (0, 0)).1 := by rw [ownerV, if_pos h]
theorem ownerV_ge {H : HeapS} {s a : Int} (h : ownerV H s = a) (ha : 0 ≤ a) : (0 ≤ s ∧ s < H.locks.length) ∧ (H.locks.getD s.toNat (0, 0)).1 = a := by
  unfold ownerV at h
  split at h
  · rename_i c; exact ⟨c, h⟩
  · omega
theorem let_not {H : HeapS} {s a b : Int} (hA : ownerV H s = a) (hb : ¬ b = a) : letE H s b ≠ 0 := fun e => by
  have := letE_zero e
  rw [ownerV_in ⟨this.1, this.2.1⟩] at hA
  omega
theorem own_not {H : HeapS} {s a b : Int} (hA : ownerV H s = a) (ha : 0 ≤ a) : ownE H s b ≠ 0 := fun e => by
  have := ownE_zero e
  rw [ownerV_in ⟨this.1, this.2.1⟩] at hA
  omega
theorem free_not {H : HeapS} {s a b v : Int} (hA : ownerV H s = a) (hb : ¬ b = a) : freeE H s b v ≠ 0 := fun e => let_not hA hb (freeE_zero e).1
theorem ownerV_put {H : HeapS} {s : Int} (h : 0 ≤ s ∧ s < H.locks.length) (z : Int × Int) : ownerV { H with locks := H.locks.set s.toNat z } s = z.1 := by
  rw [ownerV_in (H := { H with locks := H.locks.set s.toNat z }) (by simpa using h)]
  rw [show ({ H with locks := H.locks.set s.toNat z } : HeapS).locks = H.locks.set s.toNat z from rfl, getD_set' (by omega), if_pos rfl]
theorem versionV_put {H : HeapS} {s : Int} (h : 0 ≤ s ∧ s < H.locks.length) (z : Int × Int) : versionV { H with locks := H.locks.set s.toNat z } s = z.2 := by
  rw [versionV, if_pos (by simpa using h)]
  rw [show ({ H with locks := H.locks.set s.toNat z } : HeapS).locks = H.locks.set s.toNat z from rfl, getD_set' (by omega), if_pos rfl]
theorem let_yes {H : HeapS} {s a : Int} (hA : ownerV H s = a) (ha : 0 ≤ a) : letE H s a = 0 ∧ ownerV (letH H s a) s = -1 ∧ versionV (letH H s a) s = versionV H s := by
  obtain ⟨h1, h2⟩ := ownerV_ge hA ha
  have e : letE H s a = 0 := by rw [letE, if_neg (by omega), if_neg (by omega)]
  refine ⟨e, ?_, ?_⟩
  · rw [letH, if_pos e, ownerV_put h1]
  · rw [letH, if_pos e, versionV_put h1, versionV, if_pos h1]
theorem own_yes {H : HeapS} {s a : Int} (e : ownE H s a = 0) : ownerV (ownH H s a) s = a := by
  have := ownE_zero e
  rw [ownH, if_pos e, ownerV_put ⟨this.1, this.2.1⟩]
theorem own_iff {H : HeapS} {s a : Int} (e : ¬ ownE H s a = 0) : ¬ (0 ≤ s ∧ s < H.locks.length ∧ ownerV H s = -1 ∧ 0 ≤ a ∧ a < 6) := fun h => e (by
  rw [ownerV_in ⟨h.1, h.2.1⟩] at h
  rw [ownE, if_neg (by omega), if_neg (by omega), if_neg (by omega)])
theorem OkH.own {n st : Nat} {limit : Int} {H : HeapS} (h : OkH n st limit H) (s a : Int) : OkH n st limit (ownH H s a) := h.step ⟨0, s, a, 0, 0⟩
theorem ownerV_other {H : HeapS} {s i : Int} (hs : 0 ≤ s ∧ s < H.locks.length) (h : i ≠ s) (z : Int × Int) : ownerV { H with locks := H.locks.set s.toNat z } i = ownerV H i := by
  unfold ownerV
  rw [show ({ H with locks := H.locks.set s.toNat z } : HeapS).locks = H.locks.set s.toNat z from rfl, List.length_set]
  split
  · rw [getD_set' (by omega), if_neg (by omega)]
  · rfl
theorem versionV_other {H : HeapS} {s i : Int} (hs : 0 ≤ s ∧ s < H.locks.length) (h : i ≠ s) (z : Int × Int) : versionV { H with locks := H.locks.set s.toNat z } i = versionV H i := by
  unfold versionV
  rw [show ({ H with locks := H.locks.set s.toNat z } : HeapS).locks = H.locks.set s.toNat z from rfl, List.length_set]
  split
  · rw [getD_set' (by omega), if_neg (by omega)]
  · rfl
theorem step_other (H : HeapS) (x : StepS) (i : Int) (h : 2 < x.k ∨ i ≠ x.at_) : ownerV (stepH H x) i = ownerV H i ∧ versionV (stepH H x) i = versionV H i := by
  unfold stepH
  split
  · unfold ownH
    split
    · rename_i e
      have := ownE_zero e
      exact ⟨ownerV_other ⟨this.1, this.2.1⟩ (by omega) _, versionV_other ⟨this.1, this.2.1⟩ (by omega) _⟩
    · exact ⟨rfl, rfl⟩
  · split
    · unfold letH
      split
      · rename_i e
        have := letE_zero e
        exact ⟨ownerV_other ⟨this.1, this.2.1⟩ (by omega) _, versionV_other ⟨this.1, this.2.1⟩ (by omega) _⟩
      · exact ⟨rfl, rfl⟩
    · split
      · unfold freeH
        split
        · rename_i e
          have := letE_zero (freeE_zero e).1
          exact ⟨ownerV_other ⟨this.1, this.2.1⟩ (by omega) _, versionV_other ⟨this.1, this.2.1⟩ (by omega) _⟩
        · exact ⟨rfl, rfl⟩
      · split
        · unfold bumpH
          split <;> exact ⟨rfl, rfl⟩
        · unfold setH
          split <;> exact ⟨rfl, rfl⟩
theorem valueV_set {H : HeapS} {s : Int} (hs : ¬ (s < 0 ∨ H.vals.length ≤ s)) (z : Int) (i : Int) : valueV { H with vals := H.vals.set s.toNat z } i = if i = s then z else valueV H i := by
  unfold valueV
  rw [show ({ H with vals := H.vals.set s.toNat z } : HeapS).vals = H.vals.set s.toNat z from rfl, List.length_set]
  by_cases e : i = s
  · subst e
    rw [if_neg hs, if_pos rfl, List.getD_eq_getElem?_getD, List.getElem?_set]
    simp [show i.toNat < H.vals.length by omega]
  · rw [if_neg e]
    split
    · rfl
    · rw [List.getD_eq_getElem?_getD, List.getD_eq_getElem?_getD, List.getElem?_set, if_neg (by omega)]
theorem step_val (H : HeapS) (x : StepS) (hk : 0 ≤ x.k) (v : Int) (h : x.k < 4 ∨ v ≠ x.at_) : valueV (stepH H x) v = valueV H v := by
  unfold stepH
  split
  · unfold ownH; split <;> rfl
  · split
    · unfold letH; split <;> rfl
    · split
      · unfold freeH; split <;> rfl
      · split
        · unfold bumpH; split <;> rfl
        · unfold setH
          split
          · rfl
          · rename_i c
            rw [valueV_set c, if_neg (by omega)]
theorem stepN_err {H : HeapS} {x : StepS} (h : stepE H x ≠ 0) : stepN H x = 0 := by
  unfold stepN
  split
  · rename_i e
    unfold stepE at h
    rw [if_neg (by omega), if_neg (by omega), if_neg (by omega), if_pos e] at h
    unfold bumpE at h
    unfold bumpN
    split at h
    · rename_i c; rw [if_pos c]
    · exact absurd rfl h
  · rfl
/-- What each kind of step has done, if it was done. -/
theorem just0 {H : HeapS} {x : StepS} (h : stepE H x = 0) (hk : x.k = 0) : ownerV (stepH H x) x.at_ = x.who ∧ versionV (stepH H x) x.at_ = versionV H x.at_ ∧ (stepH H x).clock = H.clock := by
  rw [stepE, if_pos hk] at h
  have e := ownE_zero h
  rw [stepH, if_pos hk, ownH, if_pos h]
  exact ⟨ownerV_put ⟨e.1, e.2.1⟩ _, by rw [versionV_put ⟨e.1, e.2.1⟩, versionV, if_pos ⟨e.1, e.2.1⟩], rfl⟩
theorem just1 {H : HeapS} {x : StepS} (h : stepE H x = 0) (hk : x.k = 1) : ownerV (stepH H x) x.at_ = -1 ∧ versionV (stepH H x) x.at_ = versionV H x.at_ ∧ (stepH H x).clock = H.clock := by
  rw [stepE, if_neg (by omega), if_pos hk] at h
  have e := letE_zero h
  rw [stepH, if_neg (by omega), if_pos hk, letH, if_pos h]
  exact ⟨ownerV_put ⟨e.1, e.2.1⟩ _, by rw [versionV_put ⟨e.1, e.2.1⟩, versionV, if_pos ⟨e.1, e.2.1⟩], rfl⟩
theorem just2 {H : HeapS} {x : StepS} (h : stepE H x = 0) (hk : x.k = 2) : ownerV (stepH H x) x.at_ = -1 ∧ versionV (stepH H x) x.at_ = x.ver ∧ (stepH H x).clock = H.clock := by
  rw [stepE, if_neg (by omega), if_neg (by omega), if_pos hk] at h
  have e := letE_zero (freeE_zero h).1
  rw [stepH, if_neg (by omega), if_neg (by omega), if_pos hk, freeH, if_pos h]
  exact ⟨ownerV_put ⟨e.1, e.2.1⟩ _, versionV_put ⟨e.1, e.2.1⟩ _, rfl⟩
theorem just3 {H : HeapS} {x : StepS} (h : stepE H x = 0) (hk : x.k = 3) : stepN H x = H.clock + 1 ∧ (stepH H x).clock = H.clock + 1 := by
  rw [stepE, if_neg (by omega), if_neg (by omega), if_neg (by omega), if_pos hk, bumpE] at h
  split at h
  · simp at h
  · rename_i c
    rw [stepN, if_pos hk, bumpN, if_neg c, stepH, if_neg (by omega), if_neg (by omega), if_neg (by omega), if_pos hk, bumpH, if_neg c]
    exact ⟨rfl, rfl⟩
theorem just4 {H : HeapS} {x : StepS} (h : stepE H x = 0) (hk : x.k ≠ 0 ∧ x.k ≠ 1 ∧ x.k ≠ 2 ∧ x.k ≠ 3) : valueV (stepH H x) x.at_ = x.z ∧ (stepH H x).clock = H.clock := by
  rw [stepE, if_neg hk.1, if_neg hk.2.1, if_neg hk.2.2.1, if_neg hk.2.2.2, setE] at h
  split at h
  · simp at h
  · rename_i c
    rw [stepH, if_neg hk.1, if_neg hk.2.1, if_neg hk.2.2.1, if_neg hk.2.2.2, setH, if_neg c]
    exact ⟨by rw [valueV_set c, if_pos rfl], rfl⟩
end Go.Proofs.Yteojbchdkidibaa
