/- commit: what each step does to owners, versions and values (plain). -/
import Derived.Test.YtpiodhdbdlfnhaaCmL
namespace Go.Proofs.Ytpiodhdbdlfnhaa
open Go.RowKit Go.Lib
set_option linter.unusedVariables false
theorem ownerV_set1 {H : HeapS} {s : Int} (h : 0 ≤ s ∧ s < H.locks.length) (z : Int × Int) (i : Int) : ownerV { H with locks := H.locks.set s.toNat z } i = if i = s then z.1 else ownerV H i := by
  unfold ownerV
  rw [show ({ H with locks := H.locks.set s.toNat z } : HeapS).locks = H.locks.set s.toNat z from rfl, List.length_set]
  by_cases e : i = s
  · subst e
    rw [if_pos h, if_pos rfl, getD_setC (by omega), if_pos rfl]
  · rw [if_neg e]
    split
    · rw [getD_setC (by omega), if_neg (by omega)]
    · rfl
theorem versionV_set1 {H : HeapS} {s : Int} (h : 0 ≤ s ∧ s < H.locks.length) (z : Int × Int) (i : Int) : versionV { H with locks := H.locks.set s.toNat z } i = if i = s then z.2 else versionV H i := by
  unfold versionV
  rw [show ({ H with locks := H.locks.set s.toNat z } : HeapS).locks = H.locks.set s.toNat z from rfl, List.length_set]
  by_cases e : i = s
  · subst e
    rw [if_pos h, if_pos rfl, getD_setC (by omega), if_pos rfl]
  · rw [if_neg e]
    split
    · rw [getD_setC (by omega), if_neg (by omega)]
    · rfl
theorem owner_own (H : HeapS) (s who i : Int) : ownerV (ownH H s who) i = if ownE H s who = 0 ∧ i = s then who else ownerV H i := by
  unfold ownH
  by_cases e : ownE H s who = 0
  · have h := ownE_zeroC e
    rw [if_pos e, ownerV_set1 ⟨h.1, h.2.1⟩]
    by_cases e2 : i = s
    · rw [if_pos e2, if_pos ⟨e, e2⟩]
    · rw [if_neg e2, if_neg (fun x => e2 x.2)]
  · rw [if_neg e, if_neg (fun x => e x.1)]
theorem version_own (H : HeapS) (s who i : Int) : versionV (ownH H s who) i = versionV H i := by
  unfold ownH
  by_cases e : ownE H s who = 0
  · have h := ownE_zeroC e
    rw [if_pos e, versionV_set1 ⟨h.1, h.2.1⟩]
    by_cases e2 : i = s
    · subst e2; rw [if_pos rfl, versionV, if_pos ⟨h.1, h.2.1⟩]
    · rw [if_neg e2]
  · rw [if_neg e]
theorem owner_let (H : HeapS) (s who i : Int) : ownerV (letH H s who) i = if letE H s who = 0 ∧ i = s then -1 else ownerV H i := by
  unfold letH
  by_cases e : letE H s who = 0
  · have h := letE_zeroC e
    rw [if_pos e, ownerV_set1 ⟨h.1, h.2.1⟩]
    by_cases e2 : i = s
    · rw [if_pos e2, if_pos ⟨e, e2⟩]
    · rw [if_neg e2, if_neg (fun x => e2 x.2)]
  · rw [if_neg e, if_neg (fun x => e x.1)]
theorem version_let (H : HeapS) (s who i : Int) : versionV (letH H s who) i = versionV H i := by
  unfold letH
  by_cases e : letE H s who = 0
  · have h := letE_zeroC e
    rw [if_pos e, versionV_set1 ⟨h.1, h.2.1⟩]
    by_cases e2 : i = s
    · subst e2; rw [if_pos rfl, versionV, if_pos ⟨h.1, h.2.1⟩]
    · rw [if_neg e2]
  · rw [if_neg e]
theorem owner_free (H : HeapS) (s who ver i : Int) : ownerV (freeH H s who ver) i = if freeE H s who ver = 0 ∧ i = s then -1 else ownerV H i := by
  unfold freeH
  by_cases e : freeE H s who ver = 0
  · have h := letE_zeroC (freeE_zeroC e).1
    rw [if_pos e, ownerV_set1 ⟨h.1, h.2.1⟩]
    by_cases e2 : i = s
    · rw [if_pos e2, if_pos ⟨e, e2⟩]
    · rw [if_neg e2, if_neg (fun x => e2 x.2)]
  · rw [if_neg e, if_neg (fun x => e x.1)]
theorem version_free (H : HeapS) (s who ver i : Int) : versionV (freeH H s who ver) i = if freeE H s who ver = 0 ∧ i = s then ver else versionV H i := by
  unfold freeH
  by_cases e : freeE H s who ver = 0
  · have h := letE_zeroC (freeE_zeroC e).1
    rw [if_pos e, versionV_set1 ⟨h.1, h.2.1⟩]
    by_cases e2 : i = s
    · rw [if_pos e2, if_pos ⟨e, e2⟩]
    · rw [if_neg e2, if_neg (fun x => e2 x.2)]
  · rw [if_neg e, if_neg (fun x => e x.1)]
theorem owner_bump (H : HeapS) (i : Int) : ownerV (bumpH H) i = ownerV H i := by unfold bumpH; split <;> rfl
theorem version_bump (H : HeapS) (i : Int) : versionV (bumpH H) i = versionV H i := by unfold bumpH; split <;> rfl
theorem owner_set (H : HeapS) (v z i : Int) : ownerV (setH H v z) i = ownerV H i := by unfold setH; split <;> rfl
theorem version_set (H : HeapS) (v z i : Int) : versionV (setH H v z) i = versionV H i := by unfold setH; split <;> rfl
theorem own_vals (H : HeapS) (s who : Int) : (ownH H s who).vals = H.vals ∧ (ownH H s who).clock = H.clock ∧ (ownH H s who).limit = H.limit ∧ (ownH H s who).locks.length = H.locks.length := by unfold ownH; split <;> simp
theorem let_vals (H : HeapS) (s who : Int) : (letH H s who).vals = H.vals ∧ (letH H s who).clock = H.clock ∧ (letH H s who).limit = H.limit ∧ (letH H s who).locks.length = H.locks.length := by unfold letH; split <;> simp
theorem free_vals (H : HeapS) (s who ver : Int) : (freeH H s who ver).vals = H.vals ∧ (freeH H s who ver).clock = H.clock ∧ (freeH H s who ver).limit = H.limit ∧ (freeH H s who ver).locks.length = H.locks.length := by unfold freeH; split <;> simp
theorem set_clock (H : HeapS) (v z : Int) : (setH H v z).clock = H.clock ∧ (setH H v z).locks = H.locks ∧ (setH H v z).limit = H.limit := by unfold setH; split <;> simp
theorem bump_vals (H : HeapS) : (bumpH H).vals = H.vals ∧ (bumpH H).locks = H.locks ∧ (bumpH H).limit = H.limit ∧ (bumpH H).clock = (if H.limit ≤ H.clock then H.clock else H.clock + 1) := by
  unfold bumpH
  split <;> simp
theorem goH1 {C : CmS} {H : HeapS} (h : C.at_ = 1) : goH C H = ownH H (lockS C H) C.thread := by unfold goH; rw [h]; rfl
theorem goH2 {C : CmS} {H : HeapS} (h : C.at_ = 2) : goH C H = bumpH H := by unfold goH; rw [h]; rfl
theorem goH3 {C : CmS} {H : HeapS} (h : C.at_ = 3) : goH C H = H := by unfold goH; rw [h]; rfl
theorem goH4 {C : CmS} {H : HeapS} (h : C.at_ = 4) : goH C H = H := by unfold goH; rw [h]; rfl
theorem goH5 {C : CmS} {H : HeapS} (h : C.at_ = 5) : goH C H = setH H (C.writes.getD C.done.toNat (0, 0)).1 (C.writes.getD C.done.toNat (0, 0)).2 := by unfold goH; rw [h]; rfl
theorem goH6 {C : CmS} {H : HeapS} (h : C.at_ = 6) : goH C H = freeH H (C.owned.getD 0 0) C.thread C.wv := by unfold goH; rw [h]; rfl
theorem goH7 {C : CmS} {H : HeapS} (h : C.at_ = 7) : goH C H = letH H (C.owned.getD 0 0) C.thread := by unfold goH; rw [h]; rfl
theorem abortC_at (C : CmS) : (abortC C).at_ = 7 ∨ (abortC C).at_ = 8 := by unfold abortC; by_cases e : C.owned.length = 0 <;> simp [e]
theorem at_cases {C : CmS} {H : HeapS} (h : InvC C H) : C.at_ = 1 ∨ C.at_ = 2 ∨ C.at_ = 3 ∨ C.at_ = 4 ∨ C.at_ = 5 ∨ C.at_ = 6 ∨ C.at_ = 7 ∨ C.at_ = 8 := by have := h.at1; omega
theorem mem_made {l : List Int} {n : Int} : n ∈ allI 32 (madeH l) ↔ n ∈ l ∧ 0 ≤ n ∧ n < 32 := by
  rw [mem_allI (by decide), madeH_has, decide_eq_true_eq]
theorem getD_of_mem {l : List Int} {x : Int} (h : x ∈ l) : ∃ k, k < l.length ∧ l.getD k 0 = x := by
  obtain ⟨k, hk, rfl⟩ := List.getElem_of_mem h
  exact ⟨k, hk, by rw [List.getD_eq_getElem?_getD, List.getElem?_eq_getElem hk]; rfl⟩
end Go.Proofs.Ytpiodhdbdlfnhaa
