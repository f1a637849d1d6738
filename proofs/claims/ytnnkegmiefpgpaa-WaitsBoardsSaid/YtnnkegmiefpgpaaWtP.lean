/- waits, plainly: what a heap's steps keep; who wakes. -/
import Derived.Test.YtnnkegmiefpgpaaWtW
import Derived.OpenShut
namespace Go.Proofs.Ytnnkegmiefpgpaa
open Go.RowKit Go.Lib
set_option linter.unusedVariables false
/-- One state behind a code, whatever way led to it. -/
theorem run_cut_n {σ : Type} {P : Program} {n : Nat} {b : Code} {t : Tm} {w : World} {next : Tm → World → Prop} {Q : Exit → Tm → World → Prop} (J : List Nat) (F : σ → Tm → Tm) (I : σ → World → Prop) (h1 : Run P n b t w (midQ J (fun s => F s t) I Q)) (h2 : ∀ s j w, I s w → next (hv J j (F s t)) w) : Run P n b t w (thenQ next Q) := by
  refine run_mono h1 fun e t2 w2 h => ?_
  by_cases he : e = .normal
  · subst he
    obtain ⟨s, g1, g2⟩ := (show ∃ s, Agree J t2 (F s t) ∧ I s w2 from by unfold midQ at h; exact h)
    refine thenQ_n ?_
    rw [agree_hv' g1]
    exact h2 s t2 w2 g2
  · refine thenQ_out he ?_
    cases e with
    | normal => exact absurd rfl he
    | _ => unfold midQ at h; exact h
structure HOk (st : Int) (H : HeapS) : Prop where
  len : (H.locks.length : Int) = st
  lo : 0 ≤ H.clock
  hi : H.clock ≤ H.limit
  limit : H.limit = 1099511627776
theorem HOk.start {st : Int} (h : 0 ≤ st) (zs : List Int) : HOk st (newH zs st 1099511627776) :=
  ⟨by show ((List.replicate st.toNat ((-1 : Int), (0 : Int))).length : Int) = st; rw [List.length_replicate]; omega, by show (0 : Int) ≤ 0; omega, by show (0 : Int) ≤ 1099511627776; omega, rfl⟩
theorem HOk.bumps {st : Int} {H : HeapS} (h : HOk st H) : H.clock ≤ 1099511627776 ∧ -1099511627776 ≤ H.clock := by
  have := h.lo; have := h.hi; have := h.limit; omega
theorem HOk.small {st : Int} {H : HeapS} (h : HOk st H) (hs : st ≤ 32) : H.locks.length ≤ 1000 := by have := h.len; omega
theorem HOk.own {st : Int} {H : HeapS} (h : HOk st H) (s who : Int) : HOk st (ownH H s who) := by
  unfold ownH
  split
  · exact ⟨by simpa using h.len, h.lo, h.hi, h.limit⟩
  · exact h
theorem HOk.let_ {st : Int} {H : HeapS} (h : HOk st H) (s who : Int) : HOk st (letH H s who) := by
  unfold letH
  split
  · exact ⟨by simpa using h.len, h.lo, h.hi, h.limit⟩
  · exact h
theorem HOk.free {st : Int} {H : HeapS} (h : HOk st H) (s who v : Int) : HOk st (freeH H s who v) := by
  unfold freeH
  split
  · exact ⟨by simpa using h.len, h.lo, h.hi, h.limit⟩
  · exact h
theorem HOk.bump {st : Int} {H : HeapS} (h : HOk st H) : HOk st (bumpH H) := by
  unfold bumpH
  split
  · exact h
  · rename_i hc
    exact ⟨h.len, by have := h.lo; show 0 ≤ H.clock + 1; omega, by show H.clock + 1 ≤ H.limit; omega, h.limit⟩
theorem i64_in {n : Int} (h : (Lit.int .i64 n).wf = true) : -9223372036854775808 ≤ n ∧ n ≤ 9223372036854775807 := by
  have := bounds_i64 h; omega
theorem hasB_lt {st : Int} {hs : List Bool} {x : Int} (h : hasB st hs x = true) : 0 ≤ x ∧ x < st := by
  unfold hasB at h
  simp only [Bool.and_eq_true, decide_eq_true_eq] at h
  exact ⟨h.1, h.2.1⟩
theorem wakes_iff {rv st : Int} (hst : 1 ≤ st ∧ st ≤ 32) {hs : List Bool} {H : HeapS} (hl : (H.locks.length : Int) = st) :
    wakesB rv st hs (H.locks.map (·.1)) (H.locks.map (·.2)) = true ↔ ∃ x, x ∈ allI st hs ∧ ownerV H x = -1 ∧ rv < versionV H x := by
  have key : ∀ k : Nat, (k : Int) < st → (wakeAt rv (H.locks.map (·.1)) (H.locks.map (·.2)) k = true ↔ ownerV H k = -1 ∧ rv < versionV H k) := by
    intro k hk
    have hlt : k < H.locks.length := by omega
    have e1 : (H.locks.map (·.1)).getD k (-1) = ownerV H k := by
      unfold ownerV
      rw [if_pos ⟨by omega, by omega⟩, Int.toNat_natCast, List.getD_eq_getElem?_getD, List.getD_eq_getElem?_getD, List.getElem?_map, List.getElem?_eq_getElem hlt]
      rfl
    have e2 : (H.locks.map (·.2)).getD k 0 = versionV H k := by
      unfold versionV
      rw [if_pos ⟨by omega, by omega⟩, Int.toNat_natCast, List.getD_eq_getElem?_getD, List.getD_eq_getElem?_getD, List.getElem?_map, List.getElem?_eq_getElem hlt]
      rfl
    unfold wakeAt
    rw [e1, e2]
    unfold lookI
    by_cases h1 : ownerV H k = -1
    · by_cases h2 : rv < versionV H k
      · simp [h1, h2]
      · simp [h1, h2]
    · simp [h1]
  unfold wakesB
  rw [List.any_eq_true]
  constructor
  · rintro ⟨k, hk, hw⟩
    have hx : (k : Int) ∈ allI st hs := List.mem_map.2 ⟨k, hk, rfl⟩
    have := (hasB_lt ((mem_allI hst hs k).1 hx)).2
    exact ⟨k, hx, (key k this).1 hw⟩
  · rintro ⟨x, hx, h⟩
    obtain ⟨k, hk, rfl⟩ := List.mem_map.1 hx
    have := (hasB_lt ((mem_allI hst hs k).1 hx)).2
    exact ⟨k, hk, (key k this).2 h⟩
/-- Is a stripe above? -/
def aboveB (H : HeapS) (rv : Int) (q : Nat) : Bool := (List.range q).any fun n => decide (rv < versionV H n)
theorem aboveB_succ (H : HeapS) (rv : Int) (q : Nat) : aboveB H rv (q + 1) = (aboveB H rv q || decide (rv < versionV H q)) := by
  unfold aboveB
  rw [List.range_succ, List.any_append]
  simp
theorem above_of {H : HeapS} {rv : Int} {st x : Int} (hx : 0 ≤ x ∧ x < st) (h : rv < versionV H x) : aboveB H rv st.toNat = true := by
  unfold aboveB
  rw [List.any_eq_true]
  exact ⟨x.toNat, List.mem_range.2 (by omega), by rw [Int.toNat_of_nonneg hx.1]; exact decide_eq_true h⟩
end Go.Proofs.Ytnnkegmiefpgpaa
