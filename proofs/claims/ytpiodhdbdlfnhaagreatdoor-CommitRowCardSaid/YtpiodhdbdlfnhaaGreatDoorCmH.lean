/- commit: what holds of a heap and of a commit, whatever is done (plain). commit: run: all steps. commit: how many steps there are (plain); kinds, long, count. -/
import Derived.Test.YtpiodhdbdlfnhaaGreatDoorCmM
namespace Go.Proofs.YtpiodhdbdlfnhaaGreatDoor
open Go.RowKit Go.Lib
set_option linter.unusedVariables false
structure OkC (n st : Nat) (limit : Int) (H : HeapS) : Prop where
  vals : H.vals.length = n
  locks : H.locks.length = st
  lim : H.limit = limit
  c0 : 0 ≤ H.clock
  c1 : H.clock ≤ limit
  ver : ∀ i, i < st → 0 ≤ (H.locks.getD i (0, 0)).2 ∧ (H.locks.getD i (0, 0)).2 ≤ H.clock
theorem getD_setC {l : List (Int × Int)} {s i : Nat} {z : Int × Int} (hs : s < l.length) : (l.set s z).getD i (0, 0) = if i = s then z else l.getD i (0, 0) := by
  rw [List.getD_eq_getElem?_getD, List.getD_eq_getElem?_getD, List.getElem?_set]
  by_cases e : s = i
  · subst e; simp [hs]
  · rw [if_neg e, if_neg (fun x => e x.symm)]
theorem OkC.put {n st : Nat} {limit : Int} {H : HeapS} (h : OkC n st limit H) {s : Nat} (hs : s < st) {z : Int × Int} (hz : 0 ≤ z.2 ∧ z.2 ≤ H.clock) : OkC n st limit { H with locks := H.locks.set s z } :=
  ⟨h.vals, by simp [h.locks], h.lim, h.c0, h.c1, fun i hi => by
    rw [show ({ H with locks := H.locks.set s z } : HeapS).locks = H.locks.set s z from rfl, getD_setC (by rw [h.locks]; exact hs)]
    split
    · exact hz
    · exact h.ver i hi⟩
theorem letE_zeroC {H : HeapS} {s who : Int} (e : letE H s who = 0) : 0 ≤ s ∧ s < H.locks.length ∧ 0 ≤ who ∧ (H.locks.getD s.toNat (0, 0)).1 = who := by
  unfold letE at e
  split at e
  · simp at e
  · split at e
    · simp at e
    · rename_i h1 h2
      omega
theorem ownE_zeroC {H : HeapS} {s who : Int} (e : ownE H s who = 0) : 0 ≤ s ∧ s < H.locks.length ∧ 0 ≤ who ∧ who < 6 ∧ (H.locks.getD s.toNat (0, 0)).1 = -1 := by
  unfold ownE at e
  split at e
  · simp at e
  · split at e
    · simp at e
    · split at e
      · simp at e
      · rename_i h1 h2 h3
        omega
theorem freeE_zeroC {H : HeapS} {s who ver : Int} (e : freeE H s who ver = 0) : letE H s who = 0 ∧ (H.locks.getD s.toNat (0, 0)).2 ≤ ver ∧ ver ≤ H.clock := by
  unfold freeE at e
  split at e
  · rename_i h; exact absurd e h
  · split at e
    · simp at e
    · rename_i h1 h2
      exact ⟨by simpa using h1, by omega⟩
section
variable {n st : Nat} {limit : Int} {H : HeapS} (h : OkC n st limit H)
include h
theorem OkC.own (s who : Int) : OkC n st limit (ownH H s who) := by
  unfold ownH
  split
  · rename_i e
    have := ownE_zeroC e
    have hl := h.locks
    exact h.put (by omega) (h.ver s.toNat (by omega))
  · exact h
theorem OkC.let_ (s who : Int) : OkC n st limit (letH H s who) := by
  unfold letH
  split
  · rename_i e
    have := letE_zeroC e
    have hl := h.locks
    exact h.put (by omega) (h.ver s.toNat (by omega))
  · exact h
theorem OkC.free (s who ver : Int) : OkC n st limit (freeH H s who ver) := by
  unfold freeH
  split
  · rename_i e
    obtain ⟨e1, e2, e3⟩ := freeE_zeroC e
    have := letE_zeroC e1
    have hl := h.locks
    have hv := h.ver s.toNat (by omega)
    exact h.put (by omega) ⟨by show 0 ≤ ver; omega, e3⟩
  · exact h
theorem OkC.bump : OkC n st limit (bumpH H) := by
  unfold bumpH
  split
  · exact h
  · rename_i e
    have h3 := h.lim
    have h4 := h.c0
    exact ⟨h.vals, h.locks, h.lim, by show 0 ≤ H.clock + 1; omega, by show H.clock + 1 ≤ limit; omega, fun i hi => by
      have := h.ver i hi
      show 0 ≤ (H.locks.getD i (0, 0)).2 ∧ (H.locks.getD i (0, 0)).2 ≤ H.clock + 1
      omega⟩
theorem OkC.set (v z : Int) : OkC n st limit (setH H v z) := by
  unfold setH
  split
  · exact h
  · exact ⟨by simp [h.vals], h.locks, h.lim, h.c0, h.c1, h.ver⟩
theorem OkC.go (C : CmS) : OkC n st limit (goH C H) := by
  unfold goH
  split
  · exact h.own _ _
  · exact h.bump
  · exact h.set _ _
  · exact h.free _ _ _
  · exact h.let_ _ _
  · exact h
theorem OkC.step (C : CmS) : OkC n st limit (stepH C H) := by
  unfold stepH
  split
  · exact h.go C
  · exact h
end
theorem OkC.new {zs : List Int} {stripes limit : Int} (hg : goodNew zs.length stripes limit) : OkC zs.length stripes.toNat limit (newH zs stripes limit) := by
  unfold goodNew at hg
  refine ⟨rfl, by simp [newH], rfl, by show (0 : Int) ≤ 0; omega, by show (0 : Int) ≤ limit; omega, fun i hi => ?_⟩
  show 0 ≤ ((List.replicate stripes.toNat ((-1 : Int), (0 : Int))).getD i (0, 0)).2 ∧ ((List.replicate stripes.toNat ((-1 : Int), (0 : Int))).getD i (0, 0)).2 ≤ 0
  rw [List.getD_eq_getElem?_getD, List.getElem?_replicate, if_pos hi]
  exact ⟨Int.le_refl _, Int.le_refl _⟩
theorem riseB_len : ∀ (l : Int) (ws : List (Int × Int)), -1 ≤ l → riseB l ws = true → (ws.length : Int) ≤ 31 - l ∨ ws = []
  | _, [], _, _ => .inr rfl
  | l, p :: r, hl, h => by
    unfold riseB at h
    rw [Bool.and_eq_true, decide_eq_true_eq] at h
    have := riseB_len p.1 r (by omega) h.2
    refine .inl ?_
    rcases this with e | e
    · rw [List.length_cons]; omega
    · subst e; simp; omega
theorem riseB_len32 {ws : List (Int × Int)} (h : riseB (-1) ws = true) : ws.length ≤ 32 := by
  rcases riseB_len (-1) ws (by omega) h with e | e
  · omega
  · subst e; simp
theorem strL_congr {C C' : CmS} {H H' : HeapS} (h1 : C'.writes = C.writes) (h2 : H'.vals.length = H.vals.length) (h3 : H'.locks.length = H.locks.length) : strL C' H' = strL C H := by
  have : ∀ v, stripeV H' v = stripeV H v := fun v => by unfold stripeV; rw [h2, h3]
  unfold strL
  rw [h1, h3]
  congr 1
  funext s
  congr 2
  exact List.map_congr_left fun p _ => this p.1
theorem goC_same (C : CmS) (H : HeapS) : (goC C H).thread = C.thread ∧ (goC C H).rv = C.rv ∧ (goC C H).st = C.st ∧ (goC C H).hs = C.hs ∧ (goC C H).writes = C.writes := by
  unfold goC
  split
  · unfold lockC abortC; split <;> exact ⟨rfl, rfl, rfl, rfl, rfl⟩
  · unfold bumpC abortC; split <;> exact ⟨rfl, rfl, rfl, rfl, rfl⟩
  · unfold checkC abortC; split <;> exact ⟨rfl, rfl, rfl, rfl, rfl⟩
  · exact ⟨rfl, rfl, rfl, rfl, rfl⟩
  · exact ⟨rfl, rfl, rfl, rfl, rfl⟩
  · exact ⟨rfl, rfl, rfl, rfl, rfl⟩
/-- What holds of a commit on any heap of the same size. -/
structure InvC (C : CmS) (H : HeapS) : Prop where
  ws : riseB (-1) C.writes = true
  thr : 0 ≤ C.thread ∧ C.thread < 6
  at1 : 1 ≤ C.at_ ∧ C.at_ ≤ 8
  sub : C.owned.Sublist (strL C H)
  lk : C.at_ = 1 → C.owned = (strL C H).take C.owned.length ∧ C.owned.length < (strL C H).length ∧ C.done = 0
  bp : C.at_ = 2 → C.owned = strL C H ∧ C.done = 0 ∧ C.writes ≠ []
  ck : C.at_ = 3 → (0 ≤ C.done ∧ C.done < (allI C.st C.hs).length) ∧ C.owned = strL C H ∧ C.writes ≠ []
  cm : C.at_ = 4 → C.owned = strL C H
  so : C.at_ = 5 → (0 ≤ C.done ∧ C.done < C.writes.length) ∧ C.owned = strL C H
  fr : C.at_ = 6 ∨ C.at_ = 7 → C.owned ≠ []
  ov : C.at_ = 8 → C.owned = []
  c1 : C.at_ = 5 ∨ C.at_ = 6 → C.committed = true
  c2 : C.committed = true → C.at_ = 5 ∨ C.at_ = 6 ∨ C.at_ = 8
theorem strL_ne {C : CmS} {H : HeapS} (hl : 0 < H.locks.length) (hw : C.writes ≠ []) : strL C H ≠ [] := by
  intro e
  cases hC : C.writes with
  | nil => exact hw hC
  | cons p r =>
    have := (mem_strL (C := C) hl (stripeV H p.1)).2 (by rw [hC]; simp)
    rw [e] at this; cases this
theorem InvC.pre {n st : Nat} {limit : Int} {C : CmS} {H : HeapS} (h : InvC C H) (o : OkC n st limit H) (h0 : 0 < st) (hl : limit ≤ 1099511627776) : Pre C H where
  writes := by have := riseB_len32 h.ws; omega
  locks := by rw [o.locks]; exact h0
  at1 := h.at1
  clock := by have := o.c0; have := o.c1; omega
  lock := fun e _ => (h.lk e).2.1
  check := fun e => (h.ck e).1
  store := fun e => (h.so e).1
  free := h.fr
theorem InvC.new {thread rv st : Int} {hs : List Bool} {ws : List (Int × Int)} {H : HeapS} (hl : 0 < H.locks.length) (h : okN thread ws) : InvC (newC thread rv st hs ws) H := by
  obtain ⟨h1, h2, h3⟩ := h
  by_cases e : ws.length = 0
  · have hw : ws = [] := List.eq_nil_of_length_eq_zero e
    have e4 : (newC thread rv st hs ws).at_ = 4 := by unfold newC; rw [if_pos e]
    refine ⟨h3, ⟨h1, h2⟩, by omega, List.nil_sublist _, ?_, ?_, ?_, fun _ => ?_, ?_, ?_, fun _ => rfl, ?_, fun h => by cases h⟩
    · intro x; omega
    · intro x; omega
    · intro x; omega
    · have hk : (strL (newC thread rv st hs ws) H).length ≤ 0 := by
        have := strL_len (C := newC thread rv st hs ws) hl
        rw [show (newC thread rv st hs ws).writes.length = ws.length from rfl, e] at this
        exact this
      exact (List.eq_nil_of_length_eq_zero (by omega)).symm
    · intro x; omega
    · intro x; omega
    · intro x; omega
  · have hw : ws ≠ [] := fun x => e (by rw [x]; rfl)
    have e4 : (newC thread rv st hs ws).at_ = 1 := by unfold newC; rw [if_neg e]
    refine ⟨h3, ⟨h1, h2⟩, by omega, List.nil_sublist _, fun _ => ⟨rfl, ?_, rfl⟩, ?_, ?_, ?_, ?_, ?_, fun _ => rfl, ?_, fun h => by cases h⟩
    · exact List.length_pos_iff.2 (strL_ne (C := newC thread rv st hs ws) hl hw)
    · intro x; omega
    · intro x; omega
    · intro x; omega
    · intro x; omega
    · intro x; omega
    · intro x; omega
theorem goC1 {C : CmS} {H : HeapS} (h : C.at_ = 1) : goC C H = lockC C H := by unfold goC; rw [h]; rfl
theorem goC2 {C : CmS} {H : HeapS} (h : C.at_ = 2) : goC C H = bumpC C H := by unfold goC; rw [h]; rfl
theorem goC3 {C : CmS} {H : HeapS} (h : C.at_ = 3) : goC C H = checkC C H := by unfold goC; rw [h]; rfl
theorem goC4 {C : CmS} {H : HeapS} (h : C.at_ = 4) : goC C H = commitC C := by unfold goC; rw [h]; rfl
theorem goC5 {C : CmS} {H : HeapS} (h : C.at_ = 5) : goC C H = storeC C := by unfold goC; rw [h]; rfl
theorem goC6 {C : CmS} {H : HeapS} (h : C.at_ = 6) : goC C H = leastC C := by unfold goC; rw [h]; rfl
theorem goC7 {C : CmS} {H : HeapS} (h : C.at_ = 7) : goC C H = leastC C := by unfold goC; rw [h]; rfl
theorem InvC.abort {C : CmS} {H H' : HeapS} (h : InvC C H) (e : strL (abortC C) H' = strL C H) (hc : C.committed = false) : InvC (abortC C) H' := by
  by_cases hz : C.owned.length = 0
  · have e8 : (abortC C).at_ = 8 := by unfold abortC; rw [if_pos hz]
    refine ⟨h.ws, h.thr, by omega, ?_, ?_, ?_, ?_, ?_, ?_, ?_, fun _ => List.eq_nil_of_length_eq_zero hz, ?_, ?_⟩
    · rw [e]; exact h.sub
    · intro x; omega
    · intro x; omega
    · intro x; omega
    · intro x; omega
    · intro x; omega
    · intro x; omega
    · intro x; omega
    · intro x; exact .inr (.inr e8)
  · have e7 : (abortC C).at_ = 7 := by unfold abortC; rw [if_neg hz]
    refine ⟨h.ws, h.thr, by omega, ?_, ?_, ?_, ?_, ?_, ?_, fun _ x => hz (by rw [show C.owned = [] from x]; rfl), ?_, ?_, ?_⟩
    · rw [e]; exact h.sub
    · intro x; omega
    · intro x; omega
    · intro x; omega
    · intro x; omega
    · intro x; omega
    · intro x; omega
    · intro x; omega
    · intro x
      have : C.committed = true := x
      rw [hc] at this; cases this
theorem take_getD {l : List Int} {k : Nat} (h : k < l.length) : l.take k ++ [l.getD k 0] = l.take (k + 1) := by
  rw [List.take_succ_eq_append_getElem h, List.getD_eq_getElem?_getD, List.getElem?_eq_getElem h]; rfl
theorem InvC.go {n st : Nat} {limit : Int} {C : CmS} {H : HeapS} (h : InvC C H) (o : OkC n st limit H) (h0 : 0 < st) (h8 : C.at_ ≠ 8) : InvC (goC C H) (goH C H) := by
  have o' := o.go C
  have e : strL (goC C H) (goH C H) = strL C H := strL_congr (goC_same C H).2.2.2.2 (by rw [o'.vals, o.vals]) (by rw [o'.locks, o.locks])
  have hl : 0 < H.locks.length := by rw [o.locks]; exact h0
  have hat : C.at_ = 1 ∨ C.at_ = 2 ∨ C.at_ = 3 ∨ C.at_ = 4 ∨ C.at_ = 5 ∨ C.at_ = 6 ∨ C.at_ = 7 := by have := h.at1; omega
  have hnc : C.at_ = 1 ∨ C.at_ = 2 ∨ C.at_ = 3 ∨ C.at_ = 4 ∨ C.at_ = 7 → C.committed = false := fun x => by
    cases hc : C.committed with
    | false => rfl
    | true => have := h.c2 hc; omega
  rcases hat with hat | hat | hat | hat | hat | hat | hat
  · rw [goC1 hat] at e ⊢
    obtain ⟨g1, g2, g3⟩ := h.lk hat
    unfold lockC at e ⊢
    split
    · rename_i he
      rw [if_pos he] at e
      have hown : C.owned ++ [lockS C H] = (strL C H).take (C.owned.length + 1) := by
        rw [← take_getD g2, ← g1]; rfl
      by_cases hn : C.owned.length + 1 = (strL C H).length
      · rw [if_pos hn] at e ⊢
        refine ⟨h.ws, h.thr, by show (1 : Int) ≤ 2 ∧ (2 : Int) ≤ 8; omega, ?_, fun x => ?_, fun _ => ?_, fun x => ?_, fun x => ?_, fun x => ?_, fun x => ?_, fun x => ?_, fun x => ?_, fun x => ?_⟩
        · rw [e]; show (C.owned ++ [lockS C H]).Sublist _; rw [hown]; exact List.take_sublist _ _
        · exact absurd (show (2 : Int) = 1 from x) (by decide)
        · rw [e]
          refine ⟨?_, g3, fun x => ?_⟩
          · show C.owned ++ [lockS C H] = _
            rw [hown, hn, List.take_length]
          · have hx : C.writes = [] := x
            have := strL_len (C := C) hl
            rw [hx] at this
            have : (strL C H).length ≤ 0 := this
            omega
        · exact absurd (show (2 : Int) = 3 from x) (by decide)
        · exact absurd (show (2 : Int) = 4 from x) (by decide)
        · exact absurd (show (2 : Int) = 5 from x) (by decide)
        · exact absurd (show (2 : Int) = 6 ∨ (2 : Int) = 7 from x) (by decide)
        · exact absurd (show (2 : Int) = 8 from x) (by decide)
        · exact absurd (show (2 : Int) = 5 ∨ (2 : Int) = 6 from x) (by decide)
        · have : C.committed = true := x
          rw [hnc (.inl hat)] at this; cases this
      · rw [if_neg hn] at e ⊢
        refine ⟨h.ws, h.thr, h.at1, ?_, fun _ => ?_, fun x => ?_, fun x => ?_, fun x => ?_, fun x => ?_, fun x => ?_, fun x => ?_, fun x => ?_, fun x => ?_⟩
        · rw [e]; show (C.owned ++ [lockS C H]).Sublist _; rw [hown]; exact List.take_sublist _ _
        · rw [e]
          have hlen : (C.owned ++ [lockS C H]).length = C.owned.length + 1 := by simp
          refine ⟨?_, ?_, g3⟩
          · show C.owned ++ [lockS C H] = (strL C H).take (C.owned ++ [lockS C H]).length
            rw [hlen]; exact hown
          · show (C.owned ++ [lockS C H]).length < _
            rw [hlen]; omega
        · exact absurd (hat.symm.trans (show C.at_ = 2 from x)) (by decide)
        · exact absurd (hat.symm.trans (show C.at_ = 3 from x)) (by decide)
        · exact absurd (hat.symm.trans (show C.at_ = 4 from x)) (by decide)
        · exact absurd (hat.symm.trans (show C.at_ = 5 from x)) (by decide)
        · have : C.at_ = 6 ∨ C.at_ = 7 := x
          omega
        · exact absurd (hat.symm.trans (show C.at_ = 8 from x)) (by decide)
        · have : C.at_ = 5 ∨ C.at_ = 6 := x
          omega
        · have : C.committed = true := x
          rw [hnc (.inl hat)] at this; cases this
    · rename_i he
      rw [if_neg he] at e
      exact h.abort e (hnc (.inl hat))
  · rw [goC2 hat] at e ⊢
    obtain ⟨g1, g2, g3⟩ := h.bp hat
    unfold bumpC at e ⊢
    split
    · rename_i he
      rw [if_pos he] at e
      have hF : InvC { C with full := true } H := ⟨h.ws, h.thr, h.at1, h.sub, h.lk, h.bp, h.ck, h.cm, h.so, h.fr, h.ov, h.c1, h.c2⟩
      exact hF.abort e (hnc (.inr (.inl hat)))
    · rename_i he
      rw [if_neg he] at e
      by_cases hk : H.clock + 1 ≠ C.rv + 1 ∧ 0 < (allI C.st C.hs).length
      · rw [if_pos hk] at e ⊢
        refine ⟨h.ws, h.thr, by show (1 : Int) ≤ 3 ∧ (3 : Int) ≤ 8; omega, ?_, fun x => ?_, fun x => ?_, fun x => ?_, fun x => ?_, fun x => ?_, fun x => ?_, fun x => ?_, fun x => ?_, fun x => ?_⟩
        · rw [e]; exact h.sub
        · exact absurd (show (3 : Int) = 1 from x) (by decide)
        · exact absurd (show (3 : Int) = 2 from x) (by decide)
        · rw [e]
          refine ⟨?_, g1, g3⟩
          show 0 ≤ C.done ∧ C.done < ((allI C.st C.hs).length : Int)
          omega
        · exact absurd (show (3 : Int) = 4 from x) (by decide)
        · exact absurd (show (3 : Int) = 5 from x) (by decide)
        · exact absurd (show (3 : Int) = 6 ∨ (3 : Int) = 7 from x) (by decide)
        · exact absurd (show (3 : Int) = 8 from x) (by decide)
        · exact absurd (show (3 : Int) = 5 ∨ (3 : Int) = 6 from x) (by decide)
        · have : C.committed = true := x
          rw [hnc (.inr (.inl hat))] at this; cases this
      · rw [if_neg hk] at e ⊢
        refine ⟨h.ws, h.thr, by show (1 : Int) ≤ 4 ∧ (4 : Int) ≤ 8; omega, ?_, fun x => ?_, fun x => ?_, fun x => ?_, fun x => ?_, fun x => ?_, fun x => ?_, fun x => ?_, fun x => ?_, fun x => ?_⟩
        · rw [e]; exact h.sub
        · exact absurd (show (4 : Int) = 1 from x) (by decide)
        · exact absurd (show (4 : Int) = 2 from x) (by decide)
        · exact absurd (show (4 : Int) = 3 from x) (by decide)
        · rw [e]; exact g1
        · exact absurd (show (4 : Int) = 5 from x) (by decide)
        · exact absurd (show (4 : Int) = 6 ∨ (4 : Int) = 7 from x) (by decide)
        · exact absurd (show (4 : Int) = 8 from x) (by decide)
        · exact absurd (show (4 : Int) = 5 ∨ (4 : Int) = 6 from x) (by decide)
        · have : C.committed = true := x
          rw [hnc (.inr (.inl hat))] at this; cases this
  · rw [goC3 hat] at e ⊢
    obtain ⟨g1, g2, g3⟩ := h.ck hat
    unfold checkC at e ⊢
    split
    · rename_i he
      rw [if_pos he] at e
      exact h.abort e (hnc (.inr (.inr (.inl hat))))
    · rename_i he
      rw [if_neg he] at e
      by_cases hk : C.done + 1 = (allI C.st C.hs).length
      · rw [if_pos hk] at e ⊢
        refine ⟨h.ws, h.thr, by show (1 : Int) ≤ 4 ∧ (4 : Int) ≤ 8; omega, ?_, fun x => ?_, fun x => ?_, fun x => ?_, fun x => ?_, fun x => ?_, fun x => ?_, fun x => ?_, fun x => ?_, fun x => ?_⟩
        · rw [e]; exact h.sub
        · exact absurd (show (4 : Int) = 1 from x) (by decide)
        · exact absurd (show (4 : Int) = 2 from x) (by decide)
        · exact absurd (show (4 : Int) = 3 from x) (by decide)
        · rw [e]; exact g2
        · exact absurd (show (4 : Int) = 5 from x) (by decide)
        · exact absurd (show (4 : Int) = 6 ∨ (4 : Int) = 7 from x) (by decide)
        · exact absurd (show (4 : Int) = 8 from x) (by decide)
        · exact absurd (show (4 : Int) = 5 ∨ (4 : Int) = 6 from x) (by decide)
        · have : C.committed = true := x
          rw [hnc (.inr (.inr (.inl hat)))] at this; cases this
      · rw [if_neg hk] at e ⊢
        refine ⟨h.ws, h.thr, h.at1, ?_, fun x => ?_, fun x => ?_, fun x => ?_, fun x => ?_, fun x => ?_, fun x => ?_, fun x => ?_, fun x => ?_, fun x => ?_⟩
        · rw [e]; exact h.sub
        · exact absurd (hat.symm.trans (show C.at_ = 1 from x)) (by decide)
        · exact absurd (hat.symm.trans (show C.at_ = 2 from x)) (by decide)
        · rw [e]
          refine ⟨?_, g2, g3⟩
          show 0 ≤ C.done + 1 ∧ C.done + 1 < ((allI C.st C.hs).length : Int)
          omega
        · exact absurd (hat.symm.trans (show C.at_ = 4 from x)) (by decide)
        · exact absurd (hat.symm.trans (show C.at_ = 5 from x)) (by decide)
        · have : C.at_ = 6 ∨ C.at_ = 7 := x
          omega
        · exact absurd (hat.symm.trans (show C.at_ = 8 from x)) (by decide)
        · have : C.at_ = 5 ∨ C.at_ = 6 := x
          omega
        · have : C.committed = true := x
          rw [hnc (.inr (.inr (.inl hat)))] at this; cases this
  · rw [goC4 hat] at e ⊢
    have g1 := h.cm hat
    unfold commitC at e ⊢
    by_cases hk : C.writes.length = 0
    · rw [if_pos hk] at e ⊢
      have hs0 : strL C H = [] := by
        have := strL_len (C := C) hl
        exact List.eq_nil_of_length_eq_zero (by omega)
      refine ⟨h.ws, h.thr, by show (1 : Int) ≤ 8 ∧ (8 : Int) ≤ 8; omega, ?_, fun x => ?_, fun x => ?_, fun x => ?_, fun x => ?_, fun x => ?_, fun x => ?_, fun x => ?_, fun x => ?_, fun x => ?_⟩
      · rw [e]; exact h.sub
      · exact absurd (show (8 : Int) = 1 from x) (by decide)
      · exact absurd (show (8 : Int) = 2 from x) (by decide)
      · exact absurd (show (8 : Int) = 3 from x) (by decide)
      · exact absurd (show (8 : Int) = 4 from x) (by decide)
      · exact absurd (show (8 : Int) = 5 from x) (by decide)
      · exact absurd (show (8 : Int) = 6 ∨ (8 : Int) = 7 from x) (by decide)
      · show C.owned = []
        rw [g1, hs0]
      · rfl
      · exact .inr (.inr rfl)
    · rw [if_neg hk] at e ⊢
      refine ⟨h.ws, h.thr, by show (1 : Int) ≤ 5 ∧ (5 : Int) ≤ 8; omega, ?_, fun x => ?_, fun x => ?_, fun x => ?_, fun x => ?_, fun x => ?_, fun x => ?_, fun x => ?_, fun x => ?_, fun x => ?_⟩
      · rw [e]; exact h.sub
      · exact absurd (show (5 : Int) = 1 from x) (by decide)
      · exact absurd (show (5 : Int) = 2 from x) (by decide)
      · exact absurd (show (5 : Int) = 3 from x) (by decide)
      · exact absurd (show (5 : Int) = 4 from x) (by decide)
      · rw [e]
        refine ⟨?_, g1⟩
        show (0 : Int) ≤ 0 ∧ (0 : Int) < C.writes.length
        omega
      · exact absurd (show (5 : Int) = 6 ∨ (5 : Int) = 7 from x) (by decide)
      · exact absurd (show (5 : Int) = 8 from x) (by decide)
      · rfl
      · exact .inl rfl
  · rw [goC5 hat] at e ⊢
    obtain ⟨g1, g2⟩ := h.so hat
    unfold storeC at e ⊢
    by_cases hk : C.done + 1 = C.writes.length
    · rw [if_pos hk] at e ⊢
      refine ⟨h.ws, h.thr, by show (1 : Int) ≤ 6 ∧ (6 : Int) ≤ 8; omega, ?_, fun x => ?_, fun x => ?_, fun x => ?_, fun x => ?_, fun x => ?_, fun x => ?_, fun x => ?_, fun x => ?_, fun x => ?_⟩
      · rw [e]; exact h.sub
      · exact absurd (show (6 : Int) = 1 from x) (by decide)
      · exact absurd (show (6 : Int) = 2 from x) (by decide)
      · exact absurd (show (6 : Int) = 3 from x) (by decide)
      · exact absurd (show (6 : Int) = 4 from x) (by decide)
      · exact absurd (show (6 : Int) = 5 from x) (by decide)
      · show C.owned ≠ []
        rw [g2]
        exact strL_ne hl (fun z => by rw [z] at g1; simp at g1; omega)
      · exact absurd (show (6 : Int) = 8 from x) (by decide)
      · exact h.c1 (.inl hat)
      · exact .inr (.inl rfl)
    · rw [if_neg hk] at e ⊢
      refine ⟨h.ws, h.thr, h.at1, ?_, fun x => ?_, fun x => ?_, fun x => ?_, fun x => ?_, fun x => ?_, fun x => ?_, fun x => ?_, fun x => ?_, fun x => ?_⟩
      · rw [e]; exact h.sub
      · exact absurd (hat.symm.trans (show C.at_ = 1 from x)) (by decide)
      · exact absurd (hat.symm.trans (show C.at_ = 2 from x)) (by decide)
      · exact absurd (hat.symm.trans (show C.at_ = 3 from x)) (by decide)
      · exact absurd (hat.symm.trans (show C.at_ = 4 from x)) (by decide)
      · rw [e]
        refine ⟨?_, g2⟩
        show 0 ≤ C.done + 1 ∧ C.done + 1 < (C.writes.length : Int)
        omega
      · have : C.at_ = 6 ∨ C.at_ = 7 := x
        omega
      · exact absurd (hat.symm.trans (show C.at_ = 8 from x)) (by decide)
      · exact h.c1 (.inl hat)
      · exact .inl hat
  all_goals
    first | rw [goC6 hat] at e ⊢ | rw [goC7 hat] at e ⊢
    unfold leastC at e ⊢
    by_cases hk : (C.owned.drop 1).length = 0
    · rw [if_pos hk] at e ⊢
      refine ⟨h.ws, h.thr, by show (1 : Int) ≤ 8 ∧ (8 : Int) ≤ 8; omega, ?_, fun x => ?_, fun x => ?_, fun x => ?_, fun x => ?_, fun x => ?_, fun x => ?_, fun x => ?_, fun x => ?_, fun x => ?_⟩
      · rw [e]; exact (List.drop_sublist _ _).trans h.sub
      · exact absurd (show (8 : Int) = 1 from x) (by decide)
      · exact absurd (show (8 : Int) = 2 from x) (by decide)
      · exact absurd (show (8 : Int) = 3 from x) (by decide)
      · exact absurd (show (8 : Int) = 4 from x) (by decide)
      · exact absurd (show (8 : Int) = 5 from x) (by decide)
      · exact absurd (show (8 : Int) = 6 ∨ (8 : Int) = 7 from x) (by decide)
      · exact List.eq_nil_of_length_eq_zero hk
      · exact absurd (show (8 : Int) = 5 ∨ (8 : Int) = 6 from x) (by decide)
      · exact .inr (.inr rfl)
    · rw [if_neg hk] at e ⊢
      refine ⟨h.ws, h.thr, h.at1, ?_, fun x => ?_, fun x => ?_, fun x => ?_, fun x => ?_, fun x => ?_, fun x => ?_, fun x => ?_, h.c1, h.c2⟩
      · rw [e]; exact (List.drop_sublist _ _).trans h.sub
      · exact absurd (hat.symm.trans (show C.at_ = 1 from x)) (by decide)
      · exact absurd (hat.symm.trans (show C.at_ = 2 from x)) (by decide)
      · exact absurd (hat.symm.trans (show C.at_ = 3 from x)) (by decide)
      · exact absurd (hat.symm.trans (show C.at_ = 4 from x)) (by decide)
      · exact absurd (hat.symm.trans (show C.at_ = 5 from x)) (by decide)
      · exact fun z => hk (by rw [show C.owned.drop 1 = [] from z]; rfl)
      · exact absurd (hat.symm.trans (show C.at_ = 8 from x)) (by decide)
end Go.Proofs.YtpiodhdbdlfnhaaGreatDoor
namespace Go.Proofs.YtpiodhdbdlfnhaaGreatDoor
open Go.RowKit Go.Lib
set_option linter.unusedVariables false
set_option maxHeartbeats 4000000
def runF : Nat → CmS → HeapS → List EvS × Bool × CmS × HeapS
  | 0, C, H => ([], false, C, H)
  | n + 1, C, H => if C.at_ = 8 then ([], true, C, H) else if stepE C H = 0 then (stepEv C H :: (runF n (stepC C H) (stepH C H)).1, (runF n (stepC C H) (stepH C H)).2) else ([], false, C, H)
def encE (e : EvS) : Nat → Value := fun j => match j with | 0 => .int .u8 e.kind | 1 => .int .i64 e.thread | 2 => .int .i64 0 | 3 => .int .i64 e.at_ | 4 => .int .i64 e.v | 5 => .int .i64 e.x | _ => .int .u8 e.why
instance plainE : Plain encE := ⟨fun z j => by unfold encE; split <;> rfl⟩
abbrev evD : EvS := ⟨0, 0, 0, 0, 0, 0⟩
theorem InvC.step {n st : Nat} {limit : Int} {C : CmS} {H : HeapS} (h : InvC C H) (o : OkC n st limit H) (h0 : 0 < st) : InvC (stepC C H) (stepH C H) := by
  by_cases e : stepE C H = 0
  · unfold stepC stepH
    rw [if_pos e, if_pos e]
    refine h.go o h0 fun e8 => ?_
    unfold stepE at e
    rw [if_pos e8] at e
    simp at e
  · unfold stepC stepH
    rw [if_neg e, if_neg e]
    exact h
section
variable {bc : Nat} {A : CA} {C : CmS} {bh : Nat} {ga va : Option Addr} {gc vc : Nat} {H : HeapS} {w0 : World}
theorem run_at2 (h : Sat (two bc A C bh ga va gc vc H) w0 w0 [cmR bc A C, heapR bh ga va gc vc H]) {n st : Nat} {limit : Int} (hI : InvC C H) (hO : OkC n st limit H) (h0 : 0 < st) (hl : limit ≤ 1099511627776) :
    Calls Tryz.prog 16 #[.pointer (some ⟨bc, 0, none⟩), .pointer (some ⟨bh, 0, none⟩)] w0 fun e w' => ∃ a cap A', e = .returned (.tuple #[.slice a (runF 200 C H).1.length cap, .bool (runF 200 C H).2.1]) ∧ (A'.aw = A.aw ∧ A'.cw = A.cw) ∧
      Sat (two bc A C bh ga va gc vc H) w0 w' [rowL a cap 39 7 encE evD (runF 200 C H).1, cmR bc A' (runF 200 C H).2.2.1, heapR bh ga va gc vc (runF 200 C H).2.2.2] := by
  have S := h
  obtain ⟨r, hr⟩ : ∃ r, runF 200 C H = r := ⟨_, rfl⟩
  rw [hr]
  refine enter2 Tryz.func16 rfl Tryz.ntmps16 rfl Tryz.results16 ?_
  repeat' (first | refine assign_s_l S rfl rfl ?_ | refine assign_b_l S rfl rfl ?_ | refine nilL ?_ | refine run_seq ?_ | refine run_region ?_ | refine assign_i_l S rfl rfl ?_ | refine run_block ?_ | refine thenQ_n ?_)
  replace S := S.nilRow 39 7 encE evD (by decide)
  refine run_while [4, 5, 8, 9, 10, 11, 12, 13, 14, 15, 16, 17, 18, 19, 20, 21, 22, 23, 24, 25, 26, 27, 28, 29] (fun (s : Nat × Option Addr × Nat × List EvS × CmS × HeapS × CA) t => upd (upd t 7 (.int .i64 s.1)) 6 (.slice s.2.1 s.2.2.2.1.length s.2.2.1)) (fun s w' => s.1 ≤ 200 ∧ s.2.2.2.1.length = s.1 ∧ r = (s.2.2.2.1 ++ (runF (200 - s.1) s.2.2.2.2.1 s.2.2.2.2.2.1).1, (runF (200 - s.1) s.2.2.2.2.1 s.2.2.2.2.2.1).2) ∧ (s.2.2.2.2.2.2.aw = A.aw ∧ s.2.2.2.2.2.2.cw = A.cw) ∧ InvC s.2.2.2.2.1 s.2.2.2.2.2.1 ∧ OkC n st limit s.2.2.2.2.2.1 ∧ Sat (two bc A C bh ga va gc vc H) w0 w' [rowL s.2.1 s.2.2.1 39 7 encE evD s.2.2.2.1, cmR bc s.2.2.2.2.2.2 s.2.2.2.2.1, heapR bh ga va gc vc s.2.2.2.2.2.1]) (fun s => 200 - s.1) (0, none, 0, [], C, H, A) ?_ ?_ ?_
  · (repeat (first | exact agree_refl | refine agree_r rfl ?_))
  · exact ⟨Nat.zero_le _, rfl, by simp [hr], ⟨rfl, rfl⟩, hI, hO, S⟩
  clear S
  rintro ⟨q, ta, tc, evs, C1, H1, A1⟩ j w ⟨hq, hlen, he, hw1, hI1, hO1, S⟩
  simp only at hq hlen he hw1 hI1 hO1 S ⊢
  by_cases hql : q < 200
  · obtain ⟨m, hm⟩ : ∃ m, 200 - q = m + 1 := ⟨199 - q, by omega⟩
    rw [hm] at he
    repeat' (first | refine nilL ?_ | refine run_seq ?_ | refine run_skip ?_ | refine run_region ?_ | refine move_i_l S rfl rfl ?_ | refine move_p_l S rfl rfl ?_ | (refine lss_l S rfl rfl rfl ?_ ?_ <;> intro hcmp <;> try (exfalso; first | omega | exact hcmp (by decide) | exact absurd hcmp (by decide))) | refine run_block ?_ | refine run_cond_true rfl ?_ | refine thenQ_n ?_)
    (refine callL (over_at (S.all (cmR bc A1 C1) (by simp))) rfl rfl ?_; rintro e w ⟨rfl, hb⟩; replace S := S.below hb; clear hb; refine ⟨_, rfl, ?_⟩)
    by_cases h8 : C1.at_ = 8
    · rw [decide_eq_true h8]
      unfold runF at he
      rw [if_pos h8, List.append_nil] at he
      subst he
      repeat' (first | refine assign_s_l S rfl rfl ?_ | refine assign_b_l S rfl rfl ?_ | refine move_s_l S rfl rfl ?_ | refine nilL ?_ | refine run_seq ?_ | refine run_region ?_ | refine run_ret ?_ | refine run_cond_true rfl ?_ | refine thenQ_n ?_ | refine thenQ_r ?_ | refine blockQ_r ?_ | refine ret2_sb rfl rfl ?_)
      exact ⟨ta, tc, A1, rfl, hw1, S⟩
    · rw [decide_eq_false h8]
      unfold runF at he
      rw [if_neg h8] at he
      repeat' (first | refine nilL ?_ | refine run_seq ?_ | refine run_skip ?_ | refine run_region ?_ | refine move_p_l S rfl rfl ?_ | refine run_cond_false rfl ?_ | refine thenQ_n ?_)
      refine callL (step_at S.tl.begin2 (hI1.pre hO1 h0 hl)) rfl rfl ?_
      rintro e w' ⟨rfl, A2, gw, hS⟩
      replace S := ((S.perm (L' := [cmR bc A1 C1, heapR bh ga va gc vc H1, rowL ta tc 39 7 encE evD evs]) (List.perm_append_comm (l₁ := [_, _]) (l₂ := [_]))).both hS rfl rfl rfl rfl).perm (L' := [rowL ta tc 39 7 encE evD evs, cmR bc A2 (stepC C1 H1), heapR bh ga va gc vc (stepH C1 H1)]) (List.perm_append_comm (l₁ := [_]) (l₂ := [_, _]))
      clear hS
      refine ⟨_, rfl, ?_⟩
      repeat' (first | refine assign_s_l S rfl rfl ?_ | refine assign_b_l S rfl rfl ?_ | refine move_s_l S rfl rfl ?_ | refine nilL ?_ | refine run_seq ?_ | refine run_skip ?_ | refine run_region ?_ | refine assign_i_l S rfl rfl ?_ | refine move_i_l S rfl rfl ?_ | refine extract_a_l S rfl rfl rfl ?_ | refine extract_i_l S rfl rfl rfl ?_ | (refine allocZ_l S rfl rfl ?_; clear S; intro b w S) | (refine storeN_l S rfl rfl ⟨rfl, rfl⟩ rfl ?_; clear S; intro w S) | (refine neq_l S rfl rfl rfl ?_ ?_ <;> intro hcmp <;> try (exfalso; first | omega | exact hcmp (by decide) | exact absurd hcmp (by decide))) | refine loadN_l S rfl rfl rfl ?_ | (apply buildSliceN_l S; (· repeat (first | exact vsN | apply vsC rfl)); (· rfl); (· rfl); (· rfl); (· rfl); (· rfl); clear S; intro b w S) | refine move_o_l S rfl rfl ?_ | refine run_ret ?_ | refine run_cond_true rfl ?_ | refine run_cond_false rfl ?_ | refine thenQ_n ?_ | refine thenQ_r ?_ | refine blockQ_r ?_ | refine ret2_sb rfl rfl ?_)
      · rw [if_neg hcmp, List.append_nil] at he
        rw [show stepC C1 H1 = C1 from by unfold stepC; rw [if_neg hcmp], show stepH C1 H1 = H1 from by unfold stepH; rw [if_neg hcmp]] at S
        subst he
        exact ⟨ta, tc, A2, rfl, ⟨gw.1.trans hw1.1, gw.2.trans hw1.2⟩, S.sub⟩
      · rw [if_pos hcmp] at he
        obtain ⟨ev, hev⟩ : ∃ ev, stepEv C1 H1 = ev := ⟨_, rfl⟩
        rw [hev] at he S
        have hone : [ev].length = 1 := rfl
        replace S := S.turn1 (r' := rowL (some ⟨b, 0, none⟩) 1 39 7 encE evD [ev]) (RowOk.congr S.got1 (by
          intro i hi j hj
          obtain rfl : i = 0 := by omega
          match j, hj with
          | 0, _ => rfl
          | 1, _ => rfl
          | 2, _ => rfl
          | 3, _ => rfl
          | 4, _ => rfl
          | 5, _ => rfl
          | 6, _ => rfl)) rfl (fun k e => e)
        refine append_l (ys := [ev]) S rfl rfl (by omega) rfl ?_
        clear S
        intro a' cap' w S
        repeat' (first | refine assign_s_l S rfl rfl ?_ | refine nilL ?_ | refine run_region ?_ | refine assign_i_l S rfl rfl ?_ | refine move_i_l S rfl rfl ?_ | refine add_l S rfl rfl (wrap_in (by omega)) rfl ?_ | refine thenQ_n ?_ | refine blockQ_n ?_)
        refine ⟨(q + 1, a', cap', evs ++ [ev], stepC C1 H1, stepH C1 H1, A2), ?_, ⟨by simp only; omega, by simp [hlen], ?_, ⟨gw.1.trans hw1.1, gw.2.trans hw1.2⟩, hI1.step hO1 h0, hO1.step C1, ?_⟩, by simp only; omega⟩
        · simp only
          rw [Int.natCast_add]
          (repeat (first | exact agree_refl | refine agree_r rfl ?_ | refine agree_l rfl ?_ | refine agree_hv rfl ?_))
        · simp only
          rw [show 200 - (q + 1) = m from by omega, he]
          simp
        · exact S.sub
  · have hq2 : 200 - q = 0 := by omega
    rw [hq2] at he
    unfold runF at he
    rw [List.append_nil] at he
    subst he
    repeat' (first | refine assign_s_l S rfl rfl ?_ | refine assign_b_l S rfl rfl ?_ | refine move_s_l S rfl rfl ?_ | refine nilL ?_ | refine run_seq ?_ | refine run_region ?_ | refine move_i_l S rfl rfl ?_ | (refine lss_l S rfl rfl rfl ?_ ?_ <;> intro hcmp <;> try (exfalso; first | omega | exact hcmp (by decide) | exact absurd hcmp (by decide))) | refine run_ret ?_ | refine run_exit ?_ | refine run_cond_false rfl ?_ | refine thenQ_n ?_ | refine thenQ_e ?_ | refine blockQ_s rfl ?_ | refine ret2_sb rfl rfl ?_)
    exact ⟨ta, tc, A1, rfl, hw1, S⟩
theorem run_at (h : Sat (two bc A C bh ga va gc vc H) w0 w0 [cmR bc A C, heapR bh ga va gc vc H]) {n st : Nat} {limit : Int} (hI : InvC C H) (hO : OkC n st limit H) (h0 : 0 < st) (hl : limit ≤ 1099511627776) :
    Calls Tryz.prog 16 #[.pointer (some ⟨bc, 0, none⟩), .pointer (some ⟨bh, 0, none⟩)] w0 fun e w' => ∃ a cap A', e = .returned (.tuple #[.slice a (runF 200 C H).1.length cap, .bool (runF 200 C H).2.1]) ∧
      Sat (two bc A C bh ga va gc vc H) w0 w' [rowL a cap 39 7 encE evD (runF 200 C H).1, cmR bc A' (runF 200 C H).2.2.1, heapR bh ga va gc vc (runF 200 C H).2.2.2] :=
  (run_at2 h hI hO h0 hl).mono fun e w' ⟨a, cap, A', h1, _, h3⟩ => ⟨a, cap, A', h1, h3⟩
end
end Go.Proofs.YtpiodhdbdlfnhaaGreatDoor
namespace Go.Proofs.YtpiodhdbdlfnhaaGreatDoor
open Go.RowKit Go.Lib
set_option linter.unusedVariables false
set_option maxHeartbeats 4000000
def mu (C : CmS) (H : HeapS) : Nat := match C.at_ with
  | 8 => 0
  | 7 => C.owned.length
  | 6 => C.owned.length
  | 5 => (C.writes.length - C.done.toNat) + C.owned.length
  | 4 => 1 + C.writes.length + C.owned.length
  | 3 => ((allI C.st C.hs).length - C.done.toNat) + 1 + C.writes.length + C.owned.length
  | 2 => 2 + (allI C.st C.hs).length + C.writes.length + C.owned.length
  | _ => 2 * ((strL C H).length - C.owned.length) + 2 + (allI C.st C.hs).length + C.writes.length + C.owned.length
theorem mu8 {C : CmS} {H : HeapS} (h : C.at_ = 8) : mu C H = 0 := by unfold mu; rw [h]; rfl
theorem mu7 {C : CmS} {H : HeapS} (h : C.at_ = 6 ∨ C.at_ = 7) : mu C H = C.owned.length := by unfold mu; rcases h with h | h <;> rw [h] <;> rfl
theorem mu5 {C : CmS} {H : HeapS} (h : C.at_ = 5) : mu C H = (C.writes.length - C.done.toNat) + C.owned.length := by unfold mu; rw [h]; rfl
theorem mu4 {C : CmS} {H : HeapS} (h : C.at_ = 4) : mu C H = 1 + C.writes.length + C.owned.length := by unfold mu; rw [h]; rfl
theorem mu3 {C : CmS} {H : HeapS} (h : C.at_ = 3) : mu C H = ((allI C.st C.hs).length - C.done.toNat) + 1 + C.writes.length + C.owned.length := by unfold mu; rw [h]; rfl
theorem mu2 {C : CmS} {H : HeapS} (h : C.at_ = 2) : mu C H = 2 + (allI C.st C.hs).length + C.writes.length + C.owned.length := by unfold mu; rw [h]; rfl
theorem mu1 {C : CmS} {H : HeapS} (h : C.at_ = 1) : mu C H = 2 * ((strL C H).length - C.owned.length) + 2 + (allI C.st C.hs).length + C.writes.length + C.owned.length := by unfold mu; rw [h]; rfl
theorem mu_abort (C : CmS) (H : HeapS) : mu (abortC C) H = C.owned.length := by
  by_cases e : C.owned.length = 0
  · rw [mu8 (by unfold abortC; rw [if_pos e]), e]
  · rw [mu7 (.inr (by unfold abortC; rw [if_neg e]))]; rfl
theorem mu_go {n st : Nat} {limit : Int} {C : CmS} {H : HeapS} (h : InvC C H) (o : OkC n st limit H) (h0 : 0 < st) (h8 : C.at_ ≠ 8) : mu (goC C H) (goH C H) < mu C H := by
  have o' := o.go C
  have e : strL (goC C H) (goH C H) = strL C H := strL_congr (goC_same C H).2.2.2.2 (by rw [o'.vals, o.vals]) (by rw [o'.locks, o.locks])
  have hl : 0 < H.locks.length := by rw [o.locks]; exact h0
  have hat : C.at_ = 1 ∨ C.at_ = 2 ∨ C.at_ = 3 ∨ C.at_ = 4 ∨ C.at_ = 5 ∨ C.at_ = 6 ∨ C.at_ = 7 := by have := h.at1; omega
  rcases hat with hat | hat | hat | hat | hat | hat | hat
  · rw [goC1 hat] at e ⊢
    obtain ⟨g1, g2, g3⟩ := h.lk hat
    rw [mu1 hat]
    unfold lockC at e ⊢
    split
    · rename_i he
      rw [if_pos he] at e
      have hlen : (C.owned ++ [lockS C H]).length = C.owned.length + 1 := by simp
      by_cases hn : C.owned.length + 1 = (strL C H).length
      · rw [if_pos hn] at e ⊢
        rw [mu2 rfl]
        show 2 + (allI C.st C.hs).length + C.writes.length + (C.owned ++ [lockS C H]).length < _
        omega
      · rw [if_neg hn] at e ⊢
        rw [mu1 (C := { C with owned := C.owned ++ [lockS C H] }) (H := goH C H) hat, e]
        show 2 * ((strL C H).length - (C.owned ++ [lockS C H]).length) + 2 + (allI C.st C.hs).length + C.writes.length + (C.owned ++ [lockS C H]).length < _
        omega
    · rw [mu_abort]; omega
  · rw [goC2 hat] at e ⊢
    obtain ⟨g1, g2, g3⟩ := h.bp hat
    rw [mu2 hat]
    unfold bumpC at e ⊢
    split
    · rw [mu_abort]
      show C.owned.length < _
      omega
    · by_cases hk : H.clock + 1 ≠ C.rv + 1 ∧ 0 < (allI C.st C.hs).length
      · rw [if_pos hk, mu3 rfl]
        show ((allI C.st C.hs).length - C.done.toNat) + 1 + C.writes.length + C.owned.length < _
        omega
      · rw [if_neg hk, mu4 rfl]
        show 1 + C.writes.length + C.owned.length < _
        omega
  · rw [goC3 hat] at e ⊢
    obtain ⟨g1, g2, g3⟩ := h.ck hat
    rw [mu3 hat]
    unfold checkC at e ⊢
    split
    · rw [mu_abort]; omega
    · by_cases hk : C.done + 1 = (allI C.st C.hs).length
      · rw [if_pos hk, mu4 rfl]
        show 1 + C.writes.length + C.owned.length < _
        omega
      · rw [if_neg hk, mu3 (C := { C with done := C.done + 1 }) (H := goH C H) hat]
        show ((allI C.st C.hs).length - (C.done + 1).toNat) + 1 + C.writes.length + C.owned.length < _
        omega
  · rw [goC4 hat] at e ⊢
    have g1 := h.cm hat
    rw [mu4 hat]
    unfold commitC at e ⊢
    by_cases hk : C.writes.length = 0
    · rw [if_pos hk, mu8 rfl]; omega
    · rw [if_neg hk, mu5 rfl]
      show (C.writes.length - (0 : Int).toNat) + C.owned.length < _
      omega
  · rw [goC5 hat] at e ⊢
    obtain ⟨g1, g2⟩ := h.so hat
    rw [mu5 hat]
    unfold storeC at e ⊢
    by_cases hk : C.done + 1 = C.writes.length
    · rw [if_pos hk, mu7 (.inl rfl)]
      show C.owned.length < _
      omega
    · rw [if_neg hk, mu5 (C := { C with done := C.done + 1 }) (H := goH C H) hat]
      show (C.writes.length - (C.done + 1).toNat) + C.owned.length < _
      omega
  all_goals
    first | rw [goC6 hat] at e ⊢ | rw [goC7 hat] at e ⊢
    have hne := List.length_pos_iff.2 (h.fr (by omega))
    rw [mu7 (C := C) (by omega)]
    unfold leastC at e ⊢
    by_cases hk : (C.owned.drop 1).length = 0
    · rw [if_pos hk, mu8 rfl]; exact hne
    · rw [if_neg hk, mu7 (C := { C with owned := C.owned.drop 1 }) (H := goH C H) (show C.at_ = 6 ∨ C.at_ = 7 by omega)]
      show (C.owned.drop 1).length < _
      simp; omega
theorem mu_le {C : CmS} {H : HeapS} (h : InvC C H) (hl : 0 < H.locks.length) : mu C H ≤ 180 := by
  have h1 := riseB_len32 h.ws
  have h2 := strL_len (C := C) hl
  have h3 := allI_len C.st C.hs
  have h4 := h.sub.length_le
  have hat : C.at_ = 1 ∨ C.at_ = 2 ∨ C.at_ = 3 ∨ C.at_ = 4 ∨ C.at_ = 5 ∨ C.at_ = 6 ∨ C.at_ = 7 ∨ C.at_ = 8 := by have := h.at1; omega
  rcases hat with hat | hat | hat | hat | hat | hat | hat | hat
  · rw [mu1 hat]; omega
  · rw [mu2 hat]; omega
  · rw [mu3 hat]; omega
  · rw [mu4 hat]; omega
  · rw [mu5 hat]; omega
  · rw [mu7 (.inl hat)]; omega
  · rw [mu7 (.inr hat)]; omega
  · rw [mu8 hat]; omega
/-- What holds at every step of a commit on a heap to which nothing else is done. -/
theorem run_inv {J : CmS → HeapS → Prop} (hj : ∀ C H, J C H → C.at_ ≠ 8 → stepE C H = 0 ∧ J (goC C H) (goH C H) ∧ mu (goC C H) (goH C H) < mu C H) :
    ∀ (m : Nat) (C : CmS) (H : HeapS), J C H → mu C H < m → (runF m C H).2.1 = true ∧ J (runF m C H).2.2.1 (runF m C H).2.2.2 ∧ (runF m C H).2.2.1.at_ = 8
  | 0, _, _, _, h => by omega
  | m + 1, C, H, hJ, h => by
    unfold runF
    by_cases h8 : C.at_ = 8
    · rw [if_pos h8]; exact ⟨rfl, hJ, h8⟩
    · rw [if_neg h8]
      obtain ⟨g1, g2, g3⟩ := hj C H hJ h8
      rw [if_pos g1]
      have e1 : stepC C H = goC C H := by unfold stepC; rw [if_pos g1]
      have e2 : stepH C H = goH C H := by unfold stepH; rw [if_pos g1]
      rw [e1, e2]
      exact run_inv hj m _ _ g2 (by omega)
theorem kinds_at (a aw : Option Addr) (cap cw : Nat) (l : List EvS) (ks : List Int) (w0 : World) (h : SlOk w0 a l.length cap 7 (gL encE evD l)) (hk : SlOk w0 aw ks.length cw 1 (fun i _ => .int .u8 (ks.getD i 0))) :
    Calls Tryz.prog 19 #[.slice a l.length cap, .slice aw ks.length cw] w0 fun e w' => e = .returned (.bool (decide (l.map (·.kind) = ks))) ∧ Below w0.heap.size w0 w' := by
  have S := Sat.reads2 (r := slL a cap 7 encE evD l) (r' := slR aw ks.length cw 1 (fun i _ => .int .u8 (ks.getD i 0))) h hk
  have hm1 := h.small
  have hm2 := hk.small
  refine enter1 Tryz.func19 rfl Tryz.ntmps19 rfl Tryz.results19 ?_
  repeat' (first | refine assign_b_l S rfl rfl ?_ | refine move_s_l S rfl rfl ?_ | refine len_l S rfl rfl ?_ | refine nilL ?_ | refine run_seq ?_ | refine run_skip ?_ | refine run_region ?_ | refine assign_i_l S rfl rfl ?_ | refine move_i_l S rfl rfl ?_ | (refine neq_l S rfl rfl rfl ?_ ?_ <;> intro hcmp <;> try (exfalso; first | omega | exact hcmp (by decide) | exact absurd hcmp (by decide))) | (refine lss_l S rfl rfl rfl ?_ ?_ <;> intro hcmp <;> try (exfalso; first | omega | exact hcmp (by decide) | exact absurd hcmp (by decide))) | refine add_l S rfl rfl (wrap_in (by omega)) rfl ?_ | refine add_l S rfl rfl rfl rfl ?_ | refine run_block ?_ | refine run_ret ?_ | refine run_exit ?_ | refine run_cond_true rfl ?_ | refine run_cond_false rfl ?_ | refine thenQ_n ?_ | refine thenQ_r ?_ | refine thenQ_e ?_ | refine blockQ_n ?_ | refine blockQ_r ?_ | refine blockQ_s rfl ?_ | refine blockQ_o rfl ?_ | (refine run_draws S mixed ?_ ?_; · kernel_rfl) | (refine nilQ ?_; clear S; intro w S) | refine move_s_q rfl rfl ?_ | refine move_i_q rfl rfl ?_ | refine indexAddr_q rfl rfl (idx_cast _) (by first | omega | decide | (simp; done) | (simp; omega)) rfl ?_ | refine indexAddr_q rfl rfl (idx_eq _) (by first | omega | decide | (simp; done) | (simp; omega)) rfl ?_ | refine fieldAddr_q rfl rfl rfl ?_ | refine fieldAddrE_q rfl (by first | omega | decide | (simp; done) | (simp; omega)) rfl rfl ?_ | refine load_i_q rfl rfl rfl rfl ?_ | refine loadE_i_q rfl (by first | omega | decide | (simp; done) | (simp; omega)) rfl rfl rfl ?_ | (refine neq_q rfl rfl rfl ?_ ?_ <;> intro hcmp <;> try (exfalso; first | omega | exact hcmp (by decide) | exact absurd hcmp (by decide))) | refine load_o_q rfl rfl rfl rfl ?_ | refine loadE_o_q rfl (by first | omega | decide | (simp; done) | (simp; omega)) rfl rfl rfl ?_ | refine ret1_i rfl ?_ | refine ret1_b rfl ?_ | refine ret1_p rfl ?_ | refine ret1_s rfl ?_ | refine ret1_e rfl ?_ | refine ret1_a rfl ?_ | refine ret1_o rfl ?_ | refine ret1n_i rfl ?_ | refine ret1n_b rfl ?_ | refine ret1n_p rfl ?_ | refine ret1n_s rfl ?_ | refine ret1n_o rfl ?_)
  · rw [decide_eq_false (fun e => by have := congrArg List.length e; simp at this; omega)]
    exact ⟨rfl, S.chg.below⟩
  refine run_while [4, 11, 12, 13, 14, 15, 16, 17, 18, 19, 20, 21, 22, 23, 24, 25, 26] (fun (q : Nat) t => upd t 5 (.int .i64 q)) (fun q w' => q ≤ l.length ∧ (∀ i, i < q → (l.getD i evD).kind = ks.getD i 0) ∧ Sat (fun _ => False) w0 w' [roR (slL a cap 7 encE evD l), roR (slR aw ks.length cw 1 (fun i _ => .int .u8 (ks.getD i 0)))]) (fun q => l.length - q) 0 ?_ ?_ ?_
  · (repeat (first | exact agree_refl | refine agree_r rfl ?_ | refine agree_l rfl ?_ | refine agree_hv rfl ?_))
  · exact ⟨Nat.zero_le _, fun i hi => by omega, S⟩
  clear S
  rintro q j w ⟨hq, hn, S⟩
  have hlen : l.length = ks.length := by omega
  by_cases hql : q < l.length
  · repeat' (first | refine assign_b_l S rfl rfl ?_ | refine move_s_l S rfl rfl ?_ | refine len_l S rfl rfl ?_ | refine nilL ?_ | refine run_seq ?_ | refine run_skip ?_ | refine run_region ?_ | refine assign_i_l S rfl rfl ?_ | refine move_i_l S rfl rfl ?_ | (refine neq_l S rfl rfl rfl ?_ ?_ <;> intro hcmp <;> try (exfalso; first | omega | exact hcmp (by decide) | exact absurd hcmp (by decide))) | (refine lss_l S rfl rfl rfl ?_ ?_ <;> intro hcmp <;> try (exfalso; first | omega | exact hcmp (by decide) | exact absurd hcmp (by decide))) | refine add_l S rfl rfl (wrap_in (by omega)) rfl ?_ | refine add_l S rfl rfl rfl rfl ?_ | refine run_block ?_ | refine run_ret ?_ | refine run_exit ?_ | refine run_cond_true rfl ?_ | refine run_cond_false rfl ?_ | refine thenQ_n ?_ | refine thenQ_r ?_ | refine thenQ_e ?_ | refine blockQ_n ?_ | refine blockQ_r ?_ | refine blockQ_s rfl ?_ | refine blockQ_o rfl ?_ | (refine run_draws S mixed ?_ ?_; · kernel_rfl) | (refine nilQ ?_; clear S; intro w S) | refine move_s_q rfl rfl ?_ | refine move_i_q rfl rfl ?_ | refine indexAddr_q rfl rfl (idx_cast _) (by first | omega | decide | (simp; done) | (simp; omega)) rfl ?_ | refine indexAddr_q rfl rfl (idx_eq _) (by first | omega | decide | (simp; done) | (simp; omega)) rfl ?_ | refine fieldAddr_q rfl rfl rfl ?_ | refine fieldAddrE_q rfl (by first | omega | decide | (simp; done) | (simp; omega)) rfl rfl ?_ | refine load_i_q rfl rfl rfl rfl ?_ | refine loadE_i_q rfl (by first | omega | decide | (simp; done) | (simp; omega)) rfl rfl rfl ?_ | (refine neq_q rfl rfl rfl ?_ ?_ <;> intro hcmp <;> try (exfalso; first | omega | exact hcmp (by decide) | exact absurd hcmp (by decide))) | refine load_o_q rfl rfl rfl rfl ?_ | refine loadE_o_q rfl (by first | omega | decide | (simp; done) | (simp; omega)) rfl rfl rfl ?_ | refine ret1_i rfl ?_ | refine ret1_b rfl ?_ | refine ret1_p rfl ?_ | refine ret1_s rfl ?_ | refine ret1_e rfl ?_ | refine ret1_a rfl ?_ | refine ret1_o rfl ?_ | refine ret1n_i rfl ?_ | refine ret1n_b rfl ?_ | refine ret1n_p rfl ?_ | refine ret1n_s rfl ?_ | refine ret1n_o rfl ?_)
    · rw [decide_eq_false (fun e => hcmp (by
        have e2 := congrArg (fun z => z.getD q 0) e
        simp only [List.getD_eq_getElem?_getD, List.getElem?_map, List.getElem?_eq_getElem hql, Option.map_some] at e2
        rw [List.getD_eq_getElem?_getD, List.getD_eq_getElem?_getD, List.getElem?_eq_getElem hql]
        exact e2))]
      exact ⟨rfl, S.chg.below⟩
    · refine ⟨q + 1, ?_, ⟨by omega, fun i hi => ?_, S⟩, by omega⟩
      · rw [Int.natCast_add]
        (repeat (first | exact agree_refl | refine agree_r rfl ?_ | refine agree_l rfl ?_ | refine agree_hv rfl ?_))
      · by_cases e : i = q
        · subst e; exact hcmp
        · exact hn i (by omega)
  · repeat' (first | refine assign_b_l S rfl rfl ?_ | refine move_s_l S rfl rfl ?_ | refine len_l S rfl rfl ?_ | refine nilL ?_ | refine run_seq ?_ | refine run_skip ?_ | refine run_region ?_ | refine assign_i_l S rfl rfl ?_ | refine move_i_l S rfl rfl ?_ | (refine neq_l S rfl rfl rfl ?_ ?_ <;> intro hcmp <;> try (exfalso; first | omega | exact hcmp (by decide) | exact absurd hcmp (by decide))) | (refine lss_l S rfl rfl rfl ?_ ?_ <;> intro hcmp <;> try (exfalso; first | omega | exact hcmp (by decide) | exact absurd hcmp (by decide))) | refine add_l S rfl rfl (wrap_in (by omega)) rfl ?_ | refine add_l S rfl rfl rfl rfl ?_ | refine run_block ?_ | refine run_ret ?_ | refine run_exit ?_ | refine run_cond_true rfl ?_ | refine run_cond_false rfl ?_ | refine thenQ_n ?_ | refine thenQ_r ?_ | refine thenQ_e ?_ | refine blockQ_n ?_ | refine blockQ_r ?_ | refine blockQ_s rfl ?_ | refine blockQ_o rfl ?_ | (refine run_draws S mixed ?_ ?_; · kernel_rfl) | (refine nilQ ?_; clear S; intro w S) | refine move_s_q rfl rfl ?_ | refine move_i_q rfl rfl ?_ | refine indexAddr_q rfl rfl (idx_cast _) (by first | omega | decide | (simp; done) | (simp; omega)) rfl ?_ | refine indexAddr_q rfl rfl (idx_eq _) (by first | omega | decide | (simp; done) | (simp; omega)) rfl ?_ | refine fieldAddr_q rfl rfl rfl ?_ | refine fieldAddrE_q rfl (by first | omega | decide | (simp; done) | (simp; omega)) rfl rfl ?_ | refine load_i_q rfl rfl rfl rfl ?_ | refine loadE_i_q rfl (by first | omega | decide | (simp; done) | (simp; omega)) rfl rfl rfl ?_ | (refine neq_q rfl rfl rfl ?_ ?_ <;> intro hcmp <;> try (exfalso; first | omega | exact hcmp (by decide) | exact absurd hcmp (by decide))) | refine load_o_q rfl rfl rfl rfl ?_ | refine loadE_o_q rfl (by first | omega | decide | (simp; done) | (simp; omega)) rfl rfl rfl ?_ | refine ret1_i rfl ?_ | refine ret1_b rfl ?_ | refine ret1_p rfl ?_ | refine ret1_s rfl ?_ | refine ret1_e rfl ?_ | refine ret1_a rfl ?_ | refine ret1_o rfl ?_ | refine ret1n_i rfl ?_ | refine ret1n_b rfl ?_ | refine ret1n_p rfl ?_ | refine ret1n_s rfl ?_ | refine ret1n_o rfl ?_)
    rw [decide_eq_true (by
      apply List.ext_getElem?
      intro i
      by_cases hi : i < l.length
      · have := hn i (by omega)
        rw [List.getD_eq_getElem?_getD, List.getD_eq_getElem?_getD, List.getElem?_eq_getElem hi, List.getElem?_eq_getElem (by omega)] at this
        rw [List.getElem?_map, List.getElem?_eq_getElem hi, List.getElem?_eq_getElem (by omega)]
        exact congrArg some this
      · rw [List.getElem?_eq_none (by simp; omega), List.getElem?_eq_none (by omega)])]
    exact ⟨rfl, S.chg.below⟩
end Go.Proofs.YtpiodhdbdlfnhaaGreatDoor
