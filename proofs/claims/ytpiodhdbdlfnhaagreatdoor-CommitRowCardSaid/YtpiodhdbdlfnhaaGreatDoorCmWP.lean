/- commit: on a heap to which nothing else is done (plain). -/
import Derived.Test.YtpiodhdbdlfnhaaGreatDoorCmL
namespace Go.Proofs.YtpiodhdbdlfnhaaGreatDoor
open Go.RowKit Go.Lib
set_option linter.unusedVariables false
set_option maxHeartbeats 4000000
def storeL (vs : List Int) (l : List (Int × Int)) : List Int := l.foldl (fun vs p => vs.set p.1.toNat p.2) vs
theorem storeL_succ {vs : List Int} {l : List (Int × Int)} {q : Nat} (h : q < l.length) : storeL vs (l.take (q + 1)) = (storeL vs (l.take q)).set (l.getD q (0, 0)).1.toNat (l.getD q (0, 0)).2 := by
  rw [List.take_succ_eq_append_getElem h, List.getD_eq_getElem?_getD, List.getElem?_eq_getElem h]
  unfold storeL
  rw [List.foldl_append]
  rfl
theorem fitW_congr {C C' : CmS} {H H' : HeapS} (h1 : C'.writes = C.writes) (h2 : H'.vals.length = H.vals.length) (h3 : H'.locks.length = H.locks.length) : fitW C' H' = fitW C H := by
  unfold fitW stripeV
  rw [h1, h2, h3]
theorem fitR_congr {C C' : CmS} {H H' : HeapS} (h1 : C'.st = C.st) (h2 : C'.hs = C.hs) (h3 : H'.locks.length = H.locks.length) : fitR C' H' = fitR C H := by
  unfold fitR
  rw [h1, h2, h3]
theorem fitsB_of {C : CmS} {H : HeapS} (h1 : fitW C H = true) (h2 : fitR C H = true) (h3 : ∀ s ∈ C.owned, ownerV H s = C.thread) : fitsB C H = true := by
  unfold fitsB fitO
  rw [h1, h2, Bool.true_and, Bool.true_and, Bool.not_eq_true', List.any_eq_false]
  intro s hs
  rw [h3 s hs]
  simp
theorem of_fitsB {C : CmS} {H : HeapS} (h : fitsB C H = true) : fitW C H = true ∧ fitR C H = true ∧ ∀ s ∈ C.owned, ownerV H s = C.thread := by
  unfold fitsB fitO at h
  rw [Bool.and_eq_true, Bool.and_eq_true, Bool.not_eq_true', List.any_eq_false] at h
  refine ⟨h.1, h.2.1, fun s hs => ?_⟩
  have := h.2.2 s hs
  simpa using this
theorem fitW_at {C : CmS} {H : HeapS} (h : fitW C H = true) (hl : 0 < H.locks.length) {p : Int × Int} (hp : p ∈ C.writes) : 0 ≤ p.1 ∧ p.1 < H.vals.length ∧ stripeV H p.1 = p.1 % H.locks.length := by
  have := of_decide_eq_true (List.all_eq_true.1 h p hp)
  have e : ¬ (p.1 < 0 ∨ (H.vals.length : Int) ≤ p.1) := fun e => by
    rw [stripeV, if_pos e] at this; omega
  exact ⟨by omega, by omega, by rw [stripeV, if_neg e]⟩
structure WJ (n st : Nat) (limit : Int) (H0 : HeapS) (L : List Int) (C : CmS) (H : HeapS) : Prop where
  inv : InvC C H
  ok : OkC n st limit H
  sl : strL C H = L
  fw : fitW C H = true
  fr : fitR C H = true
  wv : (C.wv = 0 ∧ H.clock = H0.clock ∧ (C.writes = [] ∨ C.at_ = 1 ∨ C.at_ = 2 ∨ C.committed = false ∧ 7 ≤ C.at_)) ∨ (C.wv = H0.clock + 1 ∧ H.clock = H0.clock + 1 ∧ C.at_ ≠ 1 ∧ C.at_ ≠ 2)
  own : ∀ s, ownerV H s = if s ∈ C.owned then C.thread else if C.committed = true ∧ s ∈ L then -1 else ownerV H0 s
  was : ∀ s ∈ C.owned, ownerV H0 s = -1
  ver : ∀ s, versionV H s = if C.committed = true ∧ s ∈ L ∧ s ∉ C.owned then C.wv else versionV H0 s
  vals : H.vals = if C.committed = true then storeL H0.vals (C.writes.take (if C.at_ = 5 then C.done.toNat else C.writes.length)) else H0.vals
section
variable {n st : Nat} {limit : Int} {H0 : HeapS} {L : List Int} {C : CmS} {H : HeapS}
theorem WJ.fits (h : WJ n st limit H0 L C H) : fitsB C H = true :=
  fitsB_of h.fw h.fr fun s hs => by rw [h.own s, if_pos hs]
theorem WJ.abort (h : WJ n st limit H0 L C H) (h0 : 0 < st) (hc : C.committed = false) (h7 : C.at_ < 7) (hz : C.wv = 0 → C.at_ = 1 ∨ C.at_ = 2) : WJ n st limit H0 L (abortC C) H := by
  have e : strL (abortC C) H = strL C H := strL_congr rfl rfl rfl
  have ha := abortC_at C
  refine ⟨h.inv.abort e hc, h.ok, e.trans h.sl, (fitW_congr rfl rfl rfl).trans h.fw, (fitR_congr rfl rfl rfl).trans h.fr, ?_, h.own, h.was, h.ver, ?_⟩
  · rcases h.wv with g | g
    · exact .inl ⟨g.1, g.2.1, .inr (.inr (.inr ⟨hc, by omega⟩))⟩
    · exact .inr ⟨g.1, g.2.1, by omega, by omega⟩
  · have hv := h.vals
    rw [hc] at hv
    rw [hv, show (abortC C).committed = false from hc]
    rfl
theorem own_nodup (h : InvC C H) : C.owned.Nodup := ((strL_lt C H).imp (fun h => by omega)).sublist h.sub
theorem WJ.go (h : WJ n st limit H0 L C H) (h0 : 0 < st) (o0 : OkC n st limit H0) (h8 : C.at_ ≠ 8) : WJ n st limit H0 L (goC C H) (goH C H) := by
  have sm := goC_same C H
  have i' := h.inv.go h.ok h0 h8
  have o' := h.ok.go C
  have hl : 0 < H.locks.length := by rw [h.ok.locks]; exact h0
  have e1 : (goH C H).vals.length = H.vals.length := by rw [o'.vals, h.ok.vals]
  have e2 : (goH C H).locks.length = H.locks.length := by rw [o'.locks, h.ok.locks]
  have s' : strL (goC C H) (goH C H) = L := (strL_congr sm.2.2.2.2 e1 e2).trans h.sl
  have w' : fitW (goC C H) (goH C H) = true := (fitW_congr sm.2.2.2.2 e1 e2).trans h.fw
  have r' : fitR (goC C H) (goH C H) = true := (fitR_congr sm.2.2.1 sm.2.2.2.1 e2).trans h.fr
  have hthr := h.inv.thr
  have hnc : C.at_ = 1 ∨ C.at_ = 2 ∨ C.at_ = 3 ∨ C.at_ = 4 ∨ C.at_ = 7 → C.committed = false := fun x => by
    cases hc : C.committed with
    | false => rfl
    | true => have := h.inv.c2 hc; omega
  rcases at_cases h.inv with a | a | a | a | a | a | a | a
  · have hc := hnc (.inl a)
    have hv := h.vals
    rw [hc, if_neg (by decide)] at hv
    rw [goC1 a, goH1 a] at *
    by_cases he : ownE H (lockS C H) C.thread = 0
    · have hz := ownE_zeroC he
      have ho : ownerV H (lockS C H) = -1 := by rw [ownerV, if_pos ⟨hz.1, hz.2.1⟩]; exact hz.2.2.2.2
      have eC : (lockC C H) = { C with owned := C.owned ++ [lockS C H], at_ := if C.owned.length + 1 = (strL C H).length then 2 else C.at_ } := by unfold lockC; rw [if_pos he]
      have eW : (lockC C H).wv = C.wv := by rw [eC]
      have eO : (lockC C H).owned = C.owned ++ [lockS C H] := by rw [eC]
      have eM : (lockC C H).committed = false := by rw [eC]; exact hc
      have eT : (lockC C H).thread = C.thread := by rw [eC]
      have eA : (lockC C H).at_ = 1 ∨ (lockC C H).at_ = 2 := by
        rw [eC]
        show (if _ then (2 : Int) else C.at_) = 1 ∨ (if _ then (2 : Int) else C.at_) = 2
        split <;> omega
      have hwas : ownerV H0 (lockS C H) = -1 := by
        have := h.own (lockS C H)
        rw [ho, hc] at this
        by_cases hm : lockS C H ∈ C.owned
        · exact h.was _ hm
        · rw [if_neg hm, if_neg (fun x => by cases x.1)] at this; exact this.symm
      refine ⟨i', o', s', w', r', ?_, fun s => ?_, fun s hs => ?_, fun s => ?_, ?_⟩
      · rw [eW, (own_vals _ _ _).2.1]
        rcases h.wv with g | g
        · exact .inl ⟨g.1, g.2.1, .inr (by omega)⟩
        · exact absurd a g.2.2.1
      · rw [owner_own, eO, eT, eM]
        by_cases hs : s = lockS C H
        · rw [if_pos ⟨he, hs⟩, if_pos (by simp [hs])]
        · rw [if_neg (fun x => hs x.2), h.own s, hc]
          by_cases hm : s ∈ C.owned
          · rw [if_pos hm, if_pos (by simp [hm])]
          · rw [if_neg hm, if_neg (c := s ∈ C.owned ++ [lockS C H]) (by simp [hm, hs])]
      · rw [eO] at hs
        rcases List.mem_append.1 hs with hs | hs
        · exact h.was s hs
        · rw [List.mem_singleton.1 hs]; exact hwas
      · rw [version_own, eM, h.ver s, hc]
        simp
      · rw [(own_vals _ _ _).1, hv, eM, if_neg (by decide)]
    · have eH : ownH H (lockS C H) C.thread = H := by unfold ownH; rw [if_neg he]
      have eC : lockC C H = abortC C := by unfold lockC; rw [if_neg he]
      rw [eH, eC]
      exact h.abort h0 hc (by omega) (fun _ => .inl a)
  · have hc := hnc (.inr (.inl a))
    have hv := h.vals
    rw [hc, if_neg (by decide)] at hv
    rw [goC2 a, goH2 a] at *
    have hwv : C.wv = 0 ∧ H.clock = H0.clock := by
      rcases h.wv with g | g
      · exact ⟨g.1, g.2.1⟩
      · exact absurd a g.2.2.2
    by_cases he : H.limit ≤ H.clock
    · have eH : bumpH H = H := by unfold bumpH; rw [if_pos he]
      have eC : bumpC C H = abortC { C with full := true } := by unfold bumpC; rw [if_pos he]
      rw [eH, eC]
      have hF : WJ n st limit H0 L { C with full := true } H := ⟨⟨h.inv.ws, h.inv.thr, h.inv.at1, h.inv.sub, h.inv.lk, h.inv.bp, h.inv.ck, h.inv.cm, h.inv.so, h.inv.fr, h.inv.ov, h.inv.c1, h.inv.c2⟩, h.ok, h.sl, h.fw, h.fr, h.wv, h.own, h.was, h.ver, h.vals⟩
      exact hF.abort h0 hc (by show C.at_ < 7; omega) (fun _ => .inr a)
    · have eC : bumpC C H = { C with wv := H.clock + 1, at_ := if H.clock + 1 ≠ C.rv + 1 ∧ 0 < (allI C.st C.hs).length then 3 else 4 } := by unfold bumpC; rw [if_neg he]
      have eM : (bumpC C H).committed = false := by rw [eC]; exact hc
      have eO : (bumpC C H).owned = C.owned := by rw [eC]
      have eT : (bumpC C H).thread = C.thread := by rw [eC]
      have eK : (bumpH H).clock = H.clock + 1 := by rw [(bump_vals H).2.2.2, if_neg he]
      have eA : (bumpC C H).at_ = 3 ∨ (bumpC C H).at_ = 4 := by
        rw [eC]
        show (if _ then (3 : Int) else 4) = 3 ∨ (if _ then (3 : Int) else 4) = 4
        split <;> omega
      refine ⟨i', o', s', w', r', .inr ⟨?_, ?_, by omega, by omega⟩, fun s => ?_, fun s hs => ?_, fun s => ?_, ?_⟩
      · rw [eC]; show H.clock + 1 = _; omega
      · rw [eK]; omega
      · rw [owner_bump, eO, eT, eM, h.own s, hc]
      · rw [eO] at hs; exact h.was s hs
      · rw [version_bump, eM, h.ver s, hc]; simp
      · rw [(bump_vals H).1, hv, eM, if_neg (by decide)]
  · have hc := hnc (.inr (.inr (.inl a)))
    have hv := h.vals
    rw [hc, if_neg (by decide)] at hv
    rw [goC3 a, goH3 a] at *
    have hwv : C.wv = H0.clock + 1 ∧ H.clock = H0.clock + 1 := by
      rcases h.wv with g | g
      · have := (h.inv.ck a).2.2
        rcases g.2.2 with x | x | x | x
        · exact absurd x this
        · omega
        · omega
        · omega
      · exact ⟨g.1, g.2.1⟩
    by_cases he : checkB C H = true
    · have eC : checkC C H = abortC C := by unfold checkC; rw [if_pos he]
      rw [eC]
      exact h.abort h0 hc (by omega) (fun x => by have := o0.c0; omega)
    · have eC : checkC C H = { C with done := C.done + 1, at_ := if C.done + 1 = (allI C.st C.hs).length then 4 else C.at_ } := by unfold checkC; rw [if_neg he]
      have eM : (checkC C H).committed = false := by rw [eC]; exact hc
      have eO : (checkC C H).owned = C.owned := by rw [eC]
      have eT : (checkC C H).thread = C.thread := by rw [eC]
      have eW : (checkC C H).wv = C.wv := by rw [eC]
      have eA : (checkC C H).at_ = 3 ∨ (checkC C H).at_ = 4 := by
        rw [eC]
        show (if _ then (4 : Int) else C.at_) = 3 ∨ (if _ then (4 : Int) else C.at_) = 4
        split <;> omega
      refine ⟨i', o', s', w', r', .inr ⟨eW.trans hwv.1, hwv.2, by omega, by omega⟩, fun s => ?_, fun s hs => ?_, fun s => ?_, ?_⟩
      · rw [eO, eT, eM, h.own s, hc]
      · rw [eO] at hs; exact h.was s hs
      · rw [eM, h.ver s, hc]; simp
      · rw [hv, eM, if_neg (by decide)]
  · have hc := hnc (.inr (.inr (.inr (.inl a))))
    have hv := h.vals
    rw [hc, if_neg (by decide)] at hv
    rw [goC4 a, goH4 a] at *
    have ho : C.owned = L := (h.inv.cm a).trans h.sl
    have eA : C.writes ≠ [] → (commitC C).at_ = 5 := fun x => by
      show (if C.writes.length = 0 then (8 : Int) else 5) = 5
      rw [if_neg (fun e => x (List.eq_nil_of_length_eq_zero e))]
    have eB : (commitC C).at_ = 5 ∨ (commitC C).at_ = 8 := by
      show (if C.writes.length = 0 then (8 : Int) else 5) = 5 ∨ (if C.writes.length = 0 then (8 : Int) else 5) = 8
      split <;> omega
    refine ⟨i', o', s', w', r', ?_, fun s => ?_, fun s hs => h.was s hs, fun s => ?_, ?_⟩
    · rcases h.wv with g | g
      · rcases g.2.2 with x | x | x | x
        · exact .inl ⟨g.1, g.2.1, .inl x⟩
        · omega
        · omega
        · omega
      · exact .inr ⟨g.1, g.2.1, by omega, by omega⟩
    · rw [h.own s, hc]
      show _ = if s ∈ C.owned then C.thread else if true = true ∧ s ∈ L then -1 else ownerV H0 s
      by_cases hs : s ∈ C.owned
      · rw [if_pos hs, if_pos hs]
      · rw [if_neg hs, if_neg hs, if_neg (fun x => by cases x.1), if_neg (fun x => hs (ho ▸ x.2))]
    · rw [h.ver s, hc]
      show _ = if true = true ∧ s ∈ L ∧ s ∉ C.owned then C.wv else versionV H0 s
      rw [if_neg (fun x => by cases x.1), if_neg (fun x => x.2.2 (ho ▸ x.2.1))]
    · rw [hv, if_pos (show (commitC C).committed = true from rfl)]
      by_cases hw : C.writes = []
      · show H0.vals = storeL H0.vals (C.writes.take _)
        rw [hw, List.take_nil]; rfl
      · rw [if_pos (eA hw)]
        rfl
  · have hc : C.committed = true := h.inv.c1 (.inl a)
    have hv := h.vals
    rw [hc, if_pos rfl, if_pos a] at hv
    obtain ⟨g1, g2⟩ := h.inv.so a
    rw [goC5 a, goH5 a] at *
    have hm : C.writes.getD C.done.toNat (0, 0) ∈ C.writes := by
      rw [List.getD_eq_getElem?_getD, List.getElem?_eq_getElem (by omega)]
      exact List.getElem_mem _
    obtain ⟨p1, p2, p3⟩ := fitW_at h.fw hl hm
    have eA : (storeC C).at_ = if C.done + 1 = C.writes.length then 6 else C.at_ := rfl
    refine ⟨i', o', s', w', r', ?_, fun s => ?_, fun s hs => h.was s hs, fun s => ?_, ?_⟩
    · rw [(set_clock _ _ _).1]
      rcases h.wv with g | g
      · rcases g.2.2 with x | x | x | x
        · rw [x] at g1; simp at g1; omega
        · omega
        · omega
        · rw [hc] at x; cases x.1
      · refine .inr ⟨g.1, g.2.1, ?_, ?_⟩ <;> (rw [eA]; split <;> omega)
    · rw [owner_set]; exact h.own s
    · rw [version_set]; exact h.ver s
    · have e : (setH H (C.writes.getD C.done.toNat (0, 0)).1 (C.writes.getD C.done.toNat (0, 0)).2).vals = storeL H0.vals (C.writes.take (C.done.toNat + 1)) := by
        rw [storeL_succ (by omega), ← hv]
        unfold setH
        rw [if_neg (by omega)]
      rw [e, if_pos (show (storeC C).committed = true from hc)]
      show _ = storeL H0.vals (C.writes.take (if (storeC C).at_ = 5 then (C.done + 1).toNat else C.writes.length))
      by_cases hk : C.done + 1 = C.writes.length
      · rw [eA, if_pos hk, if_neg (by decide), show C.done.toNat + 1 = C.writes.length by omega]
      · rw [eA, if_neg hk, if_pos a, show (C.done + 1).toNat = C.done.toNat + 1 by omega]
  · have hc : C.committed = true := h.inv.c1 (.inr a)
    have hv := h.vals
    rw [hc, if_pos rfl, if_neg (by omega)] at hv
    have hne := h.inv.fr (.inl a)
    have hnd := own_nodup h.inv
    rw [goC6 a, goH6 a] at *
    obtain ⟨s0, r, hown⟩ : ∃ s0 r, C.owned = s0 :: r := by
      cases hx : C.owned with
      | nil => exact absurd hx hne
      | cons s0 r => exact ⟨s0, r, rfl⟩
    have hg0 : C.owned.getD 0 0 = s0 := by rw [hown]; rfl
    rw [hg0] at i' o' s' w' r' e1 e2 ⊢
    have hs0L : s0 ∈ L := by rw [← h.sl]; exact h.inv.sub.subset (by rw [hown]; simp)
    have hrL : ∀ x ∈ r, x ∈ L := fun x hx => by rw [← h.sl]; exact h.inv.sub.subset (by rw [hown]; simp [hx])
    have hwne : C.writes ≠ [] := fun e => by
      have := strL_len (C := C) hl
      rw [h.sl, e] at this
      have : L = [] := List.eq_nil_of_length_eq_zero (by simpa using this)
      rw [this] at hs0L; cases hs0L
    have hwv : C.wv = H0.clock + 1 ∧ H.clock = H0.clock + 1 := by
      rcases h.wv with g | g
      · rcases g.2.2 with x | x | x | x
        · exact absurd x hwne
        · omega
        · omega
        · omega
      · exact ⟨g.1, g.2.1⟩
    have hown0 : ownerV H s0 = C.thread := by rw [h.own s0, if_pos (by rw [hown]; simp)]
    have hin : 0 ≤ s0 ∧ s0 < H.locks.length := by
      by_cases e : 0 ≤ s0 ∧ s0 < H.locks.length
      · exact e
      · rw [ownerV, if_neg e] at hown0; omega
    have hver0 : versionV H s0 = versionV H0 s0 := by rw [h.ver s0, if_neg (fun x => x.2.2 (by rw [hown]; simp))]
    have hv0 : versionV H0 s0 ≤ H0.clock := by
      have hl0 := o0.locks
      have hl1 := h.ok.locks
      have := o0.ver s0.toNat (by omega)
      rw [versionV, if_pos (by omega)]
      exact this.2
    have hfe : freeE H s0 C.thread C.wv = 0 := by
      have hle : letE H s0 C.thread = 0 := by
        unfold letE
        rw [ownerV, if_pos hin] at hown0
        rw [if_neg (fun x => x hin), if_neg (by omega)]
      unfold freeE
      rw [versionV, if_pos hin] at hver0
      rw [if_neg (fun x => x hle), if_neg (by omega)]
    have hnin : s0 ∉ r := fun x => by
      rw [hown] at hnd
      exact (List.nodup_cons.1 hnd).1 x
    have eO : (leastC C).owned = r := by show C.owned.drop 1 = r; rw [hown]; rfl
    have eA : (leastC C).at_ = 8 ∨ (leastC C).at_ = 6 := by
      show (if (C.owned.drop 1).length = 0 then (8 : Int) else C.at_) = 8 ∨ (if (C.owned.drop 1).length = 0 then (8 : Int) else C.at_) = 6
      split <;> omega
    have eM : (leastC C).committed = true := hc
    have eT : (leastC C).thread = C.thread := rfl
    have eW : (leastC C).wv = C.wv := rfl
    have eR : (leastC C).writes = C.writes := rfl
    refine ⟨i', o', s', w', r', .inr ⟨hwv.1, ?_, by omega, by omega⟩, fun s => ?_, fun s hs => ?_, fun s => ?_, ?_⟩
    · rw [(free_vals _ _ _ _).2.1]; exact hwv.2
    · rw [owner_free, eO, eM, eT]
      by_cases hs : s = s0
      · subst hs
        rw [if_pos ⟨hfe, rfl⟩, if_neg hnin, if_pos ⟨rfl, hs0L⟩]
      · rw [if_neg (fun x => hs x.2), h.own s, hc, hown]
        by_cases hm : s ∈ r
        · rw [if_pos (by simp [hm]), if_pos hm]
        · rw [if_neg (by simp [hs, hm]), if_neg hm]
    · rw [eO] at hs
      exact h.was s (by rw [hown]; simp [hs])
    · rw [version_free, eO, eM, eW]
      by_cases hs : s = s0
      · subst hs
        rw [if_pos ⟨hfe, rfl⟩, if_pos ⟨rfl, hs0L, hnin⟩]
      · rw [if_neg (fun x => hs x.2), h.ver s, hc, hown]
        simp only [List.mem_cons, not_or, hs, not_false_eq_true, true_and]
    · rw [(free_vals _ _ _ _).1, hv, eM, if_pos rfl, eR, if_neg (by omega)]
  · have hc := hnc (.inr (.inr (.inr (.inr a))))
    have hv := h.vals
    rw [hc, if_neg (by decide)] at hv
    have hne := h.inv.fr (.inr a)
    have hnd := own_nodup h.inv
    rw [goC7 a, goH7 a] at *
    obtain ⟨s0, r, hown⟩ : ∃ s0 r, C.owned = s0 :: r := by
      cases hx : C.owned with
      | nil => exact absurd hx hne
      | cons s0 r => exact ⟨s0, r, rfl⟩
    have hg0 : C.owned.getD 0 0 = s0 := by rw [hown]; rfl
    rw [hg0] at i' o' s' w' r' e1 e2 ⊢
    have hown0 : ownerV H s0 = C.thread := by rw [h.own s0, if_pos (by rw [hown]; simp)]
    have hin : 0 ≤ s0 ∧ s0 < H.locks.length := by
      by_cases e : 0 ≤ s0 ∧ s0 < H.locks.length
      · exact e
      · rw [ownerV, if_neg e] at hown0; omega
    have hle : letE H s0 C.thread = 0 := by
      unfold letE
      rw [ownerV, if_pos hin] at hown0
      rw [if_neg (fun x => x hin), if_neg (by omega)]
    have hnin : s0 ∉ r := fun x => by
      rw [hown] at hnd
      exact (List.nodup_cons.1 hnd).1 x
    have eO : (leastC C).owned = r := by show C.owned.drop 1 = r; rw [hown]; rfl
    have eA : (leastC C).at_ = 8 ∨ (leastC C).at_ = 7 := by
      show (if (C.owned.drop 1).length = 0 then (8 : Int) else C.at_) = 8 ∨ (if (C.owned.drop 1).length = 0 then (8 : Int) else C.at_) = 7
      split <;> omega
    have eM : (leastC C).committed = false := hc
    have eT : (leastC C).thread = C.thread := rfl
    have eW : (leastC C).wv = C.wv := rfl
    refine ⟨i', o', s', w', r', ?_, fun s => ?_, fun s hs => ?_, fun s => ?_, ?_⟩
    · rw [(let_vals _ _ _).2.1, eW]
      rcases h.wv with g | g
      · exact .inl ⟨g.1, g.2.1, .inr (.inr (.inr ⟨hc, by omega⟩))⟩
      · exact .inr ⟨g.1, g.2.1, by omega, by omega⟩
    · rw [owner_let, eO, eM, eT]
      by_cases hs : s = s0
      · subst hs
        rw [if_pos ⟨hle, rfl⟩, if_neg hnin, if_neg (fun x => by cases x.1)]
        exact (h.was s (by rw [hown]; simp)).symm
      · rw [if_neg (fun x => hs x.2), h.own s, hc, hown]
        by_cases hm : s ∈ r
        · rw [if_pos (by simp [hm]), if_pos hm]
        · rw [if_neg (by simp [hs, hm]), if_neg hm]
    · rw [eO] at hs
      exact h.was s (by rw [hown]; simp [hs])
    · rw [version_let, eM, h.ver s, hc]
      simp
    · rw [(let_vals _ _ _).1, hv, eM, if_neg (by decide)]
  · exact absurd a h8
theorem WJ.new {thread rv s2 : Int} {hs : List Bool} {ws : List (Int × Int)} (hk : OkC n st limit H0) (h0 : 0 < st) (h : okN thread ws) (hf : fitsB (newC thread rv s2 hs ws) H0 = true) : WJ n st limit H0 (strL (newC thread rv s2 hs ws) H0) (newC thread rv s2 hs ws) H0 := by
  obtain ⟨f1, f2, _⟩ := of_fitsB hf
  refine ⟨InvC.new (by rw [hk.locks]; exact h0) h, hk, rfl, f1, f2, .inl ⟨rfl, rfl, ?_⟩, fun s => ?_, fun s hm => (by cases hm), fun s => ?_, ?_⟩
  · by_cases e : ws.length = 0
    · exact .inl (List.eq_nil_of_length_eq_zero e)
    · refine .inr (.inl ?_)
      unfold newC
      rw [if_neg e]
  · rw [if_neg (by simp [newC]), if_neg (fun x => by cases x.1)]
  · rw [if_neg (fun x => by cases x.1)]
  · rw [if_neg (fun x => by cases x)]
end
/-- Events of one kind are counted by what changes with them. -/
theorem run_cnt {J : CmS → HeapS → Prop} {f : CmS → Int} {k : Int} (hj : ∀ C H, J C H → C.at_ ≠ 8 → stepE C H = 0 → J (goC C H) (goH C H) ∧ f (goC C H) = f C + if (goEv C H).kind = k then 1 else 0) :
    ∀ (m : Nat) (C : CmS) (H : HeapS), J C H → f (runF m C H).2.2.1 = f C + cntK k (runF m C H).1
  | 0, C, _, _ => by show f C = f C + cntK k []; unfold cntK; simp
  | m + 1, C, H, hJ => by
    unfold runF
    by_cases h8 : C.at_ = 8
    · rw [if_pos h8]; show f C = f C + cntK k []; unfold cntK; simp
    · rw [if_neg h8]
      by_cases he : stepE C H = 0
      · rw [if_pos he]
        obtain ⟨g1, g2⟩ := hj C H hJ h8 he
        have e1 : stepC C H = goC C H := by unfold stepC; rw [if_pos he]
        have e2 : stepH C H = goH C H := by unfold stepH; rw [if_pos he]
        rw [e1, e2]
        have := run_cnt hj m _ _ g1
        show f (runF m (goC C H) (goH C H)).2.2.1 = f C + cntK k (stepEv C H :: (runF m (goC C H) (goH C H)).1)
        rw [this, g2, cntK_cons, show (stepEv C H).kind = (goEv C H).kind from by unfold stepEv; rw [if_pos he]]
        omega
      · rw [if_neg he]; show f C = f C + cntK k []; unfold cntK; simp
def bw (C : CmS) : Int := if C.wv = 0 then 0 else 1
section
variable {n st : Nat} {limit : Int} {H0 : HeapS} {L : List Int} {C : CmS} {H : HeapS}
theorem WJ.bwgo (h : WJ n st limit H0 L C H) (h0 : 0 < st) (o0 : OkC n st limit H0) (h8 : C.at_ ≠ 8) : bw (goC C H) = bw C + if (goEv C H).kind = 5 then 1 else 0 := by
  unfold bw
  rcases at_cases h.inv with a | a | a | a | a | a | a | a
  · have e : (goEv C H).kind ≠ 5 := by rw [kind1 a]; split <;> decide
    rw [if_neg e, Int.add_zero, goC1 a]
    unfold lockC; split <;> rfl
  · rw [goC2 a]
    have hwv : C.wv = 0 ∧ H.clock = H0.clock := by
      rcases h.wv with g | g
      · exact ⟨g.1, g.2.1⟩
      · exact absurd a g.2.2.2
    have hc0 := o0.c0
    have eE : goEv C H = bumpEv H := goEv2 a
    rw [eE]
    unfold bumpC bumpEv
    by_cases he : H.limit ≤ H.clock
    · rw [if_pos he, if_pos he, if_neg (show ¬ ((10 : Int) = 5) by decide)]
      show (if C.wv = 0 then (0 : Int) else 1) = _
      omega
    · rw [if_neg he, if_neg he, if_pos (show ((5 : Int) = 5) from rfl), if_pos hwv.1]
      show (if H.clock + 1 = 0 then (0 : Int) else 1) = 0 + 1
      rw [if_neg (by omega)]
      rfl
  · have e : (goEv C H).kind ≠ 5 := by rw [kind3 a]; split <;> decide
    rw [if_neg e, Int.add_zero, goC3 a]
    unfold checkC; split <;> rfl
  · have e : (goEv C H).kind ≠ 5 := by rw [kind4 a]; decide
    rw [if_neg e, Int.add_zero, goC4 a]; rfl
  · have e : (goEv C H).kind ≠ 5 := by rw [kind5 a]; decide
    rw [if_neg e, Int.add_zero, goC5 a]; rfl
  · have e : (goEv C H).kind ≠ 5 := by rw [kind6 a]; decide
    rw [if_neg e, Int.add_zero, goC6 a]; rfl
  · have e : (goEv C H).kind ≠ 5 := by rw [kind7 a]; decide
    rw [if_neg e, Int.add_zero, goC7 a]; rfl
  · exact absurd a h8
theorem new_at (thread rv s2 : Int) (hs : List Bool) (ws : List (Int × Int)) : (newC thread rv s2 hs ws).at_ ≠ 8 := by
  unfold newC
  show (if ws.length = 0 then (4 : Int) else 1) ≠ 8
  split <;> decide
theorem run_no (hf : ¬ fitsB C H = true) (h8 : C.at_ ≠ 8) (m : Nat) : runF (m + 1) C H = ([], false, C, H) := by
  unfold runF
  rw [if_neg h8, if_neg (by unfold stepE; rw [if_neg h8, if_neg hf]; decide)]
/-- The whole of a run. -/
theorem whole_law {thread rv s2 : Int} {hs : List Bool} {ws : List (Int × Int)} (hk : OkC n st limit H0) (h0 : 0 < st) (h : okN thread ws) :
    ((runF 200 (newC thread rv s2 hs ws) H0).2.1 = false ∧ (runF 200 (newC thread rv s2 hs ws) H0).1 = [] ∧ (runF 200 (newC thread rv s2 hs ws) H0).2.2.2 = H0) ∨
    ((runF 200 (newC thread rv s2 hs ws) H0).2.1 = true ∧ fitsB (newC thread rv s2 hs ws) H0 = true ∧ WJ n st limit H0 (strL (newC thread rv s2 hs ws) H0) (runF 200 (newC thread rv s2 hs ws) H0).2.2.1 (runF 200 (newC thread rv s2 hs ws) H0).2.2.2 ∧
      (runF 200 (newC thread rv s2 hs ws) H0).2.2.1.at_ = 8 ∧ (runF 200 (newC thread rv s2 hs ws) H0).2.2.1.writes = ws ∧ cntK 5 (runF 200 (newC thread rv s2 hs ws) H0).1 = bw (runF 200 (newC thread rv s2 hs ws) H0).2.2.1) := by
  by_cases hf : fitsB (newC thread rv s2 hs ws) H0 = true
  · have j := WJ.new (rv := rv) (s2 := s2) (hs := hs) hk h0 h hf
    have hj : ∀ C H, (WJ n st limit H0 (strL (newC thread rv s2 hs ws) H0) C H ∧ C.writes = ws) → C.at_ ≠ 8 → (WJ n st limit H0 (strL (newC thread rv s2 hs ws) H0) (goC C H) (goH C H) ∧ (goC C H).writes = ws) := fun C H hJ h8 => ⟨hJ.1.go h0 hk h8, (goC_same C H).2.2.2.2.trans hJ.2⟩
    have hm := mu_le j.inv (by rw [hk.locks]; exact h0)
    obtain ⟨g1, g2, g3⟩ := run_inv (J := fun C H => WJ n st limit H0 (strL (newC thread rv s2 hs ws) H0) C H ∧ C.writes = ws) (fun C H hJ h8 => ⟨by unfold stepE; rw [if_neg h8, if_pos hJ.1.fits], hj C H hJ h8, mu_go hJ.1.inv hJ.1.ok h0 h8⟩) 200 _ _ ⟨j, rfl⟩ (by omega)
    have gc := run_cnt (J := fun C H => WJ n st limit H0 (strL (newC thread rv s2 hs ws) H0) C H ∧ C.writes = ws) (f := bw) (k := 5) (fun C H hJ h8 _ => ⟨hj C H hJ h8, hJ.1.bwgo h0 hk h8⟩) 200 _ _ ⟨j, rfl⟩
    refine .inr ⟨g1, hf, g2.1, g3, g2.2, ?_⟩
    rw [show bw (newC thread rv s2 hs ws) = 0 from rfl, Int.zero_add] at gc
    exact gc.symm
  · refine .inl ?_
    rw [run_no hf (new_at _ _ _ _ _)]
    exact ⟨rfl, rfl, rfl⟩
end
end Go.Proofs.YtpiodhdbdlfnhaaGreatDoor
