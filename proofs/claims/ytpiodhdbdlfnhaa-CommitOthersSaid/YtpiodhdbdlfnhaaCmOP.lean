/- commit: whatever others do to other stripes (plain). -/
import Derived.Test.YtpiodhdbdlfnhaaCmWP
namespace Go.Proofs.Ytpiodhdbdlfnhaa
open Go.RowKit Go.Lib
set_option linter.unusedVariables false
set_option maxHeartbeats 4000000
def stN (C : CmS) : Int := if C.at_ = 5 then C.done else if C.committed = true then C.writes.length else 0
theorem value_setH (H : HeapS) (v z i : Int) : valueV (setH H v z) i = if 0 ≤ v ∧ v < H.vals.length ∧ i = v then z else valueV H i := by
  unfold setH
  by_cases hv : v < 0 ∨ (H.vals.length : Int) ≤ v
  · rw [if_pos hv, if_neg (by omega)]
  · rw [if_neg hv]
    unfold valueV
    rw [show ({ H with vals := H.vals.set v.toNat z } : HeapS).vals = H.vals.set v.toNat z from rfl, List.length_set]
    by_cases e : i = v
    · subst e
      rw [if_neg hv, if_pos ⟨by omega, by omega, rfl⟩, List.getD_eq_getElem?_getD, List.getElem?_set]
      simp [show i.toNat < H.vals.length by omega]
    · rw [if_neg (c := 0 ≤ v ∧ v < (H.vals.length : Int) ∧ i = v) (fun x => e x.2.2)]
      split
      · rfl
      · rw [List.getD_eq_getElem?_getD, List.getD_eq_getElem?_getD, List.getElem?_set, if_neg (by omega)]
theorem value_vals {H H' : HeapS} (h : H'.vals = H.vals) (i : Int) : valueV H' i = valueV H i := by unfold valueV; rw [h]
structure OJ (n st : Nat) (limit : Int) (ws : List (Int × Int)) (th : Int) (C : CmS) (H : HeapS) : Prop where
  inv : InvC C H
  ok : OkC n st limit H
  hws : C.writes = ws
  hth : C.thread = th
  own : ∀ s ∈ C.owned, ownerV H s = th
  val : ∀ k : Nat, (k : Int) < stN C → k < ws.length ∧ (ownerV H ((ws.getD k (0, 0)).1 % (st : Int)) = th → valueV H (ws.getD k (0, 0)).1 = (ws.getD k (0, 0)).2)
section
variable {n st : Nat} {limit th : Int} {ws : List (Int × Int)} {C : CmS} {H : HeapS}
theorem OJ.keep (h : OJ n st limit ws th C H) {H' : HeapS} (ok : OkC n st limit H') (h1 : ∀ s, ownerV H s = th → ownerV H' s = th) (h2 : ∀ s, ownerV H' s = th → ownerV H s = th) (h3 : ∀ v, ownerV H' (v % (st : Int)) = th → valueV H' v = valueV H v) : OJ n st limit ws th C H' := by
  refine ⟨h.inv.congr (by rw [ok.vals, h.ok.vals]) (by rw [ok.locks, h.ok.locks]), ok, h.hws, h.hth, fun s hs => h1 s (h.own s hs), fun k hk => ?_⟩
  obtain ⟨g1, g2⟩ := h.val k hk
  exact ⟨g1, fun x => (h3 _ x).trans (g2 (h2 _ x))⟩
theorem OJ.turn (h : OJ n st limit ws th C H) (t : TurnS) (hk : t.k ≠ 0) (h0 : 0 ≤ t.k) (n1 : ¬ (t.k < 4 ∧ t.who = th)) (n2 : ¬ (4 < t.k ∧ 0 ≤ t.at_ ∧ t.at_ < n ∧ ownerV H (t.at_ % (st : Int)) = th)) : OJ n st limit ws th C (turnH H t) := by
  have ok := h.ok.turn t
  have hthr := h.inv.thr
  rw [h.hth] at hthr
  unfold turnH at ok ⊢
  by_cases k1 : t.k = 1
  · rw [if_pos k1] at ok ⊢
    have hw : t.who ≠ th := fun e => n1 ⟨by omega, e⟩
    refine h.keep ok (fun s hs => ?_) (fun s hs => ?_) (fun v _ => value_vals (own_vals _ _ _).1 v)
    · rw [owner_own]
      by_cases e : ownE H t.at_ t.who = 0 ∧ s = t.at_
      · have hz := ownE_zeroC e.1
        rw [e.2, ownerV, if_pos ⟨hz.1, hz.2.1⟩] at hs
        omega
      · rw [if_neg e]; exact hs
    · rw [owner_own] at hs
      split at hs
      · exact absurd hs hw
      · exact hs
  rw [if_neg k1] at ok ⊢
  by_cases k2 : t.k = 2
  · rw [if_pos k2] at ok ⊢
    have hw : t.who ≠ th := fun e => n1 ⟨by omega, e⟩
    refine h.keep ok (fun s hs => ?_) (fun s hs => ?_) (fun v _ => value_vals (let_vals _ _ _).1 v)
    · rw [owner_let]
      by_cases e : letE H t.at_ t.who = 0 ∧ s = t.at_
      · have hz := letE_zeroC e.1
        rw [e.2, ownerV, if_pos ⟨hz.1, hz.2.1⟩] at hs
        omega
      · rw [if_neg e]; exact hs
    · rw [owner_let] at hs
      split at hs
      · omega
      · exact hs
  rw [if_neg k2] at ok ⊢
  by_cases k3 : t.k = 3
  · rw [if_pos k3] at ok ⊢
    have hw : t.who ≠ th := fun e => n1 ⟨by omega, e⟩
    refine h.keep ok (fun s hs => ?_) (fun s hs => ?_) (fun v _ => value_vals (free_vals _ _ _ _).1 v)
    · rw [owner_free]
      by_cases e : freeE H t.at_ t.who H.clock = 0 ∧ s = t.at_
      · have hz := letE_zeroC (freeE_zeroC e.1).1
        rw [e.2, ownerV, if_pos ⟨hz.1, hz.2.1⟩] at hs
        omega
      · rw [if_neg e]; exact hs
    · rw [owner_free] at hs
      split at hs
      · omega
      · exact hs
  rw [if_neg k3] at ok ⊢
  by_cases k4 : t.k = 4
  · rw [if_pos k4] at ok ⊢
    exact h.keep ok (fun s hs => by rw [owner_bump]; exact hs) (fun s hs => by rw [owner_bump] at hs; exact hs) (fun v _ => value_vals (bump_vals _).1 v)
  · rw [if_neg k4] at ok ⊢
    refine h.keep ok (fun s hs => by rw [owner_set]; exact hs) (fun s hs => by rw [owner_set] at hs; exact hs) (fun v hv => ?_)
    rw [owner_set] at hv
    rw [value_setH, if_neg]
    rintro ⟨e1, e2, e3⟩
    rw [h.ok.vals] at e2
    exact n2 ⟨by omega, e1, e2, by rw [← e3]; exact hv⟩
theorem rise_apart : ∀ (l : Int) (ws : List (Int × Int)), riseB l ws = true → ws.Pairwise (fun p q => p.1 < q.1)
  | _, [], _ => .nil
  | l, x :: r, h => by
    have h2 := h
    unfold riseB at h
    rw [Bool.and_eq_true, decide_eq_true_eq] at h
    refine .cons (fun p hp => ?_) (rise_apart x.1 r h.2)
    have : ∀ (l : Int) (ws : List (Int × Int)), riseB l ws = true → ∀ p ∈ ws, l < p.1 := by
      intro l ws
      induction ws generalizing l with
      | nil => intro _ p hp; cases hp
      | cons y r ih =>
        intro h p hp
        unfold riseB at h
        rw [Bool.and_eq_true, decide_eq_true_eq] at h
        rcases List.mem_cons.1 hp with rfl | hp
        · exact h.1.1
        · have := ih y.1 h.2 p hp
          omega
    exact this x.1 r h.2 p hp
theorem stN_go (h : InvC C H) (h8 : C.at_ ≠ 8) : stN (goC C H) = stN C + if (goEv C H).kind = 8 then 1 else 0 := by
  have hnc : C.at_ = 1 ∨ C.at_ = 2 ∨ C.at_ = 3 ∨ C.at_ = 4 ∨ C.at_ = 7 → C.committed = false := fun x => by
    cases hc : C.committed with
    | false => rfl
    | true => have := h.c2 hc; omega
  have z0 : ∀ {D : CmS}, D.at_ ≠ 5 → D.committed = false → stN D = 0 := fun h1 h2 => by unfold stN; rw [if_neg h1, h2]; rfl
  have zc : ∀ {D : CmS}, D.at_ ≠ 5 → D.committed = true → stN D = D.writes.length := fun h1 h2 => by unfold stN; rw [if_neg h1, if_pos h2]
  rcases at_cases h with a | a | a | a | a | a | a | a
  · have hc := hnc (.inl a)
    have hk : (goEv C H).kind ≠ 8 := by rw [kind1 a]; split <;> decide
    rw [if_neg hk, z0 (D := C) (by omega) hc, goC1 a]
    unfold lockC
    split
    · exact z0 (by show (if _ then (2 : Int) else C.at_) ≠ 5; split <;> omega) hc
    · exact z0 (by have := abortC_at C; omega) hc
  · have hc := hnc (.inr (.inl a))
    have hk : (goEv C H).kind ≠ 8 := by rw [kind2 a]; split <;> decide
    rw [if_neg hk, z0 (D := C) (by omega) hc, goC2 a]
    unfold bumpC
    split
    · exact z0 (by have := abortC_at { C with full := true }; omega) hc
    · exact z0 (by show (if _ then (3 : Int) else 4) ≠ 5; split <;> decide) hc
  · have hc := hnc (.inr (.inr (.inl a)))
    have hk : (goEv C H).kind ≠ 8 := by rw [kind3 a]; split <;> decide
    rw [if_neg hk, z0 (D := C) (by omega) hc, goC3 a]
    unfold checkC
    split
    · exact z0 (by have := abortC_at C; omega) hc
    · exact z0 (by show (if _ then (4 : Int) else C.at_) ≠ 5; split <;> omega) hc
  · have hc := hnc (.inr (.inr (.inr (.inl a))))
    have hk : (goEv C H).kind ≠ 8 := by rw [kind4 a]; decide
    rw [if_neg hk, z0 (D := C) (by omega) hc, goC4 a]
    by_cases hw : C.writes.length = 0
    · have e8 : (commitC C).at_ = 8 := by unfold commitC; rw [if_pos hw]
      rw [zc (by omega) rfl]
      show (C.writes.length : Int) = 0 + 0
      omega
    · have e5 : (commitC C).at_ = 5 := by unfold commitC; rw [if_neg hw]
      unfold stN
      rw [if_pos e5]
      rfl
  · have hc := h.c1 (.inl a)
    have hk : (goEv C H).kind = 8 := kind5 a
    have e0 : stN C = C.done := by unfold stN; rw [if_pos a]
    rw [if_pos hk, e0, goC5 a]
    by_cases hw : C.done + 1 = C.writes.length
    · have e6 : (storeC C).at_ = 6 := by unfold storeC; rw [if_pos hw]
      rw [zc (D := storeC C) (by omega) hc]
      exact hw.symm
    · have e5 : (storeC C).at_ = 5 := by unfold storeC; rw [if_neg hw]; exact a
      unfold stN
      rw [if_pos e5]
      rfl
  · have hc := h.c1 (.inr a)
    have hk : (goEv C H).kind ≠ 8 := by rw [kind6 a]; decide
    rw [if_neg hk, zc (D := C) (by omega) hc, goC6 a]
    rw [zc (D := leastC C) (by show (if _ then (8 : Int) else C.at_) ≠ 5; split <;> omega) hc]
    show (C.writes.length : Int) = C.writes.length + 0
    omega
  · have hc := hnc (.inr (.inr (.inr (.inr a))))
    have hk : (goEv C H).kind ≠ 8 := by rw [kind7 a]; decide
    rw [if_neg hk, z0 (D := C) (by omega) hc, goC7 a]
    exact z0 (by show (if _ then (8 : Int) else C.at_) ≠ 5; split <;> omega) hc
  · exact absurd a h8
theorem OJ.go (h : OJ n st limit ws th C H) (h0 : 0 < st) (h8 : C.at_ ≠ 8) (hf : fitsB C H = true) : OJ n st limit ws th (goC C H) (goH C H) := by
  have i' := h.inv.go h.ok h0 h8
  have o' := h.ok.go C
  have sm := goC_same C H
  have w' := sm.2.2.2.2.trans h.hws
  have t' := sm.1.trans h.hth
  have hs := stN_go h.inv h8
  have hl : 0 < H.locks.length := by rw [h.ok.locks]; exact h0
  have hthr := h.inv.thr
  have hth := h.hth
  obtain ⟨fw, _, _⟩ := of_fitsB hf
  -- a step that is no store, and takes no owner on
  have quiet : (goEv C H).kind ≠ 8 → (∀ s ∈ (goC C H).owned, ownerV (goH C H) s = th) → (∀ k : Nat, (k : Int) < stN C → ∀ s, ownerV (goH C H) s = th → ownerV H s = th) → (goH C H).vals = H.vals → OJ n st limit ws th (goC C H) (goH C H) := fun hk ho hb hv => by
    refine ⟨i', o', w', t', ho, fun k hk2 => ?_⟩
    rw [hs, if_neg hk, Int.add_zero] at hk2
    obtain ⟨g1, g2⟩ := h.val k hk2
    exact ⟨g1, fun x => by rw [value_vals hv]; exact g2 (hb k hk2 _ x)⟩
  have hz : C.at_ ≠ 5 → C.committed = false → ∀ k : Nat, ¬ (k : Int) < stN C := fun h1 h2 k x => by
    unfold stN at x
    rw [if_neg h1, h2] at x
    simp at x
    omega
  have hnc : C.at_ = 1 ∨ C.at_ = 2 ∨ C.at_ = 3 ∨ C.at_ = 4 ∨ C.at_ = 7 → C.committed = false := fun x => by
    cases hc : C.committed with
    | false => rfl
    | true => have := h.inv.c2 hc; omega
  rcases at_cases h.inv with a | a | a | a | a | a | a | a
  · have hc := hnc (.inl a)
    refine quiet (by rw [kind1 a]; split <;> decide) ?_ (fun k hk => absurd hk (hz (by omega) hc k)) (by rw [goH1 a]; exact (own_vals _ _ _).1)
    rw [goC1 a, goH1 a]
    intro s hs1
    rw [owner_own]
    by_cases he : ownE H (lockS C H) C.thread = 0
    · have eO : (lockC C H).owned = C.owned ++ [lockS C H] := by unfold lockC; rw [if_pos he]
      rw [eO] at hs1
      by_cases e : s = lockS C H
      · rw [if_pos ⟨he, e⟩]; exact hth
      · rw [if_neg (fun x => e x.2)]
        rcases List.mem_append.1 hs1 with m | m
        · exact h.own s m
        · exact absurd (List.mem_singleton.1 m) e
    · have eO : (lockC C H).owned = C.owned := by unfold lockC; rw [if_neg he]; rfl
      rw [eO] at hs1
      rw [if_neg (fun x => he x.1)]
      exact h.own s hs1
  · have hc := hnc (.inr (.inl a))
    refine quiet (by rw [kind2 a]; split <;> decide) ?_ (fun k hk => absurd hk (hz (by omega) hc k)) (by rw [goH2 a]; exact (bump_vals _).1)
    rw [goC2 a, goH2 a]
    intro s hs1
    rw [owner_bump]
    have eO : (bumpC C H).owned = C.owned := by unfold bumpC; split <;> rfl
    rw [eO] at hs1
    exact h.own s hs1
  · have hc := hnc (.inr (.inr (.inl a)))
    refine quiet (by rw [kind3 a]; split <;> decide) ?_ (fun k hk => absurd hk (hz (by omega) hc k)) (by rw [goH3 a])
    rw [goC3 a, goH3 a]
    intro s hs1
    have eO : (checkC C H).owned = C.owned := by unfold checkC; split <;> rfl
    rw [eO] at hs1
    exact h.own s hs1
  · have hc := hnc (.inr (.inr (.inr (.inl a))))
    refine quiet (by rw [kind4 a]; decide) ?_ (fun k hk => absurd hk (hz (by omega) hc k)) (by rw [goH4 a])
    rw [goC4 a, goH4 a]
    exact fun s hs1 => h.own s hs1
  · obtain ⟨g1, g2⟩ := h.inv.so a
    have hm : C.writes.getD C.done.toNat (0, 0) ∈ C.writes := by
      rw [List.getD_eq_getElem?_getD, List.getElem?_eq_getElem (by omega)]
      exact List.getElem_mem _
    obtain ⟨p1, p2, p3⟩ := fitW_at fw hl hm
    have e0 : stN C = C.done := by unfold stN; rw [if_pos a]
    have hlen := congrArg List.length h.hws
    have hap := rise_apart (-1) ws (by rw [← h.hws]; exact h.inv.ws)
    rw [h.hws] at p1 p2
    refine ⟨i', o', w', t', ?_, fun k hk => ?_⟩
    · rw [goC5 a, goH5 a]
      intro s hs1
      rw [owner_set]
      exact h.own s hs1
    · rw [hs, if_pos (kind5 a), e0] at hk
      rw [goH5 a, h.hws]
      by_cases hkd : k = C.done.toNat
      · subst hkd
        refine ⟨by omega, fun _ => ?_⟩
        rw [value_setH, if_pos ⟨p1, p2, rfl⟩]
      · obtain ⟨q1, q2⟩ := h.val k (by rw [e0]; omega)
        refine ⟨q1, fun x => ?_⟩
        rw [owner_set] at x
        have hne : (ws.getD k (0, 0)).1 ≠ (ws.getD C.done.toNat (0, 0)).1 := by
          have := List.pairwise_iff_getElem.1 hap k C.done.toNat q1 (by omega) (by omega)
          rw [List.getD_eq_getElem?_getD, List.getD_eq_getElem?_getD, List.getElem?_eq_getElem q1, List.getElem?_eq_getElem (by omega)]
          show (ws[k]).1 ≠ (ws[C.done.toNat]).1
          omega
        rw [value_setH, if_neg (fun y => hne y.2.2)]
        exact q2 x
  · refine quiet (by rw [kind6 a]; decide) ?_ ?_ (by rw [goH6 a]; exact (free_vals _ _ _ _).1)
    · rw [goC6 a, goH6 a]
      intro s hs1
      have hmem : s ∈ C.owned := List.mem_of_mem_drop hs1
      rw [owner_free, if_neg]
      · exact h.own s hmem
      · rintro ⟨_, e⟩
        have hnd := own_nodup h.inv
        have hne := h.inv.fr (.inl a)
        cases hx : C.owned with
        | nil => exact hne hx
        | cons y r =>
          rw [hx] at hnd e
          have hs2 : s ∈ r := by
            have : s ∈ C.owned.drop 1 := hs1
            rw [hx] at this
            exact this
          have e2 : s = y := e
          exact (List.nodup_cons.1 hnd).1 (e2 ▸ hs2)
    · intro k hk s hs1
      rw [goH6 a, owner_free] at hs1
      split at hs1
      · omega
      · exact hs1
  · have hc := hnc (.inr (.inr (.inr (.inr a))))
    refine quiet (by rw [kind7 a]; decide) ?_ (fun k hk => absurd hk (hz (by omega) hc k)) (by rw [goH7 a]; exact (let_vals _ _ _).1)
    rw [goC7 a, goH7 a]
    intro s hs1
    have hmem : s ∈ C.owned := List.mem_of_mem_drop hs1
    rw [owner_let, if_neg]
    · exact h.own s hmem
    · rintro ⟨_, e⟩
      have hnd := own_nodup h.inv
      have hne := h.inv.fr (.inr a)
      cases hx : C.owned with
      | nil => exact hne hx
      | cons y r =>
        rw [hx] at hnd e
        have hs2 : s ∈ r := by
          have : s ∈ C.owned.drop 1 := hs1
          rw [hx] at this
          exact this
        have e2 : s = y := e
        exact (List.nodup_cons.1 hnd).1 (e2 ▸ hs2)
  · exact absurd a h8
theorem OJ.step (h : OJ n st limit ws th C H) (h0 : 0 < st) : OJ n st limit ws th (stepC C H) (stepH C H) := by
  unfold stepC stepH
  by_cases e : stepE C H = 0
  · rw [if_pos e, if_pos e]
    unfold stepE at e
    split at e
    · simp at e
    · split at e
      · rename_i h8 hf
        exact h.go h0 h8 hf
      · simp at e
  · rw [if_neg e, if_neg e]; exact h
theorem stN_step (h : InvC C H) : stN (stepC C H) = stN C + if stepE C H = 0 ∧ (stepEv C H).kind = 8 then 1 else 0 := by
  unfold stepC
  by_cases e : stepE C H = 0
  · rw [if_pos e, stN_go h (fun x => by unfold stepE at e; rw [if_pos x] at e; simp at e), show (stepEv C H).kind = (goEv C H).kind from by unfold stepEv; rw [if_pos e]]
    by_cases k : (goEv C H).kind = 8
    · rw [if_pos k, if_pos ⟨e, k⟩]
    · rw [if_neg k, if_neg (fun x => k x.2)]
  · rw [if_neg e, if_neg (fun x => e x.1), Int.add_zero]
theorem OJ.new {rv s2 : Int} {hs : List Bool} (hk : OkC n st limit H) (h0 : 0 < st) (h : okN th ws) : OJ n st limit ws th (newC th rv s2 hs ws) H := by
  refine ⟨InvC.new (by rw [hk.locks]; exact h0) h, hk, rfl, rfl, fun s hs => (by cases hs), fun k hk => ?_⟩
  exfalso
  unfold stN at hk
  have : (newC th rv s2 hs ws).at_ ≠ 5 := by
    show (if ws.length = 0 then (4 : Int) else 1) ≠ 5
    split <;> decide
  rw [if_neg this, if_neg (fun x => by cases x)] at hk
  omega
end
end Go.Proofs.Ytpiodhdbdlfnhaa
