/- commit: if nobody owns its stripes and the clock is RV (plain); count. -/
import Derived.Test.YtpiodhdbdlfnhaaCmWP
namespace Go.Proofs.Ytpiodhdbdlfnhaa
open Go.RowKit Go.Lib
set_option linter.unusedVariables false
set_option maxHeartbeats 4000000
/-- What is true of each event, by its place. -/
theorem run_each {J : Nat → CmS → HeapS → Prop} {p : Nat → EvS → Prop} (hj : ∀ i C H, J i C H → C.at_ ≠ 8 → stepE C H = 0 → J (i + 1) (goC C H) (goH C H) ∧ p i (stepEv C H)) :
    ∀ (m i : Nat) (C : CmS) (H : HeapS), J i C H → (∀ k, k < (runF m C H).1.length → p (i + k) ((runF m C H).1.getD k evD)) ∧ J (i + (runF m C H).1.length) (runF m C H).2.2.1 (runF m C H).2.2.2
  | 0, i, C, H, h => ⟨fun k hk => absurd hk (Nat.not_lt_zero _), h⟩
  | m + 1, i, C, H, h => by
    unfold runF
    by_cases h8 : C.at_ = 8
    · rw [if_pos h8]; exact ⟨fun k hk => absurd hk (Nat.not_lt_zero _), h⟩
    · rw [if_neg h8]
      by_cases he : stepE C H = 0
      · rw [if_pos he]
        obtain ⟨g1, g2⟩ := hj i C H h h8 he
        have e1 : stepC C H = goC C H := by unfold stepC; rw [if_pos he]
        have e2 : stepH C H = goH C H := by unfold stepH; rw [if_pos he]
        rw [e1, e2]
        obtain ⟨r1, r2⟩ := run_each hj m (i + 1) _ _ g1
        refine ⟨fun k hk => ?_, ?_⟩
        · cases k with
          | zero => exact g2
          | succ k =>
            have hk2 : k < (runF m (goC C H) (goH C H)).1.length := by
              have : k + 1 < (runF m (goC C H) (goH C H)).1.length + 1 := hk
              omega
            have := r1 k hk2
            rw [show i + 1 + k = i + (k + 1) by omega] at this
            exact this
        · rw [show i + 1 + (runF m (goC C H) (goH C H)).1.length = i + ((runF m (goC C H) (goH C H)).1.length + 1) by omega] at r2
          exact r2
      · rw [if_neg he]; exact ⟨fun k hk => absurd hk (Nat.not_lt_zero _), h⟩
structure AJ (n st : Nat) (limit : Int) (H0 : HeapS) (L : List Int) (ws : List (Int × Int)) (th : Int) (i : Nat) (C : CmS) (H : HeapS) : Prop where
  w : WJ n st limit H0 L C H
  hws : C.writes = ws
  hth : C.thread = th
  hrv : C.rv = H0.clock
  i1 : C.at_ = 1 → i = C.owned.length
  i2 : C.at_ = 2 → i = L.length
  n3 : C.at_ ≠ 3 ∧ C.at_ ≠ 7
  i4 : C.at_ = 4 → i = L.length + 1
  i5 : C.at_ = 5 → (i : Int) = L.length + 2 + C.done
  i6 : C.at_ = 6 → i + C.owned.length = 2 * L.length + 2 + ws.length
  i8 : C.at_ = 8 → i = 2 * L.length + 2 + ws.length ∧ C.committed = true ∧ C.wv = H0.clock + 1
def kindAt (n m : Nat) (i : Nat) : Int := if i < n then 4 else if i = n then 5 else if i = n + 1 then 7 else if i < n + 2 + m then 8 else 9
def AP (H0 : HeapS) (n m : Nat) (th : Int) (i : Nat) (e : EvS) : Prop := e.kind = kindAt n m i ∧ e.thread = th ∧ (i = n ∨ i = n + 1 → e.v = H0.clock + 1)
theorem AJ.go {n st : Nat} {limit : Int} {H0 : HeapS} {L : List Int} {ws : List (Int × Int)} {th : Int} {i : Nat} {C : CmS} {H : HeapS} (h : AJ n st limit H0 L ws th i C H) (h0 : 0 < st) (o0 : OkC n st limit H0) (hn : ∀ s, ownerV H0 s = -1) (hc : H0.clock < limit) (hw : ws ≠ []) (h8 : C.at_ ≠ 8) (he : stepE C H = 0) :
    AJ n st limit H0 L ws th (i + 1) (goC C H) (goH C H) ∧ AP H0 L.length ws.length th i (stepEv C H) := by
  have w' := h.w.go h0 o0 h8
  have sm := goC_same C H
  have i' := h.w.inv
  have hl : 0 < H.locks.length := by rw [h.w.ok.locks]; exact h0
  have eK : (stepEv C H).kind = (goEv C H).kind := by unfold stepEv; rw [if_pos he]
  have eT : (stepEv C H).thread = th := by unfold stepEv; rw [if_pos he]; exact h.hth
  have eV : (stepEv C H).v = (goEv C H).v := by unfold stepEv; rw [if_pos he]
  have t1 := sm.2.2.2.2.trans h.hws
  have t2 := sm.1.trans h.hth
  have t3 := sm.2.1.trans h.hrv
  have hthr := i'.thr
  have hsl := h.w.sl
  rcases at_cases i' with a | a | a | a | a | a | a | a
  · obtain ⟨g1, g2, g3⟩ := i'.lk a
    rw [hsl] at g1 g2
    have hi := h.i1 a
    have hS : lockS C H = L.getD C.owned.length 0 := by unfold lockS; rw [hsl]
    have hmem : lockS C H ∈ strL C H := by
      rw [hsl, hS, List.getD_eq_getElem?_getD, List.getElem?_eq_getElem g2]
      exact List.getElem_mem _
    have hnin : lockS C H ∉ C.owned := fun x => by
      have hp : L.Pairwise (· < ·) := by rw [← hsl]; exact strL_lt C H
      rw [g1] at x
      obtain ⟨k, hk, e⟩ := List.getElem_of_mem x
      rw [List.getElem_take] at e
      rw [hS, List.getD_eq_getElem?_getD, List.getElem?_eq_getElem g2] at e
      have hk2 : k < C.owned.length := by simp at hk; omega
      have := List.pairwise_iff_getElem.1 hp k C.owned.length (by omega) g2 hk2
      have e2 : L[k] = L[C.owned.length] := e
      omega
    have hcm : C.committed = false := by
      cases hcm : C.committed with
      | false => rfl
      | true => have := i'.c2 hcm; omega
    have ho : ownerV H (lockS C H) = -1 := by
      rw [h.w.own, if_neg hnin, hcm, if_neg (fun x => by cases x.1), hn]
    have hr : 0 ≤ lockS C H ∧ lockS C H < H.locks.length := by
      obtain ⟨p, hp, e⟩ := List.mem_map.1 ((mem_strL hl _).1 hmem)
      obtain ⟨p1, p2, p3⟩ := fitW_at h.w.fw hl hp
      rw [← e, p3]
      exact ⟨Int.emod_nonneg _ (by omega), Int.emod_lt_of_pos _ (by omega)⟩
    have hE : ownE H (lockS C H) C.thread = 0 := by
      unfold ownE
      rw [ownerV, if_pos hr] at ho
      rw [if_neg (fun x => x hr), if_neg (by omega), if_neg (fun x => x ho)]
    have eC : goC C H = { C with owned := C.owned ++ [lockS C H], at_ := if C.owned.length + 1 = L.length then 2 else C.at_ } := by rw [goC1 a]; unfold lockC; rw [if_pos hE, hsl]
    have eO : (goC C H).owned.length = C.owned.length + 1 := by rw [eC]; simp
    have eA : (goC C H).at_ = if C.owned.length + 1 = L.length then 2 else 1 := by rw [eC, ← a]
    refine ⟨⟨w', t1, t2, t3, ?_, ?_, ?_, ?_, ?_, ?_, ?_⟩, ?_, eT, ?_⟩
    · intro _; omega
    · intro x; rw [eA] at x; split at x <;> omega
    · rw [eA]; split <;> decide
    · intro x; rw [eA] at x; split at x <;> omega
    · intro x; rw [eA] at x; split at x <;> omega
    · intro x; rw [eA] at x; split at x <;> omega
    · intro x; rw [eA] at x; split at x <;> omega
    · rw [eK, kind1 a, if_pos hE, kindAt, if_pos (by omega)]
    · intro x; omega
  · have hwv : C.wv = 0 ∧ H.clock = H0.clock := by
      rcases h.w.wv with g | g
      · exact ⟨g.1, g.2.1⟩
      · exact absurd a g.2.2.2
    have hi := h.i2 a
    have hlim := h.w.ok.lim
    have hno : ¬ H.limit ≤ H.clock := by omega
    have hrv := h.hrv
    have eC : goC C H = { C with wv := H.clock + 1, at_ := 4 } := by
      rw [goC2 a]; unfold bumpC; rw [if_neg hno, if_neg (fun x => x.1 (by omega))]
    have eA : (goC C H).at_ = 4 := by rw [eC]
    refine ⟨⟨w', t1, t2, t3, ?_, ?_, ?_, ?_, ?_, ?_, ?_⟩, ?_, eT, ?_⟩
    · intro x; omega
    · intro x; omega
    · omega
    · intro x; omega
    · intro x; omega
    · intro x; omega
    · intro x; omega
    · rw [eK, kind2 a, if_neg hno, kindAt, if_neg (by omega), if_pos hi]
    · intro x
      rw [eV, goEv2 a]
      unfold bumpEv
      rw [if_neg hno]
      show H.clock + 1 = _
      omega
  · exact absurd a h.n3.1
  · have hi := h.i4 a
    have hwv : C.wv = H0.clock + 1 := by
      rcases h.w.wv with g | g
      · rcases g.2.2 with x | x | x | x
        · exact absurd (h.hws ▸ x) hw
        · omega
        · omega
        · omega
      · exact g.1
    have hlen : C.writes.length ≠ 0 := by
      rw [h.hws]; exact fun e => hw (List.eq_nil_of_length_eq_zero e)
    have eC : goC C H = { C with committed := true, done := 0, at_ := 5 } := by
      rw [goC4 a]; unfold commitC; rw [if_neg hlen]
    have eA : (goC C H).at_ = 5 := by rw [eC]
    have eD : (goC C H).done = 0 := by rw [eC]
    refine ⟨⟨w', t1, t2, t3, ?_, ?_, ?_, ?_, ?_, ?_, ?_⟩, ?_, eT, ?_⟩
    · intro x; omega
    · intro x; omega
    · omega
    · intro x; omega
    · intro x; omega
    · intro x; omega
    · intro x; omega
    · rw [eK, kind4 a, kindAt, if_neg (by omega), if_neg (by omega), if_pos hi]
    · intro x
      rw [eV, goEv4 a]
      exact hwv
  · have hi := h.i5 a
    obtain ⟨g1, g2⟩ := i'.so a
    have ho : C.owned = L := g2.trans hsl
    have eC : goC C H = { C with done := C.done + 1, at_ := if C.done + 1 = ws.length then 6 else C.at_ } := by
      rw [goC5 a]; unfold storeC; rw [h.hws]
    have eA : (goC C H).at_ = if C.done + 1 = ws.length then 6 else 5 := by rw [eC, ← a]
    have eD : (goC C H).done = C.done + 1 := by rw [eC]
    have eO : (goC C H).owned.length = L.length := by rw [eC, ← ho]
    have hlen := congrArg List.length h.hws
    refine ⟨⟨w', t1, t2, t3, ?_, ?_, ?_, ?_, ?_, ?_, ?_⟩, ?_, eT, ?_⟩
    · intro x; rw [eA] at x; split at x <;> omega
    · intro x; rw [eA] at x; split at x <;> omega
    · rw [eA]; split <;> decide
    · intro x; rw [eA] at x; split at x <;> omega
    · intro x; rw [eD]; omega
    · intro x; rw [eA] at x; split at x <;> omega
    · intro x; rw [eA] at x; split at x <;> omega
    · rw [eK, kind5 a, kindAt, if_neg (by omega), if_neg (by omega), if_neg (by omega), if_pos (by omega)]
    · intro x; omega
  · have hi := h.i6 a
    have hne := i'.fr (.inl a)
    have hpos := List.length_pos_iff.2 hne
    have hle := i'.sub.length_le
    rw [hsl] at hle
    have hwv : C.wv = H0.clock + 1 := by
      rcases h.w.wv with g | g
      · rcases g.2.2 with x | x | x | x
        · exact absurd (h.hws ▸ x) hw
        · omega
        · omega
        · omega
      · exact g.1
    have hcm := i'.c1 (.inr a)
    have eC : goC C H = { C with owned := C.owned.drop 1, at_ := if (C.owned.drop 1).length = 0 then 8 else C.at_ } := by
      rw [goC6 a]; rfl
    have hd : (C.owned.drop 1).length = C.owned.length - 1 := by simp
    have eA : (goC C H).at_ = if C.owned.length - 1 = 0 then 8 else 6 := by rw [eC, ← a, ← hd]
    have eO : (goC C H).owned.length = C.owned.length - 1 := by rw [eC, ← hd]
    have eW : (goC C H).wv = C.wv := by rw [eC]
    have eM : (goC C H).committed = C.committed := by rw [eC]
    refine ⟨⟨w', t1, t2, t3, ?_, ?_, ?_, ?_, ?_, ?_, ?_⟩, ?_, eT, ?_⟩
    · intro x; rw [eA] at x; split at x <;> omega
    · intro x; rw [eA] at x; split at x <;> omega
    · rw [eA]; split <;> decide
    · intro x; rw [eA] at x; split at x <;> omega
    · intro x; rw [eA] at x; split at x <;> omega
    · intro x; omega
    · intro x
      rw [eA] at x
      split at x
      · exact ⟨by omega, eM.trans hcm, eW.trans hwv⟩
      · omega
    · rw [eK, kind6 a, kindAt, if_neg (by omega), if_neg (by omega), if_neg (by omega), if_neg (by omega)]
    · intro x; omega
  · exact absurd a h.n3.2
  · exact absurd a h8
def countL (st : Nat) (l : List (Int × Int)) : Nat := ((List.range st).filter fun (s : Nat) => decide ((s : Int) ∈ l.map (fun p => p.1 % (st : Int)))).length
theorem countL_eq {n st : Nat} {limit : Int} {C : CmS} {H : HeapS} (ok : OkC n st limit H) (h0 : 0 < st) (hf : fitW C H = true) : (strL C H).length = countL st C.writes := by
  have hl := ok.locks
  have e : strL C H = ((List.range st).filter fun (s : Nat) => decide ((s : Int) ∈ C.writes.map (fun p => p.1 % (st : Int)))).map (fun (s : Nat) => (s : Int)) := by
    refine sorted_ext _ _ (strL_lt C H) ?_ (fun x => ?_)
    · rw [List.pairwise_map]
      exact (List.Pairwise.filter _ List.pairwise_lt_range).imp (fun h => by omega)
    · rw [mem_strL (by omega)]
      have em : C.writes.map (fun p => stripeV H p.1) = C.writes.map (fun p => p.1 % (st : Int)) := List.map_congr_left fun p hp => by rw [(fitW_at hf (by omega) hp).2.2, hl]
      rw [em, List.mem_map (f := fun (s : Nat) => (s : Int))]
      constructor
      · intro hx
        obtain ⟨p, hp, rfl⟩ := List.mem_map.1 hx
        have h1 := Int.emod_nonneg p.1 (b := (st : Int)) (by omega)
        have h2 := Int.emod_lt_of_pos p.1 (b := (st : Int)) (by omega)
        refine ⟨(p.1 % (st : Int)).toNat, List.mem_filter.2 ⟨List.mem_range.2 (by omega), decide_eq_true ?_⟩, by omega⟩
        rw [Int.toNat_of_nonneg h1]
        exact hx
      · rintro ⟨s, hs, rfl⟩
        exact of_decide_eq_true (List.mem_filter.1 hs).2
  rw [e, List.length_map]
  rfl
/-- The whole of a run, alone. -/
theorem alone_law {n st : Nat} {limit : Int} {H0 : HeapS} {thread s2 : Int} {hs : List Bool} {ws : List (Int × Int)} (hk : OkC n st limit H0) (h0 : 0 < st) (h : okN thread ws) (hn : ∀ s, ownerV H0 s = -1) (hc : H0.clock < limit) (hw : ws ≠ []) :
    ((runF 200 (newC thread H0.clock s2 hs ws) H0).2.1 = false ∧ (runF 200 (newC thread H0.clock s2 hs ws) H0).1 = []) ∨
    ((runF 200 (newC thread H0.clock s2 hs ws) H0).2.1 = true ∧ (runF 200 (newC thread H0.clock s2 hs ws) H0).1.length = 2 * countL st ws + 2 + ws.length ∧ (runF 200 (newC thread H0.clock s2 hs ws) H0).2.2.1.committed = true ∧ (runF 200 (newC thread H0.clock s2 hs ws) H0).2.2.1.wv = H0.clock + 1 ∧
      ∀ k, k < (runF 200 (newC thread H0.clock s2 hs ws) H0).1.length → AP H0 (countL st ws) ws.length thread k ((runF 200 (newC thread H0.clock s2 hs ws) H0).1.getD k evD)) := by
  rcases whole_law (rv := H0.clock) (s2 := s2) (hs := hs) hk h0 h with ⟨k1, k2, _⟩ | ⟨k1, kf, kJ, k8, kw, kc⟩
  · exact .inl ⟨k1, k2⟩
  · have hlen : ws.length ≠ 0 := fun e => hw (List.eq_nil_of_length_eq_zero e)
    have e1 : (newC thread H0.clock s2 hs ws).at_ = 1 := by unfold newC; rw [if_neg hlen]
    have j : AJ n st limit H0 (strL (newC thread H0.clock s2 hs ws) H0) ws thread 0 (newC thread H0.clock s2 hs ws) H0 :=
      ⟨WJ.new hk h0 h kf, rfl, rfl, rfl, fun _ => rfl, fun x => by omega, by omega, fun x => by omega, fun x => by omega, fun x => by omega, fun x => by omega⟩
    obtain ⟨r1, r2⟩ := run_each (J := AJ n st limit H0 (strL (newC thread H0.clock s2 hs ws) H0) ws thread) (p := AP H0 (strL (newC thread H0.clock s2 hs ws) H0).length ws.length thread) (fun i C H hJ h8 he => hJ.go h0 hk hn hc hw h8 he) 200 0 _ _ j
    have e2 : (strL (newC thread H0.clock s2 hs ws) H0).length = countL st ws := countL_eq hk h0 (of_fitsB kf).1
    rw [e2] at r1
    obtain ⟨q1, q2, q3⟩ := r2.i8 k8
    rw [e2, Nat.zero_add] at q1
    exact .inr ⟨k1, q1, q2, q3, fun k hk2 => by have := r1 k hk2; rw [Nat.zero_add] at this; exact this⟩
end Go.Proofs.Ytpiodhdbdlfnhaa
