/- Boards, plainly: who is there, and where. -/
import Derived.Test.YtnnkegmiefpgpaaWtK
import Derived.Test.YtnnkegmiefpgpaaWtO
namespace Go.Proofs.Ytnnkegmiefpgpaa
open Go.RowKit Go.Lib
set_option linter.unusedVariables false
section
variable {α : Type}
theorem putM_perm {m : List (Int × α)} {k : Int} {x : α} (h : getM m k = none) : (putM m k x).Perm ((k, x) :: m) := by
  rw [getM_none] at h
  induction m with
  | nil => exact List.Perm.refl _
  | cons q r ih =>
    unfold putM
    split
    · exact List.Perm.refl _
    · rw [if_neg (fun e => h q (by simp) e.symm)]
      exact ((ih fun p hp => h p (by simp [hp])).cons q).trans (List.Perm.swap _ _ _)
theorem delM_self {m : List (Int × α)} {k : Int} (h : getM m k = none) : delM m k = m :=
  List.filter_eq_self.2 fun p hp => by simpa using getM_none.1 h p hp
theorem delM_putM {m : List (Int × α)} {k : Int} {x : α} (h : getM m k = none) : delM (putM m k x) k = m := by
  have h0 := delM_self h
  rw [getM_none] at h
  induction m with
  | nil => simp [putM, delM]
  | cons q r ih =>
    have hr : delM r k = r := delM_self (getM_none.2 fun p hp => h p (by simp [hp]))
    unfold putM
    split
    · unfold delM
      rw [List.filter_cons, if_neg (by simp)]
      exact h0
    · rw [if_neg (fun e => h q (by simp) e.symm)]
      have := ih (fun p hp => h p (by simp [hp])) hr
      unfold delM at this ⊢
      rw [List.filter_cons, if_pos (by simpa using h q (by simp)), this]
end
theorem lt_len : ∀ (l : List Int) (a b : Int), a ≤ b → l.Pairwise (· < ·) → (∀ x ∈ l, a ≤ x ∧ x < b) → (l.length : Int) ≤ b - a
  | [], a, b, h, _, _ => by simp; omega
  | x :: l, a, b, h, hp, hb => by
    obtain ⟨h1, h2⟩ := List.pairwise_cons.1 hp
    have hx := hb x (by simp)
    have := lt_len l (x + 1) b (by omega) h2 (fun y hy => by have := h1 y hy; have := hb y (by simp [hy]); omega)
    simp only [List.length_cons]
    omega
structure BrdOk (B : Brd) : Prop where
  sorted : B.Pairwise fun p q => p.1 < q.1
  within : ∀ p ∈ B, 0 ≤ p.1 ∧ p.1 < 6
theorem BrdOk.thr {B : Brd} (h : BrdOk B) : (threadsB B).Pairwise (· < ·) := by unfold threadsB; rw [List.pairwise_map]; exact h.sorted
theorem BrdOk.len {B : Brd} (h : BrdOk B) : B.length ≤ 6 := by
  have := lt_len (threadsB B) 0 6 (by omega) h.thr (fun x hx => by
    obtain ⟨p, hp, rfl⟩ := List.mem_map.1 hx
    exact h.within p hp)
  unfold threadsB at this
  rw [List.length_map] at this
  omega
theorem BrdOk.nil : BrdOk [] := ⟨.nil, fun p hp => by cases hp⟩
theorem BrdOk.put {B : Brd} (h : BrdOk B) (t : Int) (zs : List Int) : BrdOk (putB B t zs) := by
  unfold putB
  split
  · rename_i he
    have ht : ¬ (t < 0 ∨ t ≥ 6) := fun hc => by unfold putE at he; rw [if_pos (.inl hc)] at he; cases he
    refine ⟨putM_sorted h.sorted _ _, fun p hp => ?_⟩
    rcases (mem_putM h.sorted).1 hp with rfl | ⟨hp, _⟩
    · show 0 ≤ t ∧ t < 6; omega
    · exact h.within p hp
  · exact h
theorem BrdOk.off {B : Brd} (h : BrdOk B) (t : Int) : BrdOk (offB B t) := ⟨delM_sorted h.sorted t, fun p hp => h.within p (List.mem_filter.1 hp).1⟩
theorem putM_get {m : StrM} (hs : m.Pairwise fun p q => p.1 < q.1) : ∀ (zs : List Int) (m : StrM), m.Pairwise (fun p q => p.1 < q.1) → ∀ n, (getM (zs.foldl (fun m z => putM m z ()) m) n).isSome = ((getM m n).isSome || decide (n ∈ zs))
  | [], m, _, n => by simp
  | z :: zs, m, hm, n => by
    rw [List.foldl_cons, putM_get hs zs _ (putM_sorted hm z ()) n, getM_put hm]
    by_cases e : n = z
    · subst e; simp
    · simp [e]
theorem insL_get (zs : List Int) (n : Int) : (getM (insL zs) n).isSome = decide (n ∈ zs) := by
  have := putM_get (m := []) .nil zs [] .nil n
  unfold insL
  rw [this]
  simp [getM]
theorem hasSt_put {B : Brd} (h : BrdOk B) (t : Int) (s : StrM) (t' n : Int) : hasSt (putM B t s) t' n = if t' = t then (getM s n).isSome else hasSt B t' n := by
  unfold hasSt
  rw [getM_put h.sorted]
  by_cases e : t' = t
  · rw [if_pos e, if_pos e]
  · rw [if_neg e, if_neg e]
theorem thr_put {B : Brd} {t : Int} {s : StrM} (hn : getM B t = none) : (threadsB (putM B t s)).Perm (t :: threadsB B) := (putM_perm hn).map _
theorem not_thr {B : Brd} {t : Int} (hn : getM B t = none) : t ∉ threadsB B := fun hm => by
  obtain ⟨p, hp, e⟩ := List.mem_map.1 hm
  exact getM_none.1 hn p hp e
theorem at_put {B : Brd} (h : BrdOk B) {t : Int} {zs : List Int} (hn : getM B t = none) (n : Int) : (atB (putM B t (insL zs)) n).Perm (if n ∈ zs then t :: atB B n else atB B n) := by
  unfold atB
  refine ((thr_put hn).filter _).trans ?_
  have hr : ((threadsB B).filter fun t' => hasSt (putM B t (insL zs)) t' n) = (threadsB B).filter fun t' => hasSt B t' n :=
    List.filter_congr fun x hx => by
      rw [hasSt_put h, if_neg (fun e => by subst e; exact not_thr hn hx)]
  rw [List.filter_cons, hasSt_put h, if_pos rfl, insL_get, hr]
  by_cases e : n ∈ zs
  · rw [if_pos (by simpa using e), if_pos e]
  · rw [if_neg (by simpa using e), if_neg e]
/-- The calls of a row. -/
def stepC (B : Brd) (c : CallS) : Brd := if c.kind = 0 then putB B c.thread c.s.zs else offB B c.thread
def runC (l : List CallS) : Brd := l.foldl stepC []
theorem runC_succ {l : List CallS} {q : Nat} (h : q < l.length) : runC (l.take (q + 1)) = stepC (runC (l.take q)) (l.getD q callD) := by
  unfold runC
  rw [List.take_succ_eq_append_getElem h, List.foldl_append, List.getD_eq_getElem?_getD, List.getElem?_eq_getElem h]
  rfl
theorem stepC_ok {B : Brd} (h : BrdOk B) (c : CallS) : BrdOk (stepC B c) := by
  unfold stepC
  split
  · exact h.put _ _
  · exact h.off _
theorem runC_ok (l : List CallS) : BrdOk (runC l) := by
  have : ∀ (l : List CallS) (B : Brd), BrdOk B → BrdOk (l.foldl stepC B) := by
    intro l
    induction l with
    | nil => exact fun B h => h
    | cons c l ih => exact fun B h => ih _ (stepC_ok h c)
  exact this l [] BrdOk.nil
theorem offB_none (B : Brd) (t : Int) : getM (offB B t) t = none := getM_none.2 fun p hp => by
  have := (List.mem_filter.1 hp).2
  simpa using this
end Go.Proofs.Ytnnkegmiefpgpaa
