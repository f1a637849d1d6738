/- buffer: the plain law: levels as sorted rows of pairs. -/
import Derived.Test.YtaapgdanodkhjaaBfH
namespace Go.Proofs.Ytaapgdanodkhjaa
open Go.RowKit Go.Lib
set_option linter.unusedVariables false
abbrev SrtM (m : LvM) : Prop := m.Pairwise fun p q => p.1 < q.1
theorem ext_sorted {α : Type} {r : α → α → Prop} (irr : ∀ a, ¬ r a a) (asy : ∀ a b, r a b → ¬ r b a) : ∀ l m : List α, l.Pairwise r → m.Pairwise r → (∀ x, x ∈ l ↔ x ∈ m) → l = m
  | [], [], _, _, _ => rfl
  | [], b :: m, _, _, h => absurd ((h b).2 (by simp)) (by simp)
  | a :: l, [], _, _, h => absurd ((h a).1 (by simp)) (by simp)
  | a :: l, b :: m, hl, hm, h => by
    obtain ⟨l1, l2⟩ := List.pairwise_cons.1 hl
    obtain ⟨m1, m2⟩ := List.pairwise_cons.1 hm
    have e : a = b := by
      rcases List.mem_cons.1 ((h a).1 (by simp)) with e | e
      · exact e
      · rcases List.mem_cons.1 ((h b).2 (by simp)) with e' | e'
        · exact e'.symm
        · exact absurd (m1 a e) (asy _ _ (l1 b e'))
    subst e
    rw [ext_sorted irr asy l m l2 m2 fun x => ?_]
    constructor
    · intro hx
      rcases List.mem_cons.1 ((h x).1 (by simp [hx])) with e | e
      · subst e; exact absurd (l1 _ hx) (irr _)
      · exact e
    · intro hx
      rcases List.mem_cons.1 ((h x).2 (by simp [hx])) with e | e
      · subst e; exact absurd (m1 _ hx) (irr _)
      · exact e
theorem getM_ext {l m : LvM} (hl : SrtM l) (hm : SrtM m) (h : ∀ k, getM l k = getM m k) : l = m := by
  refine ext_sorted (r := fun p q : Int × Int => p.1 < q.1) (fun a => Int.lt_irrefl _) (fun a b h1 h2 => by omega) l m hl hm ?_
  rintro ⟨k, x⟩
  rw [← getM_some hl, ← getM_some hm, h]
theorem getM_cons (p : Int × Int) (l : LvM) (k : Int) : getM (p :: l) k = if p.1 = k then some p.2 else getM l k := by
  unfold getM
  rw [List.find?_cons]
  by_cases h : p.1 = k
  · simp [h]
  · rw [if_neg h, show (p.1 == k) = false from by simpa using h]
theorem getM_nodup {k x : Int} : ∀ {l : LvM}, (l.map (·.1)).Nodup → (getM l k = some x ↔ (k, x) ∈ l)
  | [], _ => by simp [getM]
  | p :: l, hn => by
    obtain ⟨h1, h2⟩ := List.nodup_cons.1 hn
    rw [getM_cons]
    by_cases h : p.1 = k
    · rw [if_pos h]
      constructor
      · intro e
        obtain rfl : p.2 = x := Option.some.inj e
        subst h
        simp
      · intro e
        rcases List.mem_cons.1 e with e | e
        · rw [← e]
        · exact absurd (List.mem_map.2 ⟨_, e, h.symm⟩) h1
    · rw [if_neg h, getM_nodup h2]
      constructor
      · intro e; exact List.mem_cons_of_mem _ e
      · intro e
        rcases List.mem_cons.1 e with e | e
        · rw [← e] at h; exact absurd rfl h
        · exact e
theorem srt_nodup {m : LvM} (h : SrtM m) : (m.map (·.1)).Nodup := by
  rw [List.nodup_iff_pairwise_ne, List.pairwise_map]
  exact h.imp (fun h e => by omega)
theorem getM_perm {l m : LvM} (hl : (l.map (·.1)).Nodup) (hp : l.Perm m) (k : Int) : getM l k = getM m k := by
  have hm : (m.map (·.1)).Nodup := (hp.map _).nodup_iff.1 hl
  cases h : getM m k with
  | some x => rw [getM_nodup hl, hp.mem_iff, ← getM_nodup hm, h]
  | none =>
    cases h' : getM l k with
    | none => rfl
    | some x => rw [getM_nodup hl, hp.mem_iff, ← getM_nodup hm, h] at h'; cases h'
theorem putAll_sorted {M : LvM} (h : SrtM M) (l : LvM) : SrtM (putAll M l) := by
  induction l generalizing M with
  | nil => exact h
  | cons p l ih => exact ih (putM_sorted h _ _)
theorem getM_putAll {M : LvM} (h : SrtM M) (l : LvM) (k : Int) : getM (putAll M l) k = (getM l.reverse k).or (getM M k) := by
  induction l generalizing M with
  | nil => simp [putAll, getM]
  | cons p l ih =>
    show getM (putAll (putM M p.1 p.2) l) k = _
    rw [ih (putM_sorted h _ _), getM_put h, List.reverse_cons]
    have : getM (l.reverse ++ [p]) k = (getM l.reverse k).or (getM [p] k) := by
      unfold getM
      rw [List.find?_append]
      cases l.reverse.find? (fun p => p.1 == k) <;> simp
    rw [this, getM_cons]
    by_cases hk : k = p.1
    · subst hk; simp
    · rw [if_neg hk, if_neg (fun e => hk e.symm)]
      simp [getM]
theorem getM_rev {M : LvM} (h : SrtM M) (k : Int) : getM M.reverse k = getM M k := getM_perm (by rw [List.map_reverse]; exact (List.reverse_perm _).nodup_iff.2 (srt_nodup h)) (List.reverse_perm M) k
theorem putAll_perm {M N l : LvM} (h : SrtM M) (hN : SrtM N) (hp : l.Perm N) : putAll M l = putAll M N := by
  refine getM_ext (putAll_sorted h _) (putAll_sorted h _) fun k => ?_
  rw [getM_putAll h, getM_putAll h, getM_rev hN]
  have hl : (l.map (·.1)).Nodup := (hp.map _).nodup_iff.2 (srt_nodup hN)
  rw [getM_perm (m := N) (by rw [List.map_reverse]; exact (List.reverse_perm _).nodup_iff.2 hl) ((List.reverse_perm l).trans hp)]
theorem getM_ovl {M N : LvM} (h : SrtM M) (hN : SrtM N) (k : Int) : getM (putAll M N) k = (getM N k).or (getM M k) := by rw [getM_putAll h, getM_rev hN]
/-- What is written, of all levels. -/
def allB (B : List LvM) : LvM := B.foldl putAll []
def getB (B : List LvM) (v : Int) : Option Int := B.reverse.findSome? fun M => getM M v
theorem allB_add (B : List LvM) (M : LvM) : allB (B ++ [M]) = putAll (allB B) M := by unfold allB; rw [List.foldl_append]; rfl
theorem foldl_sorted (B : List LvM) : ∀ M, SrtM M → SrtM (B.foldl putAll M) := by
  induction B with
  | nil => intro M h; exact h
  | cons N B ih => intro M h; exact ih _ (putAll_sorted h _)
theorem allB_sorted (B : List LvM) : SrtM (allB B) := foldl_sorted B [] .nil
theorem getB_add (B : List LvM) (M : LvM) (v : Int) : getB (B ++ [M]) v = (getM M v).or (getB B v) := by
  unfold getB
  rw [List.reverse_append]
  show List.findSome? _ (M :: B.reverse) = _
  rw [List.findSome?_cons]
  cases getM M v <;> rfl
theorem snoc_ind {α : Type} {p : List α → Prop} (h0 : p []) (h1 : ∀ l x, p l → p (l ++ [x])) (l : List α) : p l := by
  have : ∀ l : List α, p l.reverse := fun l => by
    induction l with
    | nil => exact h0
    | cons x l ih => rw [List.reverse_cons]; exact h1 _ _ ih
  have h := this l.reverse
  rwa [List.reverse_reverse] at h
theorem getM_allB (B : List LvM) (hB : ∀ M ∈ B, SrtM M) (v : Int) : getM (allB B) v = getB B v := by
  induction B using snoc_ind with
  | h0 => rfl
  | h1 B M ih =>
    rw [allB_add, getM_ovl (allB_sorted _) (hB M (by simp)), getB_add, ih fun N hN => hB N (by simp [hN])]
/-- A row of pairs put, the last one last. -/
def norm (d : LvM) : LvM := putAll [] d
theorem norm_sorted (d : LvM) : SrtM (norm d) := putAll_sorted .nil d
theorem getM_norm (d : LvM) (k : Int) : getM (norm d) k = getM d.reverse k := by
  unfold norm
  rw [getM_putAll .nil]
  simp [getM]
theorem norm_add (d : LvM) (p : Int × Int) : norm (d ++ [p]) = putM (norm d) p.1 p.2 := putAll_add _ _ _
theorem norm_norm {M : LvM} (h : SrtM M) : norm M = M := getM_ext (norm_sorted _) h fun k => by rw [getM_norm, getM_rev h]
theorem putAll_norm {M : LvM} (h : SrtM M) (d : LvM) : putAll M (norm d) = putAll M d := by
  refine getM_ext (putAll_sorted h _) (putAll_sorted h _) fun k => ?_
  rw [getM_ovl h (norm_sorted d), getM_putAll h, getM_norm]
theorem norm_append (d e : LvM) : norm (d ++ e) = putAll (norm d) (norm e) := by
  rw [putAll_norm (norm_sorted d)]
  unfold norm putAll
  rw [List.foldl_append]
theorem allB_norm (D : List LvM) : allB (D.map norm) = norm D.flatten := by
  induction D using snoc_ind with
  | h0 => rfl
  | h1 D d ih =>
    rw [List.map_append, List.flatten_append]
    show allB (D.map norm ++ [norm d]) = norm (D.flatten ++ [d].flatten)
    rw [allB_add, ih, norm_append]
    simp
end Go.Proofs.Ytaapgdanodkhjaa
