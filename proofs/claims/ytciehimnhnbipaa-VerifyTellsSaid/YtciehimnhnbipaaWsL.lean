/- witness: the plain law: what Judge tells is an order that may be; where it tells none there is none. witness: the plain law of histories with an attempt less, or that ends later. -/
import Derived.Test.YtciehimnhnbipaaWsK
namespace Go.Proofs.Ytciehimnhnbipaa
open Go.RowKit Go.Lib
set_option linter.unusedVariables false
set_option linter.unusedSimpArgs false
abbrev isW (a : AtS) : Bool := decide (0 < a.wv)
abbrev atI (l : List AtS) (u : Int) : AtS := l.getD u.toNat atD
def memA (init : List Int) (z : List AtS) : List Int := z.foldl (fun m u => wrtM m u.ws) init
/-- An order, as attempts, that may be. -/
def VOrd (init : List Int) (z : List AtS) : Prop :=
  z.Pairwise (fun a b => aheadB b a = false) ∧ (z.filter isW).Pairwise (fun a b => a.wv < b.wv) ∧ ∀ pre u post, z = pre ++ u :: post → fitsB u (memA init pre) = true
def plL (l : List AtS) : List Int := (List.range l.length).map fun i : Nat => (i : Int)
/-- An order, as places, that may be. -/
def ValidO (init : List Int) (l : List AtS) (o : List Int) : Prop := o.Perm (plL l) ∧ VOrd init (o.map (atI l))
theorem plL_at (l : List AtS) : (plL l).map (atI l) = l := by
  unfold plL
  rw [List.map_map]
  refine List.ext_getElem (by simp) fun i h1 h2 => ?_
  simp only [List.getElem_map, List.getElem_range, Function.comp]
  show l.getD (Int.toNat (i : Int)) atD = l[i]
  rw [Int.toNat_natCast, List.getD_eq_getElem?_getD, List.getElem?_eq_getElem h2]
  rfl
theorem ValidO.perm {init : List Int} {l : List AtS} {o : List Int} (h : ValidO init l o) : (o.map (atI l)).Perm l := by
  have := h.1.map (atI l)
  rwa [plL_at] at this
section
variable {n : Nat} {l : List AtS} (hM : MayP n l)
include hM
theorem may_step (i : Nat) (hi : i + 1 < l.length) : (l.getD i atD).frm < (l.getD (i + 1) atD).frm := by
  have := (hM.2 (i + 1) hi).1
  rw [if_neg (by omega), show i + 1 - 1 = i from by omega] at this
  exact this
theorem may_frm : ∀ (j i : Nat), i < j → j < l.length → (l.getD i atD).frm < (l.getD j atD).frm
  | j + 1, i, h, hj => by
    rcases Nat.lt_or_ge i j with e | e
    · exact Int.lt_trans (may_frm j i e (by omega)) (may_step hM j hj)
    · obtain rfl : i = j := by omega
      exact may_step hM i hj
theorem may_to (i : Nat) (hi : i < l.length) : (l.getD i atD).to = -1 ∨ (l.getD i atD).frm ≤ (l.getD i atD).to := (hM.2 i hi).2.1
theorem may_wv {i j : Nat} (hi : i < l.length) (hj : j < l.length) (hij : i ≠ j) (hw : 0 < (l.getD i atD).wv) : (l.getD i atD).wv ≠ (l.getD j atD).wv := by
  rcases Nat.lt_or_gt_of_ne hij with e | e
  · intro he
    exact ((hM.2 j hj).2.2.2.2.1 (he ▸ hw)).2 i e he
  · exact fun he => ((hM.2 i hi).2.2.2.2.1 hw).2 j e he.symm
theorem may_ws {u : AtS} (hu : u ∈ l) (hw : isW u = false) : u.ws = [] := by
  obtain ⟨i, hi, rfl⟩ := List.mem_iff_getElem.1 hu
  have := (hM.2 i hi).2.2.2.2.2.1
  rw [List.getD_eq_getElem?_getD, List.getElem?_eq_getElem hi] at this
  exact List.eq_nil_of_length_eq_zero (this (by simpa using hw))
/-- Who is ahead of another one has a lower place. -/
theorem may_ahead {i j : Nat} (hi : i < l.length) (hj : j < l.length) (h : aheadB (l.getD i atD) (l.getD j atD) = true) : i < j := by
  unfold aheadB at h
  rw [Bool.and_eq_true, decide_eq_true_eq, decide_eq_true_eq] at h
  have h1 := may_to hM i hi
  rcases Nat.lt_trichotomy i j with e | e | e
  · exact e
  · subst e; rcases h1 with h1 | h1
    · exact absurd h1 h.1
    · have := h.2; omega
  · have := may_frm hM i j e hi
    rcases h1 with h1 | h1
    · exact absurd h1 h.1
    · have := h.2; omega
end
theorem memA_filter (init : List Int) (z : List AtS) (h : ∀ u ∈ z, isW u = false → u.ws = []) : memA init z = memA init (z.filter isW) := by
  unfold memA
  induction z generalizing init with
  | nil => rfl
  | cons u z ih =>
    rw [List.foldl_cons, List.filter_cons]
    cases hu : isW u with
    | true => rw [if_pos rfl, List.foldl_cons]; exact ih _ fun v hv => h v (List.mem_cons_of_mem _ hv)
    | false =>
      rw [if_neg (by decide), h u (List.mem_cons_self ..) hu]
      exact ih _ fun v hv => h v (List.mem_cons_of_mem _ hv)
theorem memG_memA (init : List Int) (l : List AtS) (W : List Int) (g : Nat) : memG init l W g = memA init ((W.map (atI l)).take g) := by
  unfold memG memA
  rw [← List.map_take, List.foldl_map]
theorem wrsL_at (l : List AtS) : (wrsL l l.length).map (atI l) = l.filter isW := by
  have h : wrsL l l.length = (plL l).filter fun u => isW (atI l u) := by
    unfold wrsL plL
    rw [List.filter_map]
    rfl
  rw [h]
  have h2 := List.filter_map (f := atI l) (p := isW) (l := plL l)
  rw [plL_at] at h2
  exact h2.symm
theorem wrs_getD {W : List Int} {i : Nat} (hi : i < W.length) : W.getD i 0 = W[i] := by rw [List.getD_eq_getElem?_getD, List.getElem?_eq_getElem hi]; rfl
section
variable {n : Nat} {l : List AtS} (hM : MayP n l) {W : List Int} (hW : IsWrs l W)
include hM hW
omit hM in
theorem wrs_nodup : W.Nodup := by
  refine hW.1.nodup_iff.2 ?_
  unfold wrsL
  refine List.Pairwise.map _ (fun a b h => ?_) (List.Pairwise.filter _ List.nodup_range)
  intro e
  exact h (by exact Int.ofNat.inj e)
omit hM in
theorem wrs_mem {u : Int} (hu : u ∈ W) : 0 ≤ u ∧ u < l.length ∧ 0 < (atI l u).wv := wrsL_mem (hW.1.mem_iff.1 hu)
theorem wrs_lt {i j : Nat} (hij : i < j) (hj : j < W.length) : (atI l (W.getD i 0)).wv < (atI l (W.getD j 0)).wv := by
  have h1 := hW.2 i j (Nat.zero_le _) (Nat.le_of_lt hij) hj
  have hi : i < W.length := by omega
  obtain ⟨a1, a2, a3⟩ := wrs_mem hW (getD_mem (d := (0 : Int)) hi)
  obtain ⟨b1, b2, b3⟩ := wrs_mem hW (getD_mem (d := (0 : Int)) hj)
  have hne : (W.getD i 0).toNat ≠ (W.getD j 0).toNat := by
    intro e
    have e2 : W[i] = W[j] := by rw [← wrs_getD hi, ← wrs_getD hj]; omega
    have := (List.pairwise_iff_getElem.1 (List.nodup_iff_pairwise_ne.1 (wrs_nodup hW))) i j hi hj hij
    exact this e2
  have h2 := may_wv hM (i := (W.getD i 0).toNat) (j := (W.getD j 0).toNat) (by omega) (by omega) hne a3
  have h3 : (atI l (W.getD i 0)).wv ≠ (atI l (W.getD j 0)).wv := h2
  have h4 : (atI l (W.getD i 0)).wv ≤ (atI l (W.getD j 0)).wv := h1
  omega
theorem wrs_sorted : (W.map (atI l)).Pairwise (fun a b => a.wv < b.wv) := by
  rw [List.pairwise_map, List.pairwise_iff_getElem]
  intro i j hi hj hij
  have := wrs_lt hM hW hij hj
  rwa [wrs_getD hi, wrs_getD hj] at this
theorem wrs_eq {z : List AtS} (hz : z.Perm l) (hs : (z.filter isW).Pairwise (fun a b => a.wv < b.wv)) : z.filter isW = W.map (atI l) := by
  refine List.Perm.eq_of_pairwise (le := fun a b => a.wv < b.wv) (fun a b _ _ h1 h2 => by omega) hs (wrs_sorted hM hW) ?_
  refine (hz.filter isW).trans ?_
  rw [← wrsL_at]
  exact (hW.1.map (atI l)).symm
theorem mem_pre {init : List Int} {z pre post : List AtS} {u : AtS} (hz : z.Perm l) (hs : (z.filter isW).Pairwise (fun a b => a.wv < b.wv)) (e : z = pre ++ u :: post) :
    pre.filter isW = (W.map (atI l)).take (pre.filter isW).length ∧ memA init pre = memG init l W (pre.filter isW).length ∧ (pre.filter isW).length ≤ W.length := by
  have h1 := wrs_eq hM hW hz hs
  rw [e, List.filter_append] at h1
  have h2 : pre.filter isW = (W.map (atI l)).take (pre.filter isW).length := by rw [← h1, List.take_left']; rfl
  refine ⟨h2, ?_, ?_⟩
  · rw [memA_filter init pre (fun v hv => may_ws hM (hz.mem_iff.1 (by rw [e]; simp [hv]))), memG_memA, ← h2]
  · have := congrArg List.length h1
    rw [List.length_append, List.length_map] at this
    omega
omit hM in
theorem mem_wrs {k : Nat} (hk : k < W.length) : atI l (W.getD k 0) ∈ l ∧ isW (atI l (W.getD k 0)) = true := by
  obtain ⟨a1, a2, a3⟩ := wrs_mem hW (getD_mem (d := (0 : Int)) hk)
  exact ⟨getD_mem (by omega), decide_eq_true a3⟩
/-- Where an order that may be stands to the writers. -/
theorem vord_wrs {init : List Int} {z pre post : List AtS} {u : AtS} (hz : z.Perm l) (hv : VOrd init z) (e : z = pre ++ u :: post) {k : Nat} (hk : k < W.length) :
    (atI l (W.getD k 0) ∈ pre ↔ k < (pre.filter isW).length) ∧ (u ≠ atI l (W.getD k 0) → (pre.filter isW).length ≤ k → atI l (W.getD k 0) ∈ post) := by
  have h1 := (mem_pre hM hW (init := init) hz hv.2.1 e)
  have hnd : (W.map (atI l)).Pairwise (fun a b => a ≠ b) := (wrs_sorted hM hW).imp fun h e => by subst e; omega
  obtain ⟨hm, hwk⟩ := mem_wrs hW (l := l) hk
  have hkm : k < (W.map (atI l)).length := by rw [List.length_map]; exact hk
  have hge : (W.map (atI l))[k] = atI l (W.getD k 0) := by rw [List.getElem_map, wrs_getD hk]
  have hiff : atI l (W.getD k 0) ∈ pre ↔ k < (pre.filter isW).length := by
    constructor
    · intro hp
      have h2 : atI l (W.getD k 0) ∈ pre.filter isW := List.mem_filter.2 ⟨hp, hwk⟩
      rw [h1.1] at h2
      obtain ⟨j, hj, hj2⟩ := List.mem_take_iff_getElem.1 h2
      by_cases ejk : j = k
      · subst ejk; omega
      · exfalso
        rw [← hge] at hj2
        rcases Nat.lt_or_gt_of_ne ejk with e1 | e1
        · exact List.pairwise_iff_getElem.1 hnd j k (by omega) hkm e1 hj2
        · exact List.pairwise_iff_getElem.1 hnd k j hkm (by omega) e1 hj2.symm
    · intro hlt
      have h2 : atI l (W.getD k 0) ∈ pre.filter isW := by
        rw [h1.1, ← hge]
        exact List.mem_take_iff_getElem.2 ⟨k, by omega, rfl⟩
      exact (List.mem_filter.1 h2).1
  refine ⟨hiff, fun hne hle => ?_⟩
  have h3 : atI l (W.getD k 0) ∈ z := hz.mem_iff.2 hm
  rw [e] at h3
  rcases List.mem_append.1 h3 with h3 | h3
  · have := hiff.1 h3; omega
  · rcases List.mem_cons.1 h3 with h3 | h3
    · exact absurd h3.symm hne
    · exact h3
omit hM hW in
theorem vord_before {init : List Int} {z pre post : List AtS} {u v : AtS} (hv : VOrd init z) (e : z = pre ++ u :: post) : (v ∈ pre → aheadB u v = false) ∧ (v ∈ post → aheadB v u = false) := by
  have h := hv.1
  rw [e] at h
  have h2 := List.pairwise_append.1 h
  exact ⟨fun hp => h2.2.2 v hp u (by simp), fun hp => (List.pairwise_cons.1 h2.2.1).1 v hp⟩
theorem stand_of {init : List Int} {z : List AtS} (hz : z.Perm l) (hv : VOrd init z) {g : Nat} (hg : g < W.length) : standP init l W g := by
  obtain ⟨hm, hwg⟩ := mem_wrs hW (l := l) hg
  obtain ⟨pre, post, e⟩ := List.append_of_mem (hz.mem_iff.2 hm)
  have h1 := mem_pre hM hW (init := init) hz hv.2.1 e
  have hk : (pre.filter isW).length = g := by
    rcases Nat.lt_trichotomy (pre.filter isW).length g with e1 | e1 | e1
    · exfalso
      obtain ⟨hm2, hw2⟩ := mem_wrs hW (l := l) (k := (pre.filter isW).length) (by omega)
      have h2 := vord_wrs hM hW hz hv e (k := (pre.filter isW).length) (by omega)
      have hlt := wrs_lt hM hW e1 hg
      have h3 := h2.2 (fun ee => by rw [ee] at hlt; omega) (Nat.le_refl _)
      have hs := hv.2.1
      rw [e, List.filter_append, List.filter_cons, if_pos hwg] at hs
      have := (List.pairwise_cons.1 (List.pairwise_append.1 hs).2.1).1 _ (List.mem_filter.2 ⟨h3, hw2⟩)
      omega
    · exact e1
    · exfalso
      have h2 := (vord_wrs hM hW hz hv e hg).1.2 e1
      have hs := hv.2.1
      rw [e, List.filter_append, List.filter_cons, if_pos hwg] at hs
      have := (List.pairwise_append.1 hs).2.2 _ (List.mem_filter.2 ⟨h2, hwg⟩) _ (List.mem_cons_self ..)
      omega
  refine ⟨?_, ?_⟩
  · have := hv.2.2 pre _ post e
    rw [h1.2.1, hk] at this
    exact this
  · rw [List.any_eq_false]
    intro u hu
    obtain ⟨j, hj, hj2⟩ := List.mem_iff_getElem.1 hu
    rw [List.getElem_drop] at hj2
    have hjl : g + 1 + j < W.length := by rw [List.length_drop] at hj; omega
    have hlt := wrs_lt hM hW (i := g) (j := g + 1 + j) (by omega) hjl
    have h3 := (vord_wrs hM hW hz hv e hjl).2 (fun ee => by rw [ee] at hlt; omega) (by omega)
    have h4 := (vord_before hv e).2 h3
    rw [wrs_getD hjl, hj2] at h4
    simpa using h4
theorem gap_of {init : List Int} {z : List AtS} (hz : z.Perm l) (hv : VOrd init z) (G : Nat → Nat) : ∀ i, i < l.length → ¬ 0 < (l.getD i atD).wv → (∀ k, k < i → ¬ 0 < (l.getD k atD).wv → GapMin init l W G k) →
    ∀ pre post, z = pre ++ l.getD i atD :: post → GapP init l W G i (pre.filter isW).length := by
  intro i
  induction i using Nat.strongRecOn with
  | _ i ih =>
    intro hi hw hG pre post e
    have h1 := mem_pre hM hW (init := init) hz hv.2.1 e
    have hne : ∀ k, k < W.length → l.getD i atD ≠ atI l (W.getD k 0) := fun k hk ee => by
      have := (mem_wrs hW (l := l) hk).2
      rw [← ee] at this
      exact hw (of_decide_eq_true this)
    refine ⟨⟨fun k hk ha => ?_, fun k hk hkw ha => ?_⟩, ⟨h1.2.2, fun k hk ha => ?_⟩, ?_⟩
    · rcases Nat.lt_or_ge k (pre.filter isW).length with e1 | e1
      · omega
      · have h2 := (vord_before hv e).2 ((vord_wrs hM hW hz hv e hk).2 (hne k hk) e1)
        rw [show aheadB (atI l (W.getD k 0)) (l.getD i atD) = true from ha] at h2
        cases h2
    · have hm : l.getD k atD ∈ z := hz.mem_iff.2 (getD_mem (by omega))
      rw [e] at hm
      rcases List.mem_append.1 hm with hm | hm
      · obtain ⟨p1, p2, rfl⟩ := List.append_of_mem hm
        have h2 := ih k hk (by omega) hkw (fun j hj => hG j (by omega)) p1 (p2 ++ l.getD i atD :: post) (by rw [e]; simp)
        have h3 := (hG k hk hkw).2 _ h2
        refine Nat.le_trans h3 ?_
        rw [List.filter_append, List.length_append]
        omega
      · rcases List.mem_cons.1 hm with hm | hm
        · rw [hm] at ha
          exact absurd (may_ahead hM hi hi ha) (Nat.lt_irrefl _)
        · have h2 := (vord_before hv e).2 hm
          rw [ha] at h2
          cases h2
    · rcases Nat.lt_or_ge k (pre.filter isW).length with e1 | e1
      · have h2 := (vord_before hv e).1 ((vord_wrs hM hW hz hv e hk).1.2 e1)
        rw [show aheadB (l.getD i atD) (atI l (W.getD k 0)) = true from ha] at h2
        cases h2
      · exact e1
    · have := hv.2.2 pre _ post e
      rw [h1.2.1] at this
      exact this
end
/-- Where Judge tells none, there is none. -/
theorem judge_none {n : Nat} {init : List Int} {l : List AtS} (hM : MayP n l) (h : JFail init l) {z : List AtS} (hz : z.Perm l) (hv : VOrd init z) : False := by
  obtain ⟨W, hW, ⟨g, hg, hn⟩ | ⟨hs, G, i, hi, hw, hG, hx⟩⟩ := h
  · exact hn (stand_of hM hW hz hv hg)
  · obtain ⟨pre, post, e⟩ := List.append_of_mem (hz.mem_iff.2 (getD_mem (d := atD) hi))
    exact hx _ (gap_of hM hW hz hv G i hi hw hG pre post e)
/-! The other way: the order that Judge tells may be. -/
section
variable {l : List AtS} {W : List Int} {G : Nat → Nat} {R : Int → Int → Prop}
theorem inG_mem {q x : Nat} {u : Int} (h : u ∈ inG l G q x) : ∃ i : Nat, i < q ∧ ¬ 0 < (l.getD i atD).wv ∧ G i = x ∧ u = i := by
  unfold inG at h
  obtain ⟨i, hi, rfl⟩ := List.mem_map.1 h
  obtain ⟨h1, h2⟩ := List.mem_filter.1 hi
  obtain ⟨h3, h4⟩ := nonw_mem.1 h1
  exact ⟨i, h3, h4, of_decide_eq_true h2, rfl⟩
theorem inG_pair {q x : Nat} (h : ∀ i j : Nat, i < j → j < q → ¬ 0 < (l.getD i atD).wv → ¬ 0 < (l.getD j atD).wv → G i = x → G j = x → R i j) : (inG l G q x).Pairwise R := by
  unfold inG nonw
  rw [List.pairwise_map, List.pairwise_filter, List.pairwise_filter]
  refine List.Pairwise.imp_of_mem ?_ List.pairwise_lt_range
  intro i j hi hj hij h1 h2 h3 h4
  exact h i j hij (List.mem_range.1 hj) (by simpa using h1) (by simpa using h2) (of_decide_eq_true h3) (of_decide_eq_true h4)
theorem ordL_mem {x : Nat} {u : Int} (h : u ∈ ordL l W G x) : (∃ k, k + 1 < x ∧ u = W.getD k 0) ∨ ∃ i : Nat, i < l.length ∧ ¬ 0 < (l.getD i atD).wv ∧ G i < x ∧ u = i := by
  unfold ordL at h
  obtain ⟨g, hg, h⟩ := List.mem_flatMap.1 h
  have hg := List.mem_range.1 hg
  unfold ordB at h
  rcases List.mem_append.1 h with h | h
  · split at h
    · exact .inl ⟨g - 1, by omega, by simpa using h⟩
    · cases h
  · obtain ⟨i, h1, h2, h3, h4⟩ := inG_mem h
    exact .inr ⟨i, h1, h2, by omega, h4⟩
theorem ordL_pair (hA : ∀ i j, i < j → j < W.length → R (W.getD i 0) (W.getD j 0)) (hB : ∀ k (i : Nat), k < W.length → i < l.length → ¬ 0 < (l.getD i atD).wv → k + 1 ≤ G i → R (W.getD k 0) i)
    (hC : ∀ k (i : Nat), k < W.length → i < l.length → ¬ 0 < (l.getD i atD).wv → G i ≤ k → R i (W.getD k 0)) (hD : ∀ i j : Nat, i < l.length → j < l.length → ¬ 0 < (l.getD i atD).wv → ¬ 0 < (l.getD j atD).wv → (G i < G j ∨ (G i = G j ∧ i < j)) → R i j) :
    ∀ x, x ≤ W.length + 1 → (ordL l W G x).Pairwise R := by
  intro x
  induction x with
  | zero => intro _; exact .nil
  | succ x ih =>
    intro hx
    rw [ordL_succ]
    refine List.pairwise_append.2 ⟨ih (by omega), ?_, fun u hu v hv => ?_⟩
    · unfold ordB
      refine List.pairwise_append.2 ⟨?_, inG_pair fun i j hij hj h1 h2 h3 h4 => hD i j (by omega) hj h1 h2 (.inr ⟨by omega, hij⟩), fun u hu v hv => ?_⟩
      · split <;> simp
      · split at hu
        · obtain rfl : u = W.getD (x - 1) 0 := by simpa using hu
          obtain ⟨i, h1, h2, h3, rfl⟩ := inG_mem hv
          exact hB _ i (by omega) h1 h2 (by omega)
        · cases hu
    · have hv2 : (0 < x ∧ v = W.getD (x - 1) 0) ∨ ∃ i : Nat, i < l.length ∧ ¬ 0 < (l.getD i atD).wv ∧ G i = x ∧ v = i := by
        unfold ordB at hv
        rcases List.mem_append.1 hv with hv | hv
        · split at hv
          · exact .inl ⟨by assumption, by simpa using hv⟩
          · cases hv
        · exact .inr (inG_mem hv)
      rcases ordL_mem hu with ⟨k, h1, rfl⟩ | ⟨i, h1, h2, h3, rfl⟩ <;> rcases hv2 with ⟨h4, rfl⟩ | ⟨j, h4, h5, h6, rfl⟩
      · exact hA _ _ (by omega) (by omega)
      · exact hB _ j (by omega) h4 h5 (by omega)
      · exact hC _ i (by omega) h1 h2 (by omega)
      · exact hD i j h1 h4 h2 h5 (.inl (by omega))
theorem ordL_has {k : Nat} (hk : k < W.length) : W.getD k 0 ∈ ordL l W G (W.length + 1) := by
  unfold ordL
  refine List.mem_flatMap.2 ⟨k + 1, List.mem_range.2 (by omega), ?_⟩
  unfold ordB
  rw [if_pos (by omega)]
  simp
theorem ordL_hasn {i : Nat} (hi : i < l.length) (hw : ¬ 0 < (l.getD i atD).wv) (hG : G i ≤ W.length) : (i : Int) ∈ ordL l W G (W.length + 1) := by
  unfold ordL
  refine List.mem_flatMap.2 ⟨G i, List.mem_range.2 (by omega), ?_⟩
  unfold ordB inG
  refine List.mem_append.2 (.inr (List.mem_map.2 ⟨i, List.mem_filter.2 ⟨nonw_mem.2 ⟨hi, hw⟩, by simp⟩, rfl⟩))
end
theorem wrs_idx {l : List AtS} {W : List Int} (hW : IsWrs l W) {u : Int} (h0 : 0 ≤ u) (h1 : u < l.length) (hw : 0 < (atI l u).wv) : ∃ k, k < W.length ∧ W.getD k 0 = u := by
  have hm : u ∈ W := by
    refine hW.1.mem_iff.2 ?_
    unfold wrsL
    refine List.mem_map.2 ⟨u.toNat, List.mem_filter.2 ⟨List.mem_range.2 (by omega), decide_eq_true hw⟩, by omega⟩
  obtain ⟨k, hk, rfl⟩ := List.mem_iff_getElem.1 hm
  exact ⟨k, hk, wrs_getD hk⟩
theorem judge_some {n : Nat} {init : List Int} {l : List AtS} (hM : MayP n l) {ord : List Int} (h : JOk init l ord) : ValidO init l ord := by
  obtain ⟨W, G, hW, hst, hG, rfl⟩ := h
  have hnW : ∀ {k i : Nat}, k < W.length → ¬ 0 < (l.getD i atD).wv → (i : Int) ≠ W.getD k 0 := fun {k i} hk hi e => by
    have := (wrs_mem hW (getD_mem (d := (0 : Int)) hk)).2.2
    rw [← e] at this
    exact hi this
  have hnd : (ordL l W G (W.length + 1)).Nodup := by
    refine List.nodup_iff_pairwise_ne.2 (ordL_pair (fun i j hij hj e => ?_) (fun k i hk hi hw _ e => hnW hk hw e.symm) (fun k i hk hi hw _ e => hnW hk hw e) (fun i j _ _ _ _ h e => ?_) _ (Nat.le_refl _))
    · have := wrs_lt hM hW hij hj
      rw [e] at this
      omega
    · have : i = j := by omega
      subst this
      omega
  have hperm : (ordL l W G (W.length + 1)).Perm (plL l) := by
    refine (List.perm_ext_iff_of_nodup hnd ?_).2 fun u => ⟨fun hu => ?_, fun hu => ?_⟩
    · unfold plL
      exact List.Pairwise.map _ (fun a b h e => h (by omega)) List.nodup_range
    · unfold plL
      rcases ordL_mem hu with ⟨k, h1, rfl⟩ | ⟨i, h1, _, _, rfl⟩
      · obtain ⟨a1, a2, _⟩ := wrs_mem hW (getD_mem (d := (0 : Int)) (show k < W.length by omega))
        exact List.mem_map.2 ⟨(W.getD k 0).toNat, List.mem_range.2 (by omega), by omega⟩
      · exact List.mem_map.2 ⟨i, List.mem_range.2 h1, rfl⟩
    · unfold plL at hu
      obtain ⟨i, hi, rfl⟩ := List.mem_map.1 hu
      have hi := List.mem_range.1 hi
      by_cases hw : 0 < (l.getD i atD).wv
      · obtain ⟨k, hk, e⟩ := wrs_idx hW (u := (i : Int)) (by omega) (by omega) hw
        rw [← e]
        exact ordL_has hk
      · exact ordL_hasn hi hw (hG i hi hw).1.2.1.1
  have hz : ((ordL l W G (W.length + 1)).map (atI l)).Perm l := by
    have := hperm.map (atI l)
    rwa [plL_at] at this
  have hsort : (((ordL l W G (W.length + 1)).map (atI l)).filter isW).Pairwise (fun a b => a.wv < b.wv) := by
    rw [List.pairwise_filter, List.pairwise_map]
    refine ordL_pair (fun i j hij hj _ _ => wrs_lt hM hW hij hj) (fun k i hk hi hw _ _ h2 => ?_) (fun k i hk hi hw _ h1 _ => ?_) (fun i j _ _ hw _ _ h1 _ => ?_) _ (Nat.le_refl _)
    · exact absurd (of_decide_eq_true h2) hw
    · exact absurd (of_decide_eq_true h1) hw
    · exact absurd (of_decide_eq_true h1) hw
  refine ⟨hperm, ?_, hsort, ?_⟩
  · rw [List.pairwise_map]
    refine ordL_pair (fun i j hij hj => ?_) (fun k i hk hi hw hg => ?_) (fun k i hk hi hw hg => ?_) (fun i j hi hj hwi hwj hg => ?_) _ (Nat.le_refl _)
    · have h1 := (hst i (by omega)).2
      rw [List.any_eq_false] at h1
      have h2 := h1 (W.getD j 0) (List.mem_iff_getElem.2 ⟨j - (i + 1), by rw [List.length_drop]; omega, by rw [List.getElem_drop, wrs_getD hj]; congr 1; omega⟩)
      simpa using h2
    · cases ha : aheadB (atI l (i : Int)) (atI l (W.getD k 0)) with
      | false => rfl
      | true =>
        have := (hG i hi hw).1.2.1.2 k hk ha
        omega
    · cases ha : aheadB (atI l (W.getD k 0)) (atI l (i : Int)) with
      | false => rfl
      | true =>
        have := (hG i hi hw).1.1.1 k hk ha
        omega
    · cases ha : aheadB (atI l (j : Int)) (atI l (i : Int)) with
      | false => rfl
      | true =>
        have h1 := may_ahead hM hj hi ha
        have h2 := (hG i hi hwi).1.1.2 j h1 hwj ha
        omega
  · intro pre u post e
    have h1 := mem_pre hM hW (init := init) hz hsort e
    rw [h1.2.1]
    obtain ⟨p1, p2, e2, rfl, e3⟩ := List.map_eq_append_iff.1 e
    obtain ⟨x, p3, rfl, rfl, rfl⟩ := List.map_eq_cons_iff.1 e3
    have hx : x ∈ ordL l W G (W.length + 1) := by rw [e2]; simp
    have hR : (ordL l W G (W.length + 1)).Pairwise (fun a b => (∀ k i : Nat, k < W.length → i < l.length → ¬ 0 < (l.getD i atD).wv → (a = W.getD k 0 → b = i → k + 1 ≤ G i) ∧ (a = i → b = W.getD k 0 → G i ≤ k)) ∧ ∀ j k, j < W.length → k < W.length → a = W.getD j 0 → b = W.getD k 0 → j < k) := by
      have hinj : ∀ {i j}, i < W.length → j < W.length → W.getD i 0 = W.getD j 0 → i = j := fun {i j} hi hj e => by
        rcases Nat.lt_trichotomy i j with h | h | h
        · have := wrs_lt hM hW h hj; rw [e] at this; omega
        · exact h
        · have := wrs_lt hM hW h hi; rw [e] at this; omega
      refine ordL_pair (fun i j hij hj => ⟨fun k i2 hk hi2 hw => ⟨fun h3 h4 => absurd h4.symm (hnW hj hw), fun h3 _ => absurd h3.symm (hnW (by omega) hw)⟩, fun a b ha hb h3 h4 => ?_⟩)
        (fun k i hk hi hw hg => ⟨fun k2 i2 hk2 hi2 hw2 => ⟨fun h3 h4 => ?_, fun h3 _ => absurd h3.symm (hnW hk hw2)⟩, fun a b ha hb h3 h4 => absurd h4 (hnW hb hw)⟩)
        (fun k i hk hi hw hg => ⟨fun k2 i2 hk2 hi2 hw2 => ⟨fun h3 h4 => absurd h3 (hnW hk2 hw), fun h3 h4 => ?_⟩, fun a b ha hb h3 h4 => absurd h3 (hnW ha hw)⟩)
        (fun i j hi hj hwi hwj hg => ⟨fun k2 i2 hk2 hi2 hw2 => ⟨fun h3 h4 => absurd h3 (hnW hk2 hwi), fun h3 h4 => absurd h4 (hnW hk2 hwj)⟩, fun a b ha hb h3 h4 => absurd h3 (hnW ha hwi)⟩) _ (Nat.le_refl _)
      · have e1 := hinj (by omega) ha h3
        have e2 := hinj hj hb h4
        omega
      · have e1 := hinj hk hk2 h3
        have e2 : i = i2 := by omega
        subst e1 e2
        exact hg
      · have e1 := hinj hk hk2 h4
        have e2 : i = i2 := by omega
        subst e1 e2
        exact hg
    rw [e2] at hR
    have hR2 := List.pairwise_append.1 hR
    have hpre : ∀ v ∈ p1, _ := fun v hv => hR2.2.2 v hv x (by simp)
    have hpost := (List.pairwise_cons.1 hR2.2.1).1
    have hin : ∀ k, k < W.length → W.getD k 0 ∈ p1 ∨ W.getD k 0 = x ∨ W.getD k 0 ∈ p3 := fun k hk => by
      have := ordL_has (l := l) (G := G) hk
      rw [e2] at this
      simpa using this
    have hcnt : (p1.map (atI l)).filter isW = (W.map (atI l)).take ((p1.map (atI l)).filter isW).length := h1.1
    have hmem : ∀ k, k < W.length → (W.getD k 0 ∈ p1 → k < ((p1.map (atI l)).filter isW).length) := fun k hk hp => by
      have h2 : atI l (W.getD k 0) ∈ (p1.map (atI l)).filter isW := List.mem_filter.2 ⟨List.mem_map.2 ⟨_, hp, rfl⟩, (mem_wrs hW hk).2⟩
      rw [hcnt] at h2
      obtain ⟨j, hj, hj2⟩ := List.mem_take_iff_getElem.1 h2
      rw [List.length_map] at hj
      rw [List.getElem_map, ← wrs_getD (by omega)] at hj2
      rcases Nat.lt_trichotomy j k with h | h | h
      · have := wrs_lt hM hW h hk; rw [hj2] at this; omega
      · omega
      · have := wrs_lt hM hW h (show j < W.length by omega); rw [hj2] at this; omega
    have hmem2 : ∀ k, k < ((p1.map (atI l)).filter isW).length → W.getD k 0 ∈ p1 := fun k hk => by
      have hkW : k < W.length := by have := h1.2.2; omega
      have h2 : atI l (W.getD k 0) ∈ (p1.map (atI l)).filter isW := by
        rw [hcnt]
        exact List.mem_take_iff_getElem.2 ⟨k, by rw [List.length_map]; omega, by rw [List.getElem_map, wrs_getD hkW]⟩
      obtain ⟨v, hv, hv2⟩ := List.mem_map.1 (List.mem_filter.1 h2).1
      have hvo : v ∈ ordL l W G (W.length + 1) := by rw [e2]; simp [hv]
      rcases ordL_mem hvo with ⟨j, hj, rfl⟩ | ⟨i, hi, hiw, _, rfl⟩
      · have hjk : j = k := by
          rcases Nat.lt_trichotomy j k with h | h | h
          · have := wrs_lt hM hW h hkW; rw [hv2] at this; omega
          · exact h
          · have := wrs_lt hM hW h (show j < W.length by omega); rw [hv2] at this; omega
        subst hjk
        exact hv
      · have := (mem_wrs hW (l := l) hkW).2
        rw [← hv2] at this
        exact absurd (of_decide_eq_true this) hiw
    rcases ordL_mem hx with ⟨k, hk, rfl⟩ | ⟨i, hi, hiw, hGi, rfl⟩
    · have hkW : k < W.length := by omega
      have : ((p1.map (atI l)).filter isW).length = k := by
        refine Nat.le_antisymm (Nat.le_of_not_lt fun hlt => ?_) (Nat.le_of_not_lt fun hlt => ?_)
        · have h2 := (hpre _ (hmem2 k hlt)).2 k k hkW hkW rfl rfl
          omega
        · rcases hin ((p1.map (atI l)).filter isW).length (by omega) with h2 | h2 | h2
          · have := hmem _ (by omega) h2; omega
          · have := wrs_lt hM hW hlt hkW; rw [h2] at this; omega
          · have := (hpost _ h2).2 k _ hkW (by omega) rfl rfl
            omega
      rw [this]
      exact (hst k hkW).1
    · have : ((p1.map (atI l)).filter isW).length = G i := by
        have hGW : G i ≤ W.length := (hG i hi hiw).1.2.1.1
        refine Nat.le_antisymm (Nat.le_of_not_lt fun hlt => ?_) (Nat.le_of_not_lt fun hlt => ?_)
        · have h2 := ((hpre _ (hmem2 (G i) hlt)).1 (G i) i (by have := h1.2.2; omega) hi hiw).1 rfl rfl
          omega
        · rcases hin ((p1.map (atI l)).filter isW).length (by omega) with h2 | h2 | h2
          · have := hmem _ (by omega) h2; omega
          · exact hnW (by omega) hiw h2.symm
          · have := ((hpost _ h2).1 _ i (by omega) hi hiw).2 rfl rfl
            omega
      rw [this]
      exact (hG i hi hiw).1.2.2
end Go.Proofs.Ytciehimnhnbipaa
namespace Go.Proofs.Ytciehimnhnbipaa
open Go.RowKit Go.Lib
set_option linter.unusedVariables false
set_option linter.unusedSimpArgs false
/-- The same, but it may end later, or not at all. -/
def W1 (x y : AtS) : Prop := (y.frm = x.frm ∧ y.rv = x.rv ∧ y.wv = x.wv ∧ y.com = x.com ∧ y.rs = x.rs ∧ y.ws = x.ws) ∧ (y.to = -1 ∨ (x.to ≠ -1 ∧ x.to ≤ y.to))
theorem W1.refl (x : AtS) : W1 x x := ⟨⟨rfl, rfl, rfl, rfl, rfl, rfl⟩, by
  by_cases h : x.to = -1
  · exact .inl h
  · exact .inr ⟨h, Int.le_refl _⟩⟩
theorem W1.trans {x y z : AtS} (h : W1 x y) (h' : W1 y z) : W1 x z := by
  obtain ⟨⟨a1, a2, a3, a4, a5, a6⟩, a7⟩ := h
  obtain ⟨⟨b1, b2, b3, b4, b5, b6⟩, b7⟩ := h'
  refine ⟨⟨b1.trans a1, b2.trans a2, b3.trans a3, b4.trans a4, b5.trans a5, b6.trans a6⟩, ?_⟩
  rcases b7 with b7 | ⟨b7, b8⟩
  · exact .inl b7
  · rcases a7 with a7 | ⟨a7, a8⟩
    · exact absurd a7 b7
    · exact .inr ⟨a7, Int.le_trans a8 b8⟩
inductive RelW : List AtS → List AtS → Prop
  | nil : RelW [] []
  | cons {x y : AtS} {l m : List AtS} (h : W1 x y) (t : RelW l m) : RelW (x :: l) (y :: m)
theorem RelW.refl : ∀ l, RelW l l
  | [] => .nil
  | x :: l => .cons (W1.refl x) (RelW.refl l)
theorem RelW.trans {l m n : List AtS} (h : RelW l m) (h' : RelW m n) : RelW l n := by
  induction h generalizing n with
  | nil => exact h'
  | cons h t ih =>
    cases h' with
    | cons h2 t2 => exact .cons (h.trans h2) (ih t2)
theorem RelW.length {l m : List AtS} (h : RelW l m) : m.length = l.length := by
  induction h with
  | nil => rfl
  | cons _ _ ih => simp [ih]
theorem RelW.at_ {l m : List AtS} (h : RelW l m) : ∀ i, W1 (l.getD i atD) (m.getD i atD) := by
  induction h with
  | nil => exact fun i => W1.refl _
  | cons h t ih =>
    intro i
    cases i with
    | zero => exact h
    | succ i => exact ih i
theorem RelW.append {l m l' m' : List AtS} (h : RelW l m) (h' : RelW l' m') : RelW (l ++ l') (m ++ m') := by
  induction h with
  | nil => exact h'
  | cons h _ ih => exact .cons h ih
theorem RelW.take {l m : List AtS} (h : RelW l m) : ∀ k, RelW (l.take k) (m.take k) := by
  induction h with
  | nil => intro k; simp; exact .nil
  | cons h t ih =>
    intro k
    cases k with
    | zero => exact .nil
    | succ k => exact .cons h (ih k)
theorem RelW.set {l m : List AtS} (h : RelW l m) : ∀ k y, W1 (l.getD k atD) y → RelW l (m.set k y) := by
  induction h with
  | nil => intro k y _; exact .nil
  | cons h t ih =>
    intro k y hy
    cases k with
    | zero => exact .cons hy t
    | succ k => exact .cons h (ih k y hy)
theorem W1.ahead {x y a b : AtS} (h : W1 x y) (h' : W1 a b) (hh : aheadB x a = false) : aheadB y b = false := by
  cases e : aheadB y b with
  | false => rfl
  | true =>
    unfold aheadB at e hh
    rw [Bool.and_eq_true, decide_eq_true_eq, decide_eq_true_eq] at e
    rcases h.2 with h2 | ⟨h2, h3⟩
    · exact absurd h2 e.1
    · rw [decide_eq_true h2, decide_eq_true (show x.to < a.frm by have := h'.1.1; have := e.2; omega)] at hh
      cases hh
theorem RelW.perm {z l : List AtS} (p : z.Perm l) : ∀ {m}, RelW l m → ∃ y, y.Perm m ∧ RelW z y := by
  induction p with
  | nil => intro m h; exact ⟨m, .refl _, h⟩
  | cons x p ih =>
    intro m h
    cases h with
    | cons h t =>
      obtain ⟨y, h1, h2⟩ := ih t
      exact ⟨_, h1.cons _, .cons h h2⟩
  | swap x y l =>
    intro m h
    cases h with
    | cons h t =>
      cases t with
      | cons h' t => exact ⟨_, List.Perm.swap _ _ _, .cons h' (.cons h t)⟩
  | trans p q ih1 ih2 =>
    intro m h
    obtain ⟨y, h1, h2⟩ := ih2 h
    obtain ⟨y', h3, h4⟩ := ih1 h2
    exact ⟨y', h3.trans h1, h4⟩
theorem RelW.split {z y : List AtS} (h : RelW z y) : ∀ {pre u post}, y = pre ++ u :: post → ∃ pre' u' post', z = pre' ++ u' :: post' ∧ RelW pre' pre ∧ W1 u' u ∧ RelW post' post := by
  induction h with
  | nil => intro pre u post e; cases pre <;> cases e
  | cons h t ih =>
    intro pre u post e
    cases pre with
    | nil =>
      cases e
      exact ⟨[], _, _, rfl, .nil, h, t⟩
    | cons p pre =>
      cases e
      obtain ⟨pre', u', post', rfl, h1, h2, h3⟩ := ih rfl
      exact ⟨_ :: pre', u', post', rfl, .cons h h1, h2, h3⟩
theorem RelW.memA {z y : List AtS} (h : RelW z y) : ∀ init, memA init y = memA init z := by
  induction h with
  | nil => intro _; rfl
  | cons h t ih =>
    intro init
    show Ytciehimnhnbipaa.memA (wrtM init _) _ = Ytciehimnhnbipaa.memA (wrtM init _) _
    rw [h.1.2.2.2.2.2]
    exact ih _
theorem RelW.mem {z y : List AtS} (h : RelW z y) : ∀ u ∈ y, ∃ v ∈ z, W1 v u := by
  induction h with
  | nil => intro u hu; cases hu
  | cons h t ih =>
    intro u hu
    rcases List.mem_cons.1 hu with rfl | hu
    · exact ⟨_, by simp, h⟩
    · obtain ⟨v, hv, hw⟩ := ih u hu
      exact ⟨v, by simp [hv], hw⟩
theorem RelW.pair {R R' : AtS → AtS → Prop} (hR : ∀ a b c d, W1 a b → W1 c d → R a c → R' b d) {z y : List AtS} (h : RelW z y) : z.Pairwise R → y.Pairwise R' := by
  induction h with
  | nil => intro _; exact .nil
  | cons h t ih =>
    intro hp
    have hp2 := List.pairwise_cons.1 hp
    refine List.pairwise_cons.2 ⟨fun b hb => ?_, ih hp2.2⟩
    obtain ⟨v, hv, hw⟩ := t.mem b hb
    exact hR _ _ _ _ h hw (hp2.1 v hv)
theorem W1.isW {x y : AtS} (h : W1 x y) : isW y = isW x := by
  unfold Ytciehimnhnbipaa.isW
  rw [h.1.2.2.1]
theorem W1.fits {x y : AtS} (h : W1 x y) (m : List Int) : fitsB y m = fitsB x m := by
  unfold fitsB
  rw [h.1.2.2.2.2.1]
theorem RelW.vord {init : List Int} {z y : List AtS} (h : RelW z y) (hv : VOrd init z) : VOrd init y := by
  refine ⟨h.pair (fun a b c d h1 h2 h3 => h2.ahead h1 h3) hv.1, ?_, fun pre u post e => ?_⟩
  · have h2 := hv.2.1
    rw [List.pairwise_filter] at h2 ⊢
    refine h.pair (fun a b c d h1 h2 h3 h4 h5 => ?_) h2
    rw [h1.isW] at h4
    rw [h2.isW] at h5
    rw [h1.1.2.2.1, h2.1.2.2.1]
    exact h3 h4 h5
  · obtain ⟨pre', u', post', e', h1, h2, _⟩ := h.split e
    rw [h2.fits, h1.memA]
    exact hv.2.2 pre' u' post' e'
/-- There is an order that may be. -/
def HasO (init : List Int) (l : List AtS) : Prop := ∃ z, z.Perm l ∧ VOrd init z
theorem HasO.rel {init : List Int} {l m : List AtS} (h : RelW l m) (ho : HasO init l) : HasO init m := by
  obtain ⟨z, hz, hv⟩ := ho
  obtain ⟨y, h1, h2⟩ := RelW.perm hz h
  exact ⟨y, h1, h2.vord hv⟩
theorem HasO.del {init : List Int} {l1 l2 : List AtS} {a : AtS} (hw : isW a = false) (hs : a.ws = []) (ho : HasO init (l1 ++ a :: l2)) : HasO init (l1 ++ l2) := by
  obtain ⟨z, hz, hv⟩ := ho
  obtain ⟨p1, p2, rfl⟩ := List.append_of_mem (hz.mem_iff.2 (show a ∈ l1 ++ a :: l2 by simp))
  have hp : (p1 ++ p2).Perm (l1 ++ l2) := by
    have := (List.perm_middle.symm.trans hz).trans List.perm_middle
    exact (List.perm_cons a).1 this
  refine ⟨p1 ++ p2, hp, ?_, ?_, fun pre u post e => ?_⟩
  · have h1 := List.pairwise_append.1 hv.1
    refine List.pairwise_append.2 ⟨h1.1, (List.pairwise_cons.1 h1.2.1).2, fun x hx y hy => h1.2.2 x hx y (by simp [hy])⟩
  · have h1 := hv.2.1
    rw [List.filter_append, List.filter_cons, if_neg (by rw [hw]; decide), ← List.filter_append] at h1
    exact h1
  · rcases List.append_eq_append_iff.1 e with ⟨x, e1, e2⟩ | ⟨x, e1, e2⟩
    · have h3 := hv.2.2 (p1 ++ a :: x) u post (by rw [e2]; simp)
      rw [e1]
      have : memA init (p1 ++ a :: x) = memA init (p1 ++ x) := by
        unfold memA
        rw [List.foldl_append, List.foldl_append, List.foldl_cons, hs]
        rfl
      rw [← this]
      exact h3
    · cases x with
      | nil =>
        rw [List.append_nil] at e1
        have h3 := hv.2.2 (p1 ++ [a]) u post (by rw [show p2 = u :: post from (by simpa using e2.symm)]; simp)
        have : memA init (p1 ++ [a]) = memA init p1 := by
          unfold memA
          rw [List.foldl_append, List.foldl_cons, hs]
          rfl
        rw [this, e1] at h3
        exact h3
      | cons y x =>
        cases e2
        exact hv.2.2 pre u (x ++ a :: p2) (by rw [e1]; simp)
theorem may_rel {n : Nat} {l m : List AtS} (h : RelW l m) (hM : MayP n l) : MayP n m := by
  refine ⟨hM.1, fun i hi => ?_⟩
  have hl := h.length
  obtain ⟨a1, a2, a3, a4, a5, a6, a7, a8, a9⟩ := hM.2 i (by omega)
  obtain ⟨⟨b1, b2, b3, b4, b5, b6⟩, b7⟩ := h.at_ i
  refine ⟨?_, ?_, by rw [b2]; exact a3, by rw [b3]; exact a4, fun hw => ?_, fun hw => ?_, by rw [b5]; exact a7, by rw [b6]; exact a8, by rw [b6]; exact a9⟩
  · by_cases e : i = 0
    · rw [if_pos e] at a1 ⊢
      rw [b1]; exact a1
    · rw [if_neg e] at a1 ⊢
      rw [b1, (h.at_ (i - 1)).1.1]; exact a1
  · rcases b7 with b7 | ⟨b7, b8⟩
    · exact .inl b7
    · rcases a2 with a2 | a2
      · exact absurd a2 b7
      · exact .inr (by rw [b1]; omega)
  · rw [b3] at hw
    refine ⟨by rw [b4]; exact (a5 hw).1, fun j hj => ?_⟩
    rw [b3, (h.at_ j).1.2.2.1]
    exact (a5 hw).2 j hj
  · rw [b3] at hw
    rw [b6]
    exact a6 hw
theorem may_del {n : Nat} {l1 l2 : List AtS} {a : AtS} (hM : MayP n (l1 ++ a :: l2)) : MayP n (l1 ++ l2) := by
  have hat : ∀ i, (l1 ++ l2).getD i atD = (l1 ++ a :: l2).getD (if i < l1.length then i else i + 1) atD := fun i => by
    rw [List.getD_eq_getElem?_getD, List.getD_eq_getElem?_getD]
    by_cases e : i < l1.length
    · rw [if_pos e, List.getElem?_append_left e, List.getElem?_append_left e]
    · rw [if_neg e, List.getElem?_append_right (by omega), List.getElem?_append_right (by omega), show i + 1 - l1.length = (i - l1.length) + 1 from by omega, List.getElem?_cons_succ]
  have hlen : (l1 ++ a :: l2).length = (l1 ++ l2).length + 1 := by simp; omega
  refine ⟨hM.1, fun i hi => ?_⟩
  have hi' : (if i < l1.length then i else i + 1) < (l1 ++ a :: l2).length := by split <;> omega
  obtain ⟨a1, a2, a3, a4, a5, a6, a7, a8, a9⟩ := hM.2 _ hi'
  unfold AtOk
  rw [hat i]
  refine ⟨?_, a2, a3, a4, fun hw => ⟨(a5 hw).1, fun j hj => ?_⟩, a6, a7, a8, a9⟩
  · by_cases e : i = 0
    · rw [if_pos e]
      subst e
      have h0 := (hM.2 0 (by omega)).1
      rw [if_pos rfl] at h0
      by_cases e1 : 0 < l1.length
      · rw [if_pos e1]; exact h0
      · rw [if_neg e1] at hi' ⊢
        exact Int.lt_trans h0 (may_frm hM 1 0 (by omega) hi')
    · rw [if_neg e, hat (i - 1)]
      refine may_frm hM _ _ ?_ hi'
      split <;> split <;> omega
  · rw [hat j]
    refine (a5 hw).2 _ ?_
    split <;> split <;> omega
theorem has_of {n : Nat} {init : List Int} {l : List AtS} (hM : MayP n l) {ord : List Int} (ho : JOk init l ord) : HasO init l :=
  ⟨_, (judge_some hM ho).perm, (judge_some hM ho).2⟩
theorem has_not {n : Nat} {init : List Int} {l : List AtS} (hM : MayP n l) (hf : JFail init l) : ¬ HasO init l := fun ⟨z, hz, hv⟩ => judge_none hM hf hz hv
end Go.Proofs.Ytciehimnhnbipaa
