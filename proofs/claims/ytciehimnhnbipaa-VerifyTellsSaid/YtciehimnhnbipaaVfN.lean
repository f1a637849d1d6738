/- verify, the document: orders in rising row; the next one; how many there are. (Plain law.) verify, the document: the next order. verify, the document: within, Ahead, May of a history. -/
import Derived.Test.YtciehimnhnbipaaVfG
import Derived.Test.YtciehimnhnbipaaVfI
namespace Go.Proofs.Ytciehimnhnbipaa
open Go.RowKit Go.Lib
set_option linter.unusedVariables false
theorem less_cons {a b : Int} {s t : List Int} : lessP (a :: s) (b :: t) ↔ a < b ∨ (a = b ∧ lessP s t) := by
  constructor
  · rintro ⟨k, k1, k2, k3, k4⟩
    match k with
    | 0 => exact .inl (by simpa using k4)
    | k + 1 =>
      refine .inr ⟨by simpa using k3 0 (by omega), k, by simpa using k1, by simpa using k2, fun i hi => ?_, by simpa using k4⟩
      simpa using k3 (i + 1) (by omega)
  · rintro (h | ⟨rfl, k, k1, k2, k3, k4⟩)
    · exact ⟨0, by simp, by simp, fun i hi => by omega, by simpa using h⟩
    · refine ⟨k + 1, by simpa using k1, by simpa using k2, fun i hi => ?_, by simpa using k4⟩
      match i with
      | 0 => rfl
      | i + 1 => simpa using k3 i (by omega)
theorem less_nil {t : List Int} : ¬ lessP [] t := by rintro ⟨k, k1, _⟩; simp at k1
theorem less_irr : ∀ {s : List Int}, ¬ lessP s s
  | [], h => less_nil h
  | a :: s, h => by
    rcases less_cons.1 h with h | ⟨_, h⟩
    · omega
    · exact less_irr h
theorem less_trans : ∀ {s t u : List Int}, lessP s t → lessP t u → lessP s u
  | [], _, _, h, _ => absurd h less_nil
  | _ :: _, [], _, h, h' => absurd h' less_nil
  | _ :: _, _ :: _, [], _, h' => by obtain ⟨k, k1, k2, _⟩ := h'; simp at k2
  | a :: s, b :: t, c :: u, h, h' => by
    rcases less_cons.1 h with h1 | ⟨rfl, h1⟩
    · rcases less_cons.1 h' with h2 | ⟨rfl, h2⟩
      · exact less_cons.2 (.inl (by omega))
      · exact less_cons.2 (.inl h1)
    · rcases less_cons.1 h' with h2 | ⟨rfl, h2⟩
      · exact less_cons.2 (.inl h2)
      · exact less_cons.2 (.inr ⟨rfl, less_trans h1 h2⟩)
theorem min_asc : ∀ {r z : List Int}, r.Pairwise (· < ·) → z.Perm r → ¬ lessP z r
  | [], z, _, hp, h => by rw [hp.eq_nil] at h; exact less_nil h
  | b :: r, [], _, hp, h => less_nil h
  | b :: r, a :: z, hr, hp, h => by
    have hr2 := List.pairwise_cons.1 hr
    rcases less_cons.1 h with h | ⟨rfl, h2⟩
    · rcases List.mem_cons.1 (hp.mem_iff.1 (List.mem_cons_self ..)) with e | e
      · omega
      · have := hr2.1 a e
        omega
    · exact min_asc hr2.2 (List.Perm.cons_inv hp) h2
theorem max_desc : ∀ {r z : List Int}, r.Pairwise (fun a b => b < a) → z.Perm r → z = r ∨ lessP z r
  | [], z, _, hp => .inl hp.eq_nil
  | b :: r, [], _, hp => by have := hp.length_eq; simp at this
  | b :: r, a :: z, hr, hp => by
    have hr2 := List.pairwise_cons.1 hr
    rcases List.mem_cons.1 (hp.mem_iff.1 (List.mem_cons_self ..)) with e | e
    · subst e
      rcases max_desc hr2.2 (List.Perm.cons_inv hp) with h | h
      · exact .inl (by rw [h])
      · exact .inr (less_cons.2 (.inr ⟨rfl, h⟩))
    · exact .inr (less_cons.2 (.inl (hr2.1 a e)))
/-- The next order. -/
def NextP (o r : List Int) : Prop := ∃ pre x A y B, o = pre ++ x :: (A ++ y :: B) ∧ (A ++ y :: B).Pairwise (fun a b => b < a) ∧ x < y ∧ (∀ b ∈ B, b < x) ∧ r = pre ++ y :: (A ++ x :: B).reverse
theorem nextP_perm {o r : List Int} (h : NextP o r) : r.Perm o := by
  obtain ⟨pre, x, A, y, B, rfl, _, _, _, rfl⟩ := h
  refine List.Perm.append_left _ ?_
  refine ((List.reverse_perm _).cons y).trans ?_
  refine (List.perm_middle.cons y).trans ?_
  refine (List.Perm.swap x y _).trans ?_
  exact (List.perm_middle.symm).cons x
theorem nextP_less {o r : List Int} (h : NextP o r) : lessP o r := by
  obtain ⟨pre, x, A, y, B, rfl, _, h3, _, rfl⟩ := h
  induction pre with
  | nil => exact less_cons.2 (.inl h3)
  | cons a pre ih => exact less_cons.2 (.inr ⟨rfl, ih⟩)
theorem nextP_succ {o r z : List Int} (h : NextP o r) (hz : z.Perm o) (hl : lessP z r) : z = o ∨ lessP z o := by
  obtain ⟨pre, x, A, y, B, rfl, hd, hxy, hB, rfl⟩ := h
  induction pre generalizing z with
  | nil =>
    rw [List.nil_append] at hl hz ⊢
    match z, hl with
    | [], hl => exact absurd hl less_nil
    | a :: z, hl =>
      obtain ⟨d1, d2, d3⟩ := List.pairwise_append.1 hd
      have d4 := List.pairwise_cons.1 d2
      rcases less_cons.1 hl with h | ⟨rfl, h⟩
      · have ha := hz.mem_iff.1 (List.mem_cons_self ..)
        rcases List.mem_cons.1 ha with e | e
        · subst e
          rcases max_desc hd (List.Perm.cons_inv hz) with e | e
          · exact .inl (by rw [e])
          · exact .inr (less_cons.2 (.inr ⟨rfl, e⟩))
        · rcases List.mem_append.1 e with e | e
          · have := d3 a e y (List.mem_cons_self ..)
            omega
          · rcases List.mem_cons.1 e with e | e
            · omega
            · exact .inr (less_cons.2 (.inl (hB a e)))
      · exfalso
        refine min_asc ?_ ?_ h
        · rw [List.pairwise_reverse]
          refine List.pairwise_append.2 ⟨d1, List.pairwise_cons.2 ⟨fun b hb => hB b hb, d4.2⟩, fun p hp q hq => ?_⟩
          rcases List.mem_cons.1 hq with e | e
          · subst e
            have := d3 p hp a (List.mem_cons_self ..)
            omega
          · exact d3 p hp q (List.mem_cons_of_mem _ e)
        · refine List.Perm.trans ?_ (List.reverse_perm _).symm
          have h1 : (x :: (A ++ a :: B)).Perm (a :: (A ++ x :: B)) := (List.perm_middle.cons x).trans ((List.Perm.swap a x _).trans (List.perm_middle.symm.cons a))
          exact List.Perm.cons_inv (hz.trans h1)
  | cons b pre ih =>
    match z, hl with
    | [], hl => exact absurd hl less_nil
    | a :: z, hl =>
      rcases less_cons.1 hl with h | ⟨rfl, h⟩
      · exact .inr (less_cons.2 (.inl h))
      · rcases ih (List.Perm.cons_inv hz) h with e | e
        · exact .inl (by rw [e]; rfl)
        · exact .inr (less_cons.2 (.inr ⟨rfl, e⟩))
/-- All rows of the same things. -/
def insAll (x : Int) : List Int → List (List Int)
  | [] => [[x]]
  | y :: t => (x :: y :: t) :: (insAll x t).map (y :: ·)
def allP : List Int → List (List Int)
  | [] => [[]]
  | x :: t => (allP t).flatMap (insAll x)
theorem insAll_mem (x : Int) : ∀ s t : List Int, s ++ x :: t ∈ insAll x (s ++ t)
  | [], [] => by simp [insAll]
  | [], _ :: _ => by simp [insAll]
  | a :: s, t => by
    show a :: (s ++ x :: t) ∈ insAll x (a :: (s ++ t))
    exact List.mem_cons_of_mem _ (List.mem_map.2 ⟨_, insAll_mem x s t, rfl⟩)
theorem allP_mem : ∀ {l o : List Int}, o.Perm l → o ∈ allP l
  | [], o, h => by rw [h.eq_nil]; simp [allP]
  | x :: l, o, h => by
    obtain ⟨s, t, rfl⟩ := List.append_of_mem (h.mem_iff.2 (List.mem_cons_self ..))
    have h2 : (s ++ t).Perm l := List.Perm.cons_inv (List.perm_middle.symm.trans h)
    exact List.mem_flatMap.2 ⟨_, allP_mem h2, insAll_mem x s t⟩
theorem insAll_len (x : Int) : ∀ t : List Int, (insAll x t).length = t.length + 1
  | [] => rfl
  | y :: t => by simp [insAll, insAll_len x t]
theorem insAll_each (x : Int) : ∀ (t o : List Int), o ∈ insAll x t → o.length = t.length + 1
  | [], o, h => by simp [insAll] at h; subst h; rfl
  | y :: t, o, h => by
    rcases List.mem_cons.1 h with h | h
    · subst h; rfl
    · obtain ⟨o', h1, rfl⟩ := List.mem_map.1 h
      simp [insAll_each x t o' h1]
theorem allP_each : ∀ (l o : List Int), o ∈ allP l → o.length = l.length
  | [], o, h => by simp [allP] at h; subst h; rfl
  | x :: l, o, h => by
    obtain ⟨o', h1, h2⟩ := List.mem_flatMap.1 h
    rw [insAll_each x o' o h2, allP_each l o' h1]; rfl
theorem flatMap_len {α β : Type} {f : α → List β} {n : Nat} : ∀ {l : List α}, (∀ x ∈ l, (f x).length = n) → (l.flatMap f).length = l.length * n
  | [], _ => by simp
  | a :: l, h => by
    rw [List.flatMap_cons, List.length_append, h a (List.mem_cons_self ..), flatMap_len fun x hx => h x (List.mem_cons_of_mem _ hx), List.length_cons, Nat.succ_mul, Nat.add_comm]
def facN : Nat → Nat
  | 0 => 1
  | n + 1 => facN n * (n + 1)
theorem allP_len : ∀ l : List Int, (allP l).length = facN l.length
  | [] => rfl
  | x :: l => by
    show ((allP l).flatMap (insAll x)).length = facN (l.length + 1)
    rw [flatMap_len (n := l.length + 1) fun o ho => by rw [insAll_len, allP_each l o ho], allP_len l]
    rfl
theorem facN_mono {n : Nat} : facN n ≤ facN (n + 1) := Nat.le_mul_of_pos_right _ (Nat.succ_pos n)
theorem facN_le {n : Nat} (h : n ≤ 7) : facN n ≤ 5040 := by
  have h7 : n = 0 ∨ n = 1 ∨ n = 2 ∨ n = 3 ∨ n = 4 ∨ n = 5 ∨ n = 6 ∨ n = 7 := by omega
  rcases h7 with rfl | rfl | rfl | rfl | rfl | rfl | rfl | rfl <;> decide
theorem nodup_sub {α : Type} [DecidableEq α] : ∀ {V T : List α}, V.Nodup → (∀ x ∈ V, x ∈ T) → V.length ≤ T.length
  | [], _, _, _ => Nat.zero_le _
  | a :: V, T, hn, hs => by
    have hn2 := List.nodup_cons.1 hn
    have ha := hs a (List.mem_cons_self ..)
    have := nodup_sub (V := V) (T := T.erase a) hn2.2 fun x hx => (List.mem_erase_of_ne fun e => hn2.1 (by rw [← e]; exact hx)).2 (hs x (List.mem_cons_of_mem _ hx))
    rw [List.length_erase_of_mem ha] at this
    have hp : 0 < T.length := List.length_pos_of_mem ha
    rw [List.length_cons]
    omega
/-- So many orders have been gone over. -/
def Gone (l o : List Int) (n : Nat) : Prop := o.Perm l ∧ ∃ V : List (List Int), V.length = n ∧ V.Nodup ∧ ∀ v ∈ V, v.Perm l ∧ lessP v o
theorem Gone.lt {l o : List Int} {n : Nat} (h : Gone l o n) (hl : l.length ≤ 7) : n < 5040 := by
  obtain ⟨hp, V, rfl, hn, hV⟩ := h
  have := nodup_sub (V := o :: V) (T := allP l) (List.nodup_cons.2 ⟨fun ho => less_irr (hV o ho).2, hn⟩) fun x hx => by
    rcases List.mem_cons.1 hx with e | e
    · exact e ▸ allP_mem hp
    · exact allP_mem (hV x e).1
  rw [allP_len, List.length_cons] at this
  have := facN_le hl
  omega
theorem Gone.start (l : List Int) : Gone l l 0 := ⟨List.Perm.refl _, [], rfl, .nil, fun v hv => by cases hv⟩
theorem Gone.next {l o r : List Int} {n : Nat} (h : Gone l o n) (hr : NextP o r) : Gone l r (n + 1) := by
  obtain ⟨hp, V, rfl, hn, hV⟩ := h
  refine ⟨(nextP_perm hr).trans hp, o :: V, rfl, List.nodup_cons.2 ⟨fun ho => less_irr (hV o ho).2, hn⟩, fun v hv => ?_⟩
  rcases List.mem_cons.1 hv with e | e
  · exact e ▸ ⟨hp, nextP_less hr⟩
  · exact ⟨(hV v e).1, less_trans (hV v e).2 (nextP_less hr)⟩
theorem plL_asc (l : List AtS) : (plL l).Pairwise (· < ·) := by
  unfold plL
  rw [List.pairwise_map]
  exact List.pairwise_lt_range.imp fun h => by omega
/-- No order that may be is less. -/
def NoneB (init : List Int) (l : List AtS) (o : List Int) : Prop := ∀ z, ValidO init l z → ¬ lessP z o
theorem NoneB.start (init : List Int) (l : List AtS) : NoneB init l (plL l) := fun z hz => min_asc (plL_asc l) hz.1
theorem NoneB.next {init : List Int} {l : List AtS} {o r : List Int} (h : NoneB init l o) (ho : o.Perm (plL l)) (hv : ¬ ValidO init l o) (hr : NextP o r) : NoneB init l r := fun z hz hl => by
  rcases nextP_succ hr (hz.1.trans ho.symm) hl with e | e
  · exact hv (e ▸ hz)
  · exact h z hz e
theorem NoneB.last {init : List Int} {l : List AtS} {o : List Int} (h : NoneB init l o) (ho : o.Perm (plL l)) (hv : ¬ ValidO init l o) (hd : o.Pairwise (fun a b => b < a)) : ¬ SomeP init l [] := fun ⟨z, _, hz⟩ => by
  rcases max_desc hd (hz.1.trans ho.symm) with e | e
  · exact hv (e ▸ hz)
  · exact h z hz e
theorem NoneB.least {init : List Int} {l : List AtS} {o : List Int} (h : NoneB init l o) (hv : ValidO init l o) : Least init l [] o := ⟨⟨List.nil_prefix, hv⟩, fun z _ hz => h z hz⟩
theorem least_one {init : List Int} {l : List AtS} {p o o' : List Int} (h : Least init l p o) (h' : Least init l p o') : o = o' := by
  rcases less_tri ((valid_len h.1.2).trans (valid_len h'.1.2).symm) with e | e | e
  · exact absurd e (h'.2 o h.1.1 h.1.2)
  · exact e
  · exact absurd e (h.2 o' h'.1.1 h'.1.2)
/-- What the document asks of the first q places of an order, one by one. -/
def Doc1 (l : List AtS) (o : List Int) (q : Nat) : Prop := ∀ i, i < q → (0 ≤ o.getD i 0 ∧ o.getD i 0 < l.length) ∧ ∀ k, k < i → o.getD k 0 ≠ o.getD i 0 ∧ aheadB (atI l (o.getD i 0)) (atI l (o.getD k 0)) = false ∧ ¬ (0 < (atI l (o.getD k 0)).wv ∧ 0 < (atI l (o.getD i 0)).wv ∧ (atI l (o.getD i 0)).wv < (atI l (o.getD k 0)).wv)
def Doc2 (init : List Int) (l : List AtS) (o : List Int) (q : Nat) : Prop := ∀ i, i < q → fitsB (atI l (o.getD i 0)) (memA init ((o.take i).map (atI l))) = true
theorem mem_takeN {o : List Int} {q : Nat} {u : Int} (hq : q ≤ o.length) : u ∈ o.take q ↔ ∃ k, k < q ∧ o.getD k 0 = u := by
  rw [List.mem_iff_getElem]
  constructor
  · rintro ⟨k, hk, e⟩
    rw [List.length_take] at hk
    refine ⟨k, by omega, ?_⟩
    rw [List.getElem_take] at e
    rw [List.getD_eq_getElem?_getD, List.getElem?_eq_getElem (by omega)]
    exact e
  · rintro ⟨k, hk, e⟩
    refine ⟨k, by rw [List.length_take]; omega, ?_⟩
    rw [List.getElem_take]
    rw [List.getD_eq_getElem?_getD, List.getElem?_eq_getElem (by omega)] at e
    exact e
theorem doc_nodup {l : List AtS} {o : List Int} (h : Doc1 l o o.length) : o.Nodup := by
  refine List.pairwise_iff_getElem.2 fun i j hi hj hij e => ?_
  refine ((h j hj).2 i hij).1 ?_
  rw [List.getD_eq_getElem?_getD, List.getD_eq_getElem?_getD, List.getElem?_eq_getElem hi, List.getElem?_eq_getElem hj]
  exact e
theorem doc_perm {l : List AtS} {o : List Int} (h : Doc1 l o o.length) (hl : o.length = l.length) : o.Perm (plL l) := by
  refine perm_of_sub (doc_nodup h) (fun u hu => ?_) (by unfold plL; rw [List.length_map, List.length_range]; omega)
  obtain ⟨k, hk, rfl⟩ := (mem_takeN (Nat.le_refl _)).1 (by rw [List.take_length]; exact hu)
  have := (h k hk).1
  unfold plL
  exact List.mem_map.2 ⟨(o.getD k 0).toNat, List.mem_range.2 (by omega), by omega⟩
theorem doc_vord {n : Nat} {init : List Int} {l : List AtS} {o : List Int} (hM : MayP n l) (h1 : Doc1 l o o.length) (h2 : Doc2 init l o o.length) : ∀ q, q ≤ o.length → VOrd init ((o.take q).map (atI l))
  | 0, _ => ⟨.nil, .nil, fun pre u post e => by cases pre <;> cases e⟩
  | q + 1, hq => by
    rw [take_snoc (by omega), List.map_append]
    refine vord_snoc.2 ⟨doc_vord hM h1 h2 q (by omega), fun b hb => ?_, fun hw b hb hbw => ?_, h2 q (by omega)⟩
    · obtain ⟨u, hu, rfl⟩ := List.mem_map.1 hb
      obtain ⟨k, hk, rfl⟩ := (mem_takeN (by omega)).1 hu
      exact ((h1 q (by omega)).2 k hk).2.1
    · obtain ⟨u, hu, rfl⟩ := List.mem_map.1 hb
      obtain ⟨k, hk, rfl⟩ := (mem_takeN (by omega)).1 hu
      have h3 := (h1 q (by omega)).2 k hk
      have h4 := (h1 q (by omega)).1
      have h5 := (h1 k (by omega)).1
      have h6 : (atI l (o.getD q 0)).wv ≠ (atI l (o.getD k 0)).wv := may_wv hM (i := (o.getD q 0).toNat) (j := (o.getD k 0).toNat) (by omega) (by omega) (fun e => h3.1 (by omega)) (of_decide_eq_true hw)
      have h7 : 0 < (atI l (o.getD k 0)).wv := of_decide_eq_true hbw
      have h8 : 0 < (atI l (o.getD q 0)).wv := of_decide_eq_true hw
      have h9 := h3.2.2
      omega
theorem doc_valid {n : Nat} {init : List Int} {l : List AtS} {o : List Int} (hM : MayP n l) (hl : o.length = l.length) : ValidO init l o ↔ Doc1 l o o.length ∧ Doc2 init l o o.length := by
  constructor
  · intro h
    have hv : ∀ q, q < o.length → VOrd init ((o.take q).map (atI l) ++ [atI l (o.getD q 0)]) := fun q hq => (valid_at h hq).2
    have hr : ∀ q, q < o.length → 0 ≤ o.getD q 0 ∧ o.getD q 0 < l.length := fun q hq => by
      have := h.1.mem_iff.1 (getD_mem (d := 0) hq)
      unfold plL at this
      obtain ⟨i, hi, e⟩ := List.mem_map.1 this
      have := List.mem_range.1 hi
      omega
    refine ⟨fun i hi => ⟨hr i hi, fun k hk => ?_⟩, fun i hi => (vord_snoc.1 (hv i hi)).2.2.2⟩
    have hm := (mem_takeN (o := o) (q := i) (by omega)).2 ⟨k, hk, rfl⟩
    have h1 := vord_snoc.1 (hv i hi)
    refine ⟨fun e => (valid_at h hi).1 (e ▸ hm), h1.2.1 _ (List.mem_map.2 ⟨_, hm, rfl⟩), fun ⟨e1, e2, e3⟩ => ?_⟩
    have := h1.2.2.1 (decide_eq_true e2) _ (List.mem_map.2 ⟨_, hm, rfl⟩) (decide_eq_true e1)
    omega
  · rintro ⟨h1, h2⟩
    refine ⟨doc_perm h1 hl, ?_⟩
    have := doc_vord hM h1 h2 o.length (Nat.le_refl _)
    rwa [List.take_length] at this
theorem doc1_succ {l : List AtS} {o : List Int} {q : Nat} (h : Doc1 l o q) (hr : 0 ≤ o.getD q 0 ∧ o.getD q 0 < l.length) (hk : ∀ k, k < q → o.getD k 0 ≠ o.getD q 0 ∧ aheadB (atI l (o.getD q 0)) (atI l (o.getD k 0)) = false ∧ ¬ (0 < (atI l (o.getD k 0)).wv ∧ 0 < (atI l (o.getD q 0)).wv ∧ (atI l (o.getD q 0)).wv < (atI l (o.getD k 0)).wv)) : Doc1 l o (q + 1) := fun i hi => by
  rcases Nat.lt_or_ge i q with e | e
  · exact h i e
  · obtain rfl : i = q := by omega
    exact ⟨hr, hk⟩
theorem doc2_succ {init : List Int} {l : List AtS} {o : List Int} {q : Nat} (h : Doc2 init l o q) (hf : fitsB (atI l (o.getD q 0)) (memA init ((o.take q).map (atI l))) = true) : Doc2 init l o (q + 1) := fun i hi => by
  rcases Nat.lt_or_ge i q with e | e
  · exact h i e
  · obtain rfl : i = q := by omega
    exact hf
/-- What the last of some writers wrote. -/
theorem wrt_get {m : List Int} {ws : List (Int × Int)} {q : Nat} (h : q < ws.length) {n : Nat} (hm : m.length = n) {a : Int} (ha : 0 ≤ a ∧ a < n) (hw : ∀ p ∈ ws, 0 ≤ p.1 ∧ p.1 < n) :
    (wrtM m (ws.take (q + 1))).getD a.toNat 0 = if (ws.getD q (0, 0)).1 = a then (ws.getD q (0, 0)).2 else (wrtM m (ws.take q)).getD a.toNat 0 := by
  rw [wrtM_succ m h]
  have hp := hw _ (getD_mem (d := (0, 0)) h)
  have hl := wrtM_len m (ws.take q)
  rw [List.getD_eq_getElem?_getD, List.getElem?_set]
  by_cases e : (ws.getD q (0, 0)).1 = a
  · rw [if_pos (by rw [e]), if_pos e, if_pos (by omega)]
    rfl
  · rw [if_neg (by omega), if_neg e, List.getD_eq_getElem?_getD]
/-- Two places turned about; a row turned about from a place on. -/
def swapL (o : List Int) (i k : Nat) : List Int := (o.set i (o.getD k 0)).set k (o.getD i 0)
theorem swapL_len (o : List Int) (i k : Nat) : (swapL o i k).length = o.length := by unfold swapL; rw [List.length_set, List.length_set]
theorem set_getD {o : List Int} {i : Nat} (h : i < o.length) (x : Int) (j : Nat) : (o.set i x).getD j 0 = if j = i then x else o.getD j 0 := by
  rw [List.getD_eq_getElem?_getD, List.getElem?_set]
  by_cases e : i = j
  · rw [if_pos e, if_pos e.symm, if_pos h]
    rfl
  · rw [if_neg e, if_neg (fun e2 => e e2.symm), List.getD_eq_getElem?_getD]
theorem swapL_getD {o : List Int} {i k : Nat} (hi : i < o.length) (hk : k < o.length) (j : Nat) : (swapL o i k).getD j 0 = if j = k then o.getD i 0 else if j = i then o.getD k 0 else o.getD j 0 := by
  unfold swapL
  rw [set_getD (by rw [List.length_set]; exact hk), set_getD hi]
theorem swapL_cell {o : List Int} {a k : Nat} (ha : a < o.length) (hk : k < o.length) (i : Nat) (hi : i < o.length) (j : Nat) (hj : j < 1) : gset (gset (gL encI 0 o) a 0 (.int .i64 (o.getD k 0))) k 0 (.int .i64 (o.getD a 0)) i j = gL encI 0 (swapL o a k) i j := by
  obtain rfl : j = 0 := by omega
  unfold swapL
  rw [← encI_set2 (o.set a (o.getD k 0)) k (o.getD a 0) (by rw [List.length_set]; exact hk) i (by rw [List.length_set]; exact hi) 0 (by decide)]
  unfold gset
  by_cases e : i = k ∧ 0 = 0
  · rw [if_pos e, if_pos e]
  · rw [if_neg e, if_neg e]
    exact encI_set2 o a (o.getD k 0) ha i hi 0 (by decide)
def revQ (o : List Int) (p q : Nat) : List Int := (List.range o.length).map fun j => if (p ≤ j ∧ j < p + q) ∨ o.length - q ≤ j then o.getD (p + o.length - 1 - j) 0 else o.getD j 0
theorem revQ_len (o : List Int) (p q : Nat) : (revQ o p q).length = o.length := by unfold revQ; rw [List.length_map, List.length_range]
theorem revQ_getD (o : List Int) (p q : Nat) {j : Nat} (h : j < o.length) : (revQ o p q).getD j 0 = if (p ≤ j ∧ j < p + q) ∨ o.length - q ≤ j then o.getD (p + o.length - 1 - j) 0 else o.getD j 0 := by
  unfold revQ
  rw [List.getD_eq_getElem?_getD, List.getElem?_map, List.getElem?_range h]
  rfl
theorem revQ_zero (o : List Int) (p : Nat) : revQ o p 0 = o := wlist_eq (revQ_len o p 0) fun i hi => by
  rw [revQ_len] at hi
  rw [revQ_getD o p 0 hi, if_neg (by omega)]
theorem revQ_succ {o : List Int} {p q : Nat} (h : p + q < o.length - 1 - q) : swapL (revQ o p q) (p + q) (o.length - 1 - q) = revQ o p (q + 1) := by
  refine wlist_eq (by rw [swapL_len, revQ_len, revQ_len]) fun i hi => ?_
  rw [swapL_len, revQ_len] at hi
  rw [swapL_getD (by rw [revQ_len]; omega) (by rw [revQ_len]; omega), revQ_getD o p (q + 1) hi, revQ_getD o p q hi, revQ_getD o p q (by omega), revQ_getD o p q (by omega), if_neg (show ¬ ((p ≤ p + q ∧ p + q < p + q) ∨ o.length - q ≤ p + q) by omega), if_neg (show ¬ ((p ≤ o.length - 1 - q ∧ o.length - 1 - q < p + q) ∨ o.length - q ≤ o.length - 1 - q) by omega)]
  by_cases e1 : i = o.length - 1 - q
  · rw [if_pos e1, if_pos (by omega), show p + o.length - 1 - i = p + q from by omega]
  · rw [if_neg e1]
    by_cases e2 : i = p + q
    · rw [if_pos e2, if_pos (by omega), show p + o.length - 1 - i = o.length - 1 - q from by omega]
    · rw [if_neg e2]
      by_cases e3 : (p ≤ i ∧ i < p + q) ∨ o.length - q ≤ i
      · rw [if_pos e3, if_pos (by omega)]
      · rw [if_neg e3, if_neg (by omega)]
theorem revQ_all {o : List Int} {p q : Nat} (hp : p ≤ o.length) (h : o.length - 1 - q ≤ p + q) (hq : p + q ≤ o.length - q) : revQ o p q = o.take p ++ (o.drop p).reverse := by
  refine wlist_eq (by rw [revQ_len, List.length_append, List.length_take, List.length_reverse, List.length_drop]; omega) fun i hi => ?_
  rw [revQ_len] at hi
  rw [revQ_getD o p q hi, List.getD_eq_getElem?_getD (l := _ ++ _), List.getElem?_append, List.length_take, Nat.min_eq_left hp]
  by_cases e : i < p
  · rw [if_neg (by omega), if_pos e, List.getElem?_take, if_pos e, List.getD_eq_getElem?_getD]
  · rw [if_neg e, List.getElem?_reverse (by rw [List.length_drop]; omega), List.length_drop, List.getElem?_drop, ← List.getD_eq_getElem?_getD, show p + (o.length - p - 1 - (i - p)) = p + o.length - 1 - i from by omega]
    by_cases e2 : (p ≤ i ∧ i < p + q) ∨ o.length - q ≤ i
    · rw [if_pos e2]
    · rw [if_neg e2, show p + o.length - 1 - i = i from by omega]
theorem getD_drop (o : List Int) (p j : Nat) : (o.drop p).getD j 0 = o.getD (p + j) 0 := by
  rw [List.getD_eq_getElem?_getD, List.getElem?_drop, ← List.getD_eq_getElem?_getD]
theorem drop_cons {o : List Int} {p : Nat} (h : p < o.length) : o.drop p = o.getD p 0 :: o.drop (p + 1) := by
  rw [List.drop_eq_getElem_cons h, List.getD_eq_getElem?_getD, List.getElem?_eq_getElem h]
  rfl
theorem mem_drop_at {o : List Int} {p : Nat} {u : Int} (h : u ∈ o.drop p) : ∃ j, p ≤ j ∧ j < o.length ∧ o.getD j 0 = u := by
  obtain ⟨k, hk, e⟩ := List.mem_iff_getElem.1 h
  rw [List.length_drop] at hk
  refine ⟨p + k, by omega, by omega, ?_⟩
  rw [List.getElem_drop] at e
  rw [List.getD_eq_getElem?_getD, List.getElem?_eq_getElem (by omega)]
  exact e
theorem desc_cons {o : List Int} {p : Nat} (hp : 1 ≤ p) (hpl : p < o.length) (hd : (o.drop p).Pairwise (fun a b => b < a)) (h : o.getD p 0 < o.getD (p - 1) 0) : (o.drop (p - 1)).Pairwise (fun a b => b < a) := by
  rw [drop_cons (show p - 1 < o.length by omega), show p - 1 + 1 = p from by omega]
  refine List.pairwise_cons.2 ⟨fun u hu => ?_, hd⟩
  rw [drop_cons hpl] at hd hu
  rcases List.mem_cons.1 hu with e | e
  · omega
  · have := (List.pairwise_cons.1 hd).1 u e
    omega
theorem nodup_getD {o : List Int} (hn : o.Nodup) {i j : Nat} (hi : i < o.length) (hj : j < o.length) (hij : i ≠ j) : o.getD i 0 ≠ o.getD j 0 := by
  rw [List.getD_eq_getElem?_getD, List.getD_eq_getElem?_getD, List.getElem?_eq_getElem hi, List.getElem?_eq_getElem hj]
  intro e
  exact hij ((List.getElem_inj hn).1 e)
theorem next_of {o : List Int} {p k : Nat} (hn : o.Nodup) (hp : 1 ≤ p) (hd : (o.drop p).Pairwise (fun a b => b < a)) (hpk : p ≤ k) (hk : k < o.length)
    (hB : ∀ j, k < j → j < o.length → o.getD j 0 < o.getD (p - 1) 0) (hy : ¬ o.getD k 0 < o.getD (p - 1) 0) : NextP o ((swapL o (p - 1) k).take p ++ ((swapL o (p - 1) k).drop p).reverse) := by
  have hne := nodup_getD hn (show p - 1 < o.length by omega) hk (by omega)
  have hB2 : ∀ u ∈ o.drop (k + 1), u < o.getD (p - 1) 0 := fun u hu => by
    obtain ⟨j, h1, h2, rfl⟩ := mem_drop_at hu
    exact hB j (by omega) h2
  have e1 : o.drop p = (o.drop p).take (k - p) ++ o.getD k 0 :: o.drop (k + 1) := by
    rw [← drop_cons hk]
    conv => lhs; rw [← List.take_append_drop (k - p) (o.drop p)]
    rw [List.drop_drop, show p + (k - p) = k from by omega]
  have e2 : o = o.take (p - 1) ++ o.getD (p - 1) 0 :: ((o.drop p).take (k - p) ++ o.getD k 0 :: o.drop (k + 1)) := by
    rw [← e1]
    conv => rhs; rw [show o.drop p = o.drop (p - 1 + 1) from by rw [show p - 1 + 1 = p from by omega], ← drop_cons (show p - 1 < o.length by omega), List.take_append_drop]
  rw [e1] at hd
  have l1 : (o.take (p - 1)).length = p - 1 := by rw [List.length_take]; omega
  have l2 : ((o.drop p).take (k - p)).length = k - p := by rw [List.length_take, List.length_drop]; omega
  have hy2 : o.getD (p - 1) 0 < o.getD k 0 := by omega
  unfold swapL
  generalize o.getD (p - 1) 0 = x at *
  generalize o.getD k 0 = y at *
  generalize (o.drop p).take (k - p) = A at *
  generalize o.drop (k + 1) = B at *
  generalize o.take (p - 1) = pre at *
  refine ⟨pre, x, A, y, B, e2, hd, hy2, hB2, ?_⟩
  have e3 : o.set (p - 1) y = pre ++ y :: (A ++ y :: B) := by
    rw [e2, List.set_append_right _ _ (by omega), l1, Nat.sub_self]
    rfl
  have e4 : (o.set (p - 1) y).set k x = pre ++ y :: (A ++ x :: B) := by
    rw [e3, List.set_append_right _ _ (by omega), l1, show k - (p - 1) = (k - p) + 1 from by omega, List.set_cons_succ, List.set_append_right _ _ (by omega), l2, Nat.sub_self]
    rfl
  rw [e4]
  have e5 : pre ++ y :: (A ++ x :: B) = (pre ++ [y]) ++ (A ++ x :: B) := by simp
  have l3 : (pre ++ [y]).length = p := by simp; omega
  rw [e5, List.take_left' l3, List.drop_left' l3]
  simp
end Go.Proofs.Ytciehimnhnbipaa
namespace Go.Proofs.Ytciehimnhnbipaa
open Go.RowKit Go.Lib
set_option linter.unusedVariables false
set_option linter.unusedSimpArgs false
set_option maxHeartbeats 16000000
set_option maxRecDepth 100000
section
variable {ao : Option Addr} {co : Nat} {o : List Int} {w0 : World}
theorem rnext_at (hn : o.Nodup) (hlen : o.length ≤ 1000) (ho : (slL ao co 1 encI 0 o).holds w0) :
    Calls Try.prog 35 #[.slice ao o.length co] w0 fun e w' => ∃ v r, ∃ b : Bool, e = .returned (.tuple #[v, .bool b]) ∧ NewRow w0 w' 3 1 encI 0 r v ∧ (b = false → o.Pairwise (fun a b => b < a)) ∧ (b = true → NextP o r) ∧ Below w0.heap.size w0 w' := by
  have S := (Sat.start (fun _ => False) w0).ro (r := slL ao co 1 encI 0 o) ho rfl rfl
  refine enter2 Try.func35 rfl Try.ntmps35 rfl Try.results35 ?_
  repeat' (first | refine assign_i_l S rfl rfl ?_ | refine move_s_l S rfl rfl ?_ | refine nilL ?_ | refine run_seq ?_ | refine run_region ?_ | refine sub_l S rfl rfl (wrap_in (by omega)) rfl ?_ | refine assign_s_l S rfl rfl ?_ | refine assign_b_l S rfl rfl ?_ | refine len_l S rfl rfl ?_ | (refine buildSliceN_l S (vs := []) rfl rfl rfl rfl rfl rfl ?_; clear S; intro b w S) | (refine append0_l S rfl rfl (by omega) rfl ?_; clear S; intro a' cap' w S) | refine run_block ?_ | refine thenQ_n ?_)
  refine run_while [15, 16, 17, 18, 19, 20, 21, 22, 23, 24, 25, 26, 27, 28, 29, 30] (fun (i : Int) t => upd t 5 (.int .i64 i)) (fun i w' => (-2 ≤ i ∧ i ≤ (o.length : Int) - 2 ∧ (i = -2 → o.length = 0) ∧ (o.drop (i + 1).toNat).Pairwise (fun a b => b < a)) ∧ Sat (fun _ => False) w0 w' [rowL a' cap' 3 1 encI 0 o]) (fun i => (i + 2).toNat) ((o.length : Int) - 2) ?_ ?_ ?_
  · (repeat (first | exact agree_refl | refine agree_r rfl ?_ | refine agree_l rfl ?_ | refine agree_hv rfl ?_))
  · refine ⟨⟨by omega, Int.le_refl _, fun h => by omega, ?_⟩, S.sub⟩
    have hl : (o.drop ((o.length : Int) - 2 + 1).toNat).length ≤ 1 := by rw [List.length_drop]; omega
    generalize o.drop ((o.length : Int) - 2 + 1).toNat = z at hl ⊢
    match z, hl with
    | [], _ => exact .nil
    | [x], _ => exact List.pairwise_singleton ..
  clear S
  rintro i j w ⟨⟨hi0, hi1, hi2, hd⟩, S⟩
  by_cases hi : 0 ≤ i
  · obtain ⟨ip, rfl⟩ : ∃ ip : Nat, i = ip := ⟨i.toNat, by omega⟩
    rw [show ((ip : Int) + 1).toNat = ip + 1 from by omega] at hd
    repeat' (first | refine assign_i_l S rfl rfl ?_ | refine move_i_l S rfl rfl ?_ | refine move_s_l S rfl rfl ?_ | refine nilL ?_ | refine run_seq ?_ | refine run_skip ?_ | refine run_region ?_ | refine sub_l S rfl rfl (wrap_in (by omega)) rfl ?_ | refine len_l S rfl rfl ?_ | (refine lss_l S rfl rfl rfl ?_ ?_ <;> intro hcmp <;> try (exfalso; first | omega | exact hcmp (by decide) | exact absurd hcmp (by decide))) | refine run_block ?_ | refine run_exit ?_ | refine run_cond_true rfl ?_ | refine run_cond_false rfl ?_ | refine thenQ_n ?_ | refine thenQ_e ?_ | refine blockQ_n ?_ | refine blockQ_s rfl ?_ | (refine run_draws (id := 3) S mixed ?_ ?_; · kernel_rfl) | (refine nilQ ?_; clear S; intro w S) | refine onQ rfl rfl ?_ | refine move_i_q rfl rfl ?_ | (refine geq_q rfl rfl rfl ?_ ?_ <;> intro hcmp <;> try (exfalso; first | omega | exact hcmp (by decide) | exact absurd hcmp (by decide))) | refine move_b_q rfl rfl ?_ | refine move_s_q rfl rfl ?_ | refine indexAddr_q rfl rfl (idx_cast _) (by first | omega | decide | (simp; done) | (simp; omega)) rfl ?_ | refine loadE_i_q rfl (by first | omega | decide | (simp; done) | (simp; omega)) rfl rfl rfl ?_ | refine add_q rfl rfl (wrap_in (by omega)) rfl ?_ | (refine gtr_q rfl rfl rfl ?_ ?_ <;> intro hcmp <;> try (exfalso; first | omega | exact hcmp (by decide) | exact absurd hcmp (by decide))) | refine pick_tb_q rfl rfl rfl ?_)
    rotate_left
    · have hle : ¬ o.getD (ip + 1) 0 < o.getD ip 0 := by omega
      clear hcmp
      refine run_while [37, 38, 39, 40, 41, 42, 43, 44, 45, 46, 47] (fun (k : Int) t => upd t 6 (.int .i64 k)) (fun k w' => (((ip : Int) + 1 ≤ k ∧ k ≤ (o.length : Int) - 1) ∧ ∀ j : Nat, k < j → j < o.length → o.getD j 0 < o.getD ip 0) ∧ Sat (fun _ => False) w0 w' [rowL a' cap' 3 1 encI 0 o]) (fun k => k.toNat) ((o.length : Int) - 1) ?_ ?_ ?_
      · (repeat (first | exact agree_refl | refine agree_r rfl ?_ | refine agree_l rfl ?_ | refine agree_hv rfl ?_))
      · exact ⟨⟨⟨by omega, Int.le_refl _⟩, fun j h1 h2 => by omega⟩, S.sub⟩
      clear S
      rintro k j2 w ⟨⟨⟨hk0, hk1⟩, hB⟩, S⟩
      obtain ⟨kp, rfl⟩ : ∃ kp : Nat, k = kp := ⟨k.toNat, by omega⟩
      repeat' (first | refine assign_i_l S rfl rfl ?_ | refine move_i_l S rfl rfl ?_ | refine nilL ?_ | refine run_seq ?_ | refine run_skip ?_ | refine run_region ?_ | refine sub_l S rfl rfl (wrap_in (by omega)) rfl ?_ | refine run_block ?_ | refine run_exit ?_ | refine run_cond_true rfl ?_ | refine run_cond_false rfl ?_ | refine thenQ_n ?_ | refine thenQ_e ?_ | refine blockQ_n ?_ | refine blockQ_s rfl ?_ | (refine run_draws (id := 8) S mixed ?_ ?_; · kernel_rfl) | (refine nilQ ?_; clear S; intro w S) | refine move_i_q rfl rfl ?_ | refine move_s_q rfl rfl ?_ | refine indexAddr_q rfl rfl (idx_cast _) (by first | omega | decide | (simp; done) | (simp; omega)) rfl ?_ | refine loadE_i_q rfl (by first | omega | decide | (simp; done) | (simp; omega)) rfl rfl rfl ?_ | (refine lss_q rfl rfl rfl ?_ ?_ <;> intro hcmp <;> try (exfalso; first | omega | exact hcmp (by decide) | exact absurd hcmp (by decide))))
      · refine ⟨(kp : Int) - 1, ?_, ⟨⟨⟨?_, by omega⟩, fun j h1 h2 => ?_⟩, S.sub⟩, by omega⟩
        · (repeat (first | exact agree_refl | refine agree_r rfl ?_ | refine agree_l rfl ?_ | refine agree_hv rfl ?_))
        · by_cases e : kp = ip + 1
          · subst e
            omega
          · omega
        · by_cases e : j = kp
          · subst e
            exact hcmp
          · exact hB j (by omega) h2
      · have hnx := next_of (k := kp) hn (show 1 ≤ ip + 1 by omega) hd (by omega) (by omega) (fun j h1 h2 => hB j (by omega) h2) hcmp
        have hil : ip < o.length := by omega
        have hkl : kp < o.length := by omega
        obtain ⟨base, hbase⟩ : ∃ x, swapL o ip kp = x := ⟨_, rfl⟩
        have hbl : base.length = o.length := by rw [← hbase, swapL_len]
        rw [Nat.add_sub_cancel, hbase] at hnx
        refine run_anyB_at (c := 13) (f := 16) (L' := [rowL a' cap' 3 1 encI 0 o]) [48, 49, 50, 51, 52, 53, 54, 55, 56, 57, 58, 59, 60, 61] (fun (_ : Unit) t => upd t 4 (.slice a' base.length cap')) (fun _ w' => Sat (fun _ => False) w0 w' [rowL a' cap' 3 1 encI 0 base]) S mixed rfl ?_ ?_
        · clear S
          intro w S1
          have S : Sat _ _ w [rowL a' cap' 3 1 encI 0 o] := S1.sub
          have hcell : ∀ i, i < o.length → ∀ j, j < 1 → gset (gset (gL encI 0 o) ip 0 (.int .i64 (o.getD kp 0))) kp 0 (.int .i64 (o.getD ip 0)) i j = gL encI 0 base i j := fun i hi j hj => by rw [← hbase]; exact swapL_cell hil hkl i hi j hj
          clear hnx hB hd hle
          (refine anyB_chain (i := 0) [13] rfl (by kernel_rfl) S ?_; refine move_s_x rfl rfl ?_)
          (refine anyB_chain (i := 1) [13] rfl (by kernel_rfl) S ?_; refine move_i_x rfl rfl ?_)
          (refine anyB_chain (i := 4) [13] rfl (by kernel_rfl) S ?_; refine move_s_x rfl rfl ?_)
          (refine anyB_chain (i := 5) [13] rfl (by kernel_rfl) S ?_; refine move_i_x rfl rfl ?_)
          (refine anyB_chain (i := 6) [13] rfl (by kernel_rfl) S ?_; (first | refine indexAddr_x rfl rfl (idx_cast _) (by first | omega | decide | (simp; done) | (simp; omega)) rfl ?_ | refine indexAddr_x rfl rfl (idx_eq _) (by first | omega | decide | (simp; done) | (simp; omega)) rfl ?_))
          (refine anyB_chain (i := 7) [13] rfl (by kernel_rfl) S ?_; (first | refine load_i_x rfl rfl rfl rfl ?_ | refine load_o_x rfl rfl rfl rfl ?_ | refine loadE_i_x rfl (by first | omega | decide | (simp; done) | (simp; omega)) rfl rfl rfl ?_ | refine loadE_o_x rfl (by first | omega | decide | (simp; done) | (simp; omega)) rfl rfl rfl ?_))
          (refine anyB_chain (i := 8) [10, 11, 13] rfl (by kernel_rfl) S ?_; refine move_s_x rfl rfl ?_)
          (refine anyB_chain (i := 9) [10, 11, 13] rfl (by kernel_rfl) S ?_; refine move_i_x rfl rfl ?_)
          (refine anyB_chain (i := 10) [11, 13] rfl (by kernel_rfl) S ?_; (first | refine indexAddr_x rfl rfl (idx_cast _) (by first | omega | decide | (simp; done) | (simp; omega)) rfl ?_ | refine indexAddr_x rfl rfl (idx_eq _) (by first | omega | decide | (simp; done) | (simp; omega)) rfl ?_))
          (refine anyB_chain (i := 11) [13] rfl (by kernel_rfl) S ?_; (first | refine load_i_x rfl rfl rfl rfl ?_ | refine load_o_x rfl rfl rfl rfl ?_ | refine loadE_i_x rfl (by first | omega | decide | (simp; done) | (simp; omega)) rfl rfl rfl ?_ | refine loadE_o_x rfl (by first | omega | decide | (simp; done) | (simp; omega)) rfl rfl rfl ?_))
          (refine anyB_chain (i := 12) [13] rfl (by kernel_rfl) S ?_; (first | refine indexAddr_x rfl rfl (idx_cast _) (by first | omega | decide | (simp; done) | (simp; omega)) rfl ?_ | refine indexAddr_x rfl rfl (idx_eq _) (by first | omega | decide | (simp; done) | (simp; omega)) rfl ?_))
          (refine anyB_free (i := 2) rfl (by kernel_rfl) (fun _ => S) ?_; (first | refine move0 (v := .int _ _) rfl rfl ?_ | refine move0 (v := .slice _ _ _) rfl rfl ?_ | refine move0 rfl rfl ?_ | refine add0 rfl rfl (wrap_in (by omega)) rfl ?_ | refine sub0 rfl rfl (wrap_in (by omega)) rfl ?_))
          (refine anyB_free (i := 3) rfl (by kernel_rfl) (fun _ => S) ?_; (first | refine move0 (v := .int _ _) rfl rfl ?_ | refine move0 (v := .slice _ _ _) rfl rfl ?_ | refine move0 rfl rfl ?_ | refine add0 rfl rfl (wrap_in (by omega)) rfl ?_ | refine sub0 rfl rfl (wrap_in (by omega)) rfl ?_))
          refine anyB_all (l := [13]) (by kernel_rfl) (by decide) ?_
          intro i hi
          simp only [List.mem_cons, List.not_mem_nil, or_false] at hi
          subst hi
          (refine ⟨_, rfl, ?_⟩; replace S := S1; clear S1; (first | (refine store_i S rfl rfl rfl ?_; clear S; intro w S) | (refine storeE_i S rfl rfl (by omega) rfl ?_; clear S; intro w S)); refine nilL ?_; refine ⟨nope (by kernel_rfl), ?_⟩; have S1 := S)
          refine anyB_all (l := [14]) (by kernel_rfl) (by decide) ?_
          intro i hi
          simp only [List.mem_cons, List.not_mem_nil, or_false] at hi
          subst hi
          (refine ⟨_, rfl, ?_⟩; replace S := S1; clear S1; (first | refine indexAddr_l S rfl rfl (idx_cast _) (by first | omega | decide | (simp; done) | (simp; omega)) rfl ?_ | refine indexAddr_l S rfl rfl (idx_eq _) (by first | omega | decide | (simp; done) | (simp; omega)) rfl ?_); refine nilL ?_; refine ⟨nope (by kernel_rfl), ?_⟩; have S1 := S)
          refine anyB_all (l := [15]) (by kernel_rfl) (by decide) ?_
          intro i hi
          simp only [List.mem_cons, List.not_mem_nil, or_false] at hi
          subst hi
          (refine ⟨_, rfl, ?_⟩; replace S := S1; clear S1; (first | (refine store_i S rfl rfl rfl ?_; clear S; intro w S) | (refine storeE_i S rfl rfl (by omega) rfl ?_; clear S; intro w S)); refine nilL ?_; refine ⟨nope (by kernel_rfl), ?_⟩; have S1 := S)
          refine anyB_end (by kernel_rfl) ?_
          exact ⟨(), (by rw [hbl]; (repeat (first | exact agree_refl | refine agree_r rfl ?_ | refine agree_l rfl ?_ | refine agree_hv rfl ?_))), (S1.turn1 (r' := rowL a' cap' 3 1 encI 0 base) (by show RowOk _ _ base.length _ _ _ _; rw [hbl]; exact RowOk.congr S1.got1 (fun i hi j hj => hcell i hi j hj)) rfl (fun k e => e)).sub⟩
        clear S
        rintro _ j3 w S
        repeat' (first | refine assign_i_l S rfl rfl ?_ | refine move_i_l S rfl rfl ?_ | refine move_s_l S rfl rfl ?_ | refine nilL ?_ | refine run_seq ?_ | refine run_region ?_ | refine sub_l S rfl rfl (wrap_in (by omega)) rfl ?_ | refine len_l S rfl rfl ?_ | refine add_l S rfl rfl (wrap_in (by omega)) rfl ?_ | refine run_block ?_ | refine thenQ_n ?_)
        refine run_while [67, 68, 69, 70, 71, 72, 73, 74, 75, 76, 77, 78, 79, 80, 81, 82, 83, 84, 85, 86, 87] (fun (s : Nat × Int × Int × List Int) t => upd (upd (upd t 4 (.slice a' s.2.2.2.length cap')) 8 (.int .i64 s.2.2.1)) 7 (.int .i64 s.2.1)) (fun s w' => ((s.2.1 = (ip : Int) + 1 + (s.1 : Nat) ∧ s.2.2.1 = (base.length : Int) - 1 - (s.1 : Nat)) ∧ ip + 1 + s.1 ≤ base.length - s.1 ∧ s.2.2.2 = revQ base (ip + 1) s.1) ∧ Sat (fun _ => False) w0 w' [rowL a' cap' 3 1 encI 0 s.2.2.2]) (fun s => base.length - s.1) (0, (ip : Int) + 1, (base.length : Int) - 1, base) ?_ ?_ ?_
        · (repeat (first | exact agree_refl | refine agree_r rfl ?_ | refine agree_l rfl ?_ | refine agree_hv rfl ?_))
        · exact ⟨⟨⟨by simp, by simp⟩, by simp only; omega, (revQ_zero _ _).symm⟩, S⟩
        clear S
        rintro ⟨q, x, y, cur⟩ j4 w ⟨⟨⟨hx, hy⟩, hq, hcur⟩, S⟩
        replace hx : x = (ip : Int) + 1 + (q : Nat) := hx
        replace hy : y = (base.length : Int) - 1 - (q : Nat) := hy
        replace hq : ip + 1 + q ≤ base.length - q := hq
        replace hcur : cur = revQ base (ip + 1) q := hcur
        replace S : Sat (fun _ => False) w0 w [rowL a' cap' 3 1 encI 0 cur] := S
        dsimp only
        have hcl : cur.length = base.length := by rw [hcur, revQ_len]
        by_cases hxy : x < y
        · obtain ⟨xp, hxp⟩ : ∃ xp : Nat, xp = ip + 1 + q := ⟨_, rfl⟩
          obtain ⟨yp, hyp⟩ : ∃ yp : Nat, yp = base.length - 1 - q := ⟨_, rfl⟩
          obtain rfl : x = (xp : Int) := by omega
          obtain rfl : y = (yp : Int) := by omega
          have hxl : xp < cur.length := by omega
          have hyl : yp < cur.length := by omega
          repeat' (first | refine move_i_l S rfl rfl ?_ | refine nilL ?_ | refine run_seq ?_ | refine run_skip ?_ | refine run_region ?_ | (refine lss_l S rfl rfl rfl ?_ ?_ <;> intro hcmp <;> try (exfalso; first | omega | exact hcmp (by decide) | exact absurd hcmp (by decide))) | refine run_block ?_ | refine run_cond_true rfl ?_ | refine thenQ_n ?_)
          refine run_anyB_at (c := 13) (f := 16) (L' := [rowL a' cap' 3 1 encI 0 cur]) [74, 75, 76, 77, 78, 79, 80, 81, 82, 83, 84, 85, 86, 87] (fun (_ : Unit) t => upd t 4 (.slice a' (swapL cur xp yp).length cap')) (fun _ w' => Sat (fun _ => False) w0 w' [rowL a' cap' 3 1 encI 0 (swapL cur xp yp)]) S mixed rfl ?_ ?_
          · clear S
            intro w S1
            have S : Sat _ _ w [rowL a' cap' 3 1 encI 0 cur] := S1.sub
            clear hnx hB hd hle
            (refine anyB_chain (i := 0) [13] rfl (by kernel_rfl) S ?_; refine move_s_x rfl rfl ?_)
            (refine anyB_chain (i := 1) [13] rfl (by kernel_rfl) S ?_; refine move_i_x rfl rfl ?_)
            (refine anyB_chain (i := 4) [13] rfl (by kernel_rfl) S ?_; refine move_s_x rfl rfl ?_)
            (refine anyB_chain (i := 5) [13] rfl (by kernel_rfl) S ?_; refine move_i_x rfl rfl ?_)
            (refine anyB_chain (i := 6) [13] rfl (by kernel_rfl) S ?_; (first | refine indexAddr_x rfl rfl (idx_cast _) (by first | omega | decide | (simp; done) | (simp; omega)) rfl ?_ | refine indexAddr_x rfl rfl (idx_eq _) (by first | omega | decide | (simp; done) | (simp; omega)) rfl ?_))
            (refine anyB_chain (i := 7) [13] rfl (by kernel_rfl) S ?_; (first | refine load_i_x rfl rfl rfl rfl ?_ | refine load_o_x rfl rfl rfl rfl ?_ | refine loadE_i_x rfl (by first | omega | decide | (simp; done) | (simp; omega)) rfl rfl rfl ?_ | refine loadE_o_x rfl (by first | omega | decide | (simp; done) | (simp; omega)) rfl rfl rfl ?_))
            (refine anyB_chain (i := 8) [10, 11, 13] rfl (by kernel_rfl) S ?_; refine move_s_x rfl rfl ?_)
            (refine anyB_chain (i := 9) [10, 11, 13] rfl (by kernel_rfl) S ?_; refine move_i_x rfl rfl ?_)
            (refine anyB_chain (i := 10) [11, 13] rfl (by kernel_rfl) S ?_; (first | refine indexAddr_x rfl rfl (idx_cast _) (by first | omega | decide | (simp; done) | (simp; omega)) rfl ?_ | refine indexAddr_x rfl rfl (idx_eq _) (by first | omega | decide | (simp; done) | (simp; omega)) rfl ?_))
            (refine anyB_chain (i := 11) [13] rfl (by kernel_rfl) S ?_; (first | refine load_i_x rfl rfl rfl rfl ?_ | refine load_o_x rfl rfl rfl rfl ?_ | refine loadE_i_x rfl (by first | omega | decide | (simp; done) | (simp; omega)) rfl rfl rfl ?_ | refine loadE_o_x rfl (by first | omega | decide | (simp; done) | (simp; omega)) rfl rfl rfl ?_))
            (refine anyB_chain (i := 12) [13] rfl (by kernel_rfl) S ?_; (first | refine indexAddr_x rfl rfl (idx_cast _) (by first | omega | decide | (simp; done) | (simp; omega)) rfl ?_ | refine indexAddr_x rfl rfl (idx_eq _) (by first | omega | decide | (simp; done) | (simp; omega)) rfl ?_))
            (refine anyB_free (i := 2) rfl (by kernel_rfl) (fun _ => S) ?_; (first | refine move0 (v := .int _ _) rfl rfl ?_ | refine move0 (v := .slice _ _ _) rfl rfl ?_ | refine move0 rfl rfl ?_ | refine add0 rfl rfl (wrap_in (by omega)) rfl ?_ | refine sub0 rfl rfl (wrap_in (by omega)) rfl ?_))
            (refine anyB_free (i := 3) rfl (by kernel_rfl) (fun _ => S) ?_; (first | refine move0 (v := .int _ _) rfl rfl ?_ | refine move0 (v := .slice _ _ _) rfl rfl ?_ | refine move0 rfl rfl ?_ | refine add0 rfl rfl (wrap_in (by omega)) rfl ?_ | refine sub0 rfl rfl (wrap_in (by omega)) rfl ?_))
            refine anyB_all (l := [13]) (by kernel_rfl) (by decide) ?_
            intro i hi
            simp only [List.mem_cons, List.not_mem_nil, or_false] at hi
            subst hi
            (refine ⟨_, rfl, ?_⟩; replace S := S1; clear S1; (first | (refine store_i S rfl rfl rfl ?_; clear S; intro w S) | (refine storeE_i S rfl rfl (by omega) rfl ?_; clear S; intro w S)); refine nilL ?_; refine ⟨nope (by kernel_rfl), ?_⟩; have S1 := S)
            refine anyB_all (l := [14]) (by kernel_rfl) (by decide) ?_
            intro i hi
            simp only [List.mem_cons, List.not_mem_nil, or_false] at hi
            subst hi
            (refine ⟨_, rfl, ?_⟩; replace S := S1; clear S1; (first | refine indexAddr_l S rfl rfl (idx_cast _) (by first | omega | decide | (simp; done) | (simp; omega)) rfl ?_ | refine indexAddr_l S rfl rfl (idx_eq _) (by first | omega | decide | (simp; done) | (simp; omega)) rfl ?_); refine nilL ?_; refine ⟨nope (by kernel_rfl), ?_⟩; have S1 := S)
            refine anyB_all (l := [15]) (by kernel_rfl) (by decide) ?_
            intro i hi
            simp only [List.mem_cons, List.not_mem_nil, or_false] at hi
            subst hi
            (refine ⟨_, rfl, ?_⟩; replace S := S1; clear S1; (first | (refine store_i S rfl rfl rfl ?_; clear S; intro w S) | (refine storeE_i S rfl rfl (by omega) rfl ?_; clear S; intro w S)); refine nilL ?_; refine ⟨nope (by kernel_rfl), ?_⟩; have S1 := S)
            refine anyB_end (by kernel_rfl) ?_
            exact ⟨(), (by rw [swapL_len]; (repeat (first | exact agree_refl | refine agree_r rfl ?_ | refine agree_l rfl ?_ | refine agree_hv rfl ?_))), (S1.turn1 (r' := rowL a' cap' 3 1 encI 0 (swapL cur xp yp)) (by show RowOk _ _ (swapL cur xp yp).length _ _ _ _; rw [swapL_len]; exact RowOk.congr S1.got1 (fun i hi j hj => swapL_cell hxl hyl i hi j hj)) rfl (fun k e => e)).sub⟩
          clear S
          rintro _ j5 w S
          repeat' (first | refine assign_i_l S rfl rfl ?_ | refine move_i_l S rfl rfl ?_ | refine nilL ?_ | refine run_region ?_ | refine sub_l S rfl rfl (wrap_in (by omega)) rfl ?_ | refine add_l S rfl rfl (wrap_in (by omega)) rfl ?_ | refine thenQ_n ?_ | refine blockQ_n ?_)
          refine ⟨(q + 1, (xp : Int) + 1, (yp : Int) - 1, swapL cur xp yp), ?_, ⟨⟨⟨by simp only; omega, by simp only; omega⟩, by simp only; omega, ?_⟩, S⟩, by simp only; omega⟩
          · (repeat (first | exact agree_refl | refine agree_r rfl ?_ | refine agree_l rfl ?_ | refine agree_hv rfl ?_))
          · show swapL cur xp yp = revQ base (ip + 1) (q + 1)
            rw [hcur, hxp, hyp]
            exact revQ_succ (by omega)
        · repeat' (first | refine move_i_l S rfl rfl ?_ | refine move_s_l S rfl rfl ?_ | refine nilL ?_ | refine run_seq ?_ | refine run_region ?_ | refine assign_s_l S rfl rfl ?_ | refine assign_b_l S rfl rfl ?_ | (refine lss_l S rfl rfl rfl ?_ ?_ <;> intro hcmp <;> try (exfalso; first | omega | exact hcmp (by decide) | exact absurd hcmp (by decide))) | refine run_ret ?_ | refine run_exit ?_ | refine run_cond_false rfl ?_ | refine thenQ_n ?_ | refine thenQ_e ?_ | refine blockQ_s rfl ?_ | refine ret2_sb rfl rfl ?_)
          rw [revQ_all (by omega) (by omega) hq] at hcur
          exact ⟨_, cur, true, rfl, S.newRow, fun h => (by cases h), fun _ => by rw [hcur]; exact hnx, S.chg.below⟩
    · have hlt : o.getD (ip + 1) 0 < o.getD ip 0 := by omega
      have hd2 := desc_cons (p := ip + 1) (by omega) (by omega) hd hlt
      rw [Nat.add_sub_cancel] at hd2
      refine ⟨(ip : Int) - 1, ?_, ⟨⟨by omega, by omega, by omega, ?_⟩, S.sub⟩, by omega⟩
      · (repeat (first | exact agree_refl | refine agree_r rfl ?_ | refine agree_l rfl ?_ | refine agree_hv rfl ?_))
      · rw [show ((ip : Int) - 1 + 1).toNat = ip from by omega]
        exact hd2
  · repeat' (first | refine move_i_l S rfl rfl ?_ | refine move_s_l S rfl rfl ?_ | refine nilL ?_ | refine run_seq ?_ | refine run_region ?_ | refine assign_s_l S rfl rfl ?_ | refine assign_b_l S rfl rfl ?_ | (refine lss_l S rfl rfl rfl ?_ ?_ <;> intro hcmp <;> try (exfalso; first | omega | exact hcmp (by decide) | exact absurd hcmp (by decide))) | refine run_ret ?_ | refine run_exit ?_ | refine run_cond_true rfl ?_ | refine run_cond_false rfl ?_ | refine thenQ_n ?_ | refine thenQ_r ?_ | refine thenQ_e ?_ | refine blockQ_s rfl ?_ | (refine run_draws (id := 3) S mixed ?_ ?_; · kernel_rfl) | (refine nilQ ?_; clear S; intro w S) | refine offQ rfl rfl rfl rfl ?_ | refine move_i_q rfl rfl ?_ | (refine geq_q rfl rfl rfl ?_ ?_ <;> intro hcmp <;> try (exfalso; first | omega | exact hcmp (by decide) | exact absurd hcmp (by decide))) | refine move_b_q rfl rfl ?_ | refine pick_fb_q rfl rfl rfl ?_ | refine ret2_sb rfl rfl ?_)
    exact ⟨_, o, false, rfl, S.newRow, fun _ => by
      rw [show (i + 1).toNat = 0 from by omega] at hd
      exact hd, fun h => (by cases h), S.chg.below⟩
end
end Go.Proofs.Ytciehimnhnbipaa
namespace Go.Proofs.Ytciehimnhnbipaa
open Go.RowKit Go.Lib
set_option linter.unusedVariables false
set_option linter.unusedSimpArgs false
set_option maxHeartbeats 16000000
set_option maxRecDepth 100000
theorem farB_t {n : Nat} {p : Int × Int} (h : p.1 < 0 ∨ (n : Int) ≤ p.1) : farB n p = true := by
  unfold farB
  rw [Bool.or_eq_true, decide_eq_true_iff, decide_eq_true_iff]
  exact h
theorem farB_f {n : Nat} {p : Int × Int} (h : 0 ≤ p.1) (h' : p.1 < n) : farB n p = false := by
  unfold farB
  rw [decide_eq_false (by omega), decide_eq_false (by omega)]
  rfl
theorem rwithin_at {a : Option Addr} {cap : Nat} (n : Nat) (ps : List (Int × Int)) (w0 : World) (h : SlOk w0 a ps.length cap 2 (gL encPr (0, 0) ps)) :
    Calls Try.prog 53 #[.slice a ps.length cap, .int .i64 (n : Nat)] w0 fun e w' => e = .returned (.bool (!ps.any (farB n))) ∧ Below w0.heap.size w0 w' := by
  have hm := h.small
  have S := Sat.reads (r := slL a cap 2 encPr (0, 0) ps) h
  refine enter1 Try.func53 rfl Try.ntmps53 rfl Try.results53 ?_
  repeat' (first | refine assign_b_l S rfl rfl ?_ | refine nilL ?_ | refine run_seq ?_ | refine run_region ?_ | refine assign_i_l S rfl rfl ?_ | refine run_block ?_ | refine thenQ_n ?_)
  refine run_while [4, 6, 7, 8, 9, 10, 11, 12, 13, 14, 15, 16, 17, 18, 19, 20, 21, 22, 23, 24, 25, 26] (fun (q : Nat) t => upd t 5 (.int .i64 q)) (fun q w' => q ≤ ps.length ∧ (ps.take q).any (farB n) = false ∧ Sat (fun _ => False) w0 w' [roR (slL a cap 2 encPr (0, 0) ps)]) (fun q => ps.length - q) 0 ?_ ?_ ?_
  · (repeat (first | exact agree_refl | refine agree_r rfl ?_ | refine agree_l rfl ?_ | refine agree_hv rfl ?_))
  · exact ⟨Nat.zero_le _, rfl, S⟩
  clear S
  rintro q j w ⟨hq, hn, S⟩
  by_cases hql : q < ps.length
  · have hsucc := any_take_succG (p := farB n) (d := (0, 0)) (l := ps) hql
    rw [hn] at hsucc
    have hmem := getD_mem (d := (0, 0)) hql
    have hall : farB n (ps.getD q (0, 0)) = true → ps.any (farB n) = true := fun h => List.any_eq_true.2 ⟨_, hmem, h⟩
    repeat' (first | refine move_i_l S rfl rfl ?_ | refine assign_b_l S rfl rfl ?_ | refine move_s_l S rfl rfl ?_ | refine nilL ?_ | refine run_seq ?_ | refine run_skip ?_ | refine run_region ?_ | refine onL rfl rfl ?_ | refine offL rfl rfl rfl rfl ?_ | refine assign_i_l S rfl rfl ?_ | (refine lss_l S rfl rfl rfl ?_ ?_ <;> intro hcmp <;> try (exfalso; first | omega | exact hcmp (by decide) | exact absurd hcmp (by decide))) | refine indexAddr_l S rfl rfl (idx_cast _) (by first | omega | decide | (simp; done) | (simp; omega)) rfl ?_ | refine fieldAddrE_l S rfl (by first | omega | decide | (simp; done) | (simp; omega)) rfl rfl ?_ | refine loadE_i_l S rfl (by first | omega | decide | (simp; done) | (simp; omega)) rfl rfl rfl ?_ | refine len_l S rfl rfl ?_ | refine move_b_l S rfl rfl ?_ | (refine geq_l S rfl rfl rfl ?_ ?_ <;> intro hcmp <;> try (exfalso; first | omega | exact hcmp (by decide) | exact absurd hcmp (by decide))) | refine pick_tb_l S rfl rfl rfl ?_ | refine pick_fb_l S rfl rfl rfl ?_ | refine add_l S rfl rfl (wrap_in (by omega)) rfl ?_ | refine run_block ?_ | refine run_ret ?_ | refine run_cond_true rfl ?_ | refine run_cond_false rfl ?_ | refine thenQ_n ?_ | refine thenQ_r ?_ | refine blockQ_n ?_ | refine blockQ_r ?_ | refine ret1_b rfl ?_)
    · rw [hall (farB_t (by omega))]
      exact ⟨rfl, S.chg.below⟩
    · rw [hall (farB_t (by omega))]
      exact ⟨rfl, S.chg.below⟩
    · refine ⟨q + 1, ?_, ⟨by omega, ?_, S⟩, by omega⟩
      · rw [Int.natCast_add]
        (repeat (first | exact agree_refl | refine agree_r rfl ?_ | refine agree_l rfl ?_ | refine agree_hv rfl ?_))
      · rw [hsucc, farB_f (by omega) (by omega)]
        rfl
  · repeat' (first | refine move_i_l S rfl rfl ?_ | refine assign_b_l S rfl rfl ?_ | refine move_s_l S rfl rfl ?_ | refine nilL ?_ | refine run_seq ?_ | refine run_region ?_ | (refine lss_l S rfl rfl rfl ?_ ?_ <;> intro hcmp <;> try (exfalso; first | omega | exact hcmp (by decide) | exact absurd hcmp (by decide))) | refine len_l S rfl rfl ?_ | refine run_ret ?_ | refine run_exit ?_ | refine run_cond_false rfl ?_ | refine thenQ_n ?_ | refine thenQ_e ?_ | refine blockQ_s rfl ?_ | refine ret1_b rfl ?_)
    rw [List.take_of_length_le (by omega)] at hn
    rw [hn]
    exact ⟨rfl, S.chg.below⟩
theorem rahead_at (y z : AtS) (w0 : World) : Calls Try.prog 34 #[atV y, atV z] w0 fun e w' => e = .returned (.bool (aheadB y z)) ∧ Below w0.heap.size w0 w' := by
  have S := Sat.start (fun _ => False) w0
  refine enter1 Try.func34 rfl Try.ntmps34 rfl Try.results34 ?_
  repeat' (first | refine fieldAddr_l S rfl rfl rfl ?_ | refine load_i_l S rfl rfl rfl rfl ?_ | refine nilL ?_ | refine run_seq ?_ | refine run_region ?_ | refine onL rfl rfl ?_ | refine offL rfl rfl rfl rfl ?_ | (refine box_a S rfl rfl rfl ?_; clear S; intro b w S) | refine assign_b_l S rfl rfl ?_ | (refine neq_l S rfl rfl rfl ?_ ?_ <;> intro hcmp <;> try (exfalso; first | omega | exact hcmp (by decide) | exact absurd hcmp (by decide))) | refine move_b_l S rfl rfl ?_ | (refine lss_l S rfl rfl rfl ?_ ?_ <;> intro hcmp <;> try (exfalso; first | omega | exact hcmp (by decide) | exact absurd hcmp (by decide))) | refine pick_tb_l S rfl rfl rfl ?_ | refine pick_fb_l S rfl rfl rfl ?_ | refine run_ret ?_ | refine thenQ_n ?_ | refine ret1_b rfl ?_)
  all_goals exact ⟨by simp [aheadB, *], S.chg.below⟩
theorem from_pos {n : Nat} {l : List AtS} : ∀ {q : Nat}, (∀ i, i < q → AtOk n l i) → ∀ i, i < q → 0 ≤ (l.getD i atD).frm
  | q, h, 0, hi => by have := (h 0 hi).1; rw [if_pos rfl] at this; omega
  | q, h, i + 1, hi => by
    have h1 := from_pos h i (by omega)
    have := (h (i + 1) hi).1
    rw [if_neg (by omega), Nat.add_sub_cancel] at this
    omega
section
variable {P : Program} {ops : Array Oper} {C : World → Prop} {Q : Act → Prop}
theorem wpQ_append : ∀ l1 l2 : List Oper, wpQuiet P ops C Q (l1 ++ l2) = wpQuiet P ops C (wpQuiet P ops C Q l2) l1
  | [], l2 => rfl
  | o :: l1, l2 => by
    funext a
    show (if Region.wanted o (yielded ops a.tmps) then o.quiet P a C (wpQuiet P ops C Q (l1 ++ l2)) else wpQuiet P ops C Q (l1 ++ l2) (a.put o.dst undef)) = _
    rw [wpQ_append l1 l2]
    rfl
/-- A list, cut. -/
class CutL (k : Nat) (l : List Oper) (l1 l2 : outParam (List Oper)) : Prop where
  eq : l = l1 ++ l2
instance cutL_z (l : List Oper) : CutL 0 l [] l := ⟨rfl⟩
instance cutL_s (k : Nat) (o : Oper) (l l1 l2 : List Oper) [h : CutL k l l1 l2] : CutL (k + 1) (o :: l) (o :: l1) l2 := ⟨by rw [h.eq]; rfl⟩
/-- A state between two parts of a quiet drawn region. -/
theorem ql_cut {σ : Type} {n : Nat} {S : Nat → Prop} {w₀ : World} {L : List Res} {l l1 l2 : List Oper} {t : Tm} {K : Tm → Prop} (k : Nat) [hl : CutL k l l1 l2] (J : List Nat) (F : σ → Tm → Tm) (I : σ → Prop) (h1 : QL P ops n S w₀ L l1 t (fun t' => ∃ s, Agree J t' (F s t) ∧ I s)) (h2 : ∀ s j, I s → QL P ops n S w₀ L l2 (hv J j (F s t)) K) : QL P ops n S w₀ L l t K := by
  unfold QL at h1 h2 ⊢
  intro Q hQ a ha
  rw [hl.eq, wpQ_append]
  refine h1 _ (fun a' t' ha' hs => ?_) a ha
  obtain ⟨s, g1, g2⟩ := hs
  rw [agree_hv' g1] at ha'
  exact h2 s t' g2 Q hQ a' ha'
end
section
variable {ai a : Option Addr} {ci cap n : Nat} {l : List AtS} {w0 : World} (h : (hisR a cap l).holds w0)
include h
theorem rmay_at : Calls Try.prog 33 #[.slice ai n ci, .slice a l.length cap] w0 fun e w' => e = .returned (.bool (decide (MayP n l))) ∧ Below w0.heap.size w0 w' := by
  have hls := h.1.small
  have S := Sat.reads h
  refine enter1 Try.func33 rfl Try.ntmps33 rfl Try.results33 ?_
  repeat' (first | refine assign_b_l S rfl rfl ?_ | refine move_s_l S rfl rfl ?_ | refine nilL ?_ | refine run_seq ?_ | refine run_skip ?_ | refine run_region ?_ | refine onL rfl rfl ?_ | refine offL rfl rfl rfl rfl ?_ | refine len_l S rfl rfl ?_ | refine assign_i_l S rfl rfl ?_ | (refine lss_l S rfl rfl rfl ?_ ?_ <;> intro hcmp <;> try (exfalso; first | omega | exact hcmp (by decide) | exact absurd hcmp (by decide))) | refine move_b_l S rfl rfl ?_ | refine pick_tb_l S rfl rfl rfl ?_ | refine pick_fb_l S rfl rfl rfl ?_ | (refine gtr_l S rfl rfl rfl ?_ ?_ <;> intro hcmp <;> try (exfalso; first | omega | exact hcmp (by decide) | exact absurd hcmp (by decide))) | refine run_block ?_ | refine run_ret ?_ | refine run_cond_true rfl ?_ | refine run_cond_false rfl ?_ | refine thenQ_n ?_ | refine thenQ_r ?_ | refine ret1_b rfl ?_)
  · exact ⟨by rw [decide_eq_false fun hm => by have := hm.1; omega], S.chg.below⟩
  · exact ⟨by rw [decide_eq_false fun hm => by have := hm.1; omega], S.chg.below⟩
  refine run_while [4, 6, 7, 8, 17, 18, 19, 20, 21, 22, 23, 24, 25, 26, 27, 28, 29, 30, 31, 32, 33, 34, 35, 36, 37, 38, 39, 40, 41, 42, 43, 44, 45, 46, 47, 48, 49, 50, 51, 52, 53, 54, 55, 56, 57, 58, 59, 60, 61, 62, 63, 64, 65, 66, 67, 68, 69, 70, 71, 72, 73, 74, 75, 76, 77, 78, 79, 80, 81, 82, 83, 84, 85, 86, 87, 88, 89, 90, 91, 92, 93, 94, 95, 96, 97, 98, 99, 100, 101, 102, 103, 104, 105, 106, 107, 108, 109, 110, 111, 112, 113, 114, 115, 116, 117, 118, 119, 120, 121, 122, 123, 124, 125, 126, 127, 128, 129, 130, 131, 132, 133, 134, 135, 136, 137, 138, 139, 140, 141, 142, 143, 144, 145, 146, 147, 148, 149, 150] (fun (q : Nat) t => upd t 5 (.int .i64 q)) (fun q w' => (q ≤ l.length ∧ ∀ i, i < q → AtOk n l i) ∧ Sat (fun _ => False) w0 w' [roR (hisR a cap l)]) (fun q => l.length - q) 0 ?_ ?_ ?_
  · (repeat (first | exact agree_refl | refine agree_r rfl ?_ | refine agree_l rfl ?_ | refine agree_hv rfl ?_))
  · exact ⟨⟨Nat.zero_le _, fun i hi => absurd hi (Nat.not_lt_zero i)⟩, S⟩
  clear S
  rintro q j w ⟨⟨hq, hok⟩, S⟩
  have hn : 1 ≤ n ∧ n ≤ 32 := by omega
  by_cases hql : q < l.length
  · have hno : ¬AtOk n l q → decide (MayP n l) = false := fun hn => decide_eq_false fun hm => hn (hm.2 q hql)
    repeat' (first | refine move_i_l S rfl rfl ?_ | refine move_s_l S rfl rfl ?_ | refine nilL ?_ | refine run_seq ?_ | refine run_skip ?_ | refine run_region (id := 4) ?_ | refine run_region (id := 6) ?_ | refine len_l S rfl rfl ?_ | (refine lss_l S rfl rfl rfl ?_ ?_ <;> intro hcmp <;> try (exfalso; first | omega | exact hcmp (by decide) | exact absurd hcmp (by decide))) | refine indexAddr_l S rfl rfl (idx_cast _) (by first | omega | decide | (simp; done) | (simp; omega)) rfl ?_ | refine loadEN_l S rfl (by first | omega | decide | (simp; done) | (simp; omega)) rfl rfl ?_ | (refine allocZ_l S rfl rfl ?_; clear S; intro b w S) | (refine storeN_l S rfl rfl ⟨rfl, rfl⟩ rfl ?_; clear S; intro w S) | refine run_block ?_ | refine run_cond_true rfl ?_ | refine thenQ_n ?_)
    obtain ⟨b_1, hb1⟩ : ∃ x, x = b := ⟨_, rfl⟩
    subst hb1
    replace S := S.turn1 (r' := blk b_1 9 (encAt (l.getD q atD)) 32) S.got1 rfl (fun k e => e)
    have hfp := from_pos hok
    have hpre : ∀ F : Int, (0 < q → (l.getD ((q : Int) - 1).toNat atD).frm = F) → (q = 0 → F = -1) → ((if q = 0 then -1 else (l.getD (q - 1) atD).frm) = F) := fun F h1 h2 => by
      by_cases e : q = 0
      · rw [if_pos e, h2 e]
      · rw [if_neg e, ← h1 (by omega), show ((q : Int) - 1).toNat = q - 1 from by omega]
    have hat : AtOk n l q → (if q = 0 then -1 else (l.getD (q - 1) atD).frm) < (l.getD q atD).frm ∧ ((l.getD q atD).to = -1 ∨ (l.getD q atD).frm ≤ (l.getD q atD).to) ∧ (0 ≤ (l.getD q atD).rv ∧ (l.getD q atD).rv ≤ 1099511627776) ∧ (0 ≤ (l.getD q atD).wv ∧ (l.getD q atD).wv ≤ 1099511627776) ∧ (0 < (l.getD q atD).wv → (l.getD q atD).com = true) ∧ (¬0 < (l.getD q atD).wv → (l.getD q atD).ws.length = 0) := fun h => ⟨h.1, h.2.1, h.2.2.1, h.2.2.2.1, fun hw => (h.2.2.2.2.1 hw).1, h.2.2.2.2.2.1⟩
    refine run_cut_b [27, 28, 29, 30, 31, 32, 33, 34, 35, 36, 37, 38, 39, 40, 41, 42, 43, 44, 45, 46, 47, 48, 49, 50, 51, 52, 53, 54, 55, 56, 57, 58, 59, 60, 61, 62, 63, 64, 65, 66, 67, 68, 69, 70, 71, 72, 73, 74, 75, 76, 77, 78, 79, 80, 81, 82, 83, 84, 85, 86, 87, 88, 89, 90, 91, 92, 93, 94, 95, 96, 97] (fun (_ : Unit) t => t) (fun _ w' => ((if q = 0 then -1 else (l.getD (q - 1) atD).frm) < (l.getD q atD).frm ∧ ((l.getD q atD).to = -1 ∨ (l.getD q atD).frm ≤ (l.getD q atD).to) ∧ (0 ≤ (l.getD q atD).rv ∧ (l.getD q atD).rv ≤ 1099511627776) ∧ (0 ≤ (l.getD q atD).wv ∧ (l.getD q atD).wv ≤ 1099511627776) ∧ (0 < (l.getD q atD).wv → (l.getD q atD).com = true) ∧ (¬0 < (l.getD q atD).wv → (l.getD q atD).ws.length = 0)) ∧
        Sat (fun _ => False) w0 w' [blk b_1 9 (encAt (l.getD q atD)) 32, roR (hisR a cap l)]) ?_ ?_
    · obtain ⟨F, hF⟩ : ∃ F : Int, (if q = 0 then -1 else (l.getD (q - 1) atD).frm) = F := ⟨_, rfl⟩
      have hF0 : -1 ≤ F := by
        rw [← hF]
        split
        · exact Int.le_refl _
        · have := hfp (q - 1) (by omega)
          omega
      have hF1 : ¬ q = 0 → F = (l.getD ((q : Int) - 1).toNat atD).frm ∧ 0 ≤ F := fun h => by
        have := hfp (q - 1) (by omega)
        rw [← hF, if_neg h, show ((q : Int) - 1).toNat = q - 1 from by omega]
        exact ⟨rfl, this⟩
      have hF2 : q = 0 → F = -1 := fun h => by rw [← hF, if_pos h]
      rw [hF] at hat ⊢
      clear hF hok hpre
      refine run_draws S mixed ?_ ?_
      · kernel_rfl
      dsimp only [List.append]
      refine ql_cut 18 [27, 28, 29, 30, 31, 32, 33, 34, 35, 36, 37, 38, 39, 40, 41, 42, 43] (fun (r : Bool) t => upd t 44 (.bool r)) (fun r => (r = true → ¬AtOk n l q) ∧ (r = false → F < (l.getD q atD).frm)) ?_ ?_
      · by_cases hq0 : q = 0
        · have hF3 := hF2 hq0
          clear hF1 hF2 hno
          repeat' (first | refine onQ rfl rfl ?_ | refine offQ rfl rfl rfl rfl ?_ | refine offQU rfl rfl rfl ?_ | refine fieldAddr_q rfl rfl rfl ?_ | refine load_i_q rfl rfl rfl rfl ?_ | (refine lss_q rfl rfl rfl ?_ ?_ <;> intro hcmp <;> try (exfalso; first | omega | exact hcmp (by decide) | exact absurd hcmp (by decide))) | refine move_b_q rfl rfl ?_ | refine move_i_q rfl rfl ?_ | (refine gtr_q rfl rfl rfl ?_ ?_ <;> intro hcmp <;> try (exfalso; first | omega | exact hcmp (by decide) | exact absurd hcmp (by decide))) | refine pick_tb_q rfl rfl rfl ?_ | refine pick_fb_q rfl rfl rfl ?_)
          all_goals refine nilQ ?_
          all_goals first
            | exact ⟨true, by (repeat (first | exact agree_refl | refine agree_r rfl ?_ | refine agree_l rfl ?_ | refine agree_hv rfl ?_)), fun _ h => (by have := (hat h).1; omega), fun h => (by cases h)⟩
            | exact ⟨false, by (repeat (first | exact agree_refl | refine agree_r rfl ?_ | refine agree_l rfl ?_ | refine agree_hv rfl ?_)), fun h => (by cases h), fun _ => by omega⟩
        · obtain ⟨hF3, hF4⟩ := hF1 hq0
          clear hF1 hF2 hno
          repeat' (first | refine onQ rfl rfl ?_ | refine offQ rfl rfl rfl rfl ?_ | refine offQU rfl rfl rfl ?_ | refine fieldAddr_q rfl rfl rfl ?_ | refine fieldAddrE_q rfl (by first | omega | decide | (simp; done) | (simp; omega)) rfl rfl ?_ | refine load_i_q rfl rfl rfl rfl ?_ | refine loadE_i_q rfl (by first | omega | decide | (simp; done) | (simp; omega)) rfl rfl rfl ?_ | (refine lss_q rfl rfl rfl ?_ ?_ <;> intro hcmp <;> try (exfalso; first | omega | exact hcmp (by decide) | exact absurd hcmp (by decide))) | refine move_b_q rfl rfl ?_ | refine move_i_q rfl rfl ?_ | (refine gtr_q rfl rfl rfl ?_ ?_ <;> intro hcmp <;> try (exfalso; first | omega | exact hcmp (by decide) | exact absurd hcmp (by decide))) | refine move_s_q rfl rfl ?_ | refine sub_q rfl rfl (wrap_in (by omega)) rfl ?_ | refine indexAddr_q rfl rfl (idx_eq _) (by first | omega | decide | (simp; done) | (simp; omega)) rfl ?_ | (refine geq_q rfl rfl rfl ?_ ?_ <;> intro hcmp <;> try (exfalso; first | omega | exact hcmp (by decide) | exact absurd hcmp (by decide))) | refine pick_tb_q rfl rfl rfl ?_ | refine pick_fb_q rfl rfl rfl ?_)
          all_goals refine nilQ ?_
          all_goals first
            | exact ⟨true, by (repeat (first | exact agree_refl | refine agree_r rfl ?_ | refine agree_l rfl ?_ | refine agree_hv rfl ?_)), fun _ h => (by have := (hat h).1; omega), fun h => (by cases h)⟩
            | exact ⟨false, by (repeat (first | exact agree_refl | refine agree_r rfl ?_ | refine agree_l rfl ?_ | refine agree_hv rfl ?_)), fun h => (by cases h), fun _ => by omega⟩
      rintro r j44 ⟨hr1, hr2⟩
      refine ql_cut 12 [45, 46, 47, 48, 49, 50, 51, 52, 53, 54, 55] (fun (r : Bool) t => upd t 56 (.bool r)) (fun r => (r = true → ¬AtOk n l q) ∧ (r = false → F < (l.getD q atD).frm ∧ ((l.getD q atD).to = -1 ∨ (l.getD q atD).frm ≤ (l.getD q atD).to))) ?_ ?_
      · cases r with
        | true =>
          repeat' (first | refine offQ rfl rfl rfl rfl ?_ | refine offQU rfl rfl rfl ?_ | refine move_b_q rfl rfl ?_ | refine pick_tb_q rfl rfl rfl ?_)
          all_goals refine nilQ ?_
          exact ⟨true, by (repeat (first | exact agree_refl | refine agree_r rfl ?_ | refine agree_l rfl ?_ | refine agree_hv rfl ?_)), hr1, fun h => (by cases h)⟩
        | false =>
          have hp := hr2 rfl
          clear hr1 hr2
          repeat' (first | refine onQ rfl rfl ?_ | refine offQ rfl rfl rfl rfl ?_ | refine fieldAddr_q rfl rfl rfl ?_ | refine load_i_q rfl rfl rfl rfl ?_ | (refine lss_q rfl rfl rfl ?_ ?_ <;> intro hcmp <;> try (exfalso; first | omega | exact hcmp (by decide) | exact absurd hcmp (by decide))) | refine move_b_q rfl rfl ?_ | refine pick_tb_q rfl rfl rfl ?_ | refine pick_fb_q rfl rfl rfl ?_ | (refine neq_q rfl rfl rfl ?_ ?_ <;> intro hcmp <;> try (exfalso; first | omega | exact hcmp (by decide) | exact absurd hcmp (by decide))))
          all_goals refine nilQ ?_
          all_goals first
            | exact ⟨true, by (repeat (first | exact agree_refl | refine agree_r rfl ?_ | refine agree_l rfl ?_ | refine agree_hv rfl ?_)), fun _ h => (by have := hat h; have h1 := this.1; have h2 := this.2.1; have h3 := this.2.2.1; have h4 := this.2.2.2.1; omega), fun h => (by cases h)⟩
            | exact ⟨false, by (repeat (first | exact agree_refl | refine agree_r rfl ?_ | refine agree_l rfl ?_ | refine agree_hv rfl ?_)), fun h => (by cases h), fun _ => by omega⟩
      clear hr1 hr2
      rintro r j56 ⟨hr1, hr2⟩
      refine ql_cut 5 [57, 58, 59, 60] (fun (r : Bool) t => upd t 61 (.bool r)) (fun r => (r = true → ¬AtOk n l q) ∧ (r = false → F < (l.getD q atD).frm ∧ ((l.getD q atD).to = -1 ∨ (l.getD q atD).frm ≤ (l.getD q atD).to) ∧ 0 ≤ (l.getD q atD).rv)) ?_ ?_
      · cases r with
        | true =>
          repeat' (first | refine offQ rfl rfl rfl rfl ?_ | refine move_b_q rfl rfl ?_ | refine pick_tb_q rfl rfl rfl ?_)
          all_goals refine nilQ ?_
          exact ⟨true, by (repeat (first | exact agree_refl | refine agree_r rfl ?_ | refine agree_l rfl ?_ | refine agree_hv rfl ?_)), hr1, fun h => (by cases h)⟩
        | false =>
          have hp := hr2 rfl
          clear hr1 hr2
          repeat' (first | refine onQ rfl rfl ?_ | refine fieldAddr_q rfl rfl rfl ?_ | refine load_i_q rfl rfl rfl rfl ?_ | (refine lss_q rfl rfl rfl ?_ ?_ <;> intro hcmp <;> try (exfalso; first | omega | exact hcmp (by decide) | exact absurd hcmp (by decide))) | refine move_b_q rfl rfl ?_ | refine pick_fb_q rfl rfl rfl ?_)
          all_goals refine nilQ ?_
          all_goals first
            | exact ⟨true, by (repeat (first | exact agree_refl | refine agree_r rfl ?_ | refine agree_l rfl ?_ | refine agree_hv rfl ?_)), fun _ h => (by have := hat h; have h1 := this.1; have h2 := this.2.1; have h3 := this.2.2.1; have h4 := this.2.2.2.1; omega), fun h => (by cases h)⟩
            | exact ⟨false, by (repeat (first | exact agree_refl | refine agree_r rfl ?_ | refine agree_l rfl ?_ | refine agree_hv rfl ?_)), fun h => (by cases h), fun _ => by omega⟩
      clear hr1 hr2
      rintro r j61 ⟨hr1, hr2⟩
      refine ql_cut 5 [62, 63, 64, 65] (fun (r : Bool) t => upd t 66 (.bool r)) (fun r => (r = true → ¬AtOk n l q) ∧ (r = false → F < (l.getD q atD).frm ∧ ((l.getD q atD).to = -1 ∨ (l.getD q atD).frm ≤ (l.getD q atD).to) ∧ 0 ≤ (l.getD q atD).rv ∧ (l.getD q atD).rv ≤ 1099511627776)) ?_ ?_
      · cases r with
        | true =>
          repeat' (first | refine offQ rfl rfl rfl rfl ?_ | refine move_b_q rfl rfl ?_ | refine pick_tb_q rfl rfl rfl ?_)
          all_goals refine nilQ ?_
          exact ⟨true, by (repeat (first | exact agree_refl | refine agree_r rfl ?_ | refine agree_l rfl ?_ | refine agree_hv rfl ?_)), hr1, fun h => (by cases h)⟩
        | false =>
          have hp := hr2 rfl
          clear hr1 hr2
          repeat' (first | refine onQ rfl rfl ?_ | refine fieldAddr_q rfl rfl rfl ?_ | refine load_i_q rfl rfl rfl rfl ?_ | refine move_b_q rfl rfl ?_ | (refine gtr_q rfl rfl rfl ?_ ?_ <;> intro hcmp <;> try (exfalso; first | omega | exact hcmp (by decide) | exact absurd hcmp (by decide))) | refine pick_fb_q rfl rfl rfl ?_)
          all_goals refine nilQ ?_
          all_goals first
            | exact ⟨true, by (repeat (first | exact agree_refl | refine agree_r rfl ?_ | refine agree_l rfl ?_ | refine agree_hv rfl ?_)), fun _ h => (by have := hat h; have h1 := this.1; have h2 := this.2.1; have h3 := this.2.2.1; have h4 := this.2.2.2.1; omega), fun h => (by cases h)⟩
            | exact ⟨false, by (repeat (first | exact agree_refl | refine agree_r rfl ?_ | refine agree_l rfl ?_ | refine agree_hv rfl ?_)), fun h => (by cases h), fun _ => by omega⟩
      clear hr1 hr2
      rintro r j66 ⟨hr1, hr2⟩
      refine ql_cut 5 [67, 68, 69, 70] (fun (r : Bool) t => upd t 71 (.bool r)) (fun r => (r = true → ¬AtOk n l q) ∧ (r = false → F < (l.getD q atD).frm ∧ ((l.getD q atD).to = -1 ∨ (l.getD q atD).frm ≤ (l.getD q atD).to) ∧ 0 ≤ (l.getD q atD).rv ∧ (l.getD q atD).rv ≤ 1099511627776 ∧ 0 ≤ (l.getD q atD).wv)) ?_ ?_
      · cases r with
        | true =>
          repeat' (first | refine offQ rfl rfl rfl rfl ?_ | refine move_b_q rfl rfl ?_ | refine pick_tb_q rfl rfl rfl ?_)
          all_goals refine nilQ ?_
          exact ⟨true, by (repeat (first | exact agree_refl | refine agree_r rfl ?_ | refine agree_l rfl ?_ | refine agree_hv rfl ?_)), hr1, fun h => (by cases h)⟩
        | false =>
          have hp := hr2 rfl
          clear hr1 hr2
          repeat' (first | refine onQ rfl rfl ?_ | refine fieldAddr_q rfl rfl rfl ?_ | refine load_i_q rfl rfl rfl rfl ?_ | (refine lss_q rfl rfl rfl ?_ ?_ <;> intro hcmp <;> try (exfalso; first | omega | exact hcmp (by decide) | exact absurd hcmp (by decide))) | refine move_b_q rfl rfl ?_ | refine pick_fb_q rfl rfl rfl ?_)
          all_goals refine nilQ ?_
          all_goals first
            | exact ⟨true, by (repeat (first | exact agree_refl | refine agree_r rfl ?_ | refine agree_l rfl ?_ | refine agree_hv rfl ?_)), fun _ h => (by have := hat h; have h1 := this.1; have h2 := this.2.1; have h3 := this.2.2.1; have h4 := this.2.2.2.1; omega), fun h => (by cases h)⟩
            | exact ⟨false, by (repeat (first | exact agree_refl | refine agree_r rfl ?_ | refine agree_l rfl ?_ | refine agree_hv rfl ?_)), fun h => (by cases h), fun _ => by omega⟩
      clear hr1 hr2
      rintro r j71 ⟨hr1, hr2⟩
      refine ql_cut 5 [72, 73, 74, 75] (fun (r : Bool) t => upd t 76 (.bool r)) (fun r => (r = true → ¬AtOk n l q) ∧ (r = false → F < (l.getD q atD).frm ∧ ((l.getD q atD).to = -1 ∨ (l.getD q atD).frm ≤ (l.getD q atD).to) ∧ 0 ≤ (l.getD q atD).rv ∧ (l.getD q atD).rv ≤ 1099511627776 ∧ 0 ≤ (l.getD q atD).wv ∧ (l.getD q atD).wv ≤ 1099511627776)) ?_ ?_
      · cases r with
        | true =>
          repeat' (first | refine offQ rfl rfl rfl rfl ?_ | refine move_b_q rfl rfl ?_ | refine pick_tb_q rfl rfl rfl ?_)
          all_goals refine nilQ ?_
          exact ⟨true, by (repeat (first | exact agree_refl | refine agree_r rfl ?_ | refine agree_l rfl ?_ | refine agree_hv rfl ?_)), hr1, fun h => (by cases h)⟩
        | false =>
          have hp := hr2 rfl
          clear hr1 hr2
          repeat' (first | refine onQ rfl rfl ?_ | refine fieldAddr_q rfl rfl rfl ?_ | refine load_i_q rfl rfl rfl rfl ?_ | refine move_b_q rfl rfl ?_ | (refine gtr_q rfl rfl rfl ?_ ?_ <;> intro hcmp <;> try (exfalso; first | omega | exact hcmp (by decide) | exact absurd hcmp (by decide))) | refine pick_fb_q rfl rfl rfl ?_)
          all_goals refine nilQ ?_
          all_goals first
            | exact ⟨true, by (repeat (first | exact agree_refl | refine agree_r rfl ?_ | refine agree_l rfl ?_ | refine agree_hv rfl ?_)), fun _ h => (by have := hat h; have h1 := this.1; have h2 := this.2.1; have h3 := this.2.2.1; have h4 := this.2.2.2.1; omega), fun h => (by cases h)⟩
            | exact ⟨false, by (repeat (first | exact agree_refl | refine agree_r rfl ?_ | refine agree_l rfl ?_ | refine agree_hv rfl ?_)), fun h => (by cases h), fun _ => by omega⟩
      clear hr1 hr2
      rintro r j76 ⟨hr1, hr2⟩
      refine ql_cut 10 [77, 78, 79, 80, 81, 82, 83, 84, 85] (fun (r : Bool) t => upd t 86 (.bool r)) (fun r => (r = true → ¬AtOk n l q) ∧ (r = false → F < (l.getD q atD).frm ∧ ((l.getD q atD).to = -1 ∨ (l.getD q atD).frm ≤ (l.getD q atD).to) ∧ 0 ≤ (l.getD q atD).rv ∧ (l.getD q atD).rv ≤ 1099511627776 ∧ 0 ≤ (l.getD q atD).wv ∧ (l.getD q atD).wv ≤ 1099511627776 ∧ (0 < (l.getD q atD).wv → (l.getD q atD).com = true))) ?_ ?_
      · cases r with
        | true =>
          repeat' (first | refine offQ rfl rfl rfl rfl ?_ | refine offQU rfl rfl rfl ?_ | refine move_b_q rfl rfl ?_ | refine pick_tb_q rfl rfl rfl ?_)
          all_goals refine nilQ ?_
          exact ⟨true, by (repeat (first | exact agree_refl | refine agree_r rfl ?_ | refine agree_l rfl ?_ | refine agree_hv rfl ?_)), hr1, fun h => (by cases h)⟩
        | false =>
          have hp := hr2 rfl
          clear hr1 hr2
          obtain ⟨cm, hcm⟩ : ∃ c, (l.getD q atD).com = c := ⟨_, rfl⟩
          by_cases hw : 0 < (l.getD q atD).wv
          · cases cm
            · repeat' (first | refine onQ rfl rfl ?_ | refine fieldAddr_q rfl rfl rfl ?_ | refine load_i_q rfl rfl rfl rfl ?_ | refine move_b_q rfl rfl ?_ | (refine gtr_q rfl rfl rfl ?_ ?_ <;> intro hcmp <;> try (exfalso; first | omega | exact hcmp (by decide) | exact absurd hcmp (by decide))) | refine pick_tb_q rfl rfl rfl ?_ | refine pick_fb_q rfl rfl rfl ?_ | refine load_b_q rfl rfl rfl rfl ?_ | refine not_q rfl rfl ?_)
              rw [hcm]
              skip
              refine nilQ ?_
              refine ⟨true, ?_, fun _ h => ?_, fun h => (by cases h)⟩
              · (repeat (first | exact agree_refl | refine agree_r rfl ?_ | refine agree_l rfl ?_ | refine agree_hv rfl ?_))
              · have := (hat h).2.2.2.2.1 hw
                rw [hcm] at this
                cases this
            · repeat' (first | refine onQ rfl rfl ?_ | refine fieldAddr_q rfl rfl rfl ?_ | refine load_i_q rfl rfl rfl rfl ?_ | refine move_b_q rfl rfl ?_ | (refine gtr_q rfl rfl rfl ?_ ?_ <;> intro hcmp <;> try (exfalso; first | omega | exact hcmp (by decide) | exact absurd hcmp (by decide))) | refine pick_tb_q rfl rfl rfl ?_ | refine pick_fb_q rfl rfl rfl ?_ | refine load_b_q rfl rfl rfl rfl ?_ | refine not_q rfl rfl ?_)
              rw [hcm]
              skip
              refine nilQ ?_
              refine ⟨false, ?_, fun h => (by cases h), fun _ => ⟨hp.1, hp.2.1, hp.2.2.1, hp.2.2.2.1, hp.2.2.2.2.1, hp.2.2.2.2.2, fun _ => (by first | exact hcm | rfl)⟩⟩
              (repeat (first | exact agree_refl | refine agree_r rfl ?_ | refine agree_l rfl ?_ | refine agree_hv rfl ?_))
          · repeat' (first | refine onQ rfl rfl ?_ | refine offQ rfl rfl rfl rfl ?_ | refine fieldAddr_q rfl rfl rfl ?_ | refine load_i_q rfl rfl rfl rfl ?_ | refine move_b_q rfl rfl ?_ | (refine gtr_q rfl rfl rfl ?_ ?_ <;> intro hcmp <;> try (exfalso; first | omega | exact hcmp (by decide) | exact absurd hcmp (by decide))) | refine pick_fb_q rfl rfl rfl ?_)
            refine nilQ ?_
            refine ⟨false, ?_, fun h => (by cases h), fun _ => ⟨hp.1, hp.2.1, hp.2.2.1, hp.2.2.2.1, hp.2.2.2.2.1, hp.2.2.2.2.2, fun h => absurd h hw⟩⟩
            (repeat (first | exact agree_refl | refine agree_r rfl ?_ | refine agree_l rfl ?_ | refine agree_hv rfl ?_))
      clear hr1 hr2
      rintro r j86 ⟨hr1, hr2⟩
      refine ql_cut 11 [87, 88, 89, 90, 91, 92, 93, 94, 95, 96] (fun (r : Bool) t => upd t 97 (.bool r)) (fun r => (r = true → ¬AtOk n l q) ∧ (r = false → F < (l.getD q atD).frm ∧ ((l.getD q atD).to = -1 ∨ (l.getD q atD).frm ≤ (l.getD q atD).to) ∧ 0 ≤ (l.getD q atD).rv ∧ (l.getD q atD).rv ≤ 1099511627776 ∧ 0 ≤ (l.getD q atD).wv ∧ (l.getD q atD).wv ≤ 1099511627776 ∧ (0 < (l.getD q atD).wv → (l.getD q atD).com = true) ∧ (¬0 < (l.getD q atD).wv → (l.getD q atD).ws.length = 0))) ?_ ?_
      · cases r with
        | true =>
          repeat' (first | refine offQ rfl rfl rfl rfl ?_ | refine offQU rfl rfl rfl ?_ | refine move_b_q rfl rfl ?_ | refine pick_tb_q rfl rfl rfl ?_)
          all_goals refine nilQ ?_
          exact ⟨true, by (repeat (first | exact agree_refl | refine agree_r rfl ?_ | refine agree_l rfl ?_ | refine agree_hv rfl ?_)), hr1, fun h => (by cases h)⟩
        | false =>
          have hp := hr2 rfl
          clear hr1 hr2
          obtain ⟨g1, g2, g3, g4, g5, g6, g7⟩ := hp
          repeat' (first | refine onQ rfl rfl ?_ | refine offQ rfl rfl rfl rfl ?_ | refine fieldAddr_q rfl rfl rfl ?_ | refine load_i_q rfl rfl rfl rfl ?_ | refine move_b_q rfl rfl ?_ | (refine gtr_q rfl rfl rfl ?_ ?_ <;> intro hcmp <;> try (exfalso; first | omega | exact hcmp (by decide) | exact absurd hcmp (by decide))) | refine pick_tb_q rfl rfl rfl ?_ | refine pick_fb_q rfl rfl rfl ?_ | (refine eql_q rfl rfl rfl ?_ ?_ <;> intro hcmp <;> try (exfalso; first | omega | exact hcmp (by decide) | exact absurd hcmp (by decide))) | refine len_q rfl rfl ?_ | refine load_o_q rfl rfl rfl rfl ?_)
          all_goals refine nilQ ?_
          all_goals first
            | exact ⟨true, by (repeat (first | exact agree_refl | refine agree_r rfl ?_ | refine agree_l rfl ?_ | refine agree_hv rfl ?_)), fun _ h => (by have := (hat h).2.2.2.2.2; omega), fun h => (by cases h)⟩
            | exact ⟨false, by (repeat (first | exact agree_refl | refine agree_r rfl ?_ | refine agree_l rfl ?_ | refine agree_hv rfl ?_)), fun h => (by cases h), fun _ => ⟨g1, g2, g3, g4, g5, g6, g7, by omega⟩⟩
      clear hr1 hr2
      rintro r j97 ⟨hr1, hr2⟩
      refine nilQ ?_
      clear S
      intro w S
      cases r with
      | true =>
        repeat' (first | refine assign_b_l S rfl rfl ?_ | refine nilL ?_ | refine run_seq ?_ | refine run_region (id := 8) ?_ | refine run_ret ?_ | refine run_cond_true rfl ?_ | refine thenQ_n ?_)
        refine midQ_r ?_
        repeat' (first | refine thenQ_r ?_ | refine blockQ_r ?_ | refine ret1_b rfl ?_)
        exact ⟨by rw [hno (hr1 rfl)], S.chg.below⟩
      | false =>
        obtain ⟨g1, g2, g3, g4, g5, g6, g7, g8⟩ := hr2 rfl
        repeat' (first | refine run_skip ?_ | refine run_cond_false rfl ?_ | refine thenQ_n ?_)
        exact midQ_n () (by (repeat (first | exact agree_refl | refine agree_r rfl ?_ | refine agree_l rfl ?_ | refine agree_hv rfl ?_))) ⟨⟨g1, g2, ⟨g3, g4⟩, ⟨g5, g6⟩, g7, g8⟩, S.sub⟩
    clear S
    rintro _ j2 w ⟨⟨h1, h2, h3, h4, h5, h6⟩, S⟩
    repeat' (first | refine run_seq ?_)
    refine run_cut_b [98, 99, 100, 101, 102, 103, 104, 105, 106, 107, 108, 109, 110, 111] (fun (_ : Unit) t => t) (fun _ w' => ((l.getD q atD).rs.any (farB n) = false ∧ (l.getD q atD).ws.any (farB n) = false) ∧
          Sat (fun _ => False) w0 w' [blk b_1 9 (encAt (l.getD q atD)) 32, roR (hisR a cap l)]) ?_ ?_
    · repeat' (first | refine move_s_l S rfl rfl ?_ | refine run_region ?_ | refine len_l S rfl rfl ?_ | refine fieldAddr_l S rfl rfl rfl ?_ | refine load_o_l S rfl rfl rfl rfl ?_)
      refine callL (rwithin_at n (l.getD q atD).rs _ ((S.all (roR (hisR a cap l)) (by simp) : (hisR a cap l).holds w).2 q).1) rfl rfl ?_
      rintro e w ⟨rfl, hb⟩
      replace S := S.below hb
      clear hb
      refine ⟨_, rfl, ?_⟩
      obtain ⟨r1, hr1⟩ : ∃ r, (l.getD q atD).rs.any (farB n) = r := ⟨_, rfl⟩
      rw [hr1]
      cases r1
      · repeat' (first | refine move_s_l S rfl rfl ?_ | refine onL rfl rfl ?_ | refine len_l S rfl rfl ?_ | refine fieldAddr_l S rfl rfl rfl ?_ | refine move_b_l S rfl rfl ?_ | refine not_l S rfl rfl ?_ | refine load_o_l S rfl rfl rfl rfl ?_)
        refine callL (rwithin_at n (l.getD q atD).ws _ ((S.all (roR (hisR a cap l)) (by simp) : (hisR a cap l).holds w).2 q).2) rfl rfl ?_
        rintro e w ⟨rfl, hb⟩
        replace S := S.below hb
        clear hb
        refine ⟨_, rfl, ?_⟩
        obtain ⟨r2, hr2⟩ : ∃ r, (l.getD q atD).ws.any (farB n) = r := ⟨_, rfl⟩
        rw [hr2]
        cases r2
        · repeat' (first | refine nilL ?_ | refine run_skip ?_ | refine onL rfl rfl ?_ | refine pick_fb_l S rfl rfl rfl ?_ | refine not_l S rfl rfl ?_ | refine run_cond_false rfl ?_ | refine thenQ_n ?_)
          exact midQ_n () (by (repeat (first | exact agree_refl | refine agree_r rfl ?_ | refine agree_l rfl ?_ | refine agree_hv rfl ?_))) ⟨⟨(by first | exact hr1 | rfl), (by first | exact hr2 | rfl)⟩, S.sub⟩
        · repeat' (first | refine assign_b_l S rfl rfl ?_ | refine nilL ?_ | refine run_seq ?_ | refine run_region ?_ | refine onL rfl rfl ?_ | refine pick_fb_l S rfl rfl rfl ?_ | refine not_l S rfl rfl ?_ | refine run_ret ?_ | refine run_cond_true rfl ?_ | refine thenQ_n ?_)
          refine midQ_r ?_
          repeat' (first | refine thenQ_r ?_ | refine blockQ_r ?_ | refine ret1_b rfl ?_)
          exact ⟨by rw [hno fun h => (by have := farB_any.2 h.2.2.2.2.2.2.2.1; rw [hr2] at this; cases this)], S.chg.below⟩
      · repeat' (first | refine assign_b_l S rfl rfl ?_ | refine nilL ?_ | refine run_seq ?_ | refine run_region ?_ | refine offL rfl rfl rfl rfl ?_ | refine move_b_l S rfl rfl ?_ | refine pick_tb_l S rfl rfl rfl ?_ | refine not_l S rfl rfl ?_ | refine run_ret ?_ | refine run_cond_true rfl ?_ | refine thenQ_n ?_)
        refine midQ_r ?_
        repeat' (first | refine thenQ_r ?_ | refine blockQ_r ?_ | refine ret1_b rfl ?_)
        exact ⟨by rw [hno fun h => (by have := farB_any.2 h.2.2.2.2.2.2.1; rw [hr1] at this; cases this)], S.chg.below⟩
    clear S
    rintro _ j2 w ⟨⟨h7, h8⟩, S⟩
    repeat' (first | refine nilL ?_ | refine run_seq ?_ | refine run_region ?_ | refine assign_i_l S rfl rfl ?_ | refine run_block ?_ | refine thenQ_n ?_)
    refine run_while [4, 112, 113, 114, 115, 116, 117, 118, 119, 120, 121, 122, 123, 124, 125, 126, 127, 128, 129, 130, 131, 132] (fun (i : Nat) t => upd t 7 (.int .i64 i)) (fun i w' => ((1 ≤ i ∧ (i ≤ (l.getD q atD).ws.length ∨ i = 1)) ∧ ∀ k, k < i → 0 < k → ((l.getD q atD).ws.getD (k - 1) (0, 0)).1 < ((l.getD q atD).ws.getD k (0, 0)).1) ∧ Sat (fun _ => False) w0 w' [blk b_1 9 (encAt (l.getD q atD)) 32, roR (hisR a cap l)]) (fun i => (l.getD q atD).ws.length - i) 1 ?_ ?_ ?_
    · (repeat (first | exact agree_refl | refine agree_r rfl ?_ | refine agree_l rfl ?_ | refine agree_hv rfl ?_))
    · exact ⟨⟨⟨Nat.le_refl _, .inr rfl⟩, fun k hk hk0 => by omega⟩, S⟩
    clear S
    rintro i j3 w ⟨⟨⟨hi0, hi⟩, hup⟩, S⟩
    have hsl := ((S.all (roR (hisR a cap l)) (by simp) : (hisR a cap l).holds w).2 q).2.small
    by_cases hil : i < (l.getD q atD).ws.length
    · repeat' (first | refine move_i_l S rfl rfl ?_ | refine assign_b_l S rfl rfl ?_ | refine nilL ?_ | refine run_seq ?_ | refine run_skip ?_ | refine run_region ?_ | refine len_l S rfl rfl ?_ | refine assign_i_l S rfl rfl ?_ | (refine lss_l S rfl rfl rfl ?_ ?_ <;> intro hcmp <;> try (exfalso; first | omega | exact hcmp (by decide) | exact absurd hcmp (by decide))) | refine fieldAddr_l S rfl rfl rfl ?_ | refine add_l S rfl rfl (wrap_in (by omega)) rfl ?_ | refine load_o_l S rfl rfl rfl rfl ?_ | refine run_block ?_ | refine run_ret ?_ | refine run_cond_true rfl ?_ | refine run_cond_false rfl ?_ | refine thenQ_n ?_ | refine thenQ_r ?_ | refine blockQ_n ?_ | refine blockQ_r ?_ | (refine run_draws S mixed ?_ ?_; · kernel_rfl) | (refine nilQ ?_; clear S; intro w S) | refine fieldAddr_q rfl rfl rfl ?_ | refine fieldAddrE_q rfl (by first | omega | decide | (simp; done) | (simp; omega)) rfl rfl ?_ | refine loadE_i_q rfl (by first | omega | decide | (simp; done) | (simp; omega)) rfl rfl rfl ?_ | refine move_i_q rfl rfl ?_ | refine sub_q rfl rfl (wrap_in (by omega)) rfl ?_ | refine indexAddr_q rfl rfl (idx_cast _) (by first | omega | decide | (simp; done) | (simp; omega)) rfl ?_ | refine indexAddr_q rfl rfl (idx_eq _) (by first | omega | decide | (simp; done) | (simp; omega)) rfl ?_ | (refine geq_q rfl rfl rfl ?_ ?_ <;> intro hcmp <;> try (exfalso; first | omega | exact hcmp (by decide) | exact absurd hcmp (by decide))) | refine load_o_q rfl rfl rfl rfl ?_ | refine ret1_b rfl ?_)
      · have hbad : ¬AtOk n l q := fun h => by
          have := h.2.2.2.2.2.2.2.2 i hil (by omega)
          rw [show ((i : Int) - 1).toNat = i - 1 from by omega] at hcmp
          omega
        exact ⟨by rw [hno hbad], S.chg.below⟩
      all_goals refine ⟨i + 1, ?_, ⟨⟨⟨by omega, .inl (by omega)⟩, fun k hk hk0 => ?_⟩, S.sub⟩, by omega⟩
      all_goals try (rw [Int.natCast_add]; (repeat (first | exact agree_refl | refine agree_r rfl ?_ | refine agree_l rfl ?_ | refine agree_hv rfl ?_)))
      all_goals by_cases hki : k = i
      all_goals try exact hup k (by omega) hk0
      · subst hki
        rw [show ((k : Int) - 1).toNat = k - 1 from by omega] at hcmp
        omega
    · repeat' (first | refine move_i_l S rfl rfl ?_ | refine nilL ?_ | refine run_seq ?_ | refine run_region ?_ | refine len_l S rfl rfl ?_ | refine assign_i_l S rfl rfl ?_ | (refine lss_l S rfl rfl rfl ?_ ?_ <;> intro hcmp <;> try (exfalso; first | omega | exact hcmp (by decide) | exact absurd hcmp (by decide))) | refine fieldAddr_l S rfl rfl rfl ?_ | refine load_o_l S rfl rfl rfl rfl ?_ | refine run_block ?_ | refine run_exit ?_ | refine run_cond_false rfl ?_ | refine thenQ_n ?_ | refine thenQ_e ?_ | refine blockQ_s rfl ?_)
      refine run_while [4, 133, 134, 135, 136, 137, 138, 139, 140, 141, 142, 143, 144, 145, 146, 147, 148, 149, 150] (fun (k : Nat) t => upd t 8 (.int .i64 k)) (fun k w' => (k ≤ q ∧ ∀ i, i < k → 0 < (l.getD q atD).wv → (l.getD i atD).wv ≠ (l.getD q atD).wv) ∧ Sat (fun _ => False) w0 w' [blk b_1 9 (encAt (l.getD q atD)) 32, roR (hisR a cap l)]) (fun k => q - k) 0 ?_ ?_ ?_
      · (repeat (first | exact agree_refl | refine agree_r rfl ?_ | refine agree_l rfl ?_ | refine agree_hv rfl ?_))
      · exact ⟨⟨Nat.zero_le _, fun i hi => absurd hi (Nat.not_lt_zero i)⟩, S⟩
      clear S
      rintro k j4 w ⟨⟨hk, hne⟩, S⟩
      by_cases hkq : k < q
      · have hgo : ¬ (0 < (l.getD q atD).wv ∧ (l.getD k atD).wv = (l.getD q atD).wv) → ∀ i, i < k + 1 → 0 < (l.getD q atD).wv → (l.getD i atD).wv ≠ (l.getD q atD).wv := fun h i hi hw => by
          rcases Nat.lt_or_ge i k with e | e
          · exact hne i e hw
          · obtain rfl : i = k := by omega
            exact fun e => h ⟨hw, e⟩
        repeat' (first | refine move_i_l S rfl rfl ?_ | refine assign_b_l S rfl rfl ?_ | refine nilL ?_ | refine run_seq ?_ | refine run_skip ?_ | refine run_region ?_ | refine assign_i_l S rfl rfl ?_ | (refine lss_l S rfl rfl rfl ?_ ?_ <;> intro hcmp <;> try (exfalso; first | omega | exact hcmp (by decide) | exact absurd hcmp (by decide))) | refine add_l S rfl rfl (wrap_in (by omega)) rfl ?_ | refine run_block ?_ | refine run_ret ?_ | refine run_cond_true rfl ?_ | refine run_cond_false rfl ?_ | refine thenQ_n ?_ | refine thenQ_r ?_ | refine blockQ_n ?_ | refine blockQ_r ?_ | (refine run_draws S mixed ?_ ?_; · kernel_rfl) | (refine nilQ ?_; clear S; intro w S) | refine onQ rfl rfl ?_ | refine offQ rfl rfl rfl rfl ?_ | refine fieldAddr_q rfl rfl rfl ?_ | refine fieldAddrE_q rfl (by first | omega | decide | (simp; done) | (simp; omega)) rfl rfl ?_ | refine load_i_q rfl rfl rfl rfl ?_ | refine loadE_i_q rfl (by first | omega | decide | (simp; done) | (simp; omega)) rfl rfl rfl ?_ | refine move_b_q rfl rfl ?_ | refine move_i_q rfl rfl ?_ | (refine gtr_q rfl rfl rfl ?_ ?_ <;> intro hcmp <;> try (exfalso; first | omega | exact hcmp (by decide) | exact absurd hcmp (by decide))) | refine move_s_q rfl rfl ?_ | refine indexAddr_q rfl rfl (idx_cast _) (by first | omega | decide | (simp; done) | (simp; omega)) rfl ?_ | refine pick_tb_q rfl rfl rfl ?_ | refine pick_fb_q rfl rfl rfl ?_ | (refine eql_q rfl rfl rfl ?_ ?_ <;> intro hcmp <;> try (exfalso; first | omega | exact hcmp (by decide) | exact absurd hcmp (by decide))) | refine ret1_b rfl ?_)
        all_goals first
          | (have hbad : ¬AtOk n l q := fun h => (h.2.2.2.2.1 (by omega)).2 k hkq (by omega)
             exact ⟨by rw [hno hbad], S.chg.below⟩)
          | (refine ⟨k + 1, ?_, ⟨⟨by omega, hgo (by omega)⟩, S.sub⟩, by omega⟩
             rw [Int.natCast_add]
             (repeat (first | exact agree_refl | refine agree_r rfl ?_ | refine agree_l rfl ?_ | refine agree_hv rfl ?_)))
      · have hok2 : AtOk n l q := ⟨h1, h2, h3, h4, fun hw => ⟨h5 hw, fun j0 hj0 => hne j0 (by omega) hw⟩, h6, farB_any.1 h7, farB_any.1 h8, fun k hk hk0 => hup k (by omega) hk0⟩
        repeat' (first | refine move_i_l S rfl rfl ?_ | refine nilL ?_ | refine run_seq ?_ | refine run_region ?_ | refine assign_i_l S rfl rfl ?_ | (refine lss_l S rfl rfl rfl ?_ ?_ <;> intro hcmp <;> try (exfalso; first | omega | exact hcmp (by decide) | exact absurd hcmp (by decide))) | refine add_l S rfl rfl (wrap_in (by omega)) rfl ?_ | refine run_exit ?_ | refine run_cond_false rfl ?_ | refine thenQ_n ?_ | refine thenQ_e ?_ | refine blockQ_n ?_ | refine blockQ_s rfl ?_)
        refine ⟨q + 1, ?_, ⟨⟨hql, fun k hk => ?_⟩, S.sub⟩, by omega⟩
        · rw [Int.natCast_add]
          (repeat (first | exact agree_refl | refine agree_r rfl ?_ | refine agree_l rfl ?_ | refine agree_hv rfl ?_))
        · by_cases hkq : k = q
          · subst hkq; exact hok2
          · exact hok k (by omega)
  · repeat' (first | refine move_i_l S rfl rfl ?_ | refine assign_b_l S rfl rfl ?_ | refine move_s_l S rfl rfl ?_ | refine nilL ?_ | refine run_seq ?_ | refine run_region ?_ | refine len_l S rfl rfl ?_ | (refine lss_l S rfl rfl rfl ?_ ?_ <;> intro hcmp <;> try (exfalso; first | omega | exact hcmp (by decide) | exact absurd hcmp (by decide))) | refine run_ret ?_ | refine run_exit ?_ | refine run_cond_false rfl ?_ | refine thenQ_n ?_ | refine thenQ_e ?_ | refine blockQ_s rfl ?_ | refine ret1_b rfl ?_)
    exact ⟨by rw [decide_eq_true ⟨hn, fun i hi => hok i (by omega)⟩], S.chg.below⟩
end
end Go.Proofs.Ytciehimnhnbipaa
