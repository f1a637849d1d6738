/- witness: right. -/
import Derived.Test.YtjnlcfkdackghaaWsO
namespace Go.Proofs.Ytjnlcfkdackghaa
open Go.RowKit Go.Lib
set_option linter.unusedVariables false
set_option linter.unusedSimpArgs false
set_option maxHeartbeats 16000000
set_option maxRecDepth 100000
theorem vord_snoc {init : List Int} {z : List AtS} {a : AtS} : VOrd init (z ++ [a]) ↔ VOrd init z ∧ (∀ b ∈ z, aheadB a b = false) ∧ (isW a = true → ∀ b ∈ z, isW b = true → b.wv < a.wv) ∧ fitsB a (memA init z) = true := by
  unfold VOrd
  constructor
  · rintro ⟨h1, h2, h3⟩
    have p1 := List.pairwise_append.1 h1
    rw [List.filter_append] at h2
    have p2 := List.pairwise_append.1 h2
    refine ⟨⟨p1.1, p2.1, fun pre u post e => h3 pre u (post ++ [a]) (by rw [e]; simp)⟩, fun b hb => p1.2.2 b hb a (by simp), fun ha b hb hw => ?_, h3 z a [] rfl⟩
    exact p2.2.2 b (List.mem_filter.2 ⟨hb, hw⟩) a (List.mem_filter.2 ⟨by simp, ha⟩)
  · rintro ⟨⟨h1, h2, h3⟩, h4, h5, h6⟩
    refine ⟨List.pairwise_append.2 ⟨h1, List.pairwise_singleton .., fun b hb c hc => ?_⟩, ?_, fun pre u post e => ?_⟩
    · obtain rfl : c = a := by simpa using hc
      exact h4 b hb
    · rw [List.filter_append]
      refine List.pairwise_append.2 ⟨h2, List.Pairwise.filter _ (List.pairwise_singleton ..), fun b hb c hc => ?_⟩
      obtain ⟨hb1, hb2⟩ := List.mem_filter.1 hb
      obtain ⟨hc1, hc2⟩ := List.mem_filter.1 hc
      obtain rfl : c = a := by simpa using hc1
      exact h5 hc2 b hb1 hb2
    · rcases List.eq_nil_or_concat post with rfl | ⟨post', x, rfl⟩
      · have e2 : z = pre ∧ [a] = [u] := List.append_inj' e rfl
        obtain ⟨rfl, e3⟩ := e2
        obtain rfl := (List.cons.inj e3).1
        exact h6
      · have e2 : z = pre ++ u :: post' := by
          have : z ++ [a] = (pre ++ u :: post') ++ [x] := by rw [e]; simp
          exact (List.append_inj' this rfl).1
        exact h3 pre u post' e2
theorem vord_pre {init : List Int} {z y : List AtS} (h : VOrd init (z ++ y)) : VOrd init z := by
  refine ⟨(List.pairwise_append.1 h.1).1, ?_, fun pre u post e => h.2.2 pre u (post ++ y) (by rw [e]; simp)⟩
  have := h.2.1
  rw [List.filter_append] at this
  exact (List.pairwise_append.1 this).1
/-- What holds of the first q places of an order. -/
structure RInv (init : List Int) (l : List AtS) (o : List Int) (q : Nat) (v : Int) : Prop where
  rng : ∀ u ∈ o.take q, 0 ≤ u ∧ u < l.length
  nod : (o.take q).Nodup
  vord : VOrd init ((o.take q).map (atI l))
  v0 : 0 ≤ v
  ver : ∀ x, 0 < x → (v < x ↔ ∀ u ∈ o.take q, isW (atI l u) = true → (atI l u).wv < x)
theorem take_snoc {o : List Int} {q : Nat} (h : q < o.length) : o.take (q + 1) = o.take q ++ [o.getD q 0] := by
  rw [List.take_succ_eq_append_getElem h, List.getD_eq_getElem?_getD, List.getElem?_eq_getElem h]
  rfl
theorem valid_in {init : List Int} {l : List AtS} {o : List Int} (h : ValidO init l o) {u : Int} (hu : u ∈ o) : 0 ≤ u ∧ u < l.length := by
  have := h.1.mem_iff.1 hu
  unfold plL at this
  obtain ⟨i, hi, rfl⟩ := List.mem_map.1 this
  have := List.mem_range.1 hi
  omega
theorem valid_nodup {init : List Int} {l : List AtS} {o : List Int} (h : ValidO init l o) : o.Nodup := by
  refine h.1.nodup_iff.2 ?_
  unfold plL
  exact List.Pairwise.map _ (fun a b h e => h (by omega)) List.nodup_range
/-- What an order that may be has at place q. -/
theorem valid_at {init : List Int} {l : List AtS} {o : List Int} (h : ValidO init l o) {q : Nat} (hq : q < o.length) : o.getD q 0 ∉ o.take q ∧ VOrd init ((o.take q).map (atI l) ++ [atI l (o.getD q 0)]) := by
  constructor
  · have h1 := valid_nodup h
    rw [← List.take_append_drop (q + 1) o, take_snoc hq] at h1
    have h2 := (List.nodup_append.1 h1).1
    intro hm
    exact (List.nodup_append.1 h2).2.2 _ hm _ (by simp) rfl
  · have h1 := h.2
    rw [← List.take_append_drop (q + 1) o, take_snoc hq, List.map_append, List.map_append] at h1
    exact vord_pre h1
theorem perm_of_sub : ∀ {o t : List Int}, o.Nodup → (∀ u ∈ o, u ∈ t) → t.length ≤ o.length → o.Perm t
  | [], t, _, _, h => by
    obtain rfl : t = [] := List.eq_nil_of_length_eq_zero (by simpa using h)
    exact .refl _
  | a :: o, t, hn, hs, h => by
    have hn2 := List.nodup_cons.1 hn
    have hp := List.perm_cons_erase (hs a (by simp))
    have hl := hp.length_eq
    simp only [List.length_cons] at hl h
    refine (List.Perm.cons a (perm_of_sub hn2.2 (fun u hu => ?_) (by omega))).trans hp.symm
    exact (List.mem_erase_of_ne (fun e : u = a => hn2.1 (by rw [← e]; exact hu))).2 (hs u (by simp [hu]))
theorem valid_end {init : List Int} {l : List AtS} {o : List Int} {v : Int} (h : RInv init l o o.length v) (hl : o.length = l.length) : ValidO init l o := by
  have e : o.take o.length = o := List.take_length
  have h1 := h.rng
  have h2 := h.nod
  have h3 := h.vord
  rw [e] at h1 h2 h3
  refine ⟨?_, h3⟩
  have hsub : ∀ u ∈ o, u ∈ plL l := fun u hu => by
    obtain ⟨a1, a2⟩ := h1 u hu
    unfold plL
    exact List.mem_map.2 ⟨u.toNat, List.mem_range.2 (by omega), by omega⟩
  exact perm_of_sub h2 hsub (by unfold plL; rw [List.length_map, List.length_range]; omega)
theorem RInv.start (init : List Int) (l : List AtS) (o : List Int) : RInv init l o 0 0 :=
  ⟨fun u h => (by cases h), List.Pairwise.nil, ⟨.nil, .nil, fun pre u post e => (by cases pre <;> cases e)⟩, Int.le_refl _, fun x hx => ⟨fun _ u h => (by cases h), fun _ => hx⟩⟩
theorem RInv.step {n : Nat} {init : List Int} {l : List AtS} {o : List Int} {q : Nat} {v : Int} (hM : MayP n l) (h : RInv init l o q v) (hq : q < o.length) (hu : 0 ≤ o.getD q 0 ∧ o.getD q 0 < l.length) (hn : o.getD q 0 ∉ o.take q)
    (ha : ∀ k, k < q → aheadB (atI l (o.getD q 0)) (atI l (o.getD k 0)) = false) (hf : fitsB (atI l (o.getD q 0)) (memA init ((o.take q).map (atI l))) = true) (v' : Int)
    (hv : (¬ 0 < (atI l (o.getD q 0)).wv ∧ v' = v) ∨ (0 < (atI l (o.getD q 0)).wv ∧ v < (atI l (o.getD q 0)).wv ∧ v' = (atI l (o.getD q 0)).wv)) : RInv init l o (q + 1) v' := by
  have h0 := h.v0
  have hall : isW (atI l (o.getD q 0)) = true → ∀ u ∈ o.take q, isW (atI l u) = true → (atI l u).wv < (atI l (o.getD q 0)).wv := fun hw => by
    rcases hv with ⟨h1, _⟩ | ⟨h1, h2, _⟩
    · exact absurd (of_decide_eq_true hw) h1
    · exact (h.ver _ h1).1 h2
  refine ⟨?_, ?_, ?_, ?_, ?_⟩
  · rw [take_snoc hq]
    intro u hu2
    rcases List.mem_append.1 hu2 with h1 | h1
    · exact h.rng u h1
    · obtain rfl : u = o.getD q 0 := by simpa using h1
      exact hu
  · rw [take_snoc hq]
    refine List.nodup_append.2 ⟨h.nod, List.pairwise_singleton .., fun a ha2 b hb e => ?_⟩
    obtain rfl : b = o.getD q 0 := by simpa using hb
    exact hn (e ▸ ha2)
  · rw [take_snoc hq, List.map_append]
    refine vord_snoc.2 ⟨h.vord, fun b hb => ?_, fun hw b hb hbw => ?_, hf⟩
    · obtain ⟨u, hu2, rfl⟩ := List.mem_map.1 hb
      obtain ⟨k, hk, rfl⟩ := List.mem_iff_getElem.1 hu2
      have hkq : k < q := by rw [List.length_take] at hk; omega
      have := ha k hkq
      rwa [List.getElem_take, ← wrs_getD (by omega)]
    · obtain ⟨u, hu2, rfl⟩ := List.mem_map.1 hb
      exact hall hw u hu2 hbw
  · rcases hv with ⟨_, rfl⟩ | ⟨h1, _, rfl⟩
    · exact h0
    · omega
  · intro x hx
    rw [take_snoc hq]
    constructor
    · intro hlt u hu2 huw
      rcases List.mem_append.1 hu2 with h1 | h1
      · rcases hv with ⟨_, rfl⟩ | ⟨h2, h3, rfl⟩
        · exact (h.ver x hx).1 hlt u h1 huw
        · exact (h.ver x hx).1 (by omega) u h1 huw
      · obtain rfl : u = o.getD q 0 := by simpa using h1
        rcases hv with ⟨h2, _⟩ | ⟨_, _, rfl⟩
        · exact absurd (of_decide_eq_true huw) h2
        · exact hlt
    · intro hall2
      rcases hv with ⟨_, rfl⟩ | ⟨h2, h3, rfl⟩
      · exact (h.ver x hx).2 fun u hu2 => hall2 u (List.mem_append.2 (.inl hu2))
      · exact hall2 _ (List.mem_append.2 (.inr (by simp))) (decide_eq_true h2)
/-- Memory behind one place more. -/
theorem mem_step (init : List Int) (l : List AtS) {o : List Int} {q : Nat} (hq : q < o.length) : memA init ((o.take (q + 1)).map (atI l)) = wrtM (memA init ((o.take q).map (atI l))) (atI l (o.getD q 0)).ws := by
  rw [take_snoc hq, List.map_append]
  unfold memA
  rw [List.foldl_append]
  rfl
theorem memA_len (init : List Int) (z : List AtS) : (memA init z).length = init.length := by
  unfold memA
  induction z generalizing init with
  | nil => rfl
  | cons u z ih => rw [List.foldl_cons, ih, wrtM_len]
end Go.Proofs.Ytjnlcfkdackghaa
