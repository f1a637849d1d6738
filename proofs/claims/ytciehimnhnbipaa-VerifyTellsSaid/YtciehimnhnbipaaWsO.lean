/- witness: what the statements are handed, opened. witness: right. -/
import Derived.Test.YtciehimnhnbipaaWsM
import Derived.Test.YtciehimnhnbipaaOpen2
namespace Go.Proofs.Ytciehimnhnbipaa
open Go.RowKit Go.Deep Go.ChangeShapes Go.WideShapes
set_option linter.unusedVariables false
set_option maxRecDepth 100000
section
variable {H : Type} {enc : TypeId × Value → H} {P : Program} {w : World}

theorem trodS9 {t : TypeId} {f0 f1 f2 f3 f4 f5 f6 f7 f8 : Field} {base : Nat} {spare : Nat → Bool} {held : Bool} {fuel : Nat} {cs : List Value} {x : DataW H × List MemPlace} (ht : P.underlying t = some (.struct #[f0, f1, f2, f3, f4, f5, f6, f7, f8])) (h : DataW.trod enc P w base spare held fuel t cs = some x) :
    ∃ y0 y1 y2 y3 y4 y5 y6 y7 y8 n, cs.length = P.cellsOf t ∧ DataW.trod enc P w base spare held n f0.type ((cs.drop f0.offset).take (P.cellsOf f0.type)) = some y0 ∧ DataW.trod enc P w base spare held n f1.type ((cs.drop f1.offset).take (P.cellsOf f1.type)) = some y1 ∧ DataW.trod enc P w base spare held n f2.type ((cs.drop f2.offset).take (P.cellsOf f2.type)) = some y2 ∧ DataW.trod enc P w base spare held n f3.type ((cs.drop f3.offset).take (P.cellsOf f3.type)) = some y3 ∧ DataW.trod enc P w base spare held n f4.type ((cs.drop f4.offset).take (P.cellsOf f4.type)) = some y4 ∧ DataW.trod enc P w base spare held n f5.type ((cs.drop f5.offset).take (P.cellsOf f5.type)) = some y5 ∧ DataW.trod enc P w base spare held n f6.type ((cs.drop f6.offset).take (P.cellsOf f6.type)) = some y6 ∧ DataW.trod enc P w base spare held n f7.type ((cs.drop f7.offset).take (P.cellsOf f7.type)) = some y7 ∧ DataW.trod enc P w base spare held n f8.type ((cs.drop f8.offset).take (P.cellsOf f8.type)) = some y8 := by
  obtain ⟨xs, n, _, rfl, hl, hlen, hf⟩ := DataW.trod_struct ht h
  match xs, hlen with
  | [y0, y1, y2, y3, y4, y5, y6, y7, y8], _ => exact ⟨y0, y1, y2, y3, y4, y5, y6, y7, y8, n, hl, by simpa using hf 0 f0 rfl, by simpa using hf 1 f1 rfl, by simpa using hf 2 f2 rfl, by simpa using hf 3 f3 rfl, by simpa using hf 4 f4 rfl, by simpa using hf 5 f5 rfl, by simpa using hf 6 f6 rfl, by simpa using hf 7 f7 rfl, by simpa using hf 8 f8 rfl⟩
end
end Go.Proofs.Ytciehimnhnbipaa
namespace Go.Proofs.Ytciehimnhnbipaa
open Go.RowKit Go.Lib
set_option linter.unusedVariables false
set_option maxRecDepth 100000
def prCells (p : Int × Int) : List Value := [.int .i64 p.1, .int .i64 p.2]
def atCells (z : AtS) : List Value := [.int .i64 z.thread, .int .i64 z.tx, .int .i64 z.frm, .int .i64 z.to, .int .i64 z.rv, .int .i64 z.wv, .bool z.com, .slice z.ra z.rs.length z.rc, .slice z.wa z.ws.length z.wc]
section
variable {H : Type} {enc : TypeId × Value → H} {w : World}
theorem prc_open (fuel : Nat) (cs : List Value) (x : DataW H × List MemPlace) (h : DataW.trod enc Try.prog w 0 (fun _ => true) true fuel 34 cs = some x) : ∃ d : Int × Int, cs = prCells d ∧ True := by
  obtain ⟨y0, y1, n, hl, h0, h1⟩ := trodS2 Try.underlying34 h
  have hl2 : cs.length = 2 := hl.trans (by kernel_rfl)
  match cs, hl2 with
  | [c0, c1], _ =>
    obtain ⟨k, e0, _, wk⟩ := DataW.trod_int Try.underlying3 h0
    obtain ⟨a, e1, _, wn⟩ := DataW.trod_int Try.underlying2 h1
    have d0 : [c0] = [.int .i64 k] := e0
    have d1 : [c1] = [.int .i64 a] := e1
    obtain rfl := (List.cons.inj d0).1
    obtain rfl := (List.cons.inj d1).1
    exact ⟨(k, a), rfl, trivial⟩
theorem prs_cell {c : Value} {fuel : Nat} {x : DataW H × List MemPlace} (h : DataW.trod enc Try.prog w 0 (fun _ => true) true fuel 29 [c] = some x) :
    ∃ a cap, ∃ zs : List (Int × Int), c = .slice a zs.length cap ∧ SlOk w a zs.length cap 2 (gL encPr (0, 0) zs) := by
  obtain ⟨a, len, cap, rfl, ht⟩ := slice_cell Try.underlying29 h
  obtain ⟨zs, h1, h2⟩ := slice_open 29 34 2 prCells (fun _ => True) Try.underlying29 (by kernel_rfl) (by decide) (fun _ => rfl) prc_open ht
  have h3 := SlOk.of_at (enc := encPr) (d := (0, 0)) h1 (none_capT Try.underlying29 ht) (by decide) (fun z j hj => by
    match j, hj with
    | 0, _ => rfl
    | 1, _ => rfl)
  obtain rfl := h1.1
  exact ⟨a, cap, zs, rfl, h3⟩
theorem atc_open (fuel : Nat) (cs : List Value) (x : DataW H × List MemPlace) (h : DataW.trod enc Try.prog w 0 (fun _ => true) true fuel 32 cs = some x) : ∃ d : AtS, cs = atCells d ∧ (atR d).holds w := by
  obtain ⟨y0, y1, y2, y3, y4, y5, y6, y7, y8, n, hl, h0, h1, h2, h3, h4, h5, h6, h7, h8⟩ := trodS9 Try.underlying32 h
  have hl9 : cs.length = 9 := hl.trans (by kernel_rfl)
  match cs, hl9 with
  | [c0, c1, c2, c3, c4, c5, c6, c7, c8], _ =>
    obtain ⟨z0, e0, _, _⟩ := DataW.trod_int Try.underlying3 h0
    obtain ⟨z1, e1, _, _⟩ := DataW.trod_int Try.underlying3 h1
    obtain ⟨z2, e2, _, _⟩ := DataW.trod_int Try.underlying3 h2
    obtain ⟨z3, e3, _, _⟩ := DataW.trod_int Try.underlying3 h3
    obtain ⟨z4, e4, _, _⟩ := DataW.trod_int Try.underlying3 h4
    obtain ⟨z5, e5, _, _⟩ := DataW.trod_int Try.underlying3 h5
    obtain ⟨z6, e6, _⟩ := DataW.trod_bool Try.underlying4 h6
    obtain ⟨ra, rc, rs, rfl, hr⟩ := prs_cell (c := c7) h7
    obtain ⟨wa, wc, ws, rfl, hw⟩ := prs_cell (c := c8) h8
    have d0 : [c0] = [.int .i64 z0] := e0
    obtain rfl := (List.cons.inj d0).1
    have d1 : [c1] = [.int .i64 z1] := e1
    obtain rfl := (List.cons.inj d1).1
    have d2 : [c2] = [.int .i64 z2] := e2
    obtain rfl := (List.cons.inj d2).1
    have d3 : [c3] = [.int .i64 z3] := e3
    obtain rfl := (List.cons.inj d3).1
    have d4 : [c4] = [.int .i64 z4] := e4
    obtain rfl := (List.cons.inj d4).1
    have d5 : [c5] = [.int .i64 z5] := e5
    obtain rfl := (List.cons.inj d5).1
    have d6 : [c6] = [.bool z6] := e6
    obtain rfl := (List.cons.inj d6).1
    exact ⟨⟨z0, z1, z2, z3, z4, z5, z6, ra, rc, rs, wa, wc, ws⟩, rfl, hr, hw⟩
theorem ats_open {a : Option Addr} {len cap : Nat} {d : DataW H} {p : List MemPlace} (h : DataW.Trod enc Try.prog w 0 (fun _ => true) true 27 (.slice a len cap) d p) :
    ∃ zs : List AtS, zs.length = len ∧ (hisR a cap zs).holds w := by
  obtain ⟨zs, h1, h2⟩ := slice_open 27 32 9 atCells (fun z => (atR z).holds w) Try.underlying27 (by kernel_rfl) (by decide) (fun _ => rfl) atc_open h
  have h3 := SlOk.of_at (enc := encAt) (d := atD) h1 (none_capT Try.underlying27 h) (by decide) (fun z j hj => by
    rcases lt9 hj with rfl | rfl | rfl | rfl | rfl | rfl | rfl | rfl | rfl <;> rfl)
  exact ⟨zs, h1.1, his_of zs h3 h1.1 (fun _ _ _ _ => rfl) h2⟩
theorem int64s_open {a : Option Addr} {len cap : Nat} {d : DataW H} {p : List MemPlace} (h : DataW.Trod enc Try.prog w 0 (fun _ => true) true 23 (.slice a len cap) d p) :
    ∃ zs : List Int, zs.length = len ∧ SlOk w a len cap 1 (gL encI 0 zs) := by
  obtain ⟨zs, h1, h2, _⟩ := ints_sl 23 2 Try.underlying23 (by kernel_rfl) Try.underlying2 h
  exact ⟨zs, h1, h2⟩
end
end Go.Proofs.Ytciehimnhnbipaa
namespace Go.Proofs.Ytciehimnhnbipaa
open Go.RowKit Go.Lib
set_option linter.unusedVariables false
set_option linter.unusedSimpArgs false
set_option maxHeartbeats 16000000
set_option maxRecDepth 100000
theorem vord_snoc {init : List Int} {z : List AtS} {a : AtS} : VOrd init (z ++ [a]) ↔ VOrd init z ∧ (∀ b ∈ z, aheadB a b = false) ∧ (isW a = true → ∀ b ∈ z, isW b = true → b.wv < a.wv) ∧ fitsB a (memA init z) = true := by
  unfold VOrd
  constructor
  · rintro ⟨h1, h2, h3⟩
    have p1 := List.pairwise_append.1 h1
    rw [List.filter_append] at h2
    have p2 := List.pairwise_append.1 h2
    refine ⟨⟨p1.1, p2.1, fun pre u post e => h3 pre u (post ++ [a]) (by rw [e]; simp)⟩, fun b hb => p1.2.2 b hb a (by simp), fun ha b hb hw => ?_, h3 z a [] rfl⟩
    exact p2.2.2 b (List.mem_filter.2 ⟨hb, hw⟩) a (List.mem_filter.2 ⟨by simp, ha⟩)
  · rintro ⟨⟨h1, h2, h3⟩, h4, h5, h6⟩
    refine ⟨List.pairwise_append.2 ⟨h1, List.pairwise_singleton .., fun b hb c hc => ?_⟩, ?_, fun pre u post e => ?_⟩
    · obtain rfl : c = a := by simpa using hc
      exact h4 b hb
    · rw [List.filter_append]
      refine List.pairwise_append.2 ⟨h2, List.Pairwise.filter _ (List.pairwise_singleton ..), fun b hb c hc => ?_⟩
      obtain ⟨hb1, hb2⟩ := List.mem_filter.1 hb
      obtain ⟨hc1, hc2⟩ := List.mem_filter.1 hc
      obtain rfl : c = a := by simpa using hc1
      exact h5 hc2 b hb1 hb2
    · rcases List.eq_nil_or_concat post with rfl | ⟨post', x, rfl⟩
      · have e2 : z = pre ∧ [a] = [u] := List.append_inj' e rfl
        obtain ⟨rfl, e3⟩ := e2
        obtain rfl := (List.cons.inj e3).1
        exact h6
      · have e2 : z = pre ++ u :: post' := by
          have : z ++ [a] = (pre ++ u :: post') ++ [x] := by rw [e]; simp
          exact (List.append_inj' this rfl).1
        exact h3 pre u post' e2
theorem vord_pre {init : List Int} {z y : List AtS} (h : VOrd init (z ++ y)) : VOrd init z := by
  refine ⟨(List.pairwise_append.1 h.1).1, ?_, fun pre u post e => h.2.2 pre u (post ++ y) (by rw [e]; simp)⟩
  have := h.2.1
  rw [List.filter_append] at this
  exact (List.pairwise_append.1 this).1
/-- What holds of the first q places of an order. -/
structure RInv (init : List Int) (l : List AtS) (o : List Int) (q : Nat) (v : Int) : Prop where
  rng : ∀ u ∈ o.take q, 0 ≤ u ∧ u < l.length
  nod : (o.take q).Nodup
  vord : VOrd init ((o.take q).map (atI l))
  v0 : 0 ≤ v
  ver : ∀ x, 0 < x → (v < x ↔ ∀ u ∈ o.take q, isW (atI l u) = true → (atI l u).wv < x)
theorem take_snoc {o : List Int} {q : Nat} (h : q < o.length) : o.take (q + 1) = o.take q ++ [o.getD q 0] := by
  rw [List.take_succ_eq_append_getElem h, List.getD_eq_getElem?_getD, List.getElem?_eq_getElem h]
  rfl
theorem valid_in {init : List Int} {l : List AtS} {o : List Int} (h : ValidO init l o) {u : Int} (hu : u ∈ o) : 0 ≤ u ∧ u < l.length := by
  have := h.1.mem_iff.1 hu
  unfold plL at this
  obtain ⟨i, hi, rfl⟩ := List.mem_map.1 this
  have := List.mem_range.1 hi
  omega
theorem valid_nodup {init : List Int} {l : List AtS} {o : List Int} (h : ValidO init l o) : o.Nodup := by
  refine h.1.nodup_iff.2 ?_
  unfold plL
  exact List.Pairwise.map _ (fun a b h e => h (by omega)) List.nodup_range
/-- What an order that may be has at place q. -/
theorem valid_at {init : List Int} {l : List AtS} {o : List Int} (h : ValidO init l o) {q : Nat} (hq : q < o.length) : o.getD q 0 ∉ o.take q ∧ VOrd init ((o.take q).map (atI l) ++ [atI l (o.getD q 0)]) := by
  constructor
  · have h1 := valid_nodup h
    rw [← List.take_append_drop (q + 1) o, take_snoc hq] at h1
    have h2 := (List.nodup_append.1 h1).1
    intro hm
    exact (List.nodup_append.1 h2).2.2 _ hm _ (by simp) rfl
  · have h1 := h.2
    rw [← List.take_append_drop (q + 1) o, take_snoc hq, List.map_append, List.map_append] at h1
    exact vord_pre h1
theorem perm_of_sub : ∀ {o t : List Int}, o.Nodup → (∀ u ∈ o, u ∈ t) → t.length ≤ o.length → o.Perm t
  | [], t, _, _, h => by
    obtain rfl : t = [] := List.eq_nil_of_length_eq_zero (by simpa using h)
    exact .refl _
  | a :: o, t, hn, hs, h => by
    have hn2 := List.nodup_cons.1 hn
    have hp := List.perm_cons_erase (hs a (by simp))
    have hl := hp.length_eq
    simp only [List.length_cons] at hl h
    refine (List.Perm.cons a (perm_of_sub hn2.2 (fun u hu => ?_) (by omega))).trans hp.symm
    exact (List.mem_erase_of_ne (fun e : u = a => hn2.1 (by rw [← e]; exact hu))).2 (hs u (by simp [hu]))
theorem valid_end {init : List Int} {l : List AtS} {o : List Int} {v : Int} (h : RInv init l o o.length v) (hl : o.length = l.length) : ValidO init l o := by
  have e : o.take o.length = o := List.take_length
  have h1 := h.rng
  have h2 := h.nod
  have h3 := h.vord
  rw [e] at h1 h2 h3
  refine ⟨?_, h3⟩
  have hsub : ∀ u ∈ o, u ∈ plL l := fun u hu => by
    obtain ⟨a1, a2⟩ := h1 u hu
    unfold plL
    exact List.mem_map.2 ⟨u.toNat, List.mem_range.2 (by omega), by omega⟩
  exact perm_of_sub h2 hsub (by unfold plL; rw [List.length_map, List.length_range]; omega)
theorem RInv.start (init : List Int) (l : List AtS) (o : List Int) : RInv init l o 0 0 :=
  ⟨fun u h => (by cases h), List.Pairwise.nil, ⟨.nil, .nil, fun pre u post e => (by cases pre <;> cases e)⟩, Int.le_refl _, fun x hx => ⟨fun _ u h => (by cases h), fun _ => hx⟩⟩
theorem RInv.step {n : Nat} {init : List Int} {l : List AtS} {o : List Int} {q : Nat} {v : Int} (hM : MayP n l) (h : RInv init l o q v) (hq : q < o.length) (hu : 0 ≤ o.getD q 0 ∧ o.getD q 0 < l.length) (hn : o.getD q 0 ∉ o.take q)
    (ha : ∀ k, k < q → aheadB (atI l (o.getD q 0)) (atI l (o.getD k 0)) = false) (hf : fitsB (atI l (o.getD q 0)) (memA init ((o.take q).map (atI l))) = true) (v' : Int)
    (hv : (¬ 0 < (atI l (o.getD q 0)).wv ∧ v' = v) ∨ (0 < (atI l (o.getD q 0)).wv ∧ v < (atI l (o.getD q 0)).wv ∧ v' = (atI l (o.getD q 0)).wv)) : RInv init l o (q + 1) v' := by
  have h0 := h.v0
  have hall : isW (atI l (o.getD q 0)) = true → ∀ u ∈ o.take q, isW (atI l u) = true → (atI l u).wv < (atI l (o.getD q 0)).wv := fun hw => by
    rcases hv with ⟨h1, _⟩ | ⟨h1, h2, _⟩
    · exact absurd (of_decide_eq_true hw) h1
    · exact (h.ver _ h1).1 h2
  refine ⟨?_, ?_, ?_, ?_, ?_⟩
  · rw [take_snoc hq]
    intro u hu2
    rcases List.mem_append.1 hu2 with h1 | h1
    · exact h.rng u h1
    · obtain rfl : u = o.getD q 0 := by simpa using h1
      exact hu
  · rw [take_snoc hq]
    refine List.nodup_append.2 ⟨h.nod, List.pairwise_singleton .., fun a ha2 b hb e => ?_⟩
    obtain rfl : b = o.getD q 0 := by simpa using hb
    exact hn (e ▸ ha2)
  · rw [take_snoc hq, List.map_append]
    refine vord_snoc.2 ⟨h.vord, fun b hb => ?_, fun hw b hb hbw => ?_, hf⟩
    · obtain ⟨u, hu2, rfl⟩ := List.mem_map.1 hb
      obtain ⟨k, hk, rfl⟩ := List.mem_iff_getElem.1 hu2
      have hkq : k < q := by rw [List.length_take] at hk; omega
      have := ha k hkq
      rwa [List.getElem_take, ← wrs_getD (by omega)]
    · obtain ⟨u, hu2, rfl⟩ := List.mem_map.1 hb
      exact hall hw u hu2 hbw
  · rcases hv with ⟨_, rfl⟩ | ⟨h1, _, rfl⟩
    · exact h0
    · omega
  · intro x hx
    rw [take_snoc hq]
    constructor
    · intro hlt u hu2 huw
      rcases List.mem_append.1 hu2 with h1 | h1
      · rcases hv with ⟨_, rfl⟩ | ⟨h2, h3, rfl⟩
        · exact (h.ver x hx).1 hlt u h1 huw
        · exact (h.ver x hx).1 (by omega) u h1 huw
      · obtain rfl : u = o.getD q 0 := by simpa using h1
        rcases hv with ⟨h2, _⟩ | ⟨_, _, rfl⟩
        · exact absurd (of_decide_eq_true huw) h2
        · exact hlt
    · intro hall2
      rcases hv with ⟨_, rfl⟩ | ⟨h2, h3, rfl⟩
      · exact (h.ver x hx).2 fun u hu2 => hall2 u (List.mem_append.2 (.inl hu2))
      · exact hall2 _ (List.mem_append.2 (.inr (by simp))) (decide_eq_true h2)
/-- Memory behind one place more. -/
theorem mem_step (init : List Int) (l : List AtS) {o : List Int} {q : Nat} (hq : q < o.length) : memA init ((o.take (q + 1)).map (atI l)) = wrtM (memA init ((o.take q).map (atI l))) (atI l (o.getD q 0)).ws := by
  rw [take_snoc hq, List.map_append]
  unfold memA
  rw [List.foldl_append]
  rfl
theorem memA_len (init : List Int) (z : List AtS) : (memA init z).length = init.length := by
  unfold memA
  induction z generalizing init with
  | nil => rfl
  | cons u z ih => rw [List.foldl_cons, ih, wrtM_len]
end Go.Proofs.Ytciehimnhnbipaa
