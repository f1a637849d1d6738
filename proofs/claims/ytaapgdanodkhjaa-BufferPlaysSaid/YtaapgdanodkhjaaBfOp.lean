/- buffer: what the statements are handed, opened; the plain law of the steps. -/
import Derived.Test.YtaapgdanodkhjaaOpen2
import Derived.Test.YtaapgdanodkhjaaBfR
namespace Go.Proofs.Ytaapgdanodkhjaa
open Go.RowKit Go.Lib
set_option linter.unusedVariables false
set_option maxRecDepth 100000
instance : Inhabited StS := ⟨stD⟩
def stCells (c : StS) : List Value := [.int .u8 c.kind, .int .i64 c.v, .int .i64 c.x]
def prCells (p : Int × Int) : List Value := [.int .i64 p.1, .int .i64 p.2]
section
variable {H : Type} {enc : TypeId × Value → H} {w : World}
theorem stc_open (fuel : Nat) (cs : List Value) (x : DataW H × List MemPlace) (h : DataW.trod enc Try.prog w 0 (fun _ => true) true fuel 27 cs = some x) : ∃ d : StS, cs = stCells d ∧ ((Lit.int .u8 d.kind).wf = true ∧ (Lit.int .i64 d.v).wf = true ∧ (Lit.int .i64 d.x).wf = true) := by
  obtain ⟨y0, y1, y2, n, hl, h0, h1, h2⟩ := trodS3 Try.underlying27 h
  have hl5 : cs.length = 3 := hl.trans (by kernel_rfl)
  match cs, hl5 with
  | [c0, c1, c2], _ =>
    obtain ⟨k, e0, _, wk⟩ := DataW.trod_int Try.underlying5 h0
    obtain ⟨a, e1, _, wn⟩ := DataW.trod_int Try.underlying3 h1
    obtain ⟨b, e2, _, wx⟩ := DataW.trod_int Try.underlying2 h2
    have d0 : [c0] = [.int .u8 k] := e0
    have d1 : [c1] = [.int .i64 a] := e1
    have d2 : [c2] = [.int .i64 b] := e2
    obtain rfl := (List.cons.inj d0).1
    obtain rfl := (List.cons.inj d1).1
    obtain rfl := (List.cons.inj d2).1
    exact ⟨⟨k, a, b⟩, rfl, wk, wn, wx⟩
theorem steps_open {a : Option Addr} {len cap : Nat} {d : DataW H} {p : List MemPlace} (h : DataW.Trod enc Try.prog w 0 (fun _ => true) true 22 (.slice a len cap) d p) :
    ∃ zs : List StS, zs.length = len ∧ SlOk w a len cap 3 (gL encSt stD zs) ∧ ∀ z ∈ zs, ((Lit.int .u8 z.kind).wf = true ∧ (Lit.int .i64 z.v).wf = true ∧ (Lit.int .i64 z.x).wf = true) := by
  obtain ⟨zs, h1, h2⟩ := slice_open 22 27 3 stCells (fun z => (Lit.int .u8 z.kind).wf = true ∧ (Lit.int .i64 z.v).wf = true ∧ (Lit.int .i64 z.x).wf = true) Try.underlying22 (by kernel_rfl) (by decide) (fun _ => rfl) stc_open h
  exact ⟨zs, h1.1, SlOk.of_at h1 (none_capT Try.underlying22 h) (by decide) (fun z j hj => by
    match j, hj with
    | 0, _ => rfl
    | 1, _ => rfl
    | 2, _ => rfl), h2⟩
theorem prc_open (fuel : Nat) (cs : List Value) (x : DataW H × List MemPlace) (h : DataW.trod enc Try.prog w 0 (fun _ => true) true fuel 35 cs = some x) : ∃ d : Int × Int, cs = prCells d ∧ ((Lit.int .i64 d.1).wf = true ∧ (Lit.int .i64 d.2).wf = true) := by
  obtain ⟨y0, y1, n, hl, h0, h1⟩ := trodS2 Try.underlying35 h
  have hl5 : cs.length = 2 := hl.trans (by kernel_rfl)
  match cs, hl5 with
  | [c0, c1], _ =>
    obtain ⟨k, e0, _, wk⟩ := DataW.trod_int Try.underlying3 h0
    obtain ⟨a, e1, _, wn⟩ := DataW.trod_int Try.underlying2 h1
    have d0 : [c0] = [.int .i64 k] := e0
    have d1 : [c1] = [.int .i64 a] := e1
    obtain rfl := (List.cons.inj d0).1
    obtain rfl := (List.cons.inj d1).1
    exact ⟨⟨k, a⟩, rfl, wk, wn⟩
theorem pairs_open {a : Option Addr} {len cap : Nat} {d : DataW H} {p : List MemPlace} (h : DataW.Trod enc Try.prog w 0 (fun _ => true) true 32 (.slice a len cap) d p) :
    ∃ zs : List (Int × Int), zs.length = len ∧ SlOk w a len cap 2 (gL encQ (0, 0) zs) ∧ ∀ z ∈ zs, ((Lit.int .i64 z.1).wf = true ∧ (Lit.int .i64 z.2).wf = true) := by
  obtain ⟨zs, h1, h2⟩ := slice_open 32 35 2 prCells (fun z => (Lit.int .i64 z.1).wf = true ∧ (Lit.int .i64 z.2).wf = true) Try.underlying32 (by kernel_rfl) (by decide) (fun _ => rfl) prc_open h
  exact ⟨zs, h1.1, SlOk.of_at h1 (none_capT Try.underlying32 h) (by decide) (fun z j hj => by
    match j, hj with
    | 0, _ => rfl
    | 1, _ => rfl), h2⟩
end
/-! The plain law. -/
def SrtB (B : BfB) : Prop := ∀ M ∈ B, SrtM M
theorem SrtB.snoc {B : BfB} {M : LvM} : SrtB (B ++ [M]) ↔ SrtB B ∧ SrtM M := by
  constructor
  · intro h; exact ⟨fun N hN => h N (by simp [hN]), h M (by simp)⟩
  · rintro ⟨h1, h2⟩ N hN
    rcases List.mem_append.1 hN with hN | hN
    · exact h1 N hN
    · obtain rfl : N = M := by simpa using hN
      exact h2
theorem getB_put {B : BfB} (h : SrtB B) (hne : B ≠ []) (v x u : Int) : getB (putB B v x) u = if u = v then some x else getB B u := by
  obtain ⟨C, M, rfl⟩ := snoc_of hne
  rw [putB_snoc, getB_add, getB_add, getM_put (SrtB.snoc.1 h).2]
  split <;> rfl
theorem getB_push (B : BfB) (u : Int) : getB (B ++ [[]]) u = getB B u := by rw [getB_add]; rfl
theorem getB_merge {B : BfB} (h : SrtB B) (u : Int) : getB (mergeB B) u = getB B u := by
  by_cases h2 : B.length < 2
  · rw [mergeB, if_pos h2]
  · obtain ⟨C, M, rfl⟩ := snoc_of (show B ≠ [] from fun e => by rw [e] at h2; exact h2 (by simp))
    obtain ⟨D, N, rfl⟩ := snoc_of (show C ≠ [] from fun e => by rw [e] at h2; exact h2 (by simp))
    obtain ⟨h1, h3⟩ := SrtB.snoc.1 h
    obtain ⟨h4, h5⟩ := SrtB.snoc.1 h1
    rw [mergeB_snoc, getB_add, getB_add, getB_add, getM_ovl h5 h3]
    cases getM M u <;> rfl
theorem allB_put {B : BfB} (h : SrtB B) (hne : B ≠ []) (v x : Int) : allB (putB B v x) = putM (allB B) v x := by
  have hs : SrtB (putB B v x) := by
    obtain ⟨C, M, rfl⟩ := snoc_of hne
    rw [putB_snoc]
    exact SrtB.snoc.2 ⟨(SrtB.snoc.1 h).1, putM_sorted (SrtB.snoc.1 h).2 _ _⟩
  refine getM_ext (allB_sorted _) (putM_sorted (allB_sorted _) _ _) fun k => ?_
  rw [getM_allB _ hs, getM_put (allB_sorted _), getM_allB _ h, getB_put h hne]
theorem allB_push (B : BfB) : allB (B ++ [[]]) = allB B := by rw [allB_add]; rfl
theorem SrtB.merge {B : BfB} (h : SrtB B) : SrtB (mergeB B) := by
  by_cases h2 : B.length < 2
  · rw [mergeB, if_pos h2]; exact h
  · obtain ⟨C, M, rfl⟩ := snoc_of (show B ≠ [] from fun e => by rw [e] at h2; exact h2 (by simp))
    obtain ⟨D, N, rfl⟩ := snoc_of (show C ≠ [] from fun e => by rw [e] at h2; exact h2 (by simp))
    rw [mergeB_snoc]
    exact SrtB.snoc.2 ⟨(SrtB.snoc.1 (SrtB.snoc.1 h).1).1, putAll_sorted (SrtB.snoc.1 (SrtB.snoc.1 h).1).2 _⟩
theorem allB_merge {B : BfB} (h : SrtB B) : allB (mergeB B) = allB B := by
  refine getM_ext (allB_sorted _) (allB_sorted _) fun k => ?_
  rw [getM_allB _ h.merge, getM_allB _ h, getB_merge h]
/-- How many pairs there are. -/
def totB (B : BfB) : Nat := (B.map List.length).sum
theorem totB_snoc (B : BfB) (M : LvM) : totB (B ++ [M]) = totB B + M.length := by simp [totB]
theorem putM_le {m : LvM} (h : SrtM m) (k x : Int) : (putM m k x).length ≤ m.length + 1 := by
  cases e : getM m k with
  | none => rw [putM_len_none e]; exact Nat.le_refl _
  | some y => rw [putM_len_some h e]; omega
theorem putAll_le {M : LvM} (h : SrtM M) (l : LvM) : (putAll M l).length ≤ M.length + l.length := by
  induction l generalizing M with
  | nil => exact Nat.le_refl _
  | cons p l ih =>
    have h1 := ih (putM_sorted h p.1 p.2)
    have h2 := putM_le h p.1 p.2
    simp only [List.length_cons]
    show (putAll (putM M p.1 p.2) l).length ≤ _
    omega
theorem allB_le (B : BfB) : (allB B).length ≤ totB B := by
  induction B using snoc_ind with
  | h0 => exact Nat.le_refl _
  | h1 B M ih =>
    rw [allB_add, totB_snoc]
    have := putAll_le (allB_sorted B) M
    omega
theorem stepB_le {B : BfB} (h : SrtB B) (hne : B ≠ []) (s : StS) : totB (stepB s B) ≤ totB B + 1 ∧ (stepB s B).length ≤ B.length + 1 := by
  unfold stepB
  obtain ⟨C, M, rfl⟩ := snoc_of hne
  obtain ⟨h1, h2⟩ := SrtB.snoc.1 h
  split
  · rw [putB_snoc, totB_snoc, totB_snoc]
    have := putM_le h2 s.v s.x
    exact ⟨by omega, by simp⟩
  split
  · rw [totB_snoc _ []]
    exact ⟨by simp, by simp⟩
  split
  · by_cases hc : 0 < C.length
    · rw [dropB_snoc _ _ hc, totB_snoc, List.length_append]
      exact ⟨by omega, by omega⟩
    · rw [dropB, if_pos (by simp; omega)]
      exact ⟨by omega, by omega⟩
  split
  · by_cases h3 : (C ++ [M]).length < 2
    · rw [mergeB, if_pos h3]
      exact ⟨by omega, by omega⟩
    · obtain ⟨D, N, rfl⟩ := snoc_of (show C ≠ [] from fun e => by rw [e] at h3; exact h3 (by simp))
      rw [mergeB_snoc, totB_snoc, totB_snoc, totB_snoc]
      have := putAll_le (SrtB.snoc.1 h1).2 M
      exact ⟨by omega, by simp⟩
  · exact ⟨by omega, by omega⟩
end Go.Proofs.Ytaapgdanodkhjaa
