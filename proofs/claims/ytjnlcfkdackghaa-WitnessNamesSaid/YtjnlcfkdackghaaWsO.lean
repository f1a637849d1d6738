/- witness: what the statements are handed, opened. -/
import Derived.Test.YtjnlcfkdackghaaWsM
import Derived.Test.YtjnlcfkdackghaaOpen2
namespace Go.Proofs.Ytjnlcfkdackghaa
open Go.RowKit Go.Deep Go.ChangeShapes Go.WideShapes
set_option linter.unusedVariables false
set_option maxRecDepth 100000
section
variable {H : Type} {enc : TypeId × Value → H} {P : Program} {w : World}

theorem trodS9 {t : TypeId} {f0 f1 f2 f3 f4 f5 f6 f7 f8 : Field} {base : Nat} {spare : Nat → Bool} {held : Bool} {fuel : Nat} {cs : List Value} {x : DataW H × List MemPlace} (ht : P.underlying t = some (.struct #[f0, f1, f2, f3, f4, f5, f6, f7, f8])) (h : DataW.trod enc P w base spare held fuel t cs = some x) :
    ∃ y0 y1 y2 y3 y4 y5 y6 y7 y8 n, cs.length = P.cellsOf t ∧ DataW.trod enc P w base spare held n f0.type ((cs.drop f0.offset).take (P.cellsOf f0.type)) = some y0 ∧ DataW.trod enc P w base spare held n f1.type ((cs.drop f1.offset).take (P.cellsOf f1.type)) = some y1 ∧ DataW.trod enc P w base spare held n f2.type ((cs.drop f2.offset).take (P.cellsOf f2.type)) = some y2 ∧ DataW.trod enc P w base spare held n f3.type ((cs.drop f3.offset).take (P.cellsOf f3.type)) = some y3 ∧ DataW.trod enc P w base spare held n f4.type ((cs.drop f4.offset).take (P.cellsOf f4.type)) = some y4 ∧ DataW.trod enc P w base spare held n f5.type ((cs.drop f5.offset).take (P.cellsOf f5.type)) = some y5 ∧ DataW.trod enc P w base spare held n f6.type ((cs.drop f6.offset).take (P.cellsOf f6.type)) = some y6 ∧ DataW.trod enc P w base spare held n f7.type ((cs.drop f7.offset).take (P.cellsOf f7.type)) = some y7 ∧ DataW.trod enc P w base spare held n f8.type ((cs.drop f8.offset).take (P.cellsOf f8.type)) = some y8 := by
  obtain ⟨xs, n, _, rfl, hl, hlen, hf⟩ := DataW.trod_struct ht h
  match xs, hlen with
  | [y0, y1, y2, y3, y4, y5, y6, y7, y8], _ => exact ⟨y0, y1, y2, y3, y4, y5, y6, y7, y8, n, hl, by simpa using hf 0 f0 rfl, by simpa using hf 1 f1 rfl, by simpa using hf 2 f2 rfl, by simpa using hf 3 f3 rfl, by simpa using hf 4 f4 rfl, by simpa using hf 5 f5 rfl, by simpa using hf 6 f6 rfl, by simpa using hf 7 f7 rfl, by simpa using hf 8 f8 rfl⟩
end
end Go.Proofs.Ytjnlcfkdackghaa
namespace Go.Proofs.Ytjnlcfkdackghaa
open Go.RowKit Go.Lib
set_option linter.unusedVariables false
set_option maxRecDepth 100000
def prCells (p : Int × Int) : List Value := [.int .i64 p.1, .int .i64 p.2]
def atCells (z : AtS) : List Value := [.int .i64 z.thread, .int .i64 z.tx, .int .i64 z.frm, .int .i64 z.to, .int .i64 z.rv, .int .i64 z.wv, .bool z.com, .slice z.ra z.rs.length z.rc, .slice z.wa z.ws.length z.wc]
section
variable {H : Type} {enc : TypeId × Value → H} {w : World}
theorem prc_open (fuel : Nat) (cs : List Value) (x : DataW H × List MemPlace) (h : DataW.trod enc Try.prog w 0 (fun _ => true) true fuel 23 cs = some x) : ∃ d : Int × Int, cs = prCells d ∧ True := by
  obtain ⟨y0, y1, n, hl, h0, h1⟩ := trodS2 Try.underlying23 h
  have hl2 : cs.length = 2 := hl.trans (by kernel_rfl)
  match cs, hl2 with
  | [c0, c1], _ =>
    obtain ⟨k, e0, _, wk⟩ := DataW.trod_int Try.underlying3 h0
    obtain ⟨a, e1, _, wn⟩ := DataW.trod_int Try.underlying2 h1
    have d0 : [c0] = [.int .i64 k] := e0
    have d1 : [c1] = [.int .i64 a] := e1
    obtain rfl := (List.cons.inj d0).1
    obtain rfl := (List.cons.inj d1).1
    exact ⟨(k, a), rfl, trivial⟩
theorem prs_cell {c : Value} {fuel : Nat} {x : DataW H × List MemPlace} (h : DataW.trod enc Try.prog w 0 (fun _ => true) true fuel 24 [c] = some x) :
    ∃ a cap, ∃ zs : List (Int × Int), c = .slice a zs.length cap ∧ SlOk w a zs.length cap 2 (gL encPr (0, 0) zs) := by
  obtain ⟨a, len, cap, rfl, ht⟩ := slice_cell Try.underlying24 h
  obtain ⟨zs, h1, h2⟩ := slice_open 24 23 2 prCells (fun _ => True) Try.underlying24 (by kernel_rfl) (by decide) (fun _ => rfl) prc_open ht
  have h3 := SlOk.of_at (enc := encPr) (d := (0, 0)) h1 (none_capT Try.underlying24 ht) (by decide) (fun z j hj => by
    match j, hj with
    | 0, _ => rfl
    | 1, _ => rfl)
  obtain rfl := h1.1
  exact ⟨a, cap, zs, rfl, h3⟩
theorem atc_open (fuel : Nat) (cs : List Value) (x : DataW H × List MemPlace) (h : DataW.trod enc Try.prog w 0 (fun _ => true) true fuel 26 cs = some x) : ∃ d : AtS, cs = atCells d ∧ (atR d).holds w := by
  obtain ⟨y0, y1, y2, y3, y4, y5, y6, y7, y8, n, hl, h0, h1, h2, h3, h4, h5, h6, h7, h8⟩ := trodS9 Try.underlying26 h
  have hl9 : cs.length = 9 := hl.trans (by kernel_rfl)
  match cs, hl9 with
  | [c0, c1, c2, c3, c4, c5, c6, c7, c8], _ =>
    obtain ⟨z0, e0, _, _⟩ := DataW.trod_int Try.underlying3 h0
    obtain ⟨z1, e1, _, _⟩ := DataW.trod_int Try.underlying3 h1
    obtain ⟨z2, e2, _, _⟩ := DataW.trod_int Try.underlying3 h2
    obtain ⟨z3, e3, _, _⟩ := DataW.trod_int Try.underlying3 h3
    obtain ⟨z4, e4, _, _⟩ := DataW.trod_int Try.underlying3 h4
    obtain ⟨z5, e5, _, _⟩ := DataW.trod_int Try.underlying3 h5
    obtain ⟨z6, e6, _⟩ := DataW.trod_bool Try.underlying4 h6
    obtain ⟨ra, rc, rs, rfl, hr⟩ := prs_cell (c := c7) h7
    obtain ⟨wa, wc, ws, rfl, hw⟩ := prs_cell (c := c8) h8
    have d0 : [c0] = [.int .i64 z0] := e0
    obtain rfl := (List.cons.inj d0).1
    have d1 : [c1] = [.int .i64 z1] := e1
    obtain rfl := (List.cons.inj d1).1
    have d2 : [c2] = [.int .i64 z2] := e2
    obtain rfl := (List.cons.inj d2).1
    have d3 : [c3] = [.int .i64 z3] := e3
    obtain rfl := (List.cons.inj d3).1
    have d4 : [c4] = [.int .i64 z4] := e4
    obtain rfl := (List.cons.inj d4).1
    have d5 : [c5] = [.int .i64 z5] := e5
    obtain rfl := (List.cons.inj d5).1
    have d6 : [c6] = [.bool z6] := e6
    obtain rfl := (List.cons.inj d6).1
    exact ⟨⟨z0, z1, z2, z3, z4, z5, z6, ra, rc, rs, wa, wc, ws⟩, rfl, hr, hw⟩
theorem ats_open {a : Option Addr} {len cap : Nat} {d : DataW H} {p : List MemPlace} (h : DataW.Trod enc Try.prog w 0 (fun _ => true) true 27 (.slice a len cap) d p) :
    ∃ zs : List AtS, zs.length = len ∧ (hisR a cap zs).holds w := by
  obtain ⟨zs, h1, h2⟩ := slice_open 27 26 9 atCells (fun z => (atR z).holds w) Try.underlying27 (by kernel_rfl) (by decide) (fun _ => rfl) atc_open h
  have h3 := SlOk.of_at (enc := encAt) (d := atD) h1 (none_capT Try.underlying27 h) (by decide) (fun z j hj => by
    rcases lt9 hj with rfl | rfl | rfl | rfl | rfl | rfl | rfl | rfl | rfl <;> rfl)
  exact ⟨zs, h1.1, his_of zs h3 h1.1 (fun _ _ _ _ => rfl) h2⟩
theorem int64s_open {a : Option Addr} {len cap : Nat} {d : DataW H} {p : List MemPlace} (h : DataW.Trod enc Try.prog w 0 (fun _ => true) true 32 (.slice a len cap) d p) :
    ∃ zs : List Int, zs.length = len ∧ SlOk w a len cap 1 (gL encI 0 zs) := by
  obtain ⟨zs, h1, h2, _⟩ := ints_sl 32 2 Try.underlying32 (by kernel_rfl) Try.underlying2 h
  exact ⟨zs, h1, h2⟩
end
end Go.Proofs.Ytjnlcfkdackghaa
