/- waits: what the statements are handed, opened. -/
import Derived.Test.YtnnkegmiefpgpaaOpen2
import Derived.Test.YtnnkegmiefpgpaaFacts
namespace Go.Proofs.Ytnnkegmiefpgpaa
open Go.RowKit Go.Lib
set_option linter.unusedVariables false
set_option maxRecDepth 100000
structure CallS where
  kind : Int
  thread : Int
  s : SlI
abbrev callD : CallS := ⟨0, 0, ⟨none, 0, []⟩⟩
instance : Inhabited CallS := ⟨callD⟩
def callCells (c : CallS) : List Value := [.int .u8 c.kind, .int .i64 c.thread, .slice c.s.a c.s.zs.length c.s.cap]
def encC (c : CallS) : Nat → Value := fun j => match j with | 0 => .int .u8 c.kind | 1 => .int .i64 c.thread | _ => .slice c.s.a c.s.zs.length c.s.cap
structure TurnW where
  kind : Int
  at_ : Int
  who : Int
abbrev turnwD : TurnW := ⟨0, 0, 0⟩
instance : Inhabited TurnW := ⟨turnwD⟩
def turnwCells (c : TurnW) : List Value := [.int .u8 c.kind, .int .i64 c.at_, .int .i64 c.who]
def encTW (c : TurnW) : Nat → Value := fun j => match j with | 0 => .int .u8 c.kind | 1 => .int .i64 c.at_ | _ => .int .i64 c.who
section
variable {H : Type} {enc : TypeId × Value → H} {w : World}
theorem callc_open (fuel : Nat) (cs : List Value) (x : DataW H × List MemPlace) (h : DataW.trod enc Try.prog w 0 (fun _ => true) true fuel 50 cs = some x) : ∃ d : CallS, cs = callCells d ∧ ((Lit.int .u8 d.kind).wf = true ∧ (Lit.int .i64 d.thread).wf = true ∧ SlOk w d.s.a d.s.zs.length d.s.cap 1 (gL encI 0 d.s.zs)) := by
  obtain ⟨y0, y1, y2, n, hl, h0, h1, h2⟩ := trodS3 Try.underlying50 h
  have hl5 : cs.length = 3 := hl.trans (by kernel_rfl)
  match cs, hl5 with
  | [c0, c1, c2], _ =>
    obtain ⟨k, e0, _, wk⟩ := DataW.trod_int Try.underlying5 h0
    obtain ⟨a, e1, _, wn⟩ := DataW.trod_int Try.underlying3 h1
    have d0 : [c0] = [.int .u8 k] := e0
    have d1 : [c1] = [.int .i64 a] := e1
    obtain ⟨sa, cap, zs, rfl, hs, _⟩ := ints_cell 22 3 Try.underlying22 (by kernel_rfl) Try.underlying3 (c := c2) h2
    obtain rfl := (List.cons.inj d0).1
    obtain rfl := (List.cons.inj d1).1
    exact ⟨⟨k, a, ⟨sa, cap, zs⟩⟩, rfl, wk, wn, hs⟩
theorem calls_open {a : Option Addr} {len cap : Nat} {d : DataW H} {p : List MemPlace} (h : DataW.Trod enc Try.prog w 0 (fun _ => true) true 41 (.slice a len cap) d p) :
    ∃ zs : List CallS, zs.length = len ∧ SlOk w a len cap 3 (gL encC callD zs) ∧ ∀ z ∈ zs, ((Lit.int .u8 z.kind).wf = true ∧ (Lit.int .i64 z.thread).wf = true ∧ SlOk w z.s.a z.s.zs.length z.s.cap 1 (gL encI 0 z.s.zs)) := by
  obtain ⟨zs, h1, h2⟩ := slice_open 41 50 3 callCells (fun z => (Lit.int .u8 z.kind).wf = true ∧ (Lit.int .i64 z.thread).wf = true ∧ SlOk w z.s.a z.s.zs.length z.s.cap 1 (gL encI 0 z.s.zs)) Try.underlying41 (by kernel_rfl) (by decide) (fun _ => rfl) callc_open h
  exact ⟨zs, h1.1, SlOk.of_at h1 (none_capT Try.underlying41 h) (by decide) (fun z j hj => by
    match j, hj with
    | 0, _ => rfl
    | 1, _ => rfl
    | 2, _ => rfl), h2⟩
theorem turnwc_open (fuel : Nat) (cs : List Value) (x : DataW H × List MemPlace) (h : DataW.trod enc Try.prog w 0 (fun _ => true) true fuel 70 cs = some x) : ∃ d : TurnW, cs = turnwCells d ∧ ((Lit.int .u8 d.kind).wf = true ∧ (Lit.int .i64 d.at_).wf = true ∧ (Lit.int .i64 d.who).wf = true) := by
  obtain ⟨y0, y1, y2, n, hl, h0, h1, h2⟩ := trodS3 Try.underlying70 h
  have hl5 : cs.length = 3 := hl.trans (by kernel_rfl)
  match cs, hl5 with
  | [c0, c1, c2], _ =>
    obtain ⟨k, e0, _, wk⟩ := DataW.trod_int Try.underlying5 h0
    obtain ⟨a, e1, _, wn⟩ := DataW.trod_int Try.underlying3 h1
    obtain ⟨b, e2, _, wx⟩ := DataW.trod_int Try.underlying3 h2
    have d0 : [c0] = [.int .u8 k] := e0
    have d1 : [c1] = [.int .i64 a] := e1
    have d2 : [c2] = [.int .i64 b] := e2
    obtain rfl := (List.cons.inj d0).1
    obtain rfl := (List.cons.inj d1).1
    obtain rfl := (List.cons.inj d2).1
    exact ⟨⟨k, a, b⟩, rfl, wk, wn, wx⟩
theorem turnws_open {a : Option Addr} {len cap : Nat} {d : DataW H} {p : List MemPlace} (h : DataW.Trod enc Try.prog w 0 (fun _ => true) true 68 (.slice a len cap) d p) :
    ∃ zs : List TurnW, zs.length = len ∧ SlOk w a len cap 3 (gL encTW turnwD zs) ∧ ∀ z ∈ zs, ((Lit.int .u8 z.kind).wf = true ∧ (Lit.int .i64 z.at_).wf = true ∧ (Lit.int .i64 z.who).wf = true) := by
  obtain ⟨zs, h1, h2⟩ := slice_open 68 70 3 turnwCells (fun z => (Lit.int .u8 z.kind).wf = true ∧ (Lit.int .i64 z.at_).wf = true ∧ (Lit.int .i64 z.who).wf = true) Try.underlying68 (by kernel_rfl) (by decide) (fun _ => rfl) turnwc_open h
  exact ⟨zs, h1.1, SlOk.of_at h1 (none_capT Try.underlying68 h) (by decide) (fun z j hj => by
    match j, hj with
    | 0, _ => rfl
    | 1, _ => rfl
    | 2, _ => rfl), h2⟩
theorem ints_open2 {a : Option Addr} {len cap : Nat} {d : DataW H} {p : List MemPlace} (h : DataW.Trod enc Try.prog w 0 (fun _ => true) true 22 (.slice a len cap) d p) :
    ∃ zs : List Int, zs.length = len ∧ SlOk w a len cap 1 (gL encI 0 zs) ∧ ∀ z ∈ zs, (Lit.int .i64 z).wf = true := ints_sl 22 3 Try.underlying22 (by kernel_rfl) Try.underlying3 h
end
end Go.Proofs.Ytnnkegmiefpgpaa
