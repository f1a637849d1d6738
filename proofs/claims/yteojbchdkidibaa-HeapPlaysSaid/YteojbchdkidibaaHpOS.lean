/- heap: rows of steps among the arguments. -/
import Derived.Test.YteojbchdkidibaaHpG
import Derived.Test.YteojbchdkidibaaHpO
namespace Go.Proofs.Yteojbchdkidibaa
open Go.RowKit Go.Lib
set_option linter.unusedVariables false
instance : Inhabited StepS := ⟨stepD⟩
def stepCells (s : StepS) : List Value := [.int .u8 s.k, .int .i64 s.at_, .int .i64 s.who, .int .i64 s.ver, .int .i64 s.z]
section
variable {H : Type} {enc : TypeId × Value → H} {w : World}
theorem stepc_open (fuel : Nat) (cs : List Value) (x : DataW H × List MemPlace) (h : DataW.trod enc Try.prog w 0 (fun _ => true) true fuel 44 cs = some x) : ∃ d : StepS, cs = stepCells d ∧ True := by
  obtain ⟨y0, y1, y2, y3, y4, n, hl, h0, h1, h2, h3, h4⟩ := trod_struct5 Try.underlying44 h
  have hl5 : cs.length = 5 := hl.trans (by kernel_rfl)
  match cs, hl5 with
  | [c0, c1, c2, c3, c4], _ =>
    obtain ⟨k, e0, _, wk⟩ := DataW.trod_int Try.underlying5 h0
    obtain ⟨a, e1, _, wn⟩ := DataW.trod_int Try.underlying3 h1
    obtain ⟨b, e2, _, wx⟩ := DataW.trod_int Try.underlying3 h2
    obtain ⟨c, e3, _, ws⟩ := DataW.trod_int Try.underlying3 h3
    obtain ⟨d, e4, _, wkk⟩ := DataW.trod_int Try.underlying2 h4
    have d0 : [c0] = [.int .u8 k] := e0
    have d1 : [c1] = [.int .i64 a] := e1
    have d2 : [c2] = [.int .i64 b] := e2
    have d3 : [c3] = [.int .i64 c] := e3
    have d4 : [c4] = [.int .i64 d] := e4
    obtain rfl := (List.cons.inj d0).1
    obtain rfl := (List.cons.inj d1).1
    obtain rfl := (List.cons.inj d2).1
    obtain rfl := (List.cons.inj d3).1
    obtain rfl := (List.cons.inj d4).1
    exact ⟨⟨k, a, b, c, d⟩, rfl, trivial⟩
theorem steps_open {a : Option Addr} {len cap : Nat} {d : DataW H} {p : List MemPlace} (h : DataW.Trod enc Try.prog w 0 (fun _ => true) true 35 (.slice a len cap) d p) :
    ∃ zs : List StepS, zs.length = len ∧ SlOk w a len cap 5 (gL encS stepD zs) := by
  obtain ⟨zs, h1, _⟩ := slice_open 35 44 5 stepCells (fun _ => True) Try.underlying35 (by kernel_rfl) (by decide) (fun _ => rfl) stepc_open h
  exact ⟨zs, h1.1, SlOk.of_at h1 (none_capT Try.underlying35 h) (by decide) (fun z j hj => by
    match j, hj with
    | 0, _ => rfl
    | 1, _ => rfl
    | 2, _ => rfl
    | 3, _ => rfl
    | 4, _ => rfl)⟩
theorem step1_open {cs : Array Value} {d : DataW H} {p : List MemPlace} (h : DataW.Trod enc Try.prog w 0 (fun _ => true) true 44 (.agg cs) d p) : ∃ s : StepS, cs = (stepCells s).toArray := by
  obtain ⟨fuel, hf⟩ := h
  obtain ⟨s, hs, _⟩ := stepc_open fuel _ _ hf
  exact ⟨s, by apply Array.ext'; exact hs⟩
end
end Go.Proofs.Yteojbchdkidibaa
