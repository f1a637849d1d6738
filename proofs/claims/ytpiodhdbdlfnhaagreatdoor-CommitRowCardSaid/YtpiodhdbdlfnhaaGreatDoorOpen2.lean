/- Slices among the arguments, as the engine takes them. Over any program. Structs among the arguments, field by field. Over any program. Slices within structs among the arguments. Over any program. -/
import Derived.Test.YtpiodhdbdlfnhaaGreatDoorOpen
import Derived.Test.YtpiodhdbdlfnhaaGreatDoorAny
import Derived.OpenShut
import Derived.Test.YtpiodhdbdlfnhaaGreatDoorGen
namespace Go.Proofs.YtpiodhdbdlfnhaaGreatDoor
open Go.RowKit Go.Deep Go.ChangeShapes Go.WideShapes
set_option linter.unusedVariables false
theorem SlOk.of_at {α : Type} {w : World} {a : Option Addr} {len cap sz : Nat} {cells : α → List Value} {enc : α → Nat → Value} {d : α} {zs : List α} (h : SliceAt w a len cap sz cells zs) (hn : a = none → cap = 0) (h0 : 0 < sz) (hc : ∀ z j, j < sz → (cells z)[j]? = some (enc z j)) : SlOk w a len cap sz (gL enc d zs) := by
  obtain ⟨h1, h2, h3, h4⟩ := h
  refine ⟨h0, h2, h3, hn, h4.imp id ?_⟩
  rintro ⟨b, off, rfl, _, hcell⟩
  refine ⟨b, off, rfl, fun i hi j hj => ?_⟩
  rw [← Nat.add_assoc, hcell i (by omega) j _ (hc _ j hj)]
  unfold gL
  rw [List.getD_eq_getElem?_getD, List.getElem?_eq_getElem (by omega)]
  rfl
section
variable {H : Type} {enc : TypeId × Value → H} {P : Program} {w : World}
theorem none_capT {T e : TypeId} (hT : P.underlying T = some (.slice e)) {a : Option Addr} {len cap : Nat} {d : DataW H} {p : List MemPlace} (h : DataW.Trod enc P w 0 (fun _ => true) true T (.slice a len cap) d p) : a = none → cap = 0 := by
  obtain ⟨fuel, hf⟩ := h
  rcases open_slice hT hf with ⟨hcs, _⟩ | ⟨x, l, c, m, n, D, Pl, hcs, _⟩
  · simp [Value.cells] at hcs
    exact fun _ => hcs.2.2
  · simp [Value.cells] at hcs
    intro h0
    rw [h0] at hcs
    cases hcs.1
theorem ints_sl (T e : TypeId) {k : IntKind} (hT : P.underlying T = some (.slice e)) (hsz : P.cellsOf e = 1) (he : P.underlying e = some (.int k)) {a : Option Addr} {len cap : Nat} {d : DataW H} {p : List MemPlace} (h : DataW.Trod enc P w 0 (fun _ => true) true T (.slice a len cap) d p) :
    ∃ zs : List Int, zs.length = len ∧ SlOk w a len cap 1 (gL (fun z _ => .int k z) 0 zs) ∧ ∀ z ∈ zs, (Lit.int k z).wf = true := by
  obtain ⟨zs, h1, h2⟩ := slice_open T e 1 (fun x : Int => [Value.int k x]) (fun x => (Lit.int k x).wf = true) hT hsz (by decide) (fun _ => rfl) (fun fuel cs x h => by
    obtain ⟨z, e0, _, wk⟩ := DataW.trod_int he h
    exact ⟨z, e0, wk⟩) h
  exact ⟨zs, h1.1, SlOk.of_at h1 (none_capT hT h) (by decide) (fun z j hj => by obtain rfl : j = 0 := by omega
                                                                                rfl), h2⟩
end
end Go.Proofs.YtpiodhdbdlfnhaaGreatDoor
namespace Go.Proofs.YtpiodhdbdlfnhaaGreatDoor
open Go.RowKit Go.Deep Go.ChangeShapes Go.WideShapes
set_option linter.unusedVariables false
section
variable {H : Type} {enc : TypeId × Value → H} {P : Program} {w : World}
theorem trodS2 {t : TypeId} {f0 f1 : Field} {base : Nat} {spare : Nat → Bool} {held : Bool} {fuel : Nat} {cs : List Value} {x : DataW H × List MemPlace} (ht : P.underlying t = some (.struct #[f0, f1])) (h : DataW.trod enc P w base spare held fuel t cs = some x) :
    ∃ y0 y1 n, cs.length = P.cellsOf t ∧ DataW.trod enc P w base spare held n f0.type ((cs.drop f0.offset).take (P.cellsOf f0.type)) = some y0 ∧ DataW.trod enc P w base spare held n f1.type ((cs.drop f1.offset).take (P.cellsOf f1.type)) = some y1 := by
  obtain ⟨xs, n, _, rfl, hl, hlen, hf⟩ := DataW.trod_struct ht h
  match xs, hlen with
  | [y0, y1], _ => exact ⟨y0, y1, n, hl, by simpa using hf 0 f0 rfl, by simpa using hf 1 f1 rfl⟩
end
end Go.Proofs.YtpiodhdbdlfnhaaGreatDoor
namespace Go.Proofs.YtpiodhdbdlfnhaaGreatDoor
open Go.RowKit Go.Deep Go.ChangeShapes Go.WideShapes
set_option linter.unusedVariables false
section
variable {H : Type} {enc : TypeId × Value → H} {P : Program} {w : World}
end
end Go.Proofs.YtpiodhdbdlfnhaaGreatDoor
