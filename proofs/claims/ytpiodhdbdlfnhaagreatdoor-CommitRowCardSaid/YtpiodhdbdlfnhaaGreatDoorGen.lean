/- What is told of rows and lists of resources. Over any program. -/
import Derived.Test.YtpiodhdbdlfnhaaGreatDoorAll
namespace Go.Proofs.YtpiodhdbdlfnhaaGreatDoor
open Go.RowKit Go.Lib
set_option linter.unusedVariables false
theorem SlOk.small {w : World} {a : Option Addr} {len cap sz : Nat} {g : Nat → Nat → Value} (h : SlOk w a len cap sz g) : len ≤ 9223372036854775807 := by
  have := h.2.1; have := h.2.2.1; unfold maxLen at this; omega
/-- A fresh row. -/
def NewRow {α : Type} (w0 w' : World) (e sz : Nat) (enc : α → Nat → Value) (d : α) (zs : List α) (v : Value) : Prop :=
  ∃ a cap, v = .slice a zs.length cap ∧ RowOk w' a zs.length cap e sz (gL enc d zs) ∧ (∀ x, a = some x → w0.heap.size ≤ x.block)
theorem Sat.newRow {α : Type} {w0 w : World} {L : List Res} {a : Option Addr} {cap e sz : Nat} {enc : α → Nat → Value} {d : α} {zs : List α} (h : Sat (fun _ => False) w0 w (rowL a cap e sz enc d zs :: L)) : NewRow w0 w e sz enc d zs (.slice a zs.length cap) :=
  ⟨a, cap, rfl, h.all (rowL a cap e sz enc d zs) (List.mem_cons_self ..), fun x hx => Nat.le_of_not_lt fun hlt => h.own (rowL a cap e sz enc d zs) (List.mem_cons_self ..) rfl x.block ⟨x, hx, rfl⟩ hlt⟩
theorem NewRow.nil {α : Type} {w0 w : World} {e sz : Nat} {enc : α → Nat → Value} {d : α} (h0 : 0 < sz) : NewRow w0 w e sz enc d [] (.slice none 0 0) :=
  ⟨none, 0, rfl, ⟨h0, .inl ⟨rfl, rfl, rfl⟩⟩, fun x hx => by cases hx⟩
theorem Sat.freshRow {α : Type} {S : Nat → Prop} {w₀ w w' : World} {L : List Res} {e sz : Nat} {enc : α → Nat → Value} {d : α} {zs : List α} {a : Option Addr} {cap : Nat} (h : Sat S w₀ w L) (hb : Below w.heap.size w w') (hr : RowOk w' a zs.length cap e sz (gL enc d zs)) (hf : ∀ x, a = some x → w.heap.size ≤ x.block) :
    Sat S w₀ w' (rowL a cap e sz enc d zs :: L) := h.fresh hb hr (fun k ⟨x, hx, hk⟩ => hk ▸ hf x hx)
theorem Sat.perm {S : Nat → Prop} {w₀ w : World} {L L' : List Res} (h : Sat S w₀ w L) (p : L'.Perm L) : Sat S w₀ w L' :=
  ⟨h.chg, fun r hr => h.all r (p.mem_iff.1 hr), (p.pairwise_iff (fun {a b} h => Res.apart.symm h)).2 h.sep, fun r hr => h.own r (p.mem_iff.1 hr)⟩
theorem Sat.turn1 {S : Nat → Prop} {w₀ w : World} {r r' : Res} {L : List Res} (h : Sat S w₀ w (r :: L)) (hr : r'.holds w) (hro : r'.ro = r.ro) (hf : ∀ k, r'.foot k → r.foot k) : Sat S w₀ w (r' :: L) := h.turn (r := r) (r' := r') hr hro hf
theorem Sat.second {S : Nat → Prop} {w₀ w : World} {r r2 : Res} {L : List Res} (h : Sat S w₀ w (r2 :: r :: L)) : r.holds w := h.all r (by simp)
section
variable {S : Nat → Prop} {w₀ : World} {L : List Res}
variable {P : Program} {ops : Array Oper} {n : Nat} {rest : List Oper} {t : Tm} {w : World} {K : Tm → World → Prop} {d : Nat} {ty : TypeId} {pos : String} {af : Array Edge}
end
end Go.Proofs.YtpiodhdbdlfnhaaGreatDoor
