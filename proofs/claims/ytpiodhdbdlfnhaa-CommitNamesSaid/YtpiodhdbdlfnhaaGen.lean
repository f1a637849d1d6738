/- What is told of rows and lists of resources. Over any program. -/
import Derived.Test.YtpiodhdbdlfnhaaAll
namespace Go.Proofs.Ytpiodhdbdlfnhaa
open Go.RowKit Go.Lib
set_option linter.unusedVariables false
theorem SlOk.small {w : World} {a : Option Addr} {len cap sz : Nat} {g : Nat → Nat → Value} (h : SlOk w a len cap sz g) : len ≤ 9223372036854775807 := by
  have := h.2.1; have := h.2.2.1; unfold maxLen at this; omega
theorem list_eq_of_getD {xs ys : List Int} (hl : xs.length = ys.length) (h : ∀ i, i < xs.length → xs.getD i 0 = ys.getD i 0) : xs = ys := by
  apply List.ext_getElem? 
  intro i
  by_cases hi : i < xs.length
  · have := h i hi
    rw [List.getD_eq_getElem?_getD, List.getD_eq_getElem?_getD, List.getElem?_eq_getElem hi, List.getElem?_eq_getElem (by omega)] at this
    rw [List.getElem?_eq_getElem hi, List.getElem?_eq_getElem (by omega)]
    exact congrArg some this
  · rw [List.getElem?_eq_none (by omega), List.getElem?_eq_none (by omega)]
/-- A fresh row. -/
def NewRow {α : Type} (w0 w' : World) (e sz : Nat) (enc : α → Nat → Value) (d : α) (zs : List α) (v : Value) : Prop :=
  ∃ a cap, v = .slice a zs.length cap ∧ RowOk w' a zs.length cap e sz (gL enc d zs) ∧ (∀ x, a = some x → w0.heap.size ≤ x.block)
theorem Sat.newRow {α : Type} {w0 w : World} {L : List Res} {a : Option Addr} {cap e sz : Nat} {enc : α → Nat → Value} {d : α} {zs : List α} (h : Sat (fun _ => False) w0 w (rowL a cap e sz enc d zs :: L)) : NewRow w0 w e sz enc d zs (.slice a zs.length cap) :=
  ⟨a, cap, rfl, h.all (rowL a cap e sz enc d zs) (List.mem_cons_self ..), fun x hx => Nat.le_of_not_lt fun hlt => h.own (rowL a cap e sz enc d zs) (List.mem_cons_self ..) rfl x.block ⟨x, hx, rfl⟩ hlt⟩
theorem NewRow.nil {α : Type} {w0 w : World} {e sz : Nat} {enc : α → Nat → Value} {d : α} (h0 : 0 < sz) : NewRow w0 w e sz enc d [] (.slice none 0 0) :=
  ⟨none, 0, rfl, ⟨h0, .inl ⟨rfl, rfl, rfl⟩⟩, fun x hx => by cases hx⟩
theorem Sat.freshRow {α : Type} {S : Nat → Prop} {w₀ w w' : World} {L : List Res} {e sz : Nat} {enc : α → Nat → Value} {d : α} {zs : List α} {a : Option Addr} {cap : Nat} (h : Sat S w₀ w L) (hb : Below w.heap.size w w') (hr : RowOk w' a zs.length cap e sz (gL enc d zs)) (hf : ∀ x, a = some x → w.heap.size ≤ x.block) :
    Sat S w₀ w' (rowL a cap e sz enc d zs :: L) := h.fresh hb hr (fun k ⟨x, hx, hk⟩ => hk ▸ hf x hx)
theorem Sat.perm {S : Nat → Prop} {w₀ w : World} {L L' : List Res} (h : Sat S w₀ w L) (p : L'.Perm L) : Sat S w₀ w L' :=
  ⟨h.chg, fun r hr => h.all r (p.mem_iff.1 hr), (p.pairwise_iff (fun {a b} h => Res.apart.symm h)).2 h.sep, fun r hr => h.own r (p.mem_iff.1 hr)⟩
theorem Sat.turn1 {S : Nat → Prop} {w₀ w : World} {r r' : Res} {L : List Res} (h : Sat S w₀ w (r :: L)) (hr : r'.holds w) (hro : r'.ro = r.ro) (hf : ∀ k, r'.foot k → r.foot k) : Sat S w₀ w (r' :: L) := h.turn (r := r) (r' := r') hr hro hf
theorem Sat.second {S : Nat → Prop} {w₀ w : World} {r r2 : Res} {L : List Res} (h : Sat S w₀ w (r2 :: r :: L)) : r.holds w := h.all r (by simp)
theorem Sat.third {S : Nat → Prop} {w₀ w : World} {r r2 r3 : Res} {L : List Res} (h : Sat S w₀ w (r2 :: r3 :: r :: L)) : r.holds w := h.all r (by simp)
theorem encI_set2 (l : List Int) (s : Nat) (z : Int) (hs : s < l.length) (i : Nat) (hi : i < l.length) (j : Nat) (hj : j < 1) : gset (gL encI 0 l) s 0 (.int .i64 z) i j = gL encI 0 (l.set s z) i j := by
  obtain rfl : j = 0 := by omega
  unfold gset gL
  rw [List.getD_eq_getElem?_getD, List.getD_eq_getElem?_getD, List.getElem?_set]
  by_cases e : i = s
  · subst e; simp [hs]; rfl
  · rw [if_neg (fun x => e x.1), if_neg (fun x => e x.symm)]
theorem Sat.newRowG {α : Type} {w0 w : World} {L : List Res} {a : Option Addr} {len cap e sz : Nat} {g : Nat → Nat → Value} {enc : α → Nat → Value} {d : α} {zs : List α} (hl : zs.length = len) (h : Sat (fun _ => False) w0 w (row a len cap e sz g :: L)) (eq : ∀ i, i < len → ∀ j, j < sz → g i j = gL enc d zs i j) : NewRow w0 w e sz enc d zs (.slice a len cap) := by
  subst hl
  exact ⟨a, cap, rfl, RowOk.congr (h.all (row a zs.length cap e sz g) (List.mem_cons_self ..)) eq, fun x hx => Nat.le_of_not_lt fun hlt => h.own (row a zs.length cap e sz g) (List.mem_cons_self ..) rfl x.block ⟨x, hx, rfl⟩ hlt⟩
theorem lt_of_cell {w : World} {a : Addr} {v : Value} (h : w.cell? a = some v) : a.block < w.heap.size := by
  unfold World.cell? at h
  cases e : w.heap[a.block]? with
  | none => rw [e] at h; simp at h
  | some o => exact (Array.getElem?_eq_some_iff.1 e).1
section
variable {S : Nat → Prop} {w₀ : World} {L : List Res}
variable {P : Program} {ops : Array Oper} {n : Nat} {rest : List Oper} {t : Tm} {w : World} {K : Tm → World → Prop} {d : Nat} {ty : TypeId} {pos : String} {af : Array Edge}
/-- append(x, y, z). -/
theorem append2_i (hS : Sat S w₀ w L) {T : TypeId} {e bytes : Nat} [hT : TySl P T e 1] [hE : TyEl P e 1 bytes] {x y : Operand} {a : Option Addr} {cap b c2 e2 : Nat} {dd z z' : Int} {zs : List Int} {g : Nat → Nat → Value} {f f' : Res → List Res}
    (hx : ev t x = .slice a zs.length cap) (hy : ev t y = .slice (some ⟨b, 0, none⟩) 2 2) [hp : PickRow L a cap e 1 encI dd zs f] [hq : PickR L (some ⟨b, 0, none⟩) 2 c2 e2 1 g f'] (hz : g 0 0 = .int .i64 z) (hz' : g 1 0 = .int .i64 z') (hb : (zs.length + 2) * bytes ≤ 140737488355328 ∧ zs.length + 2 ≤ 9223372036854775807) (hd : Nat.blt d n = true)
    (kk : ∀ a' cap' w', Sat S w₀ w' (f (rowL a' cap' e 1 encI dd (zs ++ [z, z']))) → RunL P ops n rest (upd t d (.slice a' (zs ++ [z, z']).length cap')) w' K) : RunL P ops n (⟨some d, .call ⟨.builtin .append, #[x, y], #[T, T]⟩, ty, pos, af, none⟩ :: rest) t w K := by
  have := hq.pick
  have hs : SlOk w (some ⟨b, 0, none⟩) 2 c2 1 g := RowOk.sl (hS.holds (r := row (some ⟨b, 0, none⟩) 2 c2 e2 1 g))
  refine append_core hS (ys := [z, z']) (cap2 := 2) (g2 := fun _ _ => undef) hx hy (hp := hp.pick) ?_ (fun _ _ => rfl) hb.1 hb.2 hd kk
  have h2 := hs.congr (g' := gL encI dd [z, z']) (fun i hi j hj => by
    obtain rfl : j = 0 := by omega
    match i, hi with
    | 0, _ => rw [hz]; rfl
    | 1, _ => rw [hz']; rfl)
  obtain ⟨h0, h1, h3, h4, h5⟩ := h2
  exact ⟨h0, Nat.le_refl _, by unfold maxLen; exact by decide, (fun h => by cases h), h5⟩
end
end Go.Proofs.Ytpiodhdbdlfnhaa
