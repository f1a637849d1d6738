/- Functions that bear marks, whose two results lie in variables of their own; an iterator of which is known what it tells. Over any program. -/
import Derived.Test.YtciehimnhnbipaaRnd
namespace Go.Proofs.Ytciehimnhnbipaa
open Go.RowKit Go.Lib
set_option linter.unusedVariables false
def retQK2 (r r' : Nat) (R : Ending → World → Prop) : Exit → Tm → World → Prop
  | .normal, t, w | .ret, t, w => ∃ b b' v v', t r = .pointer (some ⟨b, 0, none⟩) ∧ t r' = .pointer (some ⟨b', 0, none⟩) ∧ w.cell? ⟨b, 0, none⟩ = some v ∧ w.cell? ⟨b', 0, none⟩ = some v' ∧ R (.returned (.tuple #[v, v'])) w
  | _, _, _ => False
theorem load_cell1 {P : Program} {T : TypeId} [hA : TyAgg P T false] {w : World} {b : Nat} {v : Value} (hc : w.cell? ⟨b, 0, none⟩ = some v) : (loadVar T ⟨b, 0, none⟩).run P w = .ok v w := by
  simp [loadVar, hA.run, hc]
section
variable {P : Program} {f : FuncId} {fn : Func} {c : Code} {l : List Value} {w : World} {R : Ending → World → Prop}
theorem retQK2_inv {r r' : Nat} {R : Ending → World → Prop} {e : Exit} {t : Tm} {w : World} (h : retQK2 r r' R e t w) : (e = .normal ∨ e = .ret) ∧ ∃ b b' v v', t r = .pointer (some ⟨b, 0, none⟩) ∧ t r' = .pointer (some ⟨b', 0, none⟩) ∧ w.cell? ⟨b, 0, none⟩ = some v ∧ w.cell? ⟨b', 0, none⟩ = some v' ∧ R (.returned (.tuple #[v, v'])) w := by
  unfold retQK2 at h
  cases e with
  | normal => exact ⟨.inl rfl, h⟩
  | ret => exact ⟨.inr rfl, h⟩
  | _ => exact h.elim
theorem enterMK2 {r r' : Nat} {T T' : TypeId} [hA : TyAgg P T false] [hA' : TyAgg P T' false] (hf : P.funcs[f]? = some fn) (hb : fn.body = some c) {n : Nat} (hn : fn.ntmps = n) (hl : Nat.ble l.length n = true) (hr : fn.results = #[.cell r T, .cell r' T']) (h : RunM none [] P n c (argF l) w (endM (retQK2 r r' R))) : Calls P f l.toArray w R := by
  subst hn
  refine calls_runM hf hb hl ?_ h
  intro e a w t ha hq
  obtain ⟨h1, b, b', v, v', g1, g2, g3, g4, g5⟩ := retQK2_inv hq
  have h6 := ha.get r
  have h7 := ha.get r'
  rw [g1, Array.getD_eq_getD_getElem?] at h6
  rw [g2, Array.getD_eq_getD_getElem?] at h7
  exact ⟨h1, .tuple #[v, v'], by simp [results, hr, h6, h7, asAddr, load_cell1 (P := P) (T := T) g3, load_cell1 (P := P) (T := T') g4], g5⟩
end
section
variable {S : Nat → Prop} {w₀ w : World} {L : List Res} {R : Ending → World → Prop} {t : Tm} {r r' m m' b b' : Nat} {c c' : Tm} {T T' : TypeId}
theorem retK2_l (hS : Sat S w₀ w L) (h : t r = .pointer (some ⟨b, 0, none⟩)) (h' : t r' = .pointer (some ⟨b', 0, none⟩)) [hp : PickB L b m c T] [hp' : PickB L b' m' c' T'] (hm : Nat.blt 0 m = true) (hm' : Nat.blt 0 m' = true) (k : R (.returned (.tuple #[c 0, c' 0])) w) : retQK2 r r' R .ret t w :=
  ⟨b, b', c 0, c' 0, h, h', blk_cell (hp.ok w hS.all) 0 (by simpa [Nat.blt_eq] using hm), blk_cell (hp'.ok w hS.all) 0 (by simpa [Nat.blt_eq] using hm'), k⟩
theorem retK2_n (hS : Sat S w₀ w L) (h : t r = .pointer (some ⟨b, 0, none⟩)) (h' : t r' = .pointer (some ⟨b', 0, none⟩)) [hp : PickB L b m c T] [hp' : PickB L b' m' c' T'] (hm : Nat.blt 0 m = true) (hm' : Nat.blt 0 m' = true) (k : R (.returned (.tuple #[c 0, c' 0])) w) : retQK2 r r' R .normal t w :=
  ⟨b, b', c 0, c' 0, h, h', blk_cell (hp.ok w hS.all) 0 (by simpa [Nat.blt_eq] using hm), blk_cell (hp'.ok w hS.all) 0 (by simpa [Nat.blt_eq] using hm'), k⟩
end
attribute [irreducible] retQK2
/-- An iterator's contract, where it is known of each what it is (next to those told so far). -/
def IterP {α : Type} (P : Program) (gf : FuncId) (lb : List Value) (enc : α → List Value) (ok1 : List α → α → Prop) (ok : List α → Prop) (Lit : List Res) : Prop :=
  ∀ (σ : Type) (T : σ → List Res) (R : List α → σ → Prop) (Z : World → Prop) (S : Nat → Prop) (w₀ : World) (l : Nat) (w : World) (s0 : σ),
    Sat S w₀ w (T s0) → (∀ s, ∀ r ∈ Lit, r ∈ T s) → R [] s0 →
    (∀ pre x s (p : Res) w, ok1 pre x → R pre s → Sat S w₀ w (p :: T s) → Yields1 P l (enc x) w fun e w' =>
      (e = .returned (.bool true) ∧ ∃ s', R (pre ++ [x]) s' ∧ Sat S w₀ w' (p :: T s')) ∨ (e = .returned (.bool false) ∧ Z w')) →
    Calls P gf (Value.func (.yield l) #[] #[] :: lb).toArray w fun e w' => (∃ v, e = .returned v) ∧ ((∃ s xs, ok xs ∧ R xs s ∧ Sat S w₀ w' (T s)) ∨ Z w')
theorem IterP.unit {α : Type} {P : Program} {gf : FuncId} {lb : List Value} {enc : α → List Value} {ok1 : List α → α → Prop} {ok : List α → Prop} {Lit : List Res} (hI : IterP P gf lb enc ok1 ok Lit) {S : Nat → Prop} {w₀ w : World} {l : Nat} {L : List Res}
    (hS : Sat S w₀ w L) (hL : ∀ r ∈ Lit, r ∈ L) (R : List α → Prop) (Z : World → Prop) (h0 : R [])
    (hY : ∀ pre x (p : Res) w, ok1 pre x → R pre → Sat S w₀ w (p :: L) → Yields1 P l (enc x) w fun e w' =>
      (e = .returned (.bool true) ∧ R (pre ++ [x]) ∧ Sat S w₀ w' (p :: L)) ∨ (e = .returned (.bool false) ∧ Z w')) :
    Calls P gf (Value.func (.yield l) #[] #[] :: lb).toArray w fun e w' => (∃ v, e = .returned v) ∧ ((∃ xs, ok xs ∧ R xs ∧ Sat S w₀ w' L) ∨ Z w') := by
  refine (hI Unit (fun _ => L) (fun pre _ => R pre) Z S w₀ l w () hS (fun _ => hL) h0 (fun pre x _ p w h1 h2 h3 => (hY pre x p w h1 h2 h3).mono ?_)).mono ?_
  · rintro e w' (⟨rfl, h4, h5⟩ | h)
    · exact .inl ⟨rfl, (), h4, h5⟩
    · exact .inr h
  · rintro e w' ⟨hv, ⟨_, xs, h4, h5, h6⟩ | h⟩
    · exact ⟨hv, .inl ⟨xs, h4, h5, h6⟩⟩
    · exact ⟨hv, .inr h⟩
end Go.Proofs.Ytciehimnhnbipaa
