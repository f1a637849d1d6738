/- Drawn regions in general, step by step. Over any program. -/
import Derived.Test.YtpiodhdbdlfnhaaGreatDoorRow
namespace Go.Proofs.YtpiodhdbdlfnhaaGreatDoor
open Go.RowKit Go.Lib
set_option linter.unusedVariables false
/-- Which have been: by the bits of a number. -/
def bitsA (n m : Nat) : Array Bool := (List.range n).map (fun i => m.testBit i) |>.toArray
theorem bitsA_set (n m i : Nat) : (bitsA n m).setIfInBounds i true = bitsA n (m ||| 2 ^ i) := by
  unfold bitsA
  rw [List.setIfInBounds_toArray]
  congr 1
  apply List.ext_getElem?
  intro j
  rw [List.getElem?_set]
  by_cases e : i = j
  · subst e
    by_cases hi : i < n
    · simp [hi, Nat.testBit_or]
    · simp [hi]
  · by_cases hj : j < n
    · simp [hj, e, Nat.testBit_or, Nat.testBit_two_pow]
    · simp [hj, e]
def AnyL (P : Program) (ops : Array Oper) (n : Nat) (S : Nat → Prop) (w₀ : World) (L : List Res) (f m : Nat) (t : Tm) (w : World) (K : Tm → World → Prop) : Prop :=
  ∀ Q : Exit → Act → World → Prop, Strict Q → (∀ a' w' t', Agr n a' t' → K t' w' → Q .normal a' w') → ∀ a, Agr n a t → AnyC P ops (fun w => Sat S w₀ w L) Q f (bitsA ops.size m) a w
/-- May it be taken first? -/
def canFirst (ops : Array Oper) (m i : Nat) : Bool := Region.noSelect ops && ((Region.ready .any ops (bitsA ops.size m)).contains i && Region.free .any ops (bitsA ops.size m) i)
def onlyOne (ops : Array Oper) (m i : Nat) : Bool := decide (Region.ready .any ops (bitsA ops.size m) = [i])
def noMore (ops : Array Oper) (m : Nat) : Bool := (Region.ready .any ops (bitsA ops.size m)).isEmpty
class Subl (L L' : List Res) : Prop where
  sub : L'.Sublist L
instance subl_nil (L : List Res) : Subl L [] := ⟨List.nil_sublist L⟩
instance subl_same (r : Res) (L L' : List Res) [h : Subl L L'] : Subl (r :: L) (r :: L') := ⟨h.sub.cons_cons r⟩
instance (priority := low) subl_skip (r : Res) (L L' : List Res) [h : Subl L L'] : Subl (r :: L) L' := ⟨h.sub.cons r⟩
theorem Sat.sub {S : Nat → Prop} {w₀ w : World} {L L' : List Res} (h : Sat S w₀ w L) [hs : Subl L L'] : Sat S w₀ w L' :=
  ⟨h.chg, fun r hr => h.all r (hs.sub.subset hr), h.sep.sublist hs.sub, fun r hr => h.own r (hs.sub.subset hr)⟩
section
variable {S : Nat → Prop} {w₀ : World} {L L' : List Res}
variable {P : Program} {ops : Array Oper} {n : Nat} {t : Tm} {w : World} {K : Tm → World → Prop} {f m : Nat}
theorem run_any {id : Nat} {l : List Oper} {Q : Exit → Tm → World → Prop} (hS : Sat S w₀ w L) (hm : P.follows .mixedOrders = true) (hs : Nat.beq l.length f = true)
    (h : ∀ w, Sat S w₀ w L → AnyL P l.toArray n S w₀ L' f 0 t w (Q .normal)) : Run P n (.region id l.toArray true) t w Q := by
  unfold Run
  intro a ha
  have hs' : l.toArray.size = f := by simpa [Nat.beq_eq] using hs
  refine wp_mono (Q := fun e a w => e = .normal ∧ ∃ t, Agr n a t ∧ Q .normal t w) (wp_region_any hm (AnyC.any (C := fun w => Sat S w₀ w L') _ _ _ _ ?_)) ?_
  · have := h { w with drawn := w.drawn + 1 } (hS.below ⟨rfl, rfl, rfl, Nat.le_refl _, fun _ _ => rfl⟩) (fun e a w => e = .normal ∧ ∃ t, Agr n a t ∧ Q .normal t w) (fun _ _ _ h => h.1) (fun a' w' t' h1 h2 => ⟨rfl, t', h1, h2⟩) a ha
    rw [hs']
    have e : bitsA l.toArray.size 0 = Array.replicate f false := by rw [hs']; apply Array.ext'; simp [bitsA, List.map_const']
    rw [e] at this
    exact this
  · rintro e a' w' ⟨rfl, t', h1, h2⟩
    exact ⟨t', h1, h2⟩
theorem any_pure {i : Nat} {o : Oper} (hi : ops[i]? = some o) (hc : canFirst ops m i = true) (hS : Sat S w₀ w L) (h : QX P ops n S w₀ L o t (fun t' => AnyL P ops n S w₀ L f (m ||| 2 ^ i) t' w K)) : AnyL P ops n S w₀ L (f + 1) m t w K := by
  intro Q hQ hK a ha
  unfold QX at h
  obtain ⟨v, t', hv, hk⟩ := h
  simp only [canFirst, Bool.and_eq_true] at hc
  obtain ⟨hsel, hr, hf⟩ := hc
  refine AnyC_first hQ hi hsel f _ a w hS (Region.free_spec hi hf) (by simpa using hr) (hv a ha).1 ?_
  rw [bitsA_set]
  exact hk Q hQ hK _ (hv a ha).2
theorem any_step {i : Nat} {o : Oper} (hi : ops[i]? = some o) (hr : onlyOne ops m i = true) (h : RunL P ops n [o] t w (fun t' w' => Sat S w₀ w' L ∧ AnyL P ops n S w₀ L f (m ||| 2 ^ i) t' w' K)) : AnyL P ops n S w₀ L (f + 1) m t w K := by
  intro Q hQ hK a ha
  have hr' : Region.ready .any ops (bitsA ops.size m) = [i] := by simpa [onlyOne] using hr
  have noOut : ¬ LetsOut Q := fun ⟨a, w, h⟩ => by cases hQ _ _ _ h
  refine ⟨fun h => (by rw [hr'] at h; cases h), fun j hj => ?_⟩
  rw [hr'] at hj
  obtain rfl : j = i := by simpa using hj
  unfold RunL at h
  have h1 := h (fun e a' w' => e = .normal ∧ Sat S w₀ w' L ∧ AnyC P ops (fun w => Sat S w₀ w L) Q f (bitsA ops.size (m ||| 2 ^ j)) a' w')
    (fun a' w' t' h1 h2 => ⟨rfl, h2.1, h2.2 Q hQ hK a' h1⟩) a ha
  have noOut2 : ¬ LetsOut (fun e a' w' => e = Exit.normal ∧ Sat S w₀ w' L ∧ AnyC P ops (fun w => Sat S w₀ w L) Q f (bitsA ops.size (m ||| 2 ^ j)) a' w') := fun ⟨a, w, h⟩ => by cases h.1
  have strict2 : Strict (fun e a' w' => e = Exit.normal ∧ Sat S w₀ w' L ∧ AnyC P ops (fun w => Sat S w₀ w L) Q f (bitsA ops.size (m ||| 2 ^ j)) a' w') := fun _ _ _ h => h.1
  simp only [wpList] at h1
  unfold wpOp
  simp only [hi]
  rw [bitsA_set]
  split at h1
  · rename_i hw
    rw [if_pos hw]
    left
    rcases h1 with h1 | h1
    · unfold Oper.wp at h1 ⊢
      generalize (execOp a.eval o).run P w = r at *
      cases r with
      | ok nx w' =>
        cases nx <;> simp only [Oper.upon] at h1 ⊢ <;> try exact h1
        case value u => exact h1.2
        case skip => exact h1.2
        case enter g args =>
          refine h1.mono ?_
          intro e w'' h
          cases e with
          | returned u => exact h.2
          | panicked c => cases strict2 _ _ _ h
          | outgrown => exact (noOut2 h).elim
        case row r args => exact h1.mono fun u w'' h => h.2
        case defer d => exact h1.2
      | halt x w' =>
        cases x <;> simp only [Oper.upon] at h1 ⊢
        case panic v => cases strict2 _ _ _ h1
    · exact (noOut2 h1.2).elim
  · rename_i hw
    rw [if_neg hw]
    exact h1.2
theorem any_end (hr : noMore ops m = true) (h : K t w) : AnyL P ops n S w₀ L 0 m t w K := by
  intro Q hQ hK a ha
  exact ⟨by simpa [noMore] using hr, hK a w t ha h⟩
end
/-- Whatever it is, to be read alone. -/
def roR (r : Res) : Res := { r with ro := true }
theorem Sat.reads {r : Res} {w : World} (h : r.holds w) : Sat (fun _ => False) w w [roR r] := (Sat.start _ w).ro (r := roR r) h rfl rfl
theorem Sat.reads2 {r r' : Res} {w : World} (h : r.holds w) (h' : r'.holds w) : Sat (fun _ => False) w w [roR r, roR r'] := (Sat.reads h').ro (r := roR r) h rfl rfl
theorem Sat.got {S : Nat → Prop} {w₀ w : World} {r : Res} {L : List Res} (h : Sat S w₀ w (roR r :: L)) : r.holds w := h.all (roR r) (List.mem_cons_self ..)
theorem Sat.got1 {S : Nat → Prop} {w₀ w : World} {r : Res} {L : List Res} (h : Sat S w₀ w (r :: L)) : r.holds w := h.all r (List.mem_cons_self ..)
section
variable (r : Res) (L : List Res)
theorem one_holds {r : Res} {w : World} (h : r.holds w) : ∀ x ∈ [r], x.holds w := fun x hx => by rw [List.mem_singleton.1 hx]; exact h
instance pickB_ro (b n : Nat) (c : Tm) (T : TypeId) [hp : PickB [r] b n c T] : PickB (roR r :: L) b n c T := ⟨fun w h => hp.ok w (one_holds (h (roR r) (List.mem_cons_self ..)))⟩
instance pickSl_roR (a : Option Addr) (len cap sz : Nat) (g : Nat → Nat → Value) [hp : PickSl [r] a len cap sz g] : PickSl (roR r :: L) a len cap sz g := ⟨fun w h => hp.ok w (one_holds (h (roR r) (List.mem_cons_self ..)))⟩
instance pickE_roR (a : Option Addr) (len cap sz : Nat) (g : Nat → Nat → Value) [hp : PickE [r] a len cap sz g] : PickE (roR r :: L) a len cap sz g := ⟨fun w h => hp.ok w (one_holds (h (roR r) (List.mem_cons_self ..)))⟩
instance pickL_roR {α : Type} (a : Option Addr) (cap sz : Nat) (enc : α → Nat → Value) (dd : α) (zs : List α) [hp : PickL [r] a cap sz enc dd zs] : PickL (roR r :: L) a cap sz enc dd zs := ⟨fun w h => hp.ok w (one_holds (h (roR r) (List.mem_cons_self ..)))⟩
end
def gset (g : Nat → Nat → Value) (i j : Nat) (v : Value) : Nat → Nat → Value := fun i' j' => if i' = i ∧ j' = j then v else g i' j'
theorem row_cell {sz i j i' j' : Nat} (hj : j < sz) (hj' : j' < sz) : i * sz + j = i' * sz + j' ↔ i = i' ∧ j = j' := by
  constructor
  · intro h
    have h1 : (i * sz + j) / sz = i := by rw [Nat.mul_comm, Nat.mul_add_div (by omega), Nat.div_eq_of_lt hj]; rfl
    have h2 : (i' * sz + j') / sz = i' := by rw [Nat.mul_comm, Nat.mul_add_div (by omega), Nat.div_eq_of_lt hj']; rfl
    have e : i = i' := by rw [← h1, ← h2, h]
    subst e
    exact ⟨rfl, by omega⟩
  · rintro ⟨rfl, rfl⟩; rfl
theorem Sat.setRow {S : Nat → Prop} {w₀ w : World} {L : List Res} (h : Sat S w₀ w L) {a : Option Addr} {len cap e sz : Nat} {g : Nat → Nat → Value} {f : Res → List Res} [hp : PickR L a len cap e sz g f] {i j : Nat} (hi : i < len) (hj : j < sz) (v : Value) :
    ∃ b, a = some ⟨b, 0, none⟩ ∧ w.cell? ⟨b, i * sz + j, none⟩ = some (g i j) ∧ w.frozen? ⟨b, i * sz + j, none⟩ = false ∧ Sat S w₀ (w.setCell ⟨b, i * sz + j, none⟩ v) (f (row a len cap e sz (gset g i j v))) := by
  have := hp.pick
  have hr : RowOk w a len cap e sz g := h.holds (r := row a len cap e sz g)
  obtain ⟨h0, ⟨_, hl, _⟩ | ⟨b, cur, rfl, h1, h2, h3, h4, h5⟩⟩ := hr
  · omega
  · refine ⟨b, rfl, by rw [cell_of_row _ _ _ _ _ _ h1]; exact h5 i hi j hj, frozen_of_row _ _ _ _ _ h1, ?_⟩
    refine h.swap (r := row (some ⟨b, 0, none⟩) len cap e sz g) rfl ((Chg.refl _ w).setCell _ _ (fun _ => ⟨_, rfl, rfl⟩)) ?_ rfl (fun k e => .inl e)
    refine ⟨h0, .inr ⟨b, _, rfl, heap_setCell_same w b _ _ _ _ h1, h2, h3, by simpa using h4, fun i' hi' j' hj' => ?_⟩⟩
    have hlt : i' * sz + j' < cur.size := by
      have := h5 i' hi' j' hj'
      exact (Array.getElem?_eq_some_iff.1 this).1
    rw [Array.getElem?_setIfInBounds]
    unfold gset
    by_cases he : i' = i ∧ j' = j
    · rw [if_pos he, if_pos ((row_cell hj hj').2 ⟨he.1.symm, he.2.symm⟩)]
      obtain ⟨rfl, rfl⟩ := he
      simp [hlt]
    · rw [if_neg he, if_neg (fun e => he (by obtain ⟨e1, e2⟩ := (row_cell hj hj').1 e; exact ⟨e1.symm, e2.symm⟩))]
      exact h5 i' hi' j' hj'
/-- The same row, otherwise said. -/
theorem Sat.reRow {S : Nat → Prop} {w₀ w : World} {L : List Res} (h : Sat S w₀ w L) {a : Option Addr} {len cap e sz : Nat} {g g' : Nat → Nat → Value} {f : Res → List Res} [hp : PickR L a len cap e sz g f] (eq : ∀ i, i < len → ∀ j, j < sz → g i j = g' i j) : Sat S w₀ w (f (row a len cap e sz g')) := by
  have := hp.pick
  exact h.turn (r := row a len cap e sz g) ((show RowOk w a len cap e sz g from h.holds (r := row a len cap e sz g)).congr eq) rfl (fun k e => e)
section
variable {S : Nat → Prop} {w₀ : World} {L : List Res}
variable {P : Program} {ops : Array Oper} {n : Nat} {rest : List Oper} {t : Tm} {w : World} {K : Tm → World → Prop} {d : Nat} {ty : TypeId} {pos : String} {af : Array Edge}
theorem storeE_l (hS : Sat S w₀ w L) {T : TypeId} [hT : TySz P T 1] {x y : Operand} {a : Option Addr} {len cap e sz i j : Nat} {g : Nat → Nat → Value} {f : Res → List Res} {v : Value} (hx : ev t x = ePtr a i sz j) [hp : PickR L a len cap e sz g f] (hy : ev t y = v) (h1 : v.oneCell' = true) (hi : i < len) (hj : Nat.blt j sz = true)
    (k : ∀ w', Sat S w₀ w' (f (row a len cap e sz (gset g i j v))) → RunL P ops n rest t w' K) : RunL P ops n (⟨none, .store T x y, ty, pos, af, none⟩ :: rest) t w K := by
  obtain ⟨b, rfl, hc, hf, hs⟩ := hS.setRow hi (by simpa [Nat.blt_eq] using hj) v (hp := hp)
  refine skipL rfl rfl ?_ (k _ hs)
  show Sem.run P (do let u ← Instr.storeAt T (ev t x) (ev t y); pure Next.skip) w = _
  rw [hx, hy, ePtr_eq, Option.map_some, Nat.zero_add, Sem.run_bind, run_store1 h1 hc hf]
  rfl
theorem storeE_i (hS : Sat S w₀ w L) {T : TypeId} [hT : TySz P T 1] {x y : Operand} {a : Option Addr} {len cap e sz i j : Nat} {g : Nat → Nat → Value} {f : Res → List Res} {ik : IntKind} {z : Int} (hx : ev t x = ePtr a i sz j) [hp : PickR L a len cap e sz g f] (hy : ev t y = .int ik z) (hi : i < len) (hj : Nat.blt j sz = true) (k : ∀ w', Sat S w₀ w' (f (row a len cap e sz (gset g i j (.int ik z)))) → RunL P ops n rest t w' K) : RunL P ops n (⟨none, .store T x y, ty, pos, af, none⟩ :: rest) t w K := storeE_l hS hx hy rfl hi hj k
theorem storeE_b (hS : Sat S w₀ w L) {T : TypeId} [hT : TySz P T 1] {x y : Operand} {a : Option Addr} {len cap e sz i j : Nat} {g : Nat → Nat → Value} {f : Res → List Res} {bb : Bool} (hx : ev t x = ePtr a i sz j) [hp : PickR L a len cap e sz g f] (hy : ev t y = .bool bb) (hi : i < len) (hj : Nat.blt j sz = true) (k : ∀ w', Sat S w₀ w' (f (row a len cap e sz (gset g i j (.bool bb)))) → RunL P ops n rest t w' K) : RunL P ops n (⟨none, .store T x y, ty, pos, af, none⟩ :: rest) t w K := storeE_l hS hx hy rfl hi hj k
end
attribute [irreducible] AnyL
end Go.Proofs.YtpiodhdbdlfnhaaGreatDoor
