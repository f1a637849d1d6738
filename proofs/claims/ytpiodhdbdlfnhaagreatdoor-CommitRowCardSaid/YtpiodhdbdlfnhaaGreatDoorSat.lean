/- What lies in memory, as a list; and the operations that read and write it. Over any program. -/
import Derived.Test.YtpiodhdbdlfnhaaGreatDoorEng
import Derived.Deep.MidRow
namespace Go.Proofs.YtpiodhdbdlfnhaaGreatDoor
open Go.RowKit Go.Lib
set_option linter.unusedVariables false
structure Res where
  foot : Nat → Prop
  ro : Bool
  holds : World → Prop
  lt : ∀ w k, holds w → foot k → k < w.heap.size
  loc : ∀ w w', holds w → (∀ k, foot k → w'.heap[k]? = w.heap[k]?) → holds w'
def Res.apart (r r' : Res) : Prop := (r.ro = true ∧ r'.ro = true) ∨ ∀ k, r.foot k → r'.foot k → False
theorem Res.apart.symm {r r' : Res} (h : r.apart r') : r'.apart r := h.imp (fun h => ⟨h.2, h.1⟩) (fun h k a b => h k b a)
structure Sat (S : Nat → Prop) (w₀ w : World) (L : List Res) : Prop where
  chg : Chg S w₀ w
  all : ∀ r ∈ L, r.holds w
  sep : L.Pairwise Res.apart
  own : ∀ r ∈ L, r.ro = false → ∀ k, r.foot k → k < w₀.heap.size → S k
/-- A member, and the list with another one in its place. -/
class Pick (L : List Res) (r : Res) (f : outParam (Res → List Res)) : Prop where
  split : ∃ A B, L = A ++ r :: B ∧ ∀ r', f r' = A ++ r' :: B
instance pick_head (r : Res) (L : List Res) : Pick (r :: L) r (fun x => x :: L) := ⟨[], L, rfl, fun _ => rfl⟩
instance pick_tail (x r : Res) (L : List Res) (f : Res → List Res) [h : Pick L r f] : Pick (x :: L) r (fun y => x :: f y) := by
  obtain ⟨A, B, h1, h2⟩ := h.split
  exact ⟨x :: A, B, by rw [h1]; rfl, fun r' => by rw [h2]; rfl⟩
section
variable {S : Nat → Prop} {w₀ w w' : World} {L : List Res}
theorem Sat.start (S : Nat → Prop) (w : World) : Sat S w w [] := ⟨Chg.refl _ _, by simp, .nil, by simp⟩
theorem Sat.push (h : Sat S w₀ w L) {r : Res} (hr : r.holds w) (hs : ∀ x ∈ L, r.apart x) (ho : r.ro = false → ∀ k, r.foot k → k < w₀.heap.size → S k) : Sat S w₀ w (r :: L) :=
  ⟨h.chg, fun x hx => by rcases List.mem_cons.1 hx with rfl | hx; exact hr; exact h.all x hx, .cons hs h.sep, fun x hx => by rcases List.mem_cons.1 hx with rfl | hx; exact ho; exact h.own x hx⟩
/-- Whoever changes nothing that is there. -/
theorem Sat.keep (h : Sat S w₀ w L) {T : Nat → Prop} (hc : Chg T w w') (hT : ∀ r ∈ L, ∀ k, r.foot k → ¬ T k) (hS : ∀ k, k < w₀.heap.size → T k → S k) : Sat S w₀ w' L :=
  ⟨h.chg.trans hc hS, fun r hr => r.loc w w' (h.all r hr) fun k hk => hc.block k (r.lt w k (h.all r hr) hk) (hT r hr k hk), h.sep, h.own⟩
theorem Sat.below (h : Sat S w₀ w L) (hb : Below w.heap.size w w') : Sat S w₀ w' L := h.keep (Chg.of_below hb) (fun _ _ _ _ h => h) (fun _ _ h => h.elim)
theorem Sat.holds (h : Sat S w₀ w L) {r : Res} {f : Res → List Res} [hp : Pick L r f] : r.holds w := by
  obtain ⟨A, B, rfl, _⟩ := hp.split
  exact h.all r (by simp)
/-- One of them is changed. -/
theorem Sat.swap (h : Sat S w₀ w L) {r r' : Res} {f : Res → List Res} [hp : Pick L r f] (hro : r.ro = false) (hc : Chg r.foot w w') (hr : r'.holds w') (hro' : r'.ro = false)
    (hf : ∀ k, r'.foot k → r.foot k ∨ w.heap.size ≤ k) : Sat S w₀ w' (f r') := by
  obtain ⟨A, B, rfl, hL⟩ := hp.split
  have hsep := List.pairwise_append.1 h.sep
  have hsB := List.pairwise_cons.1 hsep.2.1
  have apartA : ∀ x ∈ A, x.apart r := fun x hx => hsep.2.2 x hx r (by simp)
  have apartB : ∀ x ∈ B, r.apart x := hsB.1
  have nope : ∀ x : Res, x.apart r → ∀ k, x.foot k → ¬ r.foot k := fun x hx k h1 h2 => by
    rcases hx with ⟨_, h⟩ | h
    · rw [hro] at h; cases h
    · exact h k h1 h2
  have keepx : ∀ x ∈ A ++ r :: B, x.apart r → x.holds w' := fun x hx ha => x.loc w w' (h.all x hx) fun k hk => hc.block k (x.lt w k (h.all x hx) hk) (nope x ha k hk)
  have newx : ∀ x ∈ A ++ r :: B, x.apart r → x.apart r' := fun x hx ha => .inr fun k h1 h2 => by
    rcases hf k h2 with h3 | h3
    · exact nope x ha k h1 h3
    · exact absurd (x.lt w k (h.all x hx) h1) (by omega)
  rw [hL]
  refine ⟨h.chg.trans hc (fun k hk hr => h.own r (by simp) hro k hr hk), ?_, ?_, ?_⟩
  · intro x hx
    rcases List.mem_append.1 hx with hx | hx
    · exact keepx x (by simp [hx]) (apartA x hx)
    · rcases List.mem_cons.1 hx with rfl | hx
      · exact hr
      · exact keepx x (by simp [hx]) (apartB x hx).symm
  · refine List.pairwise_append.2 ⟨hsep.1, List.pairwise_cons.2 ⟨fun x hx => (newx x (by simp [hx]) (apartB x hx).symm).symm, hsB.2⟩, ?_⟩
    intro x hx y hy
    rcases List.mem_cons.1 hy with rfl | hy
    · exact newx x (by simp [hx]) (apartA x hx)
    · exact hsep.2.2 x hx y (by simp [hy])
  · intro x hx hxr k hk hlt
    rcases List.mem_append.1 hx with hx | hx
    · exact h.own x (by simp [hx]) hxr k hk hlt
    · rcases List.mem_cons.1 hx with rfl | hx
      · rcases hf k hk with h3 | h3
        · exact h.own r (by simp) hro k h3 hlt
        · have := h.chg.size; omega
      · exact h.own x (by simp [hx]) hxr k hk hlt
/-- Something new. -/
theorem Sat.fresh (h : Sat S w₀ w L) {r : Res} (hb : Below w.heap.size w w') (hr : r.holds w') (hf : ∀ k, r.foot k → w.heap.size ≤ k) : Sat S w₀ w' (r :: L) :=
  (h.below hb).push hr (fun x hx => .inr fun k h1 h2 => by have := x.lt w k (h.all x hx) h2; have := hf k h1; omega) (fun _ k hk hlt => by have := hf k hk; have := h.chg.size; omega)
/-- One is put in the place of another one, in the same world. -/
theorem Sat.turn (h : Sat S w₀ w L) {r r' : Res} {f : Res → List Res} [hp : Pick L r f] (hr : r'.holds w) (hro : r'.ro = r.ro) (hf : ∀ k, r'.foot k → r.foot k) : Sat S w₀ w (f r') := by
  obtain ⟨A, B, rfl, hL⟩ := hp.split
  have hsep := List.pairwise_append.1 h.sep
  have hsB := List.pairwise_cons.1 hsep.2.1
  have newx : ∀ x : Res, x.apart r → x.apart r' := fun x ha => by
    rcases ha with ha | ha
    · exact .inl ⟨ha.1, hro.trans ha.2⟩
    · exact .inr fun k h1 h2 => ha k h1 (hf k h2)
  rw [hL]
  refine ⟨h.chg, ?_, ?_, ?_⟩
  · intro x hx
    rcases List.mem_append.1 hx with hx | hx
    · exact h.all x (by simp [hx])
    · rcases List.mem_cons.1 hx with rfl | hx
      · exact hr
      · exact h.all x (by simp [hx])
  · refine List.pairwise_append.2 ⟨hsep.1, List.pairwise_cons.2 ⟨fun x hx => (newx x (hsB.1 x hx).symm).symm, hsB.2⟩, ?_⟩
    intro x hx y hy
    rcases List.mem_cons.1 hy with rfl | hy
    · exact newx x (hsep.2.2 x hx r (by simp))
    · exact hsep.2.2 x hx y (by simp [hy])
  · intro x hx hxr k hk hlt
    rcases List.mem_append.1 hx with hx | hx
    · exact h.own x (by simp [hx]) hxr k hk hlt
    · rcases List.mem_cons.1 hx with rfl | hx
      · exact h.own r (by simp) (hro ▸ hxr) k (hf k hk) hlt
      · exact h.own x (by simp [hx]) hxr k hk hlt
end
/-! A block whose cells are known. -/
def cellsL (n : Nat) (c : Tm) : List Value := (List.range n).map c
theorem cellsL_get (n : Nat) (c : Tm) (i : Nat) (h : i < n) : (cellsL n c)[i]? = some (c i) := by simp [cellsL, h]
theorem cellsL_len (n : Nat) (c : Tm) : (cellsL n c).length = n := by simp [cellsL]
theorem cellsL_upd (n : Nat) (c : Tm) (i : Nat) (v : Value) : (cellsL n c).toArray.setIfInBounds i v = (cellsL n (upd c i v)).toArray := by
  rw [List.setIfInBounds_toArray]
  congr 1
  apply List.ext_getElem?
  intro j
  rw [List.getElem?_set]
  by_cases hj : j < n
  · rw [cellsL_get _ _ _ hj, cellsL_get _ _ _ hj, cellsL_len]
    unfold upd
    by_cases e : i = j
    · subst e; simp [hj]
    · have e1 : (Nat.beq j i) = false := by simpa [← Bool.not_eq_true, Nat.beq_eq] using fun x => e x.symm
      simp [e, e1]
  · rw [List.getElem?_eq_none (by rw [cellsL_len]; omega), List.getElem?_eq_none (by rw [cellsL_len]; omega), cellsL_len]
    simp; intro e; omega
def blk (b n : Nat) (c : Tm) (T : TypeId) : Res where
  foot k := k = b
  ro := false
  holds w := w.heap[b]? = some (.cells (cellsL n c).toArray T (0, 0))
  lt w k h e := by subst e; exact lt_of_heap h
  loc w w' h e := (e b rfl).trans h
theorem blk_cell {b n : Nat} {c : Tm} {T : TypeId} {w : World} (h : (blk b n c T).holds w) (i : Nat) (hi : i < n) : w.cell? ⟨b, i, none⟩ = some (c i) := by
  rw [cell_of_row _ _ _ _ _ _ h, List.getElem?_toArray, cellsL_get _ _ _ hi]
theorem blk_free {b n : Nat} {c : Tm} {T : TypeId} {w : World} (h : (blk b n c T).holds w) (i : Nat) : w.frozen? ⟨b, i, none⟩ = false := frozen_of_row w b i _ _ h
class PickBlk (L : List Res) (b : Nat) (n : outParam Nat) (c : outParam Tm) (T : outParam TypeId) (f : outParam (Res → List Res)) : Prop where
  pick : Pick L (blk b n c T) f
instance pickBlk_head (b n : Nat) (c : Tm) (T : TypeId) (L : List Res) : PickBlk (blk b n c T :: L) b n c T (fun x => x :: L) := ⟨inferInstance⟩
instance pickBlk_tail (x : Res) (b n : Nat) (c : Tm) (T : TypeId) (L : List Res) (f : Res → List Res) [h : PickBlk L b n c T f] : PickBlk (x :: L) b n c T (fun y => x :: f y) := ⟨@pick_tail x _ L f h.pick⟩
class PickB (L : List Res) (b : Nat) (n : outParam Nat) (c : outParam Tm) (T : outParam TypeId) : Prop where
  ok : ∀ w, (∀ r ∈ L, r.holds w) → (blk b n c T).holds w
instance pickB_blk (b n : Nat) (c : Tm) (T : TypeId) (L : List Res) : PickB (blk b n c T :: L) b n c T := ⟨fun w h => h (blk b n c T) (by simp)⟩
instance pickB_tail (x : Res) (b n : Nat) (c : Tm) (T : TypeId) (L : List Res) [hp : PickB L b n c T] : PickB (x :: L) b n c T := ⟨fun w h => hp.ok w fun r hr => h r (by simp [hr])⟩
theorem Sat.ro {S : Nat → Prop} {w₀ w : World} {L : List Res} (h : Sat S w₀ w L) {r : Res} (hr : r.holds w) (hro : r.ro = true) (hL : L.all (·.ro) = true) : Sat S w₀ w (r :: L) :=
  h.push hr (fun x hx => .inl ⟨hro, List.all_eq_true.1 hL x hx⟩) (fun e => by rw [hro] at e; cases e)
section
variable {S : Nat → Prop} {w₀ w w' : World} {L : List Res}
theorem Sat.alloc (h : Sat S w₀ w L) (n : Nat) (c : Tm) (T : TypeId) : Sat S w₀ (w.alloc (.cells (cellsL n c).toArray T)) (blk w.heap.size n c T :: L) :=
  h.fresh ((Below.refl _ w).alloc (Nat.le_refl _) _) (heap_alloc_new w _) (fun k e => by cases e; exact Nat.le_refl _)
theorem Sat.setCell (h : Sat S w₀ w L) {b n : Nat} {c : Tm} {T : TypeId} {f : Res → List Res} [hp : PickBlk L b n c T f] (i : Nat) (v : Value) : Sat S w₀ (w.setCell ⟨b, i, none⟩ v) (f (blk b n (upd c i v) T)) := by
  have := hp.pick
  have hb : (blk b n c T).holds w := h.holds
  refine h.swap (r := blk b n c T) rfl ((Chg.refl _ w).setCell _ _ (fun _ => rfl)) ?_ rfl (fun k e => .inl e)
  show (w.setCell ⟨b, i, none⟩ v).heap[b]? = _
  rw [heap_setCell_same w b i _ _ _ hb, cellsL_upd]
end
/-! The operations. -/
theorem run_load1 {P : Program} {w : World} {T : TypeId} [hT : TyAgg P T false] {a : Addr} {v : Value} (h : w.cell? a = some v) : (Instr.loadAt T (.pointer (some a))).run P w = .ok v w := by
  simp [Instr.loadAt, Instr.sureAddr, loadVar, hT.run, run_load, h]
theorem run_loadN {P : Program} {w : World} {T : TypeId} {n : Nat} [hT : TyAgg P T true] [hs : TySz P T n] {a : Addr} {c : Tm} (h : ∀ i, i < n → w.cell? (a.add i) = some (c i)) : (Instr.loadAt T (.pointer (some a))).run P w = .ok (.agg (cellsL n c).toArray) w := by
  simp [Instr.loadAt, Instr.sureAddr, loadVar, hT.run, hs.run, run_loadCells w a n c h, cellsL]
theorem run_store1 {P : Program} {w : World} {T : TypeId} [hs : TySz P T 1] {a : Addr} {v u : Value} (h1 : v.oneCell' = true) (h : w.cell? a = some u) (hf : w.frozen? a = false) : (Instr.storeAt T (.pointer (some a)) v).run P w = .ok () (w.setCell a v) := by
  have hc : v.cells = #[v] := by cases v <;> first | rfl | cases h1
  have ha : a.add 0 = a := Addr.add_zero' a
  simp [Instr.storeAt, Instr.sureAddr, storeVar, hs.run, hc, storeCells, ha, run_store P w a v _ h1, h, hf]
section
variable {S : Nat → Prop} {w₀ : World} {L : List Res}
variable {P : Program} {ops : Array Oper} {n : Nat} {rest : List Oper} {t : Tm} {w : World} {K : Tm → World → Prop} {d : Nat} {ty : TypeId} {pos : String} {af : Array Edge}
theorem add_lit0 (b o j : Nat) : (⟨b, o, none⟩ : Addr).add j = ⟨b, o + j, none⟩ := Addr.add_lit b o j
theorem box_l (hS : Sat S w₀ w L) {T : TypeId} {x : Operand} {v : Value} (hx : ev t x = v) (h1 : v.oneCell' = true) (hd : Nat.blt d n = true)
    (k : ∀ b w', Sat S w₀ w' (blk b 1 (fun _ => v) T :: L) → RunL P ops n rest (upd t d (.pointer (some ⟨b, 0, none⟩))) w' K) : RunL P ops n (⟨some d, .box T x, ty, pos, af, none⟩ :: rest) t w K := by
  have hc : v.cells = #[v] := by cases v <;> first | rfl | cases h1
  refine valL (w' := w.alloc (.cells (cellsL 1 (fun _ => v)).toArray T)) rfl rfl hd ?_ (k w.heap.size _ (hS.alloc 1 (fun _ => v) T))
  show Sem.run P (do pure (Next.value (← Instr.box T (ev t x)))) w = _
  rw [hx]
  simp [Instr.box, newVar, newRow, newObj, hc, Sem.run, cellsL, World.alloc_eq]
theorem alloc_l (hS : Sat S w₀ w L) {T : TypeId} {z : Value} [hz : TyZ P T z] (hd : Nat.blt d n = true) {m : Nat} {c : Tm} (hc : z.cells = (cellsL m c).toArray)
    (k : ∀ b w', Sat S w₀ w' (blk b m c T :: L) → RunL P ops n rest (upd t d (.pointer (some ⟨b, 0, none⟩))) w' K) : RunL P ops n (⟨some d, .alloc T, ty, pos, af, none⟩ :: rest) t w K := by
  refine valL (w' := w.alloc (.cells (cellsL m c).toArray T)) rfl rfl hd ?_ (k w.heap.size _ (hS.alloc m c T))
  show Sem.run P (do pure (Next.value (← Instr.alloc T true (.tuple #[])))) w = _
  simp [Instr.alloc, hz.run, newVar, newRow, newObj, hc, Sem.run, World.alloc_eq]
theorem store_l (hS : Sat S w₀ w L) {T : TypeId} [hT : TySz P T 1] {x y : Operand} {b o m : Nat} {c : Tm} {T' : TypeId} {f : Res → List Res} {v : Value} (hx : ev t x = .pointer (some ⟨b, o, none⟩)) [hp : PickBlk L b m c T' f] (hy : ev t y = v) (h1 : v.oneCell' = true) (ho : Nat.blt o m = true)
    (k : ∀ w', Sat S w₀ w' (f (blk b m (upd c o v) T')) → RunL P ops n rest t w' K) : RunL P ops n (⟨none, .store T x y, ty, pos, af, none⟩ :: rest) t w K := by
  have := hp.pick
  have hb : (blk b m c T').holds w := hS.holds
  refine skipL rfl rfl ?_ (k _ (hS.setCell o v))
  show Sem.run P (do let u ← Instr.storeAt T (ev t x) (ev t y); pure Next.skip) w = _
  rw [hx, hy, Sem.run_bind, run_store1 h1 (blk_cell hb o (by simpa [Nat.blt_eq] using ho)) (blk_free hb o)]
  rfl
theorem store_i (hS : Sat S w₀ w L) {T : TypeId} [hT : TySz P T 1] {x y : Operand} {b o m : Nat} {c : Tm} {T' : TypeId} {f : Res → List Res} {ik : IntKind} {z : Int} (hx : ev t x = .pointer (some ⟨b, o, none⟩)) [hp : PickBlk L b m c T' f] (hy : ev t y = .int ik z) (ho : Nat.blt o m = true) (kk : ∀ w', Sat S w₀ w' (f (blk b m (upd c o (.int ik z)) T')) → RunL P ops n rest t w' K) : RunL P ops n (⟨none, .store T x y, ty, pos, af, none⟩ :: rest) t w K := store_l hS hx hy rfl ho kk
theorem store_b (hS : Sat S w₀ w L) {T : TypeId} [hT : TySz P T 1] {x y : Operand} {b o m : Nat} {c : Tm} {T' : TypeId} {f : Res → List Res} {bb : Bool} (hx : ev t x = .pointer (some ⟨b, o, none⟩)) [hp : PickBlk L b m c T' f] (hy : ev t y = .bool bb) (ho : Nat.blt o m = true) (kk : ∀ w', Sat S w₀ w' (f (blk b m (upd c o (.bool bb)) T')) → RunL P ops n rest t w' K) : RunL P ops n (⟨none, .store T x y, ty, pos, af, none⟩ :: rest) t w K := store_l hS hx hy rfl ho kk
theorem box_p (hS : Sat S w₀ w L) {T : TypeId} {x : Operand} {pp : Option Addr} (hx : ev t x = .pointer pp) (hd : Nat.blt d n = true) (kk : ∀ b w', Sat S w₀ w' (blk b 1 (fun _ => .pointer pp) T :: L) → RunL P ops n rest (upd t d (.pointer (some ⟨b, 0, none⟩))) w' K) : RunL P ops n (⟨some d, .box T x, ty, pos, af, none⟩ :: rest) t w K := box_l hS hx rfl hd kk
theorem store_s (hS : Sat S w₀ w L) {T : TypeId} [hT : TySz P T 1] {x y : Operand} {b o m : Nat} {c : Tm} {T' : TypeId} {f : Res → List Res} {pp : Option Addr} {sl sc : Nat} (hx : ev t x = .pointer (some ⟨b, o, none⟩)) [hp : PickBlk L b m c T' f] (hy : ev t y = .slice pp sl sc) (ho : Nat.blt o m = true) (kk : ∀ w', Sat S w₀ w' (f (blk b m (upd c o (.slice pp sl sc)) T')) → RunL P ops n rest t w' K) : RunL P ops n (⟨none, .store T x y, ty, pos, af, none⟩ :: rest) t w K := store_l hS hx hy rfl ho kk
end
end Go.Proofs.YtpiodhdbdlfnhaaGreatDoor
