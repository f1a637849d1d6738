/- Structs as values: built, stored. Over any program. -/
import Derived.Test.YtpiodhdbdlfnhaaGreatDoorAny
namespace Go.Proofs.YtpiodhdbdlfnhaaGreatDoor
open Go.RowKit Go.Lib
set_option linter.unusedVariables false
class TyStr (P : Program) (T : TypeId) (fs : outParam (List (Nat × Nat))) (z : outParam (List Value)) : Prop where
  eq : ∀ ps, P.built T ps = Instr.fill (fs.toArray[·]?) z.toArray ps
def splice (cs : List Value) (off : Nat) (l : List Value) : List Value := cs.take off ++ l ++ cs.drop (off + l.length)
def fillL (fs : List (Nat × Nat)) : List Value → List (Nat × Value) → Option (List Value)
  | cs, [] => some cs
  | cs, (i, v) :: rest => match fs[i]? with
    | none => none
    | some (off, size) => bif Nat.beq v.cells.size size && Nat.ble (off + v.cells.size) cs.length then fillL fs (splice cs off v.cells.toList) rest else none
theorem foldl_splice (l : List Value) : ∀ (k off : Nat) (cs : Array Value), off + k + l.length ≤ cs.size → (l.zipIdx k).foldl (fun (cs : Array Value) (x : Value × Nat) => cs.setIfInBounds (off + x.2) x.1) cs = (splice cs.toList (off + k) l).toArray := by
  induction l with
  | nil => intro k off cs _; simp [splice]
  | cons v l ih =>
    intro k off cs h
    simp only [List.length_cons] at h
    rw [List.zipIdx_cons, List.foldl_cons, ih (k + 1) off _ (by simp; omega)]
    congr 1
    have hk : off + k < cs.toList.length := by simp; omega
    simp only [splice, Array.toList_setIfInBounds, List.length_cons]
    rw [show off + (k + 1) = off + k + 1 from by omega, List.take_succ_eq_append_getElem (by simpa using hk), List.take_set_of_le (Nat.le_refl _), List.drop_set_of_lt (by omega)]
    simp [show off + k + 1 + l.length = off + k + (l.length + 1) from by omega]
theorem fill_of {fs : List (Nat × Nat)} : ∀ (ps : List (Nat × Value)) (cs l : List Value), fillL fs cs ps = some l → Instr.fill (fs.toArray[·]?) cs.toArray ps = some l.toArray
  | [], cs, l, h => by simp [fillL] at h; simp [Instr.fill, h]
  | (i, v) :: rest, cs, l, h => by
    simp only [fillL] at h
    simp only [Instr.fill, List.getElem?_toArray]
    cases hf : fs[i]? with
    | none => rw [hf] at h; cases h
    | some p =>
      obtain ⟨off, size⟩ := p
      rw [hf] at h
      simp only at h ⊢
      cases hb : (Nat.beq v.cells.size size && Nat.ble (off + v.cells.size) cs.length) with
      | false => rw [hb] at h; cases h
      | true =>
        rw [hb] at h
        simp only [cond_true] at h
        simp only [Bool.and_eq_true, Nat.beq_eq, Nat.ble_eq] at hb
        rw [if_neg (by simp; omega)]
        have := foldl_splice v.cells.toList 0 off cs.toArray (by simp; omega)
        simp only [Nat.add_zero] at this
        rw [← Array.foldl_toList, Array.toList_zipIdx]
        show Instr.fill _ ((v.cells.toList.zipIdx 0).foldl (fun (cs : Array Value) (x : Value × Nat) => cs.setIfInBounds (off + x.2) x.1) cs.toArray) rest = _
        rw [this]
        have h2 := fill_of rest _ _ h
        simpa using h2
theorem mapN {t : Tm} : ([] : List (Nat × Operand)).map (fun p => (p.1, ev t p.2)) = [] := rfl
theorem mapC_i {t : Tm} {i : Nat} {x : Operand} {l : List (Nat × Operand)} {ps : List (Nat × Value)} {ik : IntKind} {z : Int} (h : ev t x = .int ik z) (k : l.map (fun p => (p.1, ev t p.2)) = ps) : ((i, x) :: l).map (fun p => (p.1, ev t p.2)) = (i, .int ik z) :: ps := by rw [List.map_cons, h, k]
theorem mapC_p {t : Tm} {i : Nat} {x : Operand} {l : List (Nat × Operand)} {ps : List (Nat × Value)} {pp : Option Addr} (h : ev t x = .pointer pp) (k : l.map (fun p => (p.1, ev t p.2)) = ps) : ((i, x) :: l).map (fun p => (p.1, ev t p.2)) = (i, .pointer pp) :: ps := by rw [List.map_cons, h, k]
theorem mapC_s {t : Tm} {i : Nat} {x : Operand} {l : List (Nat × Operand)} {ps : List (Nat × Value)} {pp : Option Addr} {sl sc : Nat} (h : ev t x = .slice pp sl sc) (k : l.map (fun p => (p.1, ev t p.2)) = ps) : ((i, x) :: l).map (fun p => (p.1, ev t p.2)) = (i, .slice pp sl sc) :: ps := by rw [List.map_cons, h, k]
theorem mapC_a {t : Tm} {i : Nat} {x : Operand} {l : List (Nat × Operand)} {ps : List (Nat × Value)} {al : List Value} (h : ev t x = aggV al) (k : l.map (fun p => (p.1, ev t p.2)) = ps) : ((i, x) :: l).map (fun p => (p.1, ev t p.2)) = (i, .agg al.toArray) :: ps := by rw [List.map_cons, h, k, aggV_eq]
section
variable {S : Nat → Prop} {w₀ : World} {L : List Res}
variable {P : Program} {ops : Array Oper} {n : Nat} {rest : List Oper} {t : Tm} {w : World} {K : Tm → World → Prop} {d : Nat} {ty : TypeId} {pos : String} {af : Array Edge} {KQ : Tm → Prop}
theorem build_run {T : TypeId} {fs : List (Nat × Nat)} {z : List Value} [hT : TyStr P T fs z] {parts : List (Nat × Operand)} {ps : List (Nat × Value)} {l : List Value} (hp : parts.map (fun p => (p.1, ev t p.2)) = ps) (hf : fillL fs z ps = some l) :
    (execOp (ev t) ⟨some d, .build T parts.toArray, ty, pos, af, none⟩).run P w = .ok (.value (aggV l)) w := by
  show Sem.run P (do pure (Next.value (← Instr.build T (parts.toArray.map fun (i, x) => (i, ev t x))))) w = _
  have : (parts.toArray.map fun (i, x) => (i, ev t x)) = ps.toArray := by rw [← hp]; simp
  rw [this, Sem.run_bind, run_build w T ps.toArray l.toArray (by rw [hT.eq]; exact fill_of _ _ _ (by simpa using hf)), aggV_eq]
  rfl
theorem build_l (hS : Sat S w₀ w L) {T : TypeId} {fs : List (Nat × Nat)} {z : List Value} [hT : TyStr P T fs z] {parts : List (Nat × Operand)} {ps : List (Nat × Value)} {l : List Value} (hp : parts.map (fun p => (p.1, ev t p.2)) = ps) (hf : fillL fs z ps = some l) (hd : Nat.blt d n = true)
    (kk : RunL P ops n rest (upd t d (aggV l)) w K) : RunL P ops n (⟨some d, .build T parts.toArray, ty, pos, af, none⟩ :: rest) t w K := valL rfl rfl hd (build_run hp hf) kk
theorem build_x {T : TypeId} {fs : List (Nat × Nat)} {z : List Value} [hT : TyStr P T fs z] {parts : List (Nat × Operand)} {ps : List (Nat × Value)} {l : List Value} (hp : parts.map (fun p => (p.1, ev t p.2)) = ps) (hf : fillL fs z ps = some l) (hd : Nat.blt d n = true)
    (kk : KQ (upd t d (aggV l))) : QX P ops n S w₀ L ⟨some d, .build T parts.toArray, ty, pos, af, none⟩ t KQ := valX rfl rfl hd (fun w hS => build_run hp hf) kk
theorem build2_l (hS : Sat S w₀ w L) {T : TypeId} {fs : List (Nat × Nat)} {z : List Value} [hT : TyStr P T fs z] {parts : List (Nat × Operand)} {ps : List (Nat × Value)} {a0 a1 : Value} (hp : parts.map (fun p => (p.1, ev t p.2)) = ps) (hf : fillL fs z ps = some [a0, a1]) (hd : Nat.blt d n = true) (kk : RunL P ops n rest (upd t d (aggV [a0, a1])) w K) : RunL P ops n (⟨some d, .build T parts.toArray, ty, pos, af, none⟩ :: rest) t w K := build_l hS hp hf hd kk
theorem build2_x {T : TypeId} {fs : List (Nat × Nat)} {z : List Value} [hT : TyStr P T fs z] {parts : List (Nat × Operand)} {ps : List (Nat × Value)} {a0 a1 : Value} (hp : parts.map (fun p => (p.1, ev t p.2)) = ps) (hf : fillL fs z ps = some [a0, a1]) (hd : Nat.blt d n = true) (kk : KQ (upd t d (aggV [a0, a1]))) : QX P ops n S w₀ L ⟨some d, .build T parts.toArray, ty, pos, af, none⟩ t KQ := build_x hp hf hd kk
theorem build3_l (hS : Sat S w₀ w L) {T : TypeId} {fs : List (Nat × Nat)} {z : List Value} [hT : TyStr P T fs z] {parts : List (Nat × Operand)} {ps : List (Nat × Value)} {a0 a1 a2 : Value} (hp : parts.map (fun p => (p.1, ev t p.2)) = ps) (hf : fillL fs z ps = some [a0, a1, a2]) (hd : Nat.blt d n = true) (kk : RunL P ops n rest (upd t d (aggV [a0, a1, a2])) w K) : RunL P ops n (⟨some d, .build T parts.toArray, ty, pos, af, none⟩ :: rest) t w K := build_l hS hp hf hd kk
theorem build4_l (hS : Sat S w₀ w L) {T : TypeId} {fs : List (Nat × Nat)} {z : List Value} [hT : TyStr P T fs z] {parts : List (Nat × Operand)} {ps : List (Nat × Value)} {a0 a1 a2 a3 : Value} (hp : parts.map (fun p => (p.1, ev t p.2)) = ps) (hf : fillL fs z ps = some [a0, a1, a2, a3]) (hd : Nat.blt d n = true) (kk : RunL P ops n rest (upd t d (aggV [a0, a1, a2, a3])) w K) : RunL P ops n (⟨some d, .build T parts.toArray, ty, pos, af, none⟩ :: rest) t w K := build_l hS hp hf hd kk
theorem build5_x {T : TypeId} {fs : List (Nat × Nat)} {z : List Value} [hT : TyStr P T fs z] {parts : List (Nat × Operand)} {ps : List (Nat × Value)} {a0 a1 a2 a3 a4 : Value} (hp : parts.map (fun p => (p.1, ev t p.2)) = ps) (hf : fillL fs z ps = some [a0, a1, a2, a3, a4]) (hd : Nat.blt d n = true) (kk : KQ (upd t d (aggV [a0, a1, a2, a3, a4]))) : QX P ops n S w₀ L ⟨some d, .build T parts.toArray, ty, pos, af, none⟩ t KQ := build_x hp hf hd kk
theorem build7_l (hS : Sat S w₀ w L) {T : TypeId} {fs : List (Nat × Nat)} {z : List Value} [hT : TyStr P T fs z] {parts : List (Nat × Operand)} {ps : List (Nat × Value)} {a0 a1 a2 a3 a4 a5 a6 : Value} (hp : parts.map (fun p => (p.1, ev t p.2)) = ps) (hf : fillL fs z ps = some [a0, a1, a2, a3, a4, a5, a6]) (hd : Nat.blt d n = true) (kk : RunL P ops n rest (upd t d (aggV [a0, a1, a2, a3, a4, a5, a6])) w K) : RunL P ops n (⟨some d, .build T parts.toArray, ty, pos, af, none⟩ :: rest) t w K := build_l hS hp hf hd kk
theorem build7_x {T : TypeId} {fs : List (Nat × Nat)} {z : List Value} [hT : TyStr P T fs z] {parts : List (Nat × Operand)} {ps : List (Nat × Value)} {a0 a1 a2 a3 a4 a5 a6 : Value} (hp : parts.map (fun p => (p.1, ev t p.2)) = ps) (hf : fillL fs z ps = some [a0, a1, a2, a3, a4, a5, a6]) (hd : Nat.blt d n = true) (kk : KQ (upd t d (aggV [a0, a1, a2, a3, a4, a5, a6]))) : QX P ops n S w₀ L ⟨some d, .build T parts.toArray, ty, pos, af, none⟩ t KQ := build_x hp hf hd kk
theorem build9_l (hS : Sat S w₀ w L) {T : TypeId} {fs : List (Nat × Nat)} {z : List Value} [hT : TyStr P T fs z] {parts : List (Nat × Operand)} {ps : List (Nat × Value)} {a0 a1 a2 a3 a4 a5 a6 a7 a8 : Value} (hp : parts.map (fun p => (p.1, ev t p.2)) = ps) (hf : fillL fs z ps = some [a0, a1, a2, a3, a4, a5, a6, a7, a8]) (hd : Nat.blt d n = true) (kk : RunL P ops n rest (upd t d (aggV [a0, a1, a2, a3, a4, a5, a6, a7, a8])) w K) : RunL P ops n (⟨some d, .build T parts.toArray, ty, pos, af, none⟩ :: rest) t w K := build_l hS hp hf hd kk
theorem run_storeN {P : Program} {w : World} {T : TypeId} {m : Nat} [hs : TySz P T m] {b o : Nat} {l : List Value} (hl : l.length = m) (h1 : l.all (·.oneCell') = true) (ht : w.there b o m) : (Instr.storeAt T (.pointer (some ⟨b, o, none⟩)) (.agg l.toArray)).run P w = .ok () (w.setCells b o l) := by
  have h := run_storeCells_cells (P := P) b o l 0 w (fun j hj => by simpa using (ht j (by omega)).1) (fun j hj => by simpa using (ht j (by omega)).2) (fun v hv => List.all_eq_true.1 h1 v hv)
  simp only [Nat.add_zero] at h
  simp [Instr.storeAt, Instr.sureAddr, storeVar, hs.run, Value.cells, hl, h]
theorem Pick.again {L : List Res} {r : Res} {f : Res → List Res} (h : Pick L r f) (r' : Res) : Pick (f r') r' f := by
  obtain ⟨A, B, _, hf⟩ := h.split
  exact ⟨A, B, hf r', hf⟩
def updN (c : Tm) : Nat → List Value → Tm
  | _, [] => c
  | o, v :: l => updN (upd c o v) (o + 1) l
theorem Sat.setCells {b m : Nat} {T : TypeId} {f : Res → List Res} : ∀ (l : List Value) (o : Nat) (c : Tm) (w : World) (L : List Res), PickBlk L b m c T f → o + l.length ≤ m → Sat S w₀ w L → Sat S w₀ (w.setCells b o l) (f (blk b m (updN c o l) T))
  | [], o, c, w, L, hp, _, h => by
    obtain ⟨A, B, hL, hf⟩ := hp.pick.split
    show Sat S w₀ w (f (blk b m c T))
    rw [hf, ← hL]; exact h
  | v :: l, o, c, w, L, hp, hl, h => by
    simp only [List.length_cons] at hl
    exact Sat.setCells l (o + 1) (upd c o v) _ _ ⟨hp.pick.again _⟩ (by omega) (h.setCell (hp := hp) o v)
theorem storeN_l (hS : Sat S w₀ w L) {T : TypeId} {q : Nat} [hT : TySz P T q] {x y : Operand} {b o m : Nat} {c : Tm} {T' : TypeId} {f : Res → List Res} {l : List Value} (hx : ev t x = .pointer (some ⟨b, o, none⟩)) [hp : PickBlk L b m c T' f] (hy : ev t y = aggV l) (hl : l.length = q ∧ l.all (·.oneCell') = true) (ho : Nat.ble (o + q) m = true)
    (k : ∀ w', Sat S w₀ w' (f (blk b m (updN c o l) T')) → RunL P ops n rest t w' K) : RunL P ops n (⟨none, .store T x y, ty, pos, af, none⟩ :: rest) t w K := by
  have ho' : o + q ≤ m := by simpa [Nat.ble_eq] using ho
  have := hp.pick
  have hb : (blk b m c T').holds w := hS.holds
  refine skipL rfl rfl ?_ (k _ (Sat.setCells l o c w L hp (by omega) hS))
  show Sem.run P (do let u ← Instr.storeAt T (ev t x) (ev t y); pure Next.skip) w = _
  rw [hx, hy, aggV_eq, Sem.run_bind, run_storeN hl.1 hl.2 (fun j hj => ⟨by rw [blk_cell hb _ (by omega)]; rfl, blk_free hb _⟩)]
  rfl
def gsetN (g : Nat → Nat → Value) (i : Nat) : Nat → List Value → (Nat → Nat → Value)
  | _, [] => g
  | j, v :: l => gsetN (gset g i j v) i (j + 1) l
theorem Sat.setRowN {a : Option Addr} {len cap e sz i : Nat} {f : Res → List Res} (hi : i < len) : ∀ (l : List Value) (j : Nat) (g : Nat → Nat → Value) (w : World) (L : List Res), PickR L a len cap e sz g f → j + l.length ≤ sz → Sat S w₀ w L → 0 < l.length →
    ∃ b, a = some ⟨b, 0, none⟩ ∧ w.there b (i * sz + j) l.length ∧ Sat S w₀ (w.setCells b (i * sz + j) l) (f (row a len cap e sz (gsetN g i j l)))
  | [v], j, g, w, L, hp, hl, h, _ => by
    simp only [List.length_cons, List.length_nil] at hl
    obtain ⟨b, e1, e2, e3, e4⟩ := h.setRow (hp := hp) hi (show j < sz by omega) v
    refine ⟨b, e1, fun k hk => ?_, e4⟩
    obtain rfl : k = 0 := by simpa using hk
    exact ⟨by rw [Nat.add_zero, e2]; rfl, by rw [Nat.add_zero, e3]⟩
  | v :: u :: l, j, g, w, L, hp, hl, h, _ => by
    simp only [List.length_cons] at hl
    obtain ⟨b, e1, e2, e3, e4⟩ := h.setRow (hp := hp) hi (show j < sz by omega) v
    obtain ⟨b', e1', e2', e3'⟩ := Sat.setRowN hi (u :: l) (j + 1) (gset g i j v) _ _ ⟨hp.pick.again _⟩ (by simp only [List.length_cons]; omega) e4 (by simp)
    rw [e1] at e1'
    cases e1'
    refine ⟨b, e1, fun k hk => ?_, e3'⟩
    cases k with
    | zero => exact ⟨by rw [Nat.add_zero, e2]; rfl, by rw [Nat.add_zero, e3]⟩
    | succ k =>
      have h1 := e2' k (by simp only [List.length_cons] at hk ⊢; omega)
      rw [show i * sz + (j + 1) + k = i * sz + j + (k + 1) by omega] at h1
      refine ⟨?_, by have h2 := h1.2; rwa [World.frozen?_setCell] at h2⟩
      have h2 := h1.1
      rwa [World.cell?_setCell_other _ _ _ _ (by intro e; injection e with _ e2; omega)] at h2
theorem storeEN_l (hS : Sat S w₀ w L) {T : TypeId} {q : Nat} [hT : TySz P T q] {x y : Operand} {a : Option Addr} {len cap e sz i j : Nat} {g : Nat → Nat → Value} {f : Res → List Res} {l : List Value} (hx : ev t x = ePtr a i sz j) [hp : PickR L a len cap e sz g f] (hy : ev t y = aggV l) (hl : l.length = q ∧ l.all (·.oneCell') = true) (hi : i < len) (hj : Nat.ble (j + q) sz = true) (hq : Nat.blt 0 q = true)
    (k : ∀ w', Sat S w₀ w' (f (row a len cap e sz (gsetN g i j l))) → RunL P ops n rest t w' K) : RunL P ops n (⟨none, .store T x y, ty, pos, af, none⟩ :: rest) t w K := by
  have hj' : j + q ≤ sz := by simpa [Nat.ble_eq] using hj
  have hq' : 0 < q := by simpa [Nat.blt_eq] using hq
  obtain ⟨b, rfl, h1, h2⟩ := Sat.setRowN hi l j g w L hp (by omega) hS (by omega)
  refine skipL rfl rfl ?_ (k _ h2)
  show Sem.run P (do let u ← Instr.storeAt T (ev t x) (ev t y); pure Next.skip) w = _
  rw [hx, hy, aggV_eq, ePtr_eq, Option.map_some, Nat.zero_add, Sem.run_bind, run_storeN hl.1 hl.2 (by rw [← hl.1]; exact h1)]
  rfl
end
end Go.Proofs.YtpiodhdbdlfnhaaGreatDoor
