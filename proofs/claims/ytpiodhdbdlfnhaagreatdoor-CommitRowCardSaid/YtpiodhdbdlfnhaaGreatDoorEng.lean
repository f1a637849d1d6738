/- Stepping through code: frames as functions of the slot. Over any program. -/
import Derived.Test.YtpiodhdbdlfnhaaGreatDoorMem
import Derived.WalkKit
import Derived.Laws.Rows
import Derived.Laws.Tables
import Derived.Laws.CopyOwn
import Derived.Deep.LoopGhost
namespace Go.Proofs.YtpiodhdbdlfnhaaGreatDoor
open Go.RowKit Go.Lib
set_option linter.unusedVariables false
/-- What is asked of types and functions. -/
class FnOk (P : Program) (f : FuncId) : Prop where
  call : ∀ args w, (callFunc f args).run P w = .ok (.enter f args) w
class TySz (P : Program) (T : TypeId) (s : outParam Nat) : Prop where
  run : ∀ w, (sizeOf T).run P w = .ok s w
class TyAgg (P : Program) (T : TypeId) (b : outParam Bool) : Prop where
  run : ∀ w, (isAgg T).run P w = .ok b w
class TyZ (P : Program) (T : TypeId) (z : outParam Value) : Prop where
  run : ∀ w, (zeroValue T).run P w = .ok z w
class TySl (P : Program) (T : TypeId) (e sz : outParam Nat) : Prop where
  eq : P.underlying T = some (.slice e)
  run : ∀ w, (sizeOf e).run P w = .ok sz w
class TyEl (P : Program) (e : TypeId) (sz bytes : outParam Nat) : Prop where
  ex : ∃ i z, P.info? e = some i ∧ i.zero = some z ∧ i.size = sz ∧ i.bytes = bytes ∧ z.cells.size = sz
class TyAr (P : Program) (T : TypeId) (e sz len : outParam Nat) : Prop where
  eq : P.underlying T = some (.array len e)
  run : ∀ w, (sizeOf e).run P w = .ok sz w
class TyInt (P : Program) (T : TypeId) (k : outParam IntKind) : Prop where
  eq : P.underlying T = some (.int k)
class TyPtr (P : Program) (T : TypeId) : Prop where
  ex : ∃ e, P.underlying T = some (.pointer e)
theorem TyPtr.pt {P : Program} {T : TypeId} (h : TyPtr P T) : P.underlying T = some (.pointer (P.pointee T)) := by
  obtain ⟨e, he⟩ := h.ex
  simp [Program.pointee, he]
class TyBool (P : Program) (T : TypeId) : Prop where
  eq : P.underlying T = some .bool
class FOff (P : Program) (S f : Nat) (off : outParam Nat) : Prop where
  run : ∀ a w, (Instr.fieldAt S (.pointer (some a)) f).run P w = .ok (.pointer (some (a.add off))) w
/-- A frame. -/
abbrev Tm := Nat → Value
def upd (t : Tm) (d : Nat) (v : Value) : Tm := fun i => bif Nat.beq i d then v else t i
def ev (t : Tm) : Operand → Value
  | .tmp i => t i
  | .const v => v
  | .global g => .pointer (some ⟨g, 0, none⟩)
  | .func f => .func (.func f) #[] #[]
def argF (l : List Value) : Tm := fun i => l.getD i undef
structure Agr (n : Nat) (a : Act) (t : Tm) : Prop where
  size : a.tmps.size = n
  get : ∀ i, a.tmps.getD i undef = t i
  defers : a.defers = []
theorem Agr.eval {n : Nat} {a : Act} {t : Tm} (h : Agr n a t) : a.eval = ev t := by
  funext x; cases x <;> simp [Act.eval, ev, h.get]
theorem Agr.put {n : Nat} {a : Act} {t : Tm} (h : Agr n a t) {d : Nat} (hd : Nat.blt d n = true) (v : Value) : Agr n (a.put (some d) v) (upd t d v) := by
  have hd' : d < n := by simpa [Nat.blt_eq] using hd
  refine ⟨by simp [Act.put, h.size], fun i => ?_, h.defers⟩
  have hg := h.get i
  unfold upd
  simp only [Act.put, Array.getD_eq_getD_getElem?, Array.getElem?_setIfInBounds] at hg ⊢
  by_cases e : i = d
  · subst e
    simp [h.size, hd']
  · have e1 : (Nat.beq i d) = false := by simpa [← Bool.not_eq_true, Nat.beq_eq] using e
    have e2 : ¬ d = i := fun x => e x.symm
    simp [e1, e2, hg]
theorem Agr.yield {n : Nat} {a : Act} {t : Tm} (h : Agr n a t) {ops : Array Oper} {j d : Nat} {b : Bool} (hj : (ops[j]?).bind (·.dst) = some d) (hb : t d = .bool b) : yielded ops a.tmps j = some b := by
  have hg := h.get d
  rw [hb, Array.getD_eq_getD_getElem?] at hg
  unfold yielded
  rw [hj]
  cases hx : a.tmps[d]? with
  | none => rw [hx] at hg; cases hg
  | some v => rw [hx] at hg; simp at hg; subst hg; simp [hx]
/-- What follows a list of operations. -/
def RunL (P : Program) (ops : Array Oper) (n : Nat) (l : List Oper) (t : Tm) (w : World) (K : Tm → World → Prop) : Prop :=
  ∀ Q : Exit → Act → World → Prop, (∀ a' w' t', Agr n a' t' → K t' w' → Q .normal a' w') → ∀ a, Agr n a t → wpList P ops Q l a w
def liftQ (n : Nat) (Q : Exit → Tm → World → Prop) : Exit → Act → World → Prop := fun e a w => ∃ t, Agr n a t ∧ Q e t w
def Run (P : Program) (n : Nat) (c : Code) (t : Tm) (w : World) (Q : Exit → Tm → World → Prop) : Prop :=
  ∀ a, Agr n a t → c.wp P (liftQ n Q) a w
def thenQ (next : Tm → World → Prop) (Q : Exit → Tm → World → Prop) : Exit → Tm → World → Prop
  | .normal, t, w => next t w
  | e, t, w => Q e t w
def blockQ (id : Nat) (Q : Exit → Tm → World → Prop) : Exit → Tm → World → Prop
  | .exit id', t, w => if id' = id then Q .normal t w else Q (.exit id') t w
  | e, t, w => Q e t w
section
variable {P : Program} {n : Nat} {t : Tm} {w : World} {Q : Exit → Tm → World → Prop}
theorem run_seq {x y : Code} (h : Run P n x t w (thenQ (fun t' w' => Run P n y t' w' Q) Q)) : Run P n (.seq x y) t w Q := fun a ha => by
  refine wp_seq (wp_mono (h a ha) ?_)
  rintro e a' w' ⟨t', ha', hq⟩
  cases e with
  | normal => exact hq a' ha'
  | _ => exact ⟨t', ha', hq⟩
theorem run_skip (h : Q .normal t w) : Run P n .skip t w Q := fun a ha => wp_skip ⟨t, ha, h⟩
theorem run_exit {id : Nat} (h : Q (.exit id) t w) : Run P n (.exit id) t w Q := fun a ha => wp_exit ⟨t, ha, h⟩
theorem run_ret (h : Q .ret t w) : Run P n .ret t w Q := fun a ha => wp_ret ⟨t, ha, h⟩
theorem run_cond_true {c : Operand} {x y : Code} (hc : ev t c = .bool true) (h : Run P n x t w Q) : Run P n (.cond c x y) t w Q := fun a ha =>
  wp_cond_true (by rw [ha.eval, hc]) (h a ha)
theorem run_cond_false {c : Operand} {x y : Code} (hc : ev t c = .bool false) (h : Run P n y t w Q) : Run P n (.cond c x y) t w Q := fun a ha =>
  wp_cond_false (by rw [ha.eval, hc]) (h a ha)
theorem run_block {id : Nat} {c : Code} (h : Run P n c t w (blockQ id Q)) : Run P n (.block id c) t w Q := fun a ha => by
  refine wp_block (wp_mono (h a ha) ?_)
  rintro e a' w' ⟨t', ha', hq⟩
  cases e with
  | exit id' =>
    simp only [blockQ] at hq
    simp only [Exit.inBlock]
    split at hq
    · rename_i h; rw [if_pos h]; exact ⟨t', ha', hq⟩
    · rename_i h; rw [if_neg h]; exact ⟨t', ha', hq⟩
  | _ => exact ⟨t', ha', hq⟩
theorem run_region {id : Nat} {l : List Oper} (h : RunL P l.toArray n l t w (Q .normal)) : Run P n (.region id l.toArray false) t w Q := fun a ha =>
  wp_region_lit (h _ (fun a' w' t' h1 h2 => ⟨t', h1, h2⟩) a ha)
theorem thenQ_n {next : Tm → World → Prop} (h : next t w) : thenQ next Q .normal t w := h
theorem thenQ_r {next : Tm → World → Prop} (h : Q .ret t w) : thenQ next Q .ret t w := h
theorem thenQ_e {next : Tm → World → Prop} {i : Nat} (h : Q (.exit i) t w) : thenQ next Q (.exit i) t w := h
theorem blockQ_n {id : Nat} (h : Q .normal t w) : blockQ id Q .normal t w := h
theorem blockQ_r {id : Nat} (h : Q .ret t w) : blockQ id Q .ret t w := h
theorem blockQ_s {id id' : Nat} (e : Nat.beq id' id = true) (h : Q .normal t w) : blockQ id Q (.exit id') t w := by
  have : id' = id := by simpa [Nat.beq_eq] using e
  simp [blockQ, this, h]
theorem run_loop {σ : Type} {c : Code} (inv : σ → Tm → World → Prop) (m : σ → Nat) (s0 : σ) (h0 : inv s0 t w)
    (round : ∀ s t w, inv s t w → Run P n c t w (thenQ (fun t' w' => ∃ s', inv s' t' w' ∧ m s' < m s) Q)) : Run P n (.loop c) t w Q := fun a ha => by
  refine wp_loop_ghost (fun k a w => ∃ s t, m s = k ∧ Agr n a t ∧ inv s t w) (m s0) ⟨s0, t, rfl, ha, h0⟩ ?_
  rintro k a w ⟨s, t, rfl, ha, hi⟩
  refine wp_mono (round s t w hi a ha) ?_
  rintro e a' w' ⟨t', ha', hq⟩
  cases e with
  | normal =>
    obtain ⟨s', hi', hlt⟩ := hq
    exact ⟨m s', hlt, s', t', rfl, ha', hi'⟩
  | _ => exact ⟨t', ha', hq⟩
end
/-- What a function's end is asked: one result, two, none. -/
def retQ1 (r : Nat) (R : Ending → World → Prop) : Exit → Tm → World → Prop
  | .normal, t, w | .ret, t, w => R (.returned (t r)) w
  | _, _, _ => False
def retQ2 (r r' : Nat) (R : Ending → World → Prop) : Exit → Tm → World → Prop
  | .normal, t, w | .ret, t, w => R (.returned (.tuple #[t r, t r'])) w
  | _, _, _ => False
def retQ0 (R : Ending → World → Prop) : Exit → Tm → World → Prop
  | .normal, t, w | .ret, t, w => R (.returned (.tuple #[])) w
  | _, _, _ => False
def retQ3 (r r' r'' : Nat) (R : Ending → World → Prop) : Exit → Tm → World → Prop
  | .normal, t, w | .ret, t, w => R (.returned (.tuple #[t r, t r', t r''])) w
  | _, _, _ => False
section
variable {t : Tm} {w : World} {R : Ending → World → Prop} {r r' r'' : Nat} {v v' v'' : Value}
theorem ret1_l (h : t r = v) (k : R (.returned v) w) : retQ1 r R .ret t w := by subst h; exact k
theorem ret1_n (h : t r = v) (k : R (.returned v) w) : retQ1 r R .normal t w := by subst h; exact k
theorem ret2_l (h : t r = v) (h' : t r' = v') (k : R (.returned (.tuple #[v, v'])) w) : retQ2 r r' R .ret t w := by subst h h'; exact k
theorem ret3_l (h : t r = v) (h' : t r' = v') (h'' : t r'' = v'') (k : R (.returned (.tuple #[v, v', v''])) w) : retQ3 r r' r'' R .ret t w := by subst h h' h''; exact k
theorem ret0_l (k : R (.returned (.tuple #[])) w) : retQ0 R .ret t w := k
theorem ret0_n (k : R (.returned (.tuple #[])) w) : retQ0 R .normal t w := k
theorem ret1_i {k : IntKind} {z : Int} (h : t r = .int k z) (k : R (.returned (.int k z)) w) : retQ1 r R .ret t w := ret1_l h k
theorem ret1n_i {k : IntKind} {z : Int} (h : t r = .int k z) (k : R (.returned (.int k z)) w) : retQ1 r R .normal t w := ret1_n h k
theorem ret2_ii {k : IntKind} {z : Int} {k' : IntKind} {z' : Int} (h : t r = .int k z) (h' : t r' = .int k' z') (kk : R (.returned (.tuple #[.int k z, .int k' z'])) w) : retQ2 r r' R .ret t w := ret2_l h h' kk
theorem ret2_ib {k : IntKind} {z : Int} {b' : Bool} (h : t r = .int k z) (h' : t r' = .bool b') (kk : R (.returned (.tuple #[.int k z, .bool b'])) w) : retQ2 r r' R .ret t w := ret2_l h h' kk
theorem ret2_ip {k : IntKind} {z : Int} {p' : Option Addr} (h : t r = .int k z) (h' : t r' = .pointer p') (kk : R (.returned (.tuple #[.int k z, .pointer p'])) w) : retQ2 r r' R .ret t w := ret2_l h h' kk
theorem ret2_is {k : IntKind} {z : Int} {p' : Option Addr} {l' c' : Nat} (h : t r = .int k z) (h' : t r' = .slice p' l' c') (kk : R (.returned (.tuple #[.int k z, .slice p' l' c'])) w) : retQ2 r r' R .ret t w := ret2_l h h' kk
theorem ret2_io {k : IntKind} {z : Int} {v' : Value} (h : t r = .int k z) (h' : t r' = v') (kk : R (.returned (.tuple #[.int k z, v'])) w) : retQ2 r r' R .ret t w := ret2_l h h' kk
theorem ret1_b {b : Bool} (h : t r = .bool b) (k : R (.returned (.bool b)) w) : retQ1 r R .ret t w := ret1_l h k
theorem ret1n_b {b : Bool} (h : t r = .bool b) (k : R (.returned (.bool b)) w) : retQ1 r R .normal t w := ret1_n h k
theorem ret2_bi {b : Bool} {k' : IntKind} {z' : Int} (h : t r = .bool b) (h' : t r' = .int k' z') (kk : R (.returned (.tuple #[.bool b, .int k' z'])) w) : retQ2 r r' R .ret t w := ret2_l h h' kk
theorem ret2_bb {b : Bool} {b' : Bool} (h : t r = .bool b) (h' : t r' = .bool b') (kk : R (.returned (.tuple #[.bool b, .bool b'])) w) : retQ2 r r' R .ret t w := ret2_l h h' kk
theorem ret2_bp {b : Bool} {p' : Option Addr} (h : t r = .bool b) (h' : t r' = .pointer p') (kk : R (.returned (.tuple #[.bool b, .pointer p'])) w) : retQ2 r r' R .ret t w := ret2_l h h' kk
theorem ret2_bs {b : Bool} {p' : Option Addr} {l' c' : Nat} (h : t r = .bool b) (h' : t r' = .slice p' l' c') (kk : R (.returned (.tuple #[.bool b, .slice p' l' c'])) w) : retQ2 r r' R .ret t w := ret2_l h h' kk
theorem ret2_bo {b : Bool} {v' : Value} (h : t r = .bool b) (h' : t r' = v') (kk : R (.returned (.tuple #[.bool b, v'])) w) : retQ2 r r' R .ret t w := ret2_l h h' kk
theorem ret1_p {p : Option Addr} (h : t r = .pointer p) (k : R (.returned (.pointer p)) w) : retQ1 r R .ret t w := ret1_l h k
theorem ret1n_p {p : Option Addr} (h : t r = .pointer p) (k : R (.returned (.pointer p)) w) : retQ1 r R .normal t w := ret1_n h k
theorem ret2_pi {p : Option Addr} {k' : IntKind} {z' : Int} (h : t r = .pointer p) (h' : t r' = .int k' z') (kk : R (.returned (.tuple #[.pointer p, .int k' z'])) w) : retQ2 r r' R .ret t w := ret2_l h h' kk
theorem ret2_pb {p : Option Addr} {b' : Bool} (h : t r = .pointer p) (h' : t r' = .bool b') (kk : R (.returned (.tuple #[.pointer p, .bool b'])) w) : retQ2 r r' R .ret t w := ret2_l h h' kk
theorem ret2_pp {p : Option Addr} {p' : Option Addr} (h : t r = .pointer p) (h' : t r' = .pointer p') (kk : R (.returned (.tuple #[.pointer p, .pointer p'])) w) : retQ2 r r' R .ret t w := ret2_l h h' kk
theorem ret2_ps {p : Option Addr} {p' : Option Addr} {l' c' : Nat} (h : t r = .pointer p) (h' : t r' = .slice p' l' c') (kk : R (.returned (.tuple #[.pointer p, .slice p' l' c'])) w) : retQ2 r r' R .ret t w := ret2_l h h' kk
theorem ret2_po {p : Option Addr} {v' : Value} (h : t r = .pointer p) (h' : t r' = v') (kk : R (.returned (.tuple #[.pointer p, v'])) w) : retQ2 r r' R .ret t w := ret2_l h h' kk
theorem ret1_s {p : Option Addr} {l c : Nat} (h : t r = .slice p l c) (k : R (.returned (.slice p l c)) w) : retQ1 r R .ret t w := ret1_l h k
theorem ret1n_s {p : Option Addr} {l c : Nat} (h : t r = .slice p l c) (k : R (.returned (.slice p l c)) w) : retQ1 r R .normal t w := ret1_n h k
theorem ret2_si {p : Option Addr} {l c : Nat} {k' : IntKind} {z' : Int} (h : t r = .slice p l c) (h' : t r' = .int k' z') (kk : R (.returned (.tuple #[.slice p l c, .int k' z'])) w) : retQ2 r r' R .ret t w := ret2_l h h' kk
theorem ret2_sb {p : Option Addr} {l c : Nat} {b' : Bool} (h : t r = .slice p l c) (h' : t r' = .bool b') (kk : R (.returned (.tuple #[.slice p l c, .bool b'])) w) : retQ2 r r' R .ret t w := ret2_l h h' kk
theorem ret2_sp {p : Option Addr} {l c : Nat} {p' : Option Addr} (h : t r = .slice p l c) (h' : t r' = .pointer p') (kk : R (.returned (.tuple #[.slice p l c, .pointer p'])) w) : retQ2 r r' R .ret t w := ret2_l h h' kk
theorem ret2_ss {p : Option Addr} {l c : Nat} {p' : Option Addr} {l' c' : Nat} (h : t r = .slice p l c) (h' : t r' = .slice p' l' c') (kk : R (.returned (.tuple #[.slice p l c, .slice p' l' c'])) w) : retQ2 r r' R .ret t w := ret2_l h h' kk
theorem ret2_so {p : Option Addr} {l c : Nat} {v' : Value} (h : t r = .slice p l c) (h' : t r' = v') (kk : R (.returned (.tuple #[.slice p l c, v'])) w) : retQ2 r r' R .ret t w := ret2_l h h' kk
theorem ret1_o {v : Value} (h : t r = v) (k : R (.returned (v)) w) : retQ1 r R .ret t w := ret1_l h k
theorem ret1n_o {v : Value} (h : t r = v) (k : R (.returned (v)) w) : retQ1 r R .normal t w := ret1_n h k
theorem ret2_oi {v : Value} {k' : IntKind} {z' : Int} (h : t r = v) (h' : t r' = .int k' z') (kk : R (.returned (.tuple #[v, .int k' z'])) w) : retQ2 r r' R .ret t w := ret2_l h h' kk
theorem ret2_ob {v : Value} {b' : Bool} (h : t r = v) (h' : t r' = .bool b') (kk : R (.returned (.tuple #[v, .bool b'])) w) : retQ2 r r' R .ret t w := ret2_l h h' kk
theorem ret2_op {v : Value} {p' : Option Addr} (h : t r = v) (h' : t r' = .pointer p') (kk : R (.returned (.tuple #[v, .pointer p'])) w) : retQ2 r r' R .ret t w := ret2_l h h' kk
theorem ret2_os {v : Value} {p' : Option Addr} {l' c' : Nat} (h : t r = v) (h' : t r' = .slice p' l' c') (kk : R (.returned (.tuple #[v, .slice p' l' c'])) w) : retQ2 r r' R .ret t w := ret2_l h h' kk
theorem ret2_oo {v : Value} {v' : Value} (h : t r = v) (h' : t r' = v') (kk : R (.returned (.tuple #[v, v'])) w) : retQ2 r r' R .ret t w := ret2_l h h' kk
end
section
variable {P : Program} {f : FuncId} {fn : Func} {c : Code} {l : List Value} {w : World} {R : Ending → World → Prop}
theorem agr_args (n : Nat) (l : List Value) (hl : Nat.ble l.length n = true) : Agr n { tmps := l.toArray ++ Array.replicate (n - l.toArray.size) undef, defers := [] } (argF l) := by
  have hl' : l.length ≤ n := by simpa [Nat.ble_eq] using hl
  refine ⟨by simp; omega, fun i => ?_, rfl⟩
  simp only [argF, Array.getD_eq_getD_getElem?, List.getD_eq_getElem?_getD, Array.getElem?_append, List.size_toArray, List.getElem?_toArray]
  by_cases h : i < l.length
  · rw [if_pos h]
  · rw [if_neg h, List.getElem?_eq_none (Nat.le_of_not_lt h)]
    simp only [Array.getElem?_replicate]
    split <;> rfl
theorem calls_run {Q : Exit → Tm → World → Prop} (hf : P.funcs[f]? = some fn) (hb : fn.body = some c) (hl : Nat.ble l.length fn.ntmps = true)
    (hq : ∀ e a w t, Agr fn.ntmps a t → Q e t w → bodyPost P fn R e a w) (h : Run P fn.ntmps c (argF l) w Q) : Calls P f l.toArray w R :=
  calls_of_wp hf hb (wp_mono (h _ (agr_args _ _ hl)) fun e a w ⟨t, ha, hq'⟩ => hq e a w t ha hq')
theorem enter1 {r : Nat} (hf : P.funcs[f]? = some fn) (hb : fn.body = some c) {n : Nat} (hn : fn.ntmps = n) (hl : Nat.ble l.length n = true) (hr : fn.results = #[.tmp r]) (h : Run P n c (argF l) w (retQ1 r R)) : Calls P f l.toArray w R := by
  subst hn
  refine calls_run hf hb hl ?_ h
  intro e a w t ha hq
  cases e with
  | normal => exact ⟨ha.defers, t r, by simp [results, hr, ← ha.get r, go_sem], hq⟩
  | ret => exact ⟨ha.defers, t r, by simp [results, hr, ← ha.get r, go_sem], hq⟩
  | _ => exact hq.elim
theorem enter2 {r r' : Nat} (hf : P.funcs[f]? = some fn) (hb : fn.body = some c) {n : Nat} (hn : fn.ntmps = n) (hl : Nat.ble l.length n = true) (hr : fn.results = #[.tmp r, .tmp r']) (h : Run P n c (argF l) w (retQ2 r r' R)) : Calls P f l.toArray w R := by
  subst hn
  refine calls_run hf hb hl ?_ h
  intro e a w t ha hq
  cases e with
  | normal => exact ⟨ha.defers, .tuple #[t r, t r'], by simp [results, hr, ← ha.get r, ← ha.get r', go_sem], hq⟩
  | ret => exact ⟨ha.defers, .tuple #[t r, t r'], by simp [results, hr, ← ha.get r, ← ha.get r', go_sem], hq⟩
  | _ => exact hq.elim
theorem enter0 (hf : P.funcs[f]? = some fn) (hb : fn.body = some c) {n : Nat} (hn : fn.ntmps = n) (hl : Nat.ble l.length n = true) (hr : fn.results = #[]) (h : Run P n c (argF l) w (retQ0 R)) : Calls P f l.toArray w R := by
  subst hn
  refine calls_run hf hb hl ?_ h
  intro e a w t ha hq
  cases e with
  | normal => exact ⟨ha.defers, .tuple #[], by simp [results, hr, go_sem], hq⟩
  | ret => exact ⟨ha.defers, .tuple #[], by simp [results, hr, go_sem], hq⟩
  | _ => exact hq.elim
end
section
variable {P : Program} {ops : Array Oper} {n : Nat} {rest : List Oper} {t : Tm} {w : World} {K : Tm → World → Prop} {d : Nat} {ty : TypeId} {pos : String} {af : Array Edge}
theorem nilL (h : K t w) : RunL P ops n [] t w K := fun Q hQ a ha => wpList_nil (hQ a w t ha h)
/-- A value. -/
theorem valL {o : Oper} {v : Value} {w' : World} (hg : o.guard = none) (hdst : o.dst = some d) (hd : Nat.blt d n = true) (hr : (execOp (ev t) o).run P w = .ok (.value v) w') (k : RunL P ops n rest (upd t d v) w' K) : RunL P ops n (o :: rest) t w K := fun Q hQ a ha => by
  refine wpList_plain hg fun K' hK => ?_
  unfold Oper.wp
  rw [ha.eval, hr, Oper.upon_value, hdst]
  exact hK _ _ (k Q hQ _ (ha.put hd v))
/-- Nothing is handed on. -/
theorem skipL {o : Oper} {w' : World} (hg : o.guard = none) (hdst : o.dst = none) (hr : (execOp (ev t) o).run P w = .ok .skip w') (k : RunL P ops n rest t w' K) : RunL P ops n (o :: rest) t w K := fun Q hQ a ha => by
  refine wpList_plain hg fun K' hK => ?_
  unfold Oper.wp
  rw [ha.eval, hr, Oper.upon_skip, hdst]
  exact hK _ _ (k Q hQ _ ha)
/-- Guards. -/
theorem onL {o : Op} {od : Option Tmp} {j e : Nat} {b : Bool} (hj : (ops[j]?).bind (·.dst) = some e) (hb : t e = .bool b) (k : RunL P ops n (⟨od, o, ty, pos, af, none⟩ :: rest) t w K) : RunL P ops n (⟨od, o, ty, pos, af, some (j, b)⟩ :: rest) t w K := fun Q hQ a ha => by
  have := k Q hQ a ha
  have e : (some b == some b) = true := by simp
  simp only [wpList, Region.wanted, ha.yield hj hb, if_true, e] at this ⊢
  exact this
theorem offL {o : Op} {od : Tmp} {j e : Nat} {b b' : Bool} (hj : (ops[j]?).bind (·.dst) = some e) (hb : t e = .bool b') (hne : (b == b') = false) (hd : Nat.blt od n = true) (k : RunL P ops n rest (upd t od undef) w K) : RunL P ops n (⟨some od, o, ty, pos, af, some (j, b)⟩ :: rest) t w K := fun Q hQ a ha => by
  have := k Q hQ _ (ha.put hd undef)
  have hne' : ¬ b' = b := by cases b <;> cases b' <;> simp_all
  simp only [wpList, Region.wanted, ha.yield hj hb]
  simpa [hne'] using this
/-- A call. -/
theorem callL {f : FuncId} [hf : FnOk P f] {l0 : List Operand} {ats : Array TypeId} {l : List Value} {R : Ending → World → Prop} (hc : Calls P f l.toArray w R) (hv : l0.map (ev t) = l) (hd : Nat.blt d n = true)
    (k : ∀ e w', R e w' → ∃ v, e = .returned v ∧ RunL P ops n rest (upd t d v) w' K) : RunL P ops n (⟨some d, .call ⟨.value (.func f), l0.toArray, ats⟩, ty, pos, af, none⟩ :: rest) t w K := fun Q hQ a ha => by
  refine wpList_plain rfl fun K' hK => ?_
  unfold Oper.wp
  rw [execOp_call_go, ha.eval, List.map_toArray, hv, Array.empty_append, Array.append_empty, hf.call, Oper.upon_enter]
  refine hc.mono fun e w' h => ?_
  obtain ⟨v, rfl, hk⟩ := k e w' h
  exact hK _ _ (hk Q hQ _ (ha.put hd v))
/-- Frames that agree but for some slots. -/
def memb : List Nat → Nat → Bool
  | [], _ => false
  | d :: l, i => bif Nat.beq i d then true else memb l i
def Agree (J : List Nat) (t t' : Tm) : Prop := ∀ i, memb J i = false → t i = t' i
def hv (J : List Nat) (j t : Tm) : Tm := fun i => bif memb J i then j i else t i
theorem agree_refl {J : List Nat} {t : Tm} : Agree J t t := fun _ _ => rfl
theorem memb_ne {J : List Nat} {d i : Nat} (hd : memb J d = true) (h : memb J i = false) : (Nat.beq i d) = false := by
  rw [← Bool.not_eq_true]
  intro e
  have : i = d := by simpa [Nat.beq_eq] using e
  subst this
  rw [hd] at h; cases h
theorem agree_r {J : List Nat} {t g : Tm} {d : Nat} {v : Value} (h : t d = v) (k : Agree (d :: J) t g) : Agree J t (upd g d v) := fun i hi => by
  by_cases e : i = d
  · subst e; simp [upd, h]
  · have e1 : (Nat.beq i d) = false := by simpa [← Bool.not_eq_true, Nat.beq_eq] using e
    simp only [upd, e1, cond_false]
    exact k i (by simp only [memb, e1, cond_false, hi])
theorem agree_l {J : List Nat} {t g : Tm} {d : Nat} {v : Value} (h : memb J d = true) (k : Agree J t g) : Agree J (upd t d v) g := fun i hi => by
  have e1 := memb_ne h hi
  simp only [upd, e1, cond_false]
  exact k i hi
theorem agree_hv {J J' : List Nat} {j t g : Tm} (h : J'.all (memb J) = true) (k : Agree J t g) : Agree J (hv J' j t) g := fun i hi => by
  have : memb J' i = false := by
    rw [← Bool.not_eq_true]
    intro e
    have : ∀ l : List Nat, l.all (memb J) = true → memb l i = true → memb J i = true := by
      intro l
      induction l with
      | nil => intro _ h; simp [memb] at h
      | cons d l ih =>
        intro h1 h2
        simp only [List.all_cons, Bool.and_eq_true] at h1
        by_cases e : i = d
        · subst e; exact h1.1
        · have e1 : (Nat.beq i d) = false := by simpa [← Bool.not_eq_true, Nat.beq_eq] using e
          simp only [memb, e1, cond_false] at h2
          exact ih h1.2 h2
    rw [this J' h e] at hi; cases hi
  simp only [hv, this, cond_false]
  exact k i hi
theorem run_while {P : Program} {n : Nat} {t : Tm} {w : World} {Q : Exit → Tm → World → Prop} {c : Code} {σ : Type} (J : List Nat) (F : σ → Tm → Tm) (I : σ → World → Prop) (m : σ → Nat) (s0 : σ) (h0 : Agree J t (F s0 t)) (hi : I s0 w)
    (round : ∀ s j w, I s w → Run P n c (hv J j (F s t)) w (thenQ (fun t' w' => ∃ s', Agree J t' (F s' t) ∧ I s' w' ∧ m s' < m s) Q)) : Run P n (.loop c) t w Q := by
  have fr : ∀ t' s, Agree J t' (F s t) → t' = hv J t' (F s t) := fun t' s h => by
    funext i
    unfold hv
    cases e : memb J i with
    | true => rfl
    | false => exact h i e
  refine run_loop (fun s t' w => ∃ j, t' = hv J j (F s t) ∧ I s w) m s0 ⟨t, fr t s0 h0, hi⟩ ?_
  rintro s t' w ⟨j, rfl, hI⟩
  have := round s j w hI
  unfold Run at this ⊢
  intro a ha
  refine wp_mono (this a ha) ?_
  rintro e a' w' ⟨t', ha', hq⟩
  refine ⟨t', ha', ?_⟩
  cases e with
  | normal =>
    obtain ⟨s', h1, h2, h3⟩ := hq
    exact ⟨s', ⟨t', fr t' s' h1, h2⟩, h3⟩
  | _ => exact hq
theorem wrapu_in {x : Int} (h : 0 ≤ x ∧ x ≤ 18446744073709551615) : IntKind.u64.wrap x = x := by rw [IntKind.wrap_u64]; omega
theorem wrap_in {x : Int} (h : -9223372036854775808 ≤ x ∧ x ≤ 9223372036854775807) : IntKind.i64.wrap x = x := by rw [IntKind.wrap_i64]; omega
end
attribute [irreducible] Run RunL thenQ blockQ retQ0 retQ1 retQ2 retQ3
end Go.Proofs.YtpiodhdbdlfnhaaGreatDoor
