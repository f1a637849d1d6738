/- Slices that are read, and rows of one's own; conversions, structs. Over any program. -/
import Derived.Test.YtpiodhdbdlfnhaaGreatDoorSat
namespace Go.Proofs.YtpiodhdbdlfnhaaGreatDoor
open Go.RowKit Go.Lib
set_option linter.unusedVariables false
/-- A slice whose element i has the cells g i. -/
def SlOk (w : World) (a : Option Addr) (len cap sz : Nat) (g : Nat → Nat → Value) : Prop :=
  0 < sz ∧ len ≤ cap ∧ cap ≤ maxLen ∧ (a = none → cap = 0) ∧ (len = 0 ∨ ∃ b off, a = some ⟨b, off, none⟩ ∧ ∀ i, i < len → ∀ j, j < sz → w.cell? ⟨b, off + (i * sz + j), none⟩ = some (g i j))
theorem SlOk.congr {w : World} {a : Option Addr} {len cap sz : Nat} {g g' : Nat → Nat → Value} (h : SlOk w a len cap sz g) (e : ∀ i, i < len → ∀ j, j < sz → g i j = g' i j) : SlOk w a len cap sz g' := by
  obtain ⟨h0, h1, h2, h3, h4⟩ := h
  refine ⟨h0, h1, h2, h3, h4.imp id ?_⟩
  rintro ⟨b, off, ha, hc⟩
  exact ⟨b, off, ha, fun i hi j hj => by rw [← e i hi j hj]; exact hc i hi j hj⟩
theorem SlOk.there {w : World} {a : Option Addr} {len cap sz : Nat} {g : Nat → Nat → Value} (h : SlOk w a len cap sz g) {i : Nat} (hi : i < len) : ∃ b off, a = some ⟨b, off, none⟩ ∧ ∀ i, i < len → ∀ j, j < sz → w.cell? ⟨b, off + (i * sz + j), none⟩ = some (g i j) := by
  rcases h.2.2.2.2 with h | h
  · omega
  · exact h
def slR (a : Option Addr) (len cap sz : Nat) (g : Nat → Nat → Value) : Res where
  foot k := len ≠ 0 ∧ ∃ x, a = some x ∧ x.block = k
  ro := true
  holds w := SlOk w a len cap sz g
  lt w k h e := by
    obtain ⟨h0, x, hx, hk⟩ := e
    obtain ⟨b, off, ha, hc⟩ := h.there (i := 0) (by omega)
    rw [ha] at hx
    cases hx
    have := hc 0 (by omega) 0 h.1
    have h2 := World.block_lt_of_cell? w _ this
    rw [← hk]; exact h2
  loc w w' h e := by
    obtain ⟨h0, h1, h2, h3, h4⟩ := h
    refine ⟨h0, h1, h2, h3, ?_⟩
    by_cases hz : len = 0
    · exact .inl hz
    · rcases h4 with h4 | ⟨b, off, ha, hc⟩
      · exact .inl h4
      · exact .inr ⟨b, off, ha, fun i hi j hj => (World.cell?_of_block (a := ⟨b, off + (i * sz + j), none⟩) (e b ⟨hz, _, ha, rfl⟩)).trans (hc i hi j hj)⟩
/-- A row of one's own. -/
def RowOk (w : World) (a : Option Addr) (len cap e sz : Nat) (g : Nat → Nat → Value) : Prop :=
  0 < sz ∧ ((a = none ∧ len = 0 ∧ cap = 0) ∨ ∃ b cur, a = some ⟨b, 0, none⟩ ∧ w.heap[b]? = some (.cells cur e (0, 0)) ∧ len ≤ cap ∧ cap ≤ maxLen ∧ cur.size = cap * sz ∧ ∀ i, i < len → ∀ j, j < sz → cur[i * sz + j]? = some (g i j))
theorem RowOk.sl {w : World} {a : Option Addr} {len cap e sz : Nat} {g : Nat → Nat → Value} (h : RowOk w a len cap e sz g) : SlOk w a len cap sz g := by
  obtain ⟨h0, ⟨rfl, rfl, rfl⟩ | ⟨b, cur, rfl, h1, h2, h3, h4, h5⟩⟩ := h
  · exact ⟨h0, Nat.le_refl _, Nat.zero_le _, fun _ => rfl, .inl rfl⟩
  · exact ⟨h0, h2, h3, (fun h => by cases h), .inr ⟨b, 0, rfl, fun i hi j hj => by rw [cell_of_row _ _ _ _ _ _ h1, Nat.zero_add]; exact h5 i hi j hj⟩⟩
def row (a : Option Addr) (len cap e sz : Nat) (g : Nat → Nat → Value) : Res where
  foot k := ∃ x, a = some x ∧ x.block = k
  ro := false
  holds w := RowOk w a len cap e sz g
  lt w k h e := by
    obtain ⟨x, hx, hk⟩ := e
    obtain ⟨h0, ⟨rfl, _⟩ | ⟨b, cur, rfl, h1, _⟩⟩ := h
    · cases hx
    · cases hx; exact hk ▸ lt_of_heap h1
  loc w w' h e := by
    obtain ⟨h0, h | ⟨b, cur, ha, h1, h2⟩⟩ := h
    · exact ⟨h0, .inl h⟩
    · exact ⟨h0, .inr ⟨b, cur, ha, (e b ⟨_, ha, rfl⟩).trans h1, h2⟩⟩
theorem RowOk.congr {w : World} {a : Option Addr} {len cap e sz : Nat} {g g' : Nat → Nat → Value} (h : RowOk w a len cap e sz g) (eq : ∀ i, i < len → ∀ j, j < sz → g i j = g' i j) : RowOk w a len cap e sz g' := by
  obtain ⟨h0, h | ⟨b, cur, ha, h1, h2, h3, h4, h5⟩⟩ := h
  · exact ⟨h0, .inl h⟩
  · exact ⟨h0, .inr ⟨b, cur, ha, h1, h2, h3, h4, fun i hi j hj => by rw [← eq i hi j hj]; exact h5 i hi j hj⟩⟩
/-- A slice among them that may be read. -/
class PickSl (L : List Res) (a : Option Addr) (len cap : Nat) (sz : outParam Nat) (g : outParam (Nat → Nat → Value)) : Prop where
  ok : ∀ w, (∀ r ∈ L, r.holds w) → SlOk w a len cap sz g
instance pickSl_ro (L : List Res) (a : Option Addr) (len cap sz : Nat) (g : Nat → Nat → Value) : PickSl (slR a len cap sz g :: L) a len cap sz g := ⟨fun w h => h (slR a len cap sz g) (by simp)⟩
instance pickSl_row (L : List Res) (a : Option Addr) (len cap e sz : Nat) (g : Nat → Nat → Value) : PickSl (row a len cap e sz g :: L) a len cap sz g := ⟨fun w h => (show RowOk w a len cap e sz g from h (row a len cap e sz g) (by simp)).sl⟩
instance pickSl_tail (x : Res) (L : List Res) (a : Option Addr) (len cap sz : Nat) (g : Nat → Nat → Value) [hp : PickSl L a len cap sz g] : PickSl (x :: L) a len cap sz g := ⟨fun w h => hp.ok w fun r hr => h r (by simp [hr])⟩
theorem Sat.sl {S : Nat → Prop} {w₀ w : World} {L : List Res} (h : Sat S w₀ w L) {a : Option Addr} {len cap sz : Nat} {g : Nat → Nat → Value} [hp : PickSl L a len cap sz g] : SlOk w a len cap sz g := hp.ok w h.all
/-- The place of a cell of an element. -/
def ePtr (a : Option Addr) (i sz j : Nat) : Value := .pointer (a.map fun x => ⟨x.block, x.off + (i * sz + j), none⟩)
def gL {α : Type} (enc : α → Nat → Value) (d : α) (zs : List α) : Nat → Nat → Value := fun i j => enc (zs.getD i d) j
def aggV (l : List Value) : Value := .agg l.toArray
section
variable {S : Nat → Prop} {w₀ : World} {L : List Res}
variable {P : Program} {ops : Array Oper} {n : Nat} {rest : List Oper} {t : Tm} {w : World} {K : Tm → World → Prop} {d : Nat} {ty : TypeId} {pos : String} {af : Array Edge}
theorem Sat.allocA (h : Sat S w₀ w L) (m : Nat) (l : List Value) (hl : l.length = m) (T : TypeId) : Sat S w₀ (w.alloc (.cells l.toArray T)) (blk w.heap.size m (fun i => l.getD i undef) T :: L) := by
  have : cellsL m (fun i => l.getD i undef) = l := by
    apply List.ext_getElem?
    intro i
    by_cases hi : i < m
    · rw [cellsL_get _ _ _ hi, List.getD_eq_getElem?_getD, List.getElem?_eq_getElem (by omega)]; rfl
    · rw [List.getElem?_eq_none (by rw [cellsL_len]; omega), List.getElem?_eq_none (by omega)]
  have h2 := h.alloc m (fun i => l.getD i undef) T
  rw [this] at h2
  exact h2
theorem box_a (hS : Sat S w₀ w L) {T : TypeId} {m : Nat} [hs : TySz P T m] {x : Operand} {l : List Value} (hx : ev t x = aggV l) (hl : l.length = m) (hd : Nat.blt d n = true)
    (kk : ∀ b w', Sat S w₀ w' (blk b m (fun i => l.getD i undef) T :: L) → RunL P ops n rest (upd t d (.pointer (some ⟨b, 0, none⟩))) w' K) : RunL P ops n (⟨some d, .box T x, ty, pos, af, none⟩ :: rest) t w K := by
  refine valL (w' := w.alloc (.cells l.toArray T)) rfl rfl hd ?_ (kk w.heap.size _ (hS.allocA m l hl T))
  show Sem.run P (do pure (Next.value (← Instr.box T (ev t x)))) w = _
  rw [hx]
  simp [Instr.box, newVar, newRow, newObj, aggV, Value.cells, Sem.run, World.alloc_eq]
end
theorem ePtr_eq (a : Option Addr) (i sz j : Nat) : ePtr a i sz j = .pointer (a.map fun x => ⟨x.block, x.off + (i * sz + j), none⟩) := rfl
theorem aggV_eq (l : List Value) : aggV l = .agg l.toArray := rfl
/-- An index. -/
def idx (i : Int) : Nat := i.toNat
theorem idx_eq (i : Int) : idx i = i.toNat := rfl
theorem idx_cast (n : Nat) : idx ((n : Nat) : Int) = n := rfl
attribute [irreducible] ePtr aggV idx
section
variable {t : Tm} {w : World} {R : Ending → World → Prop} {r r' r'' : Nat}
theorem ret1_e {ea : Option Addr} {ei es ej : Nat} (h : t r = ePtr ea ei es ej) (k : R (.returned (ePtr ea ei es ej)) w) : retQ1 r R .ret t w := ret1_l h k
theorem ret2_ei {ea : Option Addr} {ei es ej : Nat} {k' : IntKind} {z' : Int} (h : t r = ePtr ea ei es ej) (h' : t r' = .int k' z') (kk : R (.returned (.tuple #[ePtr ea ei es ej, .int k' z'])) w) : retQ2 r r' R .ret t w := ret2_l h h' kk
theorem ret2_eb {ea : Option Addr} {ei es ej : Nat} {b' : Bool} (h : t r = ePtr ea ei es ej) (h' : t r' = .bool b') (kk : R (.returned (.tuple #[ePtr ea ei es ej, .bool b'])) w) : retQ2 r r' R .ret t w := ret2_l h h' kk
theorem ret2_ep {ea : Option Addr} {ei es ej : Nat} {p' : Option Addr} (h : t r = ePtr ea ei es ej) (h' : t r' = .pointer p') (kk : R (.returned (.tuple #[ePtr ea ei es ej, .pointer p'])) w) : retQ2 r r' R .ret t w := ret2_l h h' kk
theorem ret2_es {ea : Option Addr} {ei es ej : Nat} {p' : Option Addr} {l' c' : Nat} (h : t r = ePtr ea ei es ej) (h' : t r' = .slice p' l' c') (kk : R (.returned (.tuple #[ePtr ea ei es ej, .slice p' l' c'])) w) : retQ2 r r' R .ret t w := ret2_l h h' kk
theorem ret2_eo {ea : Option Addr} {ei es ej : Nat} {v' : Value} (h : t r = ePtr ea ei es ej) (h' : t r' = v') (kk : R (.returned (.tuple #[ePtr ea ei es ej, v'])) w) : retQ2 r r' R .ret t w := ret2_l h h' kk
theorem ret1_a {al : List Value} (h : t r = aggV al) (k : R (.returned (aggV al)) w) : retQ1 r R .ret t w := ret1_l h k
theorem ret2_ai {al : List Value} {k' : IntKind} {z' : Int} (h : t r = aggV al) (h' : t r' = .int k' z') (kk : R (.returned (.tuple #[aggV al, .int k' z'])) w) : retQ2 r r' R .ret t w := ret2_l h h' kk
theorem ret2_ab {al : List Value} {b' : Bool} (h : t r = aggV al) (h' : t r' = .bool b') (kk : R (.returned (.tuple #[aggV al, .bool b'])) w) : retQ2 r r' R .ret t w := ret2_l h h' kk
theorem ret2_ap {al : List Value} {p' : Option Addr} (h : t r = aggV al) (h' : t r' = .pointer p') (kk : R (.returned (.tuple #[aggV al, .pointer p'])) w) : retQ2 r r' R .ret t w := ret2_l h h' kk
theorem ret2_as {al : List Value} {p' : Option Addr} {l' c' : Nat} (h : t r = aggV al) (h' : t r' = .slice p' l' c') (kk : R (.returned (.tuple #[aggV al, .slice p' l' c'])) w) : retQ2 r r' R .ret t w := ret2_l h h' kk
theorem ret2_ao {al : List Value} {v' : Value} (h : t r = aggV al) (h' : t r' = v') (kk : R (.returned (.tuple #[aggV al, v'])) w) : retQ2 r r' R .ret t w := ret2_l h h' kk
end
/-- A slice among them, found by where it lies. -/
class PickE (L : List Res) (a : Option Addr) (len cap sz : outParam Nat) (g : outParam (Nat → Nat → Value)) : Prop where
  ok : ∀ w, (∀ r ∈ L, r.holds w) → SlOk w a len cap sz g
instance pickE_ro (L : List Res) (a : Option Addr) (len cap sz : Nat) (g : Nat → Nat → Value) : PickE (slR a len cap sz g :: L) a len cap sz g := ⟨fun w h => h (slR a len cap sz g) (by simp)⟩
instance pickE_row (L : List Res) (a : Option Addr) (len cap e sz : Nat) (g : Nat → Nat → Value) : PickE (row a len cap e sz g :: L) a len cap sz g := ⟨fun w h => (show RowOk w a len cap e sz g from h (row a len cap e sz g) (by simp)).sl⟩
instance pickE_tail (x : Res) (L : List Res) (a : Option Addr) (len cap sz : Nat) (g : Nat → Nat → Value) [hp : PickE L a len cap sz g] : PickE (x :: L) a len cap sz g := ⟨fun w h => hp.ok w fun r hr => h r (by simp [hr])⟩
theorem run_equalIn_bool0 {P : Program} (w : World) (k : Nat) (T : TypeId) (b b' : Bool) (h : P.underlying T = some .bool) : (Op.equalIn (k + 1) T (.bool b) (.bool b')).run P w = .ok (b == b') w := by simp [Op.equalIn, run_underlying h]
theorem run_equal_bool0 {P : Program} (w : World) (T : TypeId) (b b' : Bool) (h : P.underlying T = some .bool) : (Op.equal T (.bool b) (.bool b')).run P w = .ok (b == b') w := run_equalIn_bool0 w 9999 T b b' h
theorem run_neq_bool0 {P : Program} (w : World) (T : TypeId) (b b' : Bool) (h : P.underlying T = some .bool) : (binOp .neq T (.bool b) (.bool b')).run P w = .ok (.bool (!(b == b'))) w := by
  simp only [binOp]; simp [run_equal_bool0 w T b b' h]
end Go.Proofs.YtpiodhdbdlfnhaaGreatDoor
