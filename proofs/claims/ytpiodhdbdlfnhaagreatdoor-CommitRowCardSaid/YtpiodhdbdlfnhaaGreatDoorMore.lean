/- Slices against nil, make, copy, a call of a function value, cuts of slices. Over any program. -/
import Derived.Test.YtpiodhdbdlfnhaaGreatDoorStr
import Derived.Lib.SliceRun
import Derived.WalkSpells
import Derived.Laws.OwnMore
import Derived.Laws.StructEq
import Derived.ChangeKeysEq
namespace Go.Proofs.YtpiodhdbdlfnhaaGreatDoor
open Go.RowKit Go.Lib
set_option linter.unusedVariables false
/-- Where a cut begins. -/
def subA (a : Option Addr) (lo cap sz : Nat) : Option Addr := if cap = lo then a else a.map (·.add (lo * sz))
theorem subA_eq (a : Option Addr) (lo cap sz : Nat) : subA a lo cap sz = if cap = lo then a else a.map (·.add (lo * sz)) := rfl
theorem subA_zero (a : Option Addr) (cap sz : Nat) : subA a 0 cap sz = a := by
  unfold subA
  split
  · rfl
  · cases a <;> simp [Addr.add]
theorem SlOk.sub {w : World} {a : Option Addr} {len cap sz : Nat} {g : Nat → Nat → Value} (h : SlOk w a len cap sz g) {lo n : Nat} (hn : lo + n ≤ len) : SlOk w (subA a lo cap sz) n (cap - lo) sz (fun i j => g (lo + i) j) := by
  obtain ⟨h0, h1, h2, h3, h4⟩ := h
  refine ⟨h0, by omega, by omega, fun e => ?_, ?_⟩
  · unfold subA at e
    split at e
    · omega
    · cases a with
      | none => rw [h3 rfl]; omega
      | some x => simp at e
  · by_cases hz : n = 0
    · exact .inl hz
    · rcases h4 with h4 | ⟨b, off, rfl, hc⟩
      · omega
      · refine .inr ⟨b, off + lo * sz, ?_, fun i hi j hj => ?_⟩
        · unfold subA; rw [if_neg (by omega)]; simp [Addr.add_lit]
        · have := hc (lo + i) (by omega) j hj
          rw [Nat.add_mul] at this
          rw [show off + lo * sz + (i * sz + j) = off + (lo * sz + i * sz + j) by omega]
          exact this
theorem SlOk.pre {w : World} {a : Option Addr} {len cap sz : Nat} {g : Nat → Nat → Value} (h : SlOk w a len cap sz g) {n : Nat} (hn : n ≤ len) : SlOk w a n cap sz g := by
  obtain ⟨h0, h1, h2, h3, h4⟩ := h
  refine ⟨h0, by omega, h2, h3, ?_⟩
  rcases h4 with h4 | ⟨b, off, rfl, hc⟩
  · exact .inl (by omega)
  · exact .inr ⟨b, off, rfl, fun i hi => hc i (by omega)⟩
section
variable {S : Nat → Prop} {w₀ : World} {L : List Res}
variable {P : Program} {ops : Array Oper} {n : Nat} {rest : List Oper} {t : Tm} {w : World} {K : Tm → World → Prop} {d : Nat} {ty : TypeId} {pos : String} {af : Array Edge} {KQ : Tm → Prop}
theorem sliceNil_run {op : BinOp} {x y : Operand} {T T' : TypeId} {e sz : Nat} [hT : TySl P T e sz] {a : Option Addr} {l c : Nat} {b : Bool} (hx : ev t x = .slice a l c) (hy : ev t y = .slice none 0 0) (ho : (op = .eql ∧ b = a.isNone) ∨ (op = .neq ∧ b = !a.isNone)) :
    (execOp (ev t) ⟨some d, .binOp op T x y T', ty, pos, af, none⟩).run P w = .ok (.value (.bool b)) w := by
  show Sem.run P (do let u ← (do eqGuard op T x y (ev t x) (ev t y); binOp op T (ev t x) (ev t y)); pure (Next.value u)) w = _
  rw [hx, hy, eqGuard_at_slice]
  show Sem.run P (do let u ← binOp op T (.slice a l c) (.slice none 0 0); pure (Next.value u)) w = _
  rcases ho with ⟨rfl, rfl⟩ | ⟨rfl, rfl⟩
  · simp only [Sem.run_bind, run_eql_slice_nil w T e a l c 0 0 hT.eq, Result.andThen_ok, Sem.run_pure]
  · simp only [Sem.run_bind, run_neq_slice_nil_any w T e a l c 0 0 hT.eq, Result.andThen_ok, Sem.run_pure]
theorem eqlS_l (hS : Sat S w₀ w L) {x y : Operand} {T T' : TypeId} {e sz : Nat} [hT : TySl P T e sz] {a : Option Addr} {l c : Nat} (hx : ev t x = .slice a l c) (hy : ev t y = .slice none 0 0) (hd : Nat.blt d n = true)
    (k1 : a = none → RunL P ops n rest (upd t d (.bool true)) w K) (k2 : a ≠ none → RunL P ops n rest (upd t d (.bool false)) w K) : RunL P ops n (⟨some d, .binOp .eql T x y T', ty, pos, af, none⟩ :: rest) t w K := by
  cases a with
  | none => exact valL rfl rfl hd (sliceNil_run hx hy (.inl ⟨rfl, rfl⟩)) (k1 rfl)
  | some p => exact valL rfl rfl hd (sliceNil_run hx hy (.inl ⟨rfl, rfl⟩)) (k2 (by simp))
/-- make of a whole length. -/
theorem makeSlice_l (hS : Sat S w₀ w L) {T : TypeId} {e sz bytes : Nat} [hT : TySl P T e sz] [hE : TyEl P e sz bytes] {z : Value} [hz : TyZ P e z] {x : Operand} {ik : IntKind} {m : Int} {k : Nat} (hx : ev t x = .int ik m) (hm : m = (k : Nat)) (hsz : Nat.blt 0 sz = true) (hb : bytes * k ≤ 281474976710656 ∧ k ≤ 9223372036854775807) (hd : Nat.blt d n = true)
    (kk : ∀ b w', Sat S w₀ w' (row (some ⟨b, 0, none⟩) k k e sz (fun _ j => z.cells.getD j undef) :: L) → RunL P ops n rest (upd t d (.slice (some ⟨b, 0, none⟩) k k)) w' K) : RunL P ops n (⟨some d, .makeSlice T x x, ty, pos, af, none⟩ :: rest) t w K := by
  obtain ⟨i, z', hi, hz1, hsz1, hby, hzs⟩ := hE.ex
  have hz2 : z' = z := by
    have := hz.run w
    simp [zeroValue, typeInfo, hi, hz1] at this
    exact this
  subst hz2
  have h0 : 0 < sz := by simpa [Nat.blt_eq] using hsz
  obtain ⟨w', h1, h2, h3⟩ := run_make_full (P := P) w 0 T e i z' sz hT.eq hi hz1 hsz1 ik ik k (by rw [hby]; exact hb.1) (by unfold maxLen; omega) (Nat.zero_le _)
  have hr : RowOk w' (some ⟨w.heap.size, 0, none⟩) k k e sz (fun _ j => z'.cells.getD j undef) := by
    have e1 : (madeCells z'.cells (k * sz)).toList = flat (fun _ j => z'.cells.getD j undef) k sz := by
      refine flat_ext h0 (by simp [madeCells]) fun i hi j hj => ?_
      have hlt : i * sz + j < k * sz := by
        have : (i + 1) * sz ≤ k * sz := Nat.mul_le_mul_right _ hi
        rw [Nat.add_mul, Nat.one_mul] at this; omega
      have hmod : (i * sz + j) % sz = j := by rw [Nat.mul_comm, Nat.mul_add_mod, Nat.mod_eq_of_lt hj]
      simp [madeCells, hlt, hzs, hmod, Array.getD_eq_getD_getElem?, hj]
    rw [e1] at h2
    obtain ⟨a, cap, e2, hok⟩ := RowOk.of_owns h0 h2
    cases e2
    exact hok
  refine valL rfl rfl hd ?_ (kk w.heap.size w' (hS.fresh ⟨h3.os, h3.tape, h3.output, h3.size, fun q hq => h3.block q hq (by simp)⟩ hr (fun q ⟨y, hy, e⟩ => by cases hy; exact Nat.le_of_eq e)))
  show Sem.run P (do pure (Next.value (← Instr.makeSlice T (ev t x) (ev t x)))) w = _
  rw [hx, hm, Sem.run_bind]
  have : (Instr.makeSlice T (.int ik (k : Nat)) (.int ik (k : Nat))).run P w = .ok (.slice (some ⟨w.heap.size, 0, none⟩) k k) w' := h1
  rw [this]
  rfl
/-- A call of a function value. -/
theorem callV {f : FuncId} [hf : FnOk P f] {x : Operand} {l0 : List Operand} {l1 l2 : List Value} {ats : Array TypeId} {l : List Value} {R : Ending → World → Prop} (hx : ev t x = .func (.func f) l1.toArray l2.toArray) (hc : Calls P f (l1 ++ l ++ l2).toArray w R) (hv : l0.map (ev t) = l) (hd : Nat.blt d n = true)
    (k : ∀ e w', R e w' → ∃ v, e = .returned v ∧ RunL P ops n rest (upd t d v) w' K) : RunL P ops n (⟨some d, .call ⟨.value x, l0.toArray, ats⟩, ty, pos, af, none⟩ :: rest) t w K := by
  unfold RunL at *
  intro Q hQ a ha
  refine wpList_plain rfl fun K' hK => ?_
  unfold Oper.wp
  have e : execOp a.eval ⟨some d, .call ⟨.value x, l0.toArray, ats⟩, ty, pos, af, none⟩ = (do let dd ← Deferred.ofValue (a.eval x) (l0.toArray.map a.eval); invoke dd.target dd.args) := rfl
  rw [e, ha.eval, hx, List.map_toArray, hv]
  have e2 : (Deferred.ofValue (.func (.func f) l1.toArray l2.toArray) l.toArray >>= fun dd => invoke dd.target dd.args) = callFunc f (l1.toArray ++ l.toArray ++ l2.toArray) := rfl
  rw [e2, List.append_toArray, List.append_toArray, hf.call, Oper.upon_enter]
  refine hc.mono fun e w' h => ?_
  obtain ⟨v, rfl, hk⟩ := k e w' h
  exact hK _ _ (hk Q hQ _ (ha.put hd v))
/-- x[lo:hi] of a slice. -/
theorem slice_run {T : TypeId} {e sz : Nat} [hT : TySl P T e sz] {x : Operand} {lo hi : Option Operand} {a : Option Addr} {len cap l h : Nat} (hx : ev t x = .slice a len cap)
    (hl : (lo.map (ev t) = none ∧ l = 0) ∨ ∃ k, lo.map (ev t) = some (.int k (l : Nat))) (hh : (hi.map (ev t) = none ∧ h = len) ∨ ∃ k, hi.map (ev t) = some (.int k (h : Nat))) (hb : l ≤ h ∧ h ≤ cap) :
    (execOp (ev t) ⟨some d, .slice T x lo hi none, ty, pos, af, none⟩).run P w = .ok (.value (.slice (subA a l cap sz) (h - l) (cap - l))) w := by
  show Sem.run P (do pure (Next.value (← Instr.sliceAt T (ev t x) (lo.map (ev t)) (hi.map (ev t)) (none.map (ev t))))) w = _
  have hb1 : ∀ (k : IntKind) (y : Nat) (c : BoundsCode) (m : Nat), m ≤ y → (Instr.sliceBound (.int k (m : Nat)) y c).run P w = .ok m w := by
    intro k y c m hm
    simp [Instr.sliceBound, asIntOf, hm]
  have key : (Instr.sliceBounds true len cap (lo.map (ev t)) (hi.map (ev t)) none).run P w = .ok (l, h, cap) w := by
    rcases hl with ⟨hl, rfl⟩ | ⟨k, hl⟩ <;> rcases hh with ⟨hh, rfl⟩ | ⟨k', hh⟩ <;>
      simp [Instr.sliceBounds, hl, hh, hb1, hb.1, hb.2]
  simp [Instr.sliceAt, hx, run_underlying hT.eq, Instr.slice, key, hT.run, subA_eq]
section cuts
variable {T : TypeId} {e sz : Nat} [hT : TySl P T e sz] {x lo hi : Operand} {a : Option Addr} {len cap l h : Nat} {k k' : IntKind}
include hT
theorem slicePre_run (hx : ev t x = .slice a len cap) (hh : ev t hi = .int k (h : Nat)) (hb : h ≤ cap) : (execOp (ev t) ⟨some d, .slice T x none (some hi) none, ty, pos, af, none⟩).run P w = .ok (.value (.slice a h cap)) w := by
  have := slice_run (P := P) (d := d) (ty := ty) (pos := pos) (af := af) (w := w) (T := T) (lo := none) (hi := some hi) (l := 0) (h := h) hx (.inl ⟨rfl, rfl⟩) (.inr ⟨k, by simp [hh]⟩) ⟨Nat.zero_le _, hb⟩
  rw [subA_zero] at this
  simpa using this
theorem sliceSuf_run (hx : ev t x = .slice a len cap) (hl : ev t lo = .int k (l : Nat)) (hb : l ≤ len ∧ len ≤ cap) : (execOp (ev t) ⟨some d, .slice T x (some lo) none none, ty, pos, af, none⟩).run P w = .ok (.value (.slice (subA a l cap sz) (len - l) (cap - l))) w :=
  slice_run hx (.inr ⟨k, by simp [hl]⟩) (.inl ⟨rfl, rfl⟩) hb
theorem sliceSuf_l (hS : Sat S w₀ w L) (hx : ev t x = .slice a len cap) (hl : ev t lo = .int k (l : Nat)) (hb : l ≤ len ∧ len ≤ cap) (hd : Nat.blt d n = true) (kk : RunL P ops n rest (upd t d (.slice (subA a l cap sz) (len - l) (cap - l))) w K) : RunL P ops n (⟨some d, .slice T x (some lo) none none, ty, pos, af, none⟩ :: rest) t w K := valL rfl rfl hd (sliceSuf_run hx hl hb) kk
theorem slicePre_x (hx : ev t x = .slice a len cap) (hh : ev t hi = .int k (h : Nat)) (hb : h ≤ cap) (hd : Nat.blt d n = true) (kk : KQ (upd t d (.slice a h cap))) : QX P ops n S w₀ L ⟨some d, .slice T x none (some hi) none, ty, pos, af, none⟩ t KQ := valX rfl rfl hd (fun w hS => slicePre_run hx hh hb) kk
theorem sliceSuf_x (hx : ev t x = .slice a len cap) (hl : ev t lo = .int k (l : Nat)) (hb : l ≤ len ∧ len ≤ cap) (hd : Nat.blt d n = true) (kk : KQ (upd t d (.slice (subA a l cap sz) (len - l) (cap - l)))) : QX P ops n S w₀ L ⟨some d, .slice T x (some lo) none none, ty, pos, af, none⟩ t KQ := valX rfl rfl hd (fun w hS => sliceSuf_run hx hl hb) kk
end cuts
/-- Structs of whole numbers, compared. -/
def intFields (P : Program) : List Field → Nat → List IntKind → Bool
  | [], _, [] => true
  | f :: fs, i, k :: ks => Nat.beq f.offset i && decide (f.name ≠ "_") && P.plainKey f.type && (match P.underlying f.type with | some (.int k') => decide (k' = k) | _ => false) && intFields P fs (i + 1) ks
  | _, _, _ => false
class TyEqI (P : Program) (T : TypeId) (ks : outParam (List IntKind)) : Prop where
  ht : P.underlying T = some (.struct (P.fieldsOf T))
  hp : P.stoodInHeld T = false
  hg : P.eqGuardType P.depth T = false
  hf : intFields P (P.fieldsOf T).toList 0 ks = true
theorem eqFields_ints {P : Program} (d : Nat) (w : World) : ∀ (fs : List Field) (off : Nat) (ks : List IntKind) (l1 l2 : List Int) (xs ys : Array Value), intFields P fs off ks = true → l1.length = ks.length → l2.length = ks.length →
    (∀ i, xs[off + i]? = (List.zipWith (fun k a => Value.int k a) ks l1)[i]?) → (∀ i, ys[off + i]? = (List.zipWith (fun k a => Value.int k a) ks l2)[i]?) → (Op.eqFields (d + 1) xs ys fs).run P w = .ok (decide (l1 = l2)) w
  | [], off, [], l1, l2, xs, ys, _, h1, h2, _, _ => by
    have e1 : l1 = [] := by simpa using h1
    have e2 : l2 = [] := by simpa using h2
    subst e1 e2
    simp [Op.eqFields]
  | f :: fs, off, k :: ks, a :: l1, b :: l2, xs, ys, hf, h1, h2, hx, hy => by
    simp only [intFields, Bool.and_eq_true, Nat.beq_eq, decide_eq_true_eq] at hf
    obtain ⟨⟨⟨⟨ho, hn⟩, hk⟩, hu⟩, hr⟩ := hf
    have hu' : P.underlying f.type = some (.int k) := by
      split at hu
      · rename_i h; rw [h, of_decide_eq_true hu]
      · cases hu
    have x0 : xs[f.offset]? = some (.int k a) := by have := hx 0; simpa [ho] using this
    have y0 : ys[f.offset]? = some (.int k b) := by have := hy 0; simpa [ho] using this
    have ih := eqFields_ints (P := P) d w fs (off + 1) ks l1 l2 xs ys hr (by simpa using h1) (by simpa using h2) (fun i => by have := hx (i + 1); simpa [Nat.add_assoc, Nat.add_comm 1 i] using this) (fun i => by have := hy (i + 1); simpa [Nat.add_assoc, Nat.add_comm 1 i] using this)
    simp only [Op.eqFields, if_pos hn, Sem.run_bind, run_part_plain w hk x0, run_part_plain w hk y0, Result.andThen_ok, run_equalIn_int w d f.type k k a b hu']
    by_cases e : a = b
    · subst e
      simp [ih]
    · simp [e]
  | [], _, _ :: _, _, _, _, _, hf, _, _, _, _ => by simp [intFields] at hf
  | _ :: _, _, [], _, _, _, _, hf, _, _, _, _ => by simp [intFields] at hf
  | _ :: _, _, _ :: _, [], _, _, _, _, h1, _, _, _ => by simp at h1
  | _ :: _, _, _ :: _, _ :: _, [], _, _, _, _, h2, _, _ => by simp at h2
theorem aggI_run {x y : Operand} {T T' : TypeId} {ks : List IntKind} [hT : TyEqI P T ks] {l1 l2 : List Int} (neq : Bool) (hx : ev t x = aggV (List.zipWith (fun k a => Value.int k a) ks l1)) (hy : ev t y = aggV (List.zipWith (fun k a => Value.int k a) ks l2)) (h1 : l1.length = ks.length) (h2 : l2.length = ks.length) :
    (execOp (ev t) ⟨some d, .binOp (cond neq .neq .eql) T x y T', ty, pos, af, none⟩).run P w = .ok (.value (.bool (cond neq (decide (l1 ≠ l2)) (decide (l1 = l2))))) w := by
  show Sem.run P (do let u ← (do eqGuard (cond neq .neq .eql) T x y (ev t x) (ev t y); binOp (cond neq .neq .eql) T (ev t x) (ev t y)); pure (Next.value u)) w = _
  have key : (Op.equalIn 10000 T (.agg (List.zipWith (fun k a => Value.int k a) ks l1).toArray) (.agg (List.zipWith (fun k a => Value.int k a) ks l2).toArray)).run P w = .ok (decide (l1 = l2)) w := by
    rw [run_equalIn_agg w 9999 T _ _ hT.ht hT.hp]
    exact eqFields_ints 9998 w _ 0 ks l1 l2 _ _ hT.hf h1 h2 (fun i => by simp) (fun i => by simp)
  rw [hx, hy, aggV_eq, aggV_eq]
  cases neq
  · simp only [cond_false, Sem.run_bind, run_eqGuard_agg w .eql T x y _ _ hT.hg, Result.andThen_ok, run_eql_struct, key, Sem.run_pure]
  · simp only [cond_true, Sem.run_bind, run_eqGuard_agg w .neq T x y _ _ hT.hg, Result.andThen_ok, run_neq_struct, key, Sem.run_pure]
    simp
section aggs
variable {x y : Operand} {T T' : TypeId} {k0 k1 : IntKind} [hT : TyEqI P T [k0, k1]] {a0 a1 b0 b1 : Int}
include hT
end aggs
/-- Whose guard was not done is not done. -/
theorem Agr.yieldU {n : Nat} {a : Act} {t : Tm} (h : Agr n a t) {ops : Array Oper} {j d : Nat} (hj : (ops[j]?).bind (·.dst) = some d) (hb : t d = undef) : yielded ops a.tmps j = none := by
  have hg := h.get d
  rw [hb, Array.getD_eq_getD_getElem?] at hg
  unfold yielded
  rw [hj]
  cases hx : a.tmps[d]? with
  | none => simp [hx]
  | some v => rw [hx] at hg; simp at hg; subst hg; simp [hx, undef]
theorem offLU {o : Op} {od : Tmp} {j e : Nat} {b : Bool} (hj : (ops[j]?).bind (·.dst) = some e) (hb : t e = undef) (hd : Nat.blt od n = true) (k : RunL P ops n rest (upd t od undef) w K) : RunL P ops n (⟨some od, o, ty, pos, af, some (j, b)⟩ :: rest) t w K := by
  unfold RunL at *
  intro Q hQ a ha
  have := k Q hQ _ (ha.put hd undef)
  simp only [wpList, Region.wanted, ha.yieldU hj hb]
  simpa using this
theorem offXU {o : Op} {od : Tmp} {j e : Nat} {b : Bool} (hj : (ops[j]?).bind (·.dst) = some e) (hb : t e = undef) (hd : Nat.blt od n = true) (k : KQ (upd t od undef)) : QX P ops n S w₀ L ⟨some od, o, ty, pos, af, some (j, b)⟩ t KQ := by
  unfold QX
  exact ⟨undef, _, fun a ha => ⟨.inr ⟨by simp [Region.wanted, ha.yieldU hj hb], rfl⟩, ha.put hd undef⟩, k⟩
/-- What a copy leaves. -/
def gcopy (g g2 : Nat → Nat → Value) (lo m : Nat) : Nat → Nat → Value := fun i j => if lo ≤ i ∧ i < lo + m then g2 (i - lo) j else g i j
theorem copy_core (hS : Sat S w₀ w L) {T T' : TypeId} {e sz : Nat} [hT : TySl P T e sz] {x y : Operand} {a a1 a2 : Option Addr} {len cap dl dc sl sc lo m e' : Nat} {g g2 : Nat → Nat → Value} {f : Res → List Res} [hp : PickR L a len cap e' sz g f]
    (hx : ev t x = .slice a1 dl dc) (hy : ev t y = .slice a2 sl sc) (ha : a1 = subA a lo cap sz) (hs : SlOk w a2 sl sc sz g2) (h1 : ∀ i j, i < sl → j < sz → (g2 i j).oneCell' = true) (hb : lo + dl ≤ len) (hm : Nat.min sl dl = m) (hd : Nat.blt d n = true)
    (kk : ∀ w', Sat S w₀ w' (f (row a len cap e' sz (gcopy g g2 lo m))) → RunL P ops n rest (upd t d (.int .i64 (m : Nat))) w' K) : RunL P ops n (⟨some d, .call ⟨.builtin .copy, #[x, y], #[T, T']⟩, ty, pos, af, none⟩ :: rest) t w K := by
  have hp1 := hp.pick
  have hr : RowOk w a len cap e' sz g := hS.holds (r := row a len cap e' sz g)
  have h0 := hr.1
  have hmin : m ≤ sl ∧ m ≤ dl := by rw [← hm]; exact ⟨Nat.min_le_left _ _, Nat.min_le_right _ _⟩
  have exec : ∀ w', (Builtin.copy_ #[T, T'] ty #[.slice a1 dl dc, .slice a2 sl sc]).run P w = .ok (.int .i64 (m : Nat)) w' → Sat S w₀ w' (f (row a len cap e' sz (gcopy g g2 lo m))) →
      RunL P ops n (⟨some d, .call ⟨.builtin .copy, #[x, y], #[T, T']⟩, ty, pos, af, none⟩ :: rest) t w K := by
    intro w' hrun hsat
    refine valL rfl rfl hd ?_ (kk w' hsat)
    rw [BigFrame.execOp_builtin, show Array.map (ev t) #[x, y] = #[.slice a1 dl dc, .slice a2 sl sc] from by simp [hx, hy], BigFrame.builtin_copy, Sem.run_bind, hrun]
    rfl
  by_cases hz : m = 0
  · subst hz
    refine exec w ?_ ?_
    · have : Nat.min sl dl = 0 := hm
      have hf : (Builtin.firstCells sz 0 (.slice a2 sl sc)).run P w = .ok #[] w := by
        cases a2 with
        | none => simp [Builtin.firstCells]
        | some p => simp [Builtin.firstCells, loadCells, loadCellsFrom]
      cases a1 with
      | none => simp [Builtin.copy_, run_underlying hT.eq, Builtin.lenOf, this, hT.run, hf, goInt]
      | some p => simp [Builtin.copy_, run_underlying hT.eq, Builtin.lenOf, this, hT.run, hf, goInt, storeCells]
    · refine hS.turn (r := row a len cap e' sz g) (hr.congr fun i hi j hj => ?_) rfl (fun k e => e)
      unfold gcopy; rw [if_neg (by omega)]
  · obtain ⟨b2, o2, rfl, hc2⟩ := hs.there (i := 0) (by omega)
    obtain ⟨hr0, ⟨_, hl, _⟩ | ⟨b, cur, rfl, r1, r2, r3, r4, r5⟩⟩ := hr
    · omega
    · have ea : a1 = some ⟨b, lo * sz, none⟩ := by
        rw [ha, subA_eq, if_neg (by omega)]; simp [Addr.add_lit]
      subst ea
      have hl2 : (flat g2 m sz).length = m * sz := flat_len _ _ _
      have hfc : (Builtin.firstCells sz m (.slice (some ⟨b2, o2, none⟩) sl sc)).run P w = .ok (flat g2 m sz).toArray w :=
        run_firstCells_some (P := P) w sz m ⟨b2, o2, none⟩ sl sc (flat g2 m sz) hl2 ((hs.pre (n := m) hmin.1).news)
      have hone : ∀ v ∈ flat g2 m sz, v.oneCell' = true := fun v hv => by
        simp only [flat, List.mem_map, List.mem_range] at hv
        obtain ⟨q, hq, rfl⟩ := hv
        exact h1 _ _ (Nat.lt_of_lt_of_le (Nat.div_lt_of_lt_mul (by rw [Nat.mul_comm]; exact hq)) hmin.1) (Nat.mod_lt _ h0)
      have hfit : lo * sz + m * sz ≤ cur.size := by
        rw [r4, ← Nat.add_mul]; exact Nat.mul_le_mul_right _ (by omega)
      have hst := run_storeCells_at P b (lo * sz) e' (flat g2 m sz) 0 cur w r1 (by rw [hl2]; omega) hone
      simp only [Nat.add_zero] at hst
      have hget : ∀ i, i < len → ∀ j, j < sz → (cur.toList.take (lo * sz) ++ flat g2 m sz ++ cur.toList.drop (lo * sz + (flat g2 m sz).length))[i * sz + j]? = some (gcopy g g2 lo m i j) := by
        intro i hi j hj
        have hij : i * sz + j < cur.toList.length := by
          have := r5 i hi j hj
          simpa using (Array.getElem?_eq_some_iff.1 this).1
        have hci : cur.toList[i * sz + j]? = some (g i j) := by rw [Array.getElem?_toList]; exact r5 i hi j hj
        have htl : (cur.toList.take (lo * sz)).length = lo * sz := by rw [List.length_take, Array.length_toList]; omega
        unfold gcopy
        by_cases c1 : i < lo
        · rw [if_neg (by omega)]
          have : i * sz + j < lo * sz := by
            have : (i + 1) * sz ≤ lo * sz := Nat.mul_le_mul_right _ c1
            rw [Nat.add_mul, Nat.one_mul] at this; omega
          rw [List.append_assoc, List.getElem?_append_left (by omega), List.getElem?_take, if_pos this, hci]
        · by_cases c2 : i < lo + m
          · rw [if_pos ⟨by omega, c2⟩]
            have e1 : i * sz + j - lo * sz = (i - lo) * sz + j := by rw [Nat.sub_mul]; have : lo * sz ≤ i * sz := Nat.mul_le_mul_right _ (by omega); omega
            have e2 : (i - lo) * sz + j < m * sz := by
              have : (i - lo + 1) * sz ≤ m * sz := Nat.mul_le_mul_right _ (by omega)
              rw [Nat.add_mul, Nat.one_mul] at this; omega
            have e3 : lo * sz ≤ i * sz := Nat.mul_le_mul_right _ (by omega)
            rw [List.append_assoc, List.getElem?_append_right (by omega), htl, e1, List.getElem?_append_left (by omega), flat_get (by omega) hj]
          · rw [if_neg (by omega)]
            have e3 : (lo + m) * sz ≤ i * sz := Nat.mul_le_mul_right _ (by omega)
            rw [Nat.add_mul] at e3
            rw [List.getElem?_append_right (by rw [List.length_append, htl, hl2]; omega), List.length_append, htl, hl2, List.getElem?_drop, show lo * sz + m * sz + (i * sz + j - (lo * sz + m * sz)) = i * sz + j by omega, hci]
      refine exec (w.setRow b (cur.toList.take (lo * sz) ++ flat g2 m sz ++ cur.toList.drop (lo * sz + (flat g2 m sz).length)).toArray) ?_ ?_
      · have h2 : Nat.min sl dl = m := hm
        simp [Builtin.copy_, run_underlying hT.eq, Builtin.lenOf, h2, hT.run, hfc, hst, goInt]
      · refine hS.swap (r := row (some ⟨b, 0, none⟩) len cap e' sz g) rfl ?_ ?_ rfl (fun k e => .inl e)
        · refine ⟨rfl, rfl, rfl, by simp [World.setRow], fun k hk hn => setRow_other w b k _ (fun e => hn ⟨_, rfl, e.symm⟩)⟩
        · refine ⟨h0, .inr ⟨b, _, rfl, setRow_heap w b cur _ e' _ r1, r2, r3, ?_, fun i hi j hj => by rw [List.getElem?_toArray]; exact hget i hi j hj⟩⟩
          simp only [List.size_toArray, List.length_append, List.length_take, List.length_drop, Array.length_toList, hl2]
          omega
/-- append([]T{}, y...). -/
theorem append0_l (hS : Sat S w₀ w L) {T : TypeId} {α : Type} {e sz bytes : Nat} [hT : TySl P T e sz] [hE : TyEl P e sz bytes] {x y : Operand} {b : Nat} {g : Nat → Nat → Value} {a2 : Option Addr} {cap2 : Nat} {enc : α → Nat → Value} {dd : α} {ys : List α} {f : Res → List Res} [hpl : Plain enc]
    (hx : ev t x = .slice (some ⟨b, 0, none⟩) 0 0) (hy : ev t y = .slice a2 ys.length cap2) [hp : PickR L (some ⟨b, 0, none⟩) 0 0 e sz g f] [hs : PickL L a2 cap2 sz enc dd ys] (hb : ys.length * bytes ≤ 140737488355328 ∧ ys.length ≤ 9223372036854775807) (hd : Nat.blt d n = true)
    (kk : ∀ a' cap' w', Sat S w₀ w' (f (rowL a' cap' e sz enc dd ys)) → RunL P ops n rest (upd t d (.slice a' ys.length cap')) w' K) : RunL P ops n (⟨some d, .call ⟨.builtin .append, #[x, y], #[T, T]⟩, ty, pos, af, none⟩ :: rest) t w K := by
  have hp1 := hp.pick
  have hS2 := hS.turn (r := row (some ⟨b, 0, none⟩) 0 0 e sz g) (r' := rowL (some ⟨b, 0, none⟩) 0 e sz enc dd []) (RowOk.congr (hS.holds (r := row (some ⟨b, 0, none⟩) 0 0 e sz g)) (fun i hi => by simp at hi)) rfl (fun k e => e)
  have hp2 : Pick (f (rowL (some ⟨b, 0, none⟩) 0 e sz enc dd [])) (rowL (some ⟨b, 0, none⟩) 0 e sz enc dd []) f := hp1.again _
  refine append_core hS2 (zs := []) (g2 := fun _ _ => undef) hx hy (hp := hp2) (hs.ok w hS.all) hpl.one (by simpa using hb.1) (by simpa using hb.2) hd ?_
  intro a' cap' w' h
  exact kk a' cap' w' h
/-- A literal of structs; one of nothing. -/
theorem fill_seq (sz : Nat) (vs : List (List Value)) (hz : ∀ v ∈ vs, v.length = sz) : ∀ (k : Nat) (cs : Array Value) (len : Nat), cs.size = len * sz → k + vs.length = len →
    Instr.fill (fun i => some (i * sz, sz)) cs ((List.range' k vs.length).zip (vs.map fun l => Value.agg l.toArray)) = some ((cs.toList.take (k * sz) ++ vs.flatten).toArray) := by
  induction vs with
  | nil =>
    intro k cs len hc hk
    simp at hk
    subst hk
    simp only [List.length_nil, List.range'_zero, List.zip_nil_left, Instr.fill, List.flatten_nil, List.append_nil]
    rw [List.take_of_length_le (by rw [Array.length_toList, hc]; exact Nat.le_refl _)]
  | cons v vs ih =>
    intro k cs len hc hk
    simp only [List.length_cons] at hk
    have hv := hz v (by simp)
    have hfit : (k + 1) * sz ≤ len * sz := Nat.mul_le_mul_right _ (by omega)
    rw [Nat.add_mul, Nat.one_mul] at hfit
    simp only [List.length_cons, List.range'_succ, List.map_cons, List.zip_cons_cons, Instr.fill]
    have hcells : (Value.agg v.toArray).cells = v.toArray := rfl
    rw [hcells]
    rw [if_neg (by simp [hv]; omega)]
    have e := foldl_splice v 0 (k * sz) cs (by rw [hc]; omega)
    have e2 : (v.toArray.zipIdx.foldl (fun (cs : Array Value) (x : Value × Nat) => cs.setIfInBounds (k * sz + x.2) x.1) cs) = (splice cs.toList (k * sz) v).toArray := by
      rw [← Array.foldl_toList, Array.toList_zipIdx]; simpa using e
    rw [e2, ih (fun u hu => hz u (by simp [hu])) (k + 1) _ len (by simp [splice]; omega) (by omega)]
    congr 2
    have : (splice cs.toList (k * sz) v).take ((k + 1) * sz) = cs.toList.take (k * sz) ++ v := by
      unfold splice
      rw [List.take_append_of_le_length (by simp; rw [Nat.add_mul, Nat.one_mul]; omega), List.take_of_length_le (by simp; rw [Nat.add_mul, Nat.one_mul]; omega)]
    rw [show (splice cs.toList (k * sz) v).toArray.toList = splice cs.toList (k * sz) v from rfl, this, List.flatten_cons, List.append_assoc]
theorem vsN {t : Tm} : ([] : List (Nat × Operand)).map (fun p => ev t p.2) = ([] : List (List Value)).map aggV := rfl
theorem vsC {t : Tm} {i : Nat} {x : Operand} {l : List (Nat × Operand)} {al : List Value} {vs : List (List Value)} (h : ev t x = aggV al) (k : l.map (fun p => ev t p.2) = vs.map aggV) : ((i, x) :: l).map (fun p => ev t p.2) = (al :: vs).map aggV := by rw [List.map_cons, h, k]; rfl
theorem buildSliceN_l (hS : Sat S w₀ w L) {T : TypeId} {e sz : Nat} [hT : TySl P T e sz] {z : Value} [hz : TyZ P e z] {len : Nat} {parts : List (Nat × Operand)} {vs : List (List Value)} (hv : parts.map (fun p => ev t p.2) = vs.map aggV) (hi : parts.map (fun p => p.1) = List.range' 0 len) (hvs : vs.all (fun l => Nat.beq l.length sz && l.all (·.oneCell')) = true) (hsz : Nat.blt 0 sz = true) (hl : Nat.ble (len * sz) 1000 = true) (hd : Nat.blt d n = true)
    (kk : ∀ b w', Sat S w₀ w' (row (some ⟨b, 0, none⟩) len len e sz (fun i j => (vs.getD i []).getD j undef) :: L) → RunL P ops n rest (upd t d (.slice (some ⟨b, 0, none⟩) len len)) w' K) : RunL P ops n (⟨some d, .buildSlice T len parts.toArray, ty, pos, af, none⟩ :: rest) t w K := by
  have hll : len * sz ≤ 1000 := by simpa [Nat.ble_eq] using hl
  have h0 : 0 < sz := by simpa [Nat.blt_eq] using hsz
  have hlen : len ≤ 1000 := Nat.le_trans (Nat.le_mul_of_pos_right _ h0) hll
  have hpl : parts.length = len := by have := congrArg List.length hi; simpa using this
  have hvl : vs.length = len := by have := congrArg List.length hv; simp at this; omega
  have hvz : ∀ v ∈ vs, v.length = sz := fun v hv => by
    have := List.all_eq_true.1 hvs v hv
    simp only [Bool.and_eq_true, Nat.beq_eq] at this
    exact this.1
  have hfl : ∀ i (hi : i < vs.length) j, j < sz → vs.flatten[i * sz + j]? = vs[i][j]? := by
    clear hv hi hvs hvl hpl hS kk hz hT
    induction vs with
    | nil => intro i hi; simp at hi
    | cons v vs ih =>
      intro i hi j hj
      have hv := hvz v (by simp)
      cases i with
      | zero => simp [List.getElem?_append_left (show j < v.length by omega)]
      | succ i =>
        simp only [List.flatten_cons]
        rw [List.getElem?_append_right (by rw [hv, Nat.add_mul, Nat.one_mul]; omega), show (i + 1) * sz + j - v.length = i * sz + j by rw [hv, Nat.add_mul, Nat.one_mul]; omega]
        exact ih (fun u hu => hvz u (by simp [hu])) i (by simpa using hi) j hj
  have hflen : vs.flatten.length = len * sz := by
    rw [← hvl]
    clear hv hi hvs hvl hpl hS kk hz hT hfl
    induction vs with
    | nil => simp
    | cons v vs ih => rw [List.flatten_cons, List.length_append, hvz v (by simp), ih (fun u hu => hvz u (by simp [hu])), List.length_cons, Nat.add_mul, Nat.one_mul, Nat.add_comm]
  refine valL (w' := w.alloc (.cells vs.flatten.toArray e)) rfl rfl hd ?_ (kk w.heap.size _ (hS.allocRow h0 hflen (by unfold maxLen; omega) (fun i hi j hj => ?_)))
  · have hps : (parts.toArray.map fun (i, x) => (i, ev t x)).toList = (List.range' 0 vs.length).zip (vs.map fun l => Value.agg l.toArray) := by
      have hz2 : ∀ l : List (Nat × Operand), (l.map (fun p => p.1)).zip (l.map (fun p => ev t p.2)) = l.map (fun p => (p.1, ev t p.2)) := by
        intro l
        induction l with
        | nil => rfl
        | cons p l ih => simp [ih]
      have : (vs.map fun l => Value.agg l.toArray) = vs.map aggV := by simp [aggV_eq]
      rw [hvl, ← hi, this, ← hv, hz2]
      simp
    show Sem.run P (do pure (Next.value (← Instr.buildSlice T len (parts.toArray.map fun (i, x) => (i, ev t x))))) w = _
    have hf : ∀ cs : Array Value, cs.size = len * sz → Instr.fill (fun i => some (i * sz, sz)) cs (parts.map fun x => (x.fst, ev t x.snd)) = some vs.flatten.toArray := by
      intro cs hc
      have := fill_seq sz vs hvz 0 cs len hc (by omega)
      rw [← hps] at this
      simpa using this
    have hlt : ¬ 2 ^ 24 < len * sz := by omega
    by_cases h00 : len * sz = 0
    · have := hf #[] (by simp [h00])
      simp only [Instr.buildSlice, Sem.run_bind, run_underlying hT.eq, Result.andThen_ok, hT.run]
      simp [h00, Array.range_zero', newRow, newObj]
      rw [this]
      rfl
    · have := hf ((Array.range (len * sz)).map fun x => z.cells[x % z.cells.size]!) (by simp)
      simp only [Instr.buildSlice, Sem.run_bind, run_underlying hT.eq, Result.andThen_ok, hT.run]
      rw [if_neg h00]
      simp [hlt, hz.run, newRow, newObj]
      rw [this]
      rfl
  · have e1 : vs.getD i [] = vs[i]'(by omega) := by simp [List.getD_eq_getElem?_getD, List.getElem?_eq_getElem (show i < vs.length by omega)]
    have e2 := hvz (vs[i]'(by omega)) (List.getElem_mem (by omega))
    rw [hfl i (by omega) j hj, e1, List.getD_eq_getElem?_getD, List.getElem?_eq_getElem (show j < (vs[i]'(by omega)).length by omega)]
    rfl
end
attribute [irreducible] subA
end Go.Proofs.YtpiodhdbdlfnhaaGreatDoor
