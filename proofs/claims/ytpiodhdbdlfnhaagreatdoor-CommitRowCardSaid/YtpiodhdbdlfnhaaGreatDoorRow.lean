/- Rows of one's own: append, make, a store. Over any program. -/
import Derived.Test.YtpiodhdbdlfnhaaGreatDoorOps
import Derived.Laws.AppendOwnNone
namespace Go.Proofs.YtpiodhdbdlfnhaaGreatDoor
open Go.RowKit Go.Lib
set_option linter.unusedVariables false
def flat (g : Nat → Nat → Value) (len sz : Nat) : List Value := (List.range (len * sz)).map fun q => g (q / sz) (q % sz)
theorem flat_len (g : Nat → Nat → Value) (len sz : Nat) : (flat g len sz).length = len * sz := by simp [flat]
theorem flat_get {g : Nat → Nat → Value} {len sz i j : Nat} (hi : i < len) (hj : j < sz) : (flat g len sz)[i * sz + j]? = some (g i j) := by
  have h : i * sz + j < len * sz := by
    have : (i + 1) * sz ≤ len * sz := Nat.mul_le_mul_right _ hi
    rw [Nat.add_mul, Nat.one_mul] at this; omega
  have hd : (i * sz + j) / sz = i := by rw [Nat.mul_comm, Nat.mul_add_div (by omega), Nat.div_eq_of_lt hj]; rfl
  have hm : (i * sz + j) % sz = j := by rw [Nat.mul_comm, Nat.mul_add_mod, Nat.mod_eq_of_lt hj]
  simp [flat, h, hd, hm]
theorem flat_ext {l : List Value} {g : Nat → Nat → Value} {len sz : Nat} (hz : 0 < sz) (hl : l.length = len * sz) (h : ∀ i, i < len → ∀ j, j < sz → l[i * sz + j]? = some (g i j)) : l = flat g len sz := by
  apply List.ext_getElem?
  intro q
  by_cases hq : q < len * sz
  · have hi : q / sz < len := Nat.div_lt_of_lt_mul (by rw [Nat.mul_comm]; exact hq)
    have hj : q % sz < sz := Nat.mod_lt _ hz
    have e : q / sz * sz + q % sz = q := by rw [Nat.mul_comm]; exact Nat.div_add_mod q sz
    have h1 := h _ hi _ hj
    have h2 := flat_get (g := g) hi hj
    rw [e] at h1 h2
    rw [h1, h2]
  · rw [List.getElem?_eq_none (by omega), List.getElem?_eq_none (by rw [flat_len]; omega)]
theorem flat_mem {g : Nat → Nat → Value} {len sz : Nat} {u : Value} (h : u ∈ flat g len sz) : ∃ i j, u = g i j := by
  simp only [flat, List.mem_map] at h
  obtain ⟨q, _, rfl⟩ := h
  exact ⟨_, _, rfl⟩
theorem RowOk.owns {w : World} {a : Option Addr} {len cap e sz : Nat} {g : Nat → Nat → Value} (h : RowOk w a len cap e sz g) : w.ownsRow 0 e sz (.slice a len cap) len (flat g len sz) := by
  obtain ⟨h0, ⟨rfl, rfl, rfl⟩ | ⟨b, cur, rfl, h1, h2, h3, h4, h5⟩⟩ := h
  · exact ⟨flat_len _ _ _, .inl ⟨rfl, rfl⟩⟩
  · refine ⟨flat_len _ _ _, .inr ⟨b, cap, cur, rfl, Nat.zero_le _, h1, h2, h3, h4, ?_⟩⟩
    refine flat_ext h0 (by rw [List.length_take, Array.length_toList, h4]; exact Nat.min_eq_left (Nat.mul_le_mul_right _ h2)) fun i hi j hj => ?_
    have h : i * sz + j < len * sz := by
      have : (i + 1) * sz ≤ len * sz := Nat.mul_le_mul_right _ hi
      rw [Nat.add_mul, Nat.one_mul] at this; omega
    rw [List.getElem?_take, if_pos h, Array.getElem?_toList]
    exact h5 i hi j hj
theorem RowOk.of_owns {w : World} {v : Value} {len e sz : Nat} {g : Nat → Nat → Value} (h0 : 0 < sz) (h : w.ownsRow 0 e sz v len (flat g len sz)) : ∃ a cap, v = .slice a len cap ∧ RowOk w a len cap e sz g := by
  obtain ⟨hl, ⟨rfl, rfl⟩ | ⟨b, cap, cur, rfl, _, h1, h2, h3, h4, h5⟩⟩ := h
  · exact ⟨none, 0, rfl, h0, .inl ⟨rfl, rfl, rfl⟩⟩
  · refine ⟨_, cap, rfl, h0, .inr ⟨b, cur, rfl, h1, h2, h3, h4, fun i hi j hj => ?_⟩⟩
    have h : i * sz + j < len * sz := by
      have : (i + 1) * sz ≤ len * sz := Nat.mul_le_mul_right _ hi
      rw [Nat.add_mul, Nat.one_mul] at this; omega
    have := flat_get (g := g) hi hj
    rw [← h5, List.getElem?_take, if_pos h, Array.getElem?_toList] at this
    exact this
theorem SlOk.news {w : World} {b off len cap sz : Nat} {g : Nat → Nat → Value} (h : SlOk w (some ⟨b, off, none⟩) len cap sz g) : ∀ j u, (flat g len sz)[j]? = some u → w.cell? ((⟨b, off, none⟩ : Addr).add j) = some u := by
  intro q u hu
  have h0 := h.1
  have hq : q < len * sz := by
    rcases Nat.lt_or_ge q (len * sz) with h | h
    · exact h
    · rw [List.getElem?_eq_none (by rw [flat_len]; exact h)] at hu; cases hu
  have hi : q / sz < len := Nat.div_lt_of_lt_mul (by rw [Nat.mul_comm]; exact hq)
  have hj : q % sz < sz := Nat.mod_lt _ h0
  have e : q / sz * sz + q % sz = q := by rw [Nat.mul_comm]; exact Nat.div_add_mod q sz
  obtain ⟨b', off', he, hc⟩ := h.there hi
  cases he
  have h2 := flat_get (g := g) hi hj
  rw [e, hu] at h2
  have h3 := hc _ hi _ hj
  rw [e] at h3
  rw [add_lit0, h3, ← Option.some.inj h2]
/-- Lists in rows. -/
abbrev slL {α : Type} (a : Option Addr) (cap sz : Nat) (enc : α → Nat → Value) (d : α) (zs : List α) : Res := slR a zs.length cap sz (gL enc d zs)
abbrev rowL {α : Type} (a : Option Addr) (cap e sz : Nat) (enc : α → Nat → Value) (d : α) (zs : List α) : Res := row a zs.length cap e sz (gL enc d zs)
def encI (z : Int) : Nat → Value := fun _ => .int .i64 z
class Plain {α : Type} (enc : α → Nat → Value) : Prop where
  one : ∀ z j, (enc z j).oneCell' = true
instance plainI : Plain encI := ⟨fun _ _ => rfl⟩
theorem gL_app {α : Type} {enc : α → Nat → Value} {d : α} {zs ys : List α} (sz : Nat) : flat (gL enc d zs) zs.length sz ++ flat (gL enc d ys) ys.length sz = flat (gL enc d (zs ++ ys)) (zs ++ ys).length sz := by
  by_cases hz : sz = 0
  · subst hz; simp [flat]
  refine flat_ext (by omega) (by rw [List.length_append, flat_len, flat_len, List.length_append, Nat.add_mul]) fun i hi j hj => ?_
  rw [List.length_append] at hi
  by_cases h : i < zs.length
  · have h1 : i * sz + j < zs.length * sz := by
      have : (i + 1) * sz ≤ zs.length * sz := Nat.mul_le_mul_right _ h
      rw [Nat.add_mul, Nat.one_mul] at this; omega
    rw [List.getElem?_append_left (by rw [flat_len]; exact h1), flat_get h hj]
    simp [gL, List.getD_eq_getElem?_getD, List.getElem?_append_left h]
  · have e : i * sz + j - zs.length * sz = (i - zs.length) * sz + j := by rw [Nat.sub_mul]; have : zs.length * sz ≤ i * sz := Nat.mul_le_mul_right _ (by omega); omega
    have h2 : zs.length * sz ≤ i * sz + j := by have : zs.length * sz ≤ i * sz := Nat.mul_le_mul_right _ (by omega); omega
    rw [List.getElem?_append_right (by rw [flat_len]; exact h2), flat_len, e, flat_get (by omega) hj]
    simp [gL, List.getD_eq_getElem?_getD, List.getElem?_append_right (show zs.length ≤ i by omega)]
class PickRow {α : Type} (L : List Res) (a : Option Addr) (cap : Nat) (e sz : outParam Nat) (enc : outParam (α → Nat → Value)) (d : outParam α) (zs : outParam (List α)) (f : outParam (Res → List Res)) : Prop where
  pick : Pick L (rowL a cap e sz enc d zs) f
instance pickRow_head {α : Type} (L : List Res) (a : Option Addr) (cap e sz : Nat) (enc : α → Nat → Value) (d : α) (zs : List α) : PickRow (row a zs.length cap e sz (gL enc d zs) :: L) a cap e sz enc d zs (fun x => x :: L) := ⟨inferInstance⟩
instance pickRow_tail {α : Type} (x : Res) (L : List Res) (a : Option Addr) (cap e sz : Nat) (enc : α → Nat → Value) (d : α) (zs : List α) (f : Res → List Res) [h : PickRow L a cap e sz enc d zs f] : PickRow (x :: L) a cap e sz enc d zs (fun y => x :: f y) := ⟨@pick_tail x _ L f h.pick⟩
section
variable {S : Nat → Prop} {w₀ w w' : World} {L : List Res}
theorem Sat.nilRow (h : Sat S w₀ w L) {α : Type} (e sz : Nat) (enc : α → Nat → Value) (d : α) (h0 : 0 < sz) : Sat S w₀ w (rowL none 0 e sz enc d [] :: L) :=
  h.push (show RowOk w none _ 0 e sz _ from ⟨h0, .inl ⟨rfl, rfl, rfl⟩⟩) (fun x _ => .inr (fun k h _ => by obtain ⟨x, h, _⟩ := h; cases h)) (fun _ k h => by obtain ⟨x, h, _⟩ := h; cases h)
end
section
variable {S : Nat → Prop} {w₀ : World} {L : List Res}
variable {P : Program} {ops : Array Oper} {n : Nat} {rest : List Oper} {t : Tm} {w : World} {K : Tm → World → Prop} {d : Nat} {ty : TypeId} {pos : String} {af : Array Edge}
theorem grow_foot {w : World} {a a' : Option Addr} {len cap len' cap' : Nat} (hown : ∀ k, (Value.slice a' len' cap').ownBlock = some k → (Value.slice a len cap).ownBlock = some k ∨ w.heap.size ≤ k) :
    ∀ k, (∃ x, a' = some x ∧ x.block = k) → (∃ x, a = some x ∧ x.block = k) ∨ w.heap.size ≤ k := by
  rintro k ⟨x, rfl, rfl⟩
  rcases hown x.block rfl with h | h
  · left
    cases a with
    | none => cases h
    | some y => exact ⟨y, rfl, by simpa [Value.ownBlock] using h⟩
  · exact .inr h
/-- append(x, y...): a row of one's own, whatever slice. -/
theorem append_core (hS : Sat S w₀ w L) {T : TypeId} {α : Type} {e sz bytes : Nat} [hT : TySl P T e sz] [hE : TyEl P e sz bytes] {x y : Operand} {a a2 : Option Addr} {cap cap2 : Nat} {enc : α → Nat → Value} {dd : α} {zs ys : List α} {g2 : Nat → Nat → Value} {f : Res → List Res}
    (hx : ev t x = .slice a zs.length cap) (hy : ev t y = .slice a2 ys.length cap2) [hp : Pick L (rowL a cap e sz enc dd zs) f] (hs : SlOk w a2 ys.length cap2 sz (gL enc dd ys)) (hpl : ∀ z j, (enc z j).oneCell' = true) (hb : (zs.length + ys.length) * bytes ≤ 140737488355328) (hm : zs.length + ys.length ≤ 9223372036854775807) (hd : Nat.blt d n = true)
    (kk : ∀ a' cap' w', Sat S w₀ w' (f (rowL a' cap' e sz enc dd (zs ++ ys))) → RunL P ops n rest (upd t d (.slice a' (zs ++ ys).length cap')) w' K) : RunL P ops n (⟨some d, .call ⟨.builtin .append, #[x, y], #[T, T]⟩, ty, pos, af, none⟩ :: rest) t w K := by
  have hr : RowOk w a zs.length cap e sz (gL enc dd zs) := hS.holds (r := rowL a cap e sz enc dd zs)
  obtain ⟨i, z, hi, hz, hsz, hby, hzs⟩ := hE.ex
  have h0 : 0 < sz := hr.1
  have key : ∃ v' w', (Builtin.append_ #[T, T] ty #[.slice a zs.length cap, .slice a2 ys.length cap2]).run P w = .ok v' w' ∧ w'.ownsRow 0 e sz v' (zs.length + ys.length) (flat (gL enc dd zs) zs.length sz ++ flat (gL enc dd ys) ys.length sz) ∧ w.grownBy w' (Value.slice a zs.length cap).ownBlock ∧ (∀ k, v'.ownBlock = some k → (Value.slice a zs.length cap).ownBlock = some k ∨ w.heap.size ≤ k) := by
    cases a2 with
    | none =>
      have hc0 : cap2 = 0 := hs.2.2.2.1 rfl
      have hl0 : ys.length = 0 := by have := hs.2.1; omega
      rw [hl0, hc0]
      have hn : flat (gL enc dd ys) 0 sz = [] := by simp [flat]
      rw [hn, List.append_nil, Nat.add_zero]
      exact ⟨_, w, run_append_owned_none (P := P) (w := w) 0 T ty e i sz hT.eq hi (.slice a zs.length cap) zs.length _ hr.owns, hr.owns, ⟨rfl, rfl, rfl, Nat.le_refl _, fun _ _ _ => rfl⟩, fun k h => .inl h⟩
    | some p =>
      have hrow : Row w e sz (.slice a zs.length cap) (Value.slice a zs.length cap).ownBlock zs.length (flat (gL enc dd zs) zs.length sz) := ⟨hr.owns, rfl⟩
      have hpp : p.spot = none ∨ ys.length = 0 := by
        rcases hs.2.2.2.2 with h | ⟨b, off, h, _⟩
        · exact .inr h
        · cases h; exact .inl rfl
      have hnews : ∀ j u, (flat (gL enc dd ys) ys.length sz)[j]? = some u → w.cell? (p.add j) = some u := by
        rcases hs.2.2.2.2 with h | ⟨b, off, h, _⟩
        · intro j u hu; rw [h] at hu; simp [flat] at hu
        · cases h; exact hs.news
      obtain ⟨v', w', r', h1, h2, h3, h4⟩ := run_app_row (P := P) w T ty e i z sz bytes hT.eq hi hz hsz hby hzs h0 _ _ _ _ hrow p ys.length cap2 _ (flat_len _ _ _) hnews (fun u hu => by obtain ⟨i, j, rfl⟩ := flat_mem hu; exact hpl _ _) (by unfold maxLen; omega) hb
      refine ⟨v', w', h1, h2.1, h4, fun k hk => ?_⟩
      rw [h2.2] at hk
      rcases h3 with h3 | h3
      · exact .inl (h3 ▸ hk)
      · rw [h3] at hk; injection hk with hk; exact .inr (by omega)
  obtain ⟨v', w', h1, h2, h3, h4⟩ := key
  rw [gL_app, ← List.length_append] at h2
  obtain ⟨a', cap', rfl, hok⟩ := RowOk.of_owns h0 h2
  refine valL rfl rfl hd ?_ (kk a' cap' w' ?_)
  · rw [BigFrame.execOp_builtin, BigFrame.builtin_append]
    have : Array.map (ev t) #[x, y] = #[.slice a zs.length cap, .slice a2 ys.length cap2] := by simp [hx, hy]
    rw [this, Sem.run_bind, h1]
    rfl
  · refine hS.swap (r := rowL a cap e sz enc dd zs) rfl ?_ hok rfl (grow_foot h4)
    refine (Chg.refl _ w).grown h3 (fun k hk hkr => ?_)
    cases a with
    | none => cases hkr
    | some q => exact ⟨q, rfl, by simpa [Value.ownBlock] using hkr⟩
/-- A slice of a list. -/
class PickL {α : Type} (L : List Res) (a : Option Addr) (cap : Nat) (sz : outParam Nat) (enc : outParam (α → Nat → Value)) (dd : outParam α) (zs : outParam (List α)) : Prop where
  ok : ∀ w, (∀ r ∈ L, r.holds w) → SlOk w a zs.length cap sz (gL enc dd zs)
instance pickL_ro {α : Type} (L : List Res) (a : Option Addr) (cap sz : Nat) (enc : α → Nat → Value) (dd : α) (zs : List α) : PickL (slR a zs.length cap sz (gL enc dd zs) :: L) a cap sz enc dd zs := ⟨fun w h => h (slR a zs.length cap sz (gL enc dd zs)) (by simp)⟩
instance pickL_row {α : Type} (L : List Res) (a : Option Addr) (cap e sz : Nat) (enc : α → Nat → Value) (dd : α) (zs : List α) : PickL (row a zs.length cap e sz (gL enc dd zs) :: L) a cap sz enc dd zs := ⟨fun w h => (show RowOk w a zs.length cap e sz (gL enc dd zs) from h (row a zs.length cap e sz (gL enc dd zs)) (by simp)).sl⟩
instance pickL_tail {α : Type} (x : Res) (L : List Res) (a : Option Addr) (cap sz : Nat) (enc : α → Nat → Value) (dd : α) (zs : List α) [hp : PickL L a cap sz enc dd zs] : PickL (x :: L) a cap sz enc dd zs := ⟨fun w h => hp.ok w fun r hr => h r (by simp [hr])⟩
theorem append_l (hS : Sat S w₀ w L) {T : TypeId} {α : Type} {e sz bytes : Nat} [hT : TySl P T e sz] [hE : TyEl P e sz bytes] {x y : Operand} {a a2 : Option Addr} {cap cap2 : Nat} {enc : α → Nat → Value} {dd : α} {zs ys : List α} {f : Res → List Res} [hpl : Plain enc]
    (hx : ev t x = .slice a zs.length cap) (hy : ev t y = .slice a2 ys.length cap2) [hp : PickRow L a cap e sz enc dd zs f] [hs : PickL L a2 cap2 sz enc dd ys] (hb : (zs.length + ys.length) * bytes ≤ 140737488355328 ∧ zs.length + ys.length ≤ 9223372036854775807) (hd : Nat.blt d n = true)
    (kk : ∀ a' cap' w', Sat S w₀ w' (f (rowL a' cap' e sz enc dd (zs ++ ys))) → RunL P ops n rest (upd t d (.slice a' (zs ++ ys).length cap')) w' K) : RunL P ops n (⟨some d, .call ⟨.builtin .append, #[x, y], #[T, T]⟩, ty, pos, af, none⟩ :: rest) t w K :=
  append_core hS (g2 := fun _ _ => undef) hx hy (hp := hp.pick) (hs.ok w hS.all) hpl.one hb.1 hb.2 hd kk
/-- A row, by where it lies. -/
class PickR (L : List Res) (a : Option Addr) (len cap e sz : outParam Nat) (g : outParam (Nat → Nat → Value)) (f : outParam (Res → List Res)) : Prop where
  pick : Pick L (row a len cap e sz g) f
instance pickR_head (L : List Res) (a : Option Addr) (len cap e sz : Nat) (g : Nat → Nat → Value) : PickR (row a len cap e sz g :: L) a len cap e sz g (fun x => x :: L) := ⟨inferInstance⟩
instance pickR_tail (x : Res) (L : List Res) (a : Option Addr) (len cap e sz : Nat) (g : Nat → Nat → Value) (f : Res → List Res) [h : PickR L a len cap e sz g f] : PickR (x :: L) a len cap e sz g (fun y => x :: f y) := ⟨@pick_tail x _ L f h.pick⟩
/-- append(x, z), z in a row of its own. -/
theorem append1_l (hS : Sat S w₀ w L) {T : TypeId} {α : Type} {e sz bytes : Nat} [hT : TySl P T e sz] [hE : TyEl P e sz bytes] {x y : Operand} {a : Option Addr} {cap b c2 e2 : Nat} {enc : α → Nat → Value} {dd z : α} {zs : List α} {g : Nat → Nat → Value} {f f' : Res → List Res} [hpl : Plain enc]
    (hx : ev t x = .slice a zs.length cap) (hy : ev t y = .slice (some ⟨b, 0, none⟩) 1 1) [hp : PickRow L a cap e sz enc dd zs f] [hq : PickR L (some ⟨b, 0, none⟩) 1 c2 e2 sz g f'] (hz : ∀ j, j < sz → g 0 j = enc z j) (hb : (zs.length + 1) * bytes ≤ 140737488355328 ∧ zs.length + 1 ≤ 9223372036854775807) (hd : Nat.blt d n = true)
    (kk : ∀ a' cap' w', Sat S w₀ w' (f (rowL a' cap' e sz enc dd (zs ++ [z]))) → RunL P ops n rest (upd t d (.slice a' (zs ++ [z]).length cap')) w' K) : RunL P ops n (⟨some d, .call ⟨.builtin .append, #[x, y], #[T, T]⟩, ty, pos, af, none⟩ :: rest) t w K := by
  have := hq.pick
  have hs : SlOk w (some ⟨b, 0, none⟩) 1 c2 sz g := RowOk.sl (hS.holds (r := row (some ⟨b, 0, none⟩) 1 c2 e2 sz g))
  refine append_core hS (ys := [z]) (g2 := fun _ _ => undef) hx hy (hp := hp.pick) ?_ hpl.one hb.1 hb.2 hd kk
  have h2 := hs.congr (g' := gL enc dd [z]) (fun i hi j hj => by
    obtain rfl : i = 0 := by omega
    rw [hz j hj]; rfl)
  obtain ⟨h0, h1, h3, h4, h5⟩ := h2
  exact ⟨h0, Nat.le_refl _, by unfold maxLen; exact by decide, (fun h => by cases h), h5⟩
theorem append1_i (hS : Sat S w₀ w L) {T : TypeId} {e bytes : Nat} [hT : TySl P T e 1] [hE : TyEl P e 1 bytes] {x y : Operand} {a : Option Addr} {cap b c2 e2 : Nat} {dd z : Int} {zs : List Int} {g : Nat → Nat → Value} {f f' : Res → List Res}
    (hx : ev t x = .slice a zs.length cap) (hy : ev t y = .slice (some ⟨b, 0, none⟩) 1 1) [hp : PickRow L a cap e 1 encI dd zs f] [hq : PickR L (some ⟨b, 0, none⟩) 1 c2 e2 1 g f'] (hz : g 0 0 = .int .i64 z) (hb : (zs.length + 1) * bytes ≤ 140737488355328 ∧ zs.length + 1 ≤ 9223372036854775807) (hd : Nat.blt d n = true)
    (kk : ∀ a' cap' w', Sat S w₀ w' (f (rowL a' cap' e 1 encI dd (zs ++ [z]))) → RunL P ops n rest (upd t d (.slice a' (zs ++ [z]).length cap')) w' K) : RunL P ops n (⟨some d, .call ⟨.builtin .append, #[x, y], #[T, T]⟩, ty, pos, af, none⟩ :: rest) t w K :=
  append1_l hS hx hy (fun j hj => by obtain rfl : j = 0 := (by omega); exact hz) hb hd kk
theorem Sat.allocRow (h : Sat S w₀ w L) {l : List Value} {len sz e : Nat} {g : Nat → Nat → Value} (h0 : 0 < sz) (hl : l.length = len * sz) (hm : len ≤ maxLen) (hg : ∀ i, i < len → ∀ j, j < sz → l[i * sz + j]? = some (g i j)) :
    Sat S w₀ (w.alloc (.cells l.toArray e)) (row (some ⟨w.heap.size, 0, none⟩) len len e sz g :: L) :=
  h.fresh ((Below.refl _ w).alloc (Nat.le_refl _) _) ⟨h0, .inr ⟨w.heap.size, _, rfl, heap_alloc_new w _, Nat.le_refl _, hm, by simpa using hl, fun i hi j hj => by rw [List.getElem?_toArray]; exact hg i hi j hj⟩⟩ (fun k ⟨x, hx, hk⟩ => by cases hx; exact Nat.le_of_eq hk)
/-- A literal of one cell an element. -/
theorem fill_one (l : List Value) (h1 : ∀ v ∈ l, v.oneCell' = true) : ∀ (k : Nat) (cs : Array Value) (len : Nat), cs.size = len → k + l.length = len →
    Instr.fill (fun i => some (i * 1, 1)) cs ((List.range' k l.length).zip l) = some ((cs.toList.take k ++ l).toArray) := by
  induction l with
  | nil =>
    intro k cs len hc hk
    simp at hk
    subst hk
    simp only [List.length_nil, List.range'_zero, List.zip_nil_left, Instr.fill, List.append_nil]
    rw [List.take_of_length_le (by rw [Array.length_toList, hc]; exact Nat.le_refl _)]
  | cons v l ih =>
    intro k cs len hc hk
    have hv : v.cells = #[v] := by have := h1 v (by simp); cases v <;> first | rfl | cases this
    simp only [List.length_cons] at hk
    simp only [List.length_cons, List.range'_succ, List.zip_cons_cons, Instr.fill, hv]
    rw [if_neg (by simp; omega)]
    have e : (#[v].zipIdx.foldl (fun (cs : Array Value) (x : Value × Nat) => cs.setIfInBounds (k * 1 + x.2) x.1) cs) = cs.setIfInBounds k v := by
      rw [← Array.foldl_toList, Array.toList_zipIdx]; simp
    rw [e, ih (fun u hu => h1 u (by simp [hu])) (k + 1) (cs.setIfInBounds k v) len (by simp [hc]) (by omega)]
    congr 2
    have : k < cs.toList.length := by simp; omega
    rw [Array.toList_setIfInBounds, List.take_succ_eq_append_getElem (by simpa using this)]
    simp [List.take_set_of_le]
theorem buildSlice_l (hS : Sat S w₀ w L) {T : TypeId} {e : Nat} [hT : TySl P T e 1] {z : Value} [hz : TyZ P e z] {len : Nat} {parts : List (Nat × Operand)} {vs : List Value} (hv : parts.map (fun p => ev t p.2) = vs) (hi : parts.map (fun p => p.1) = List.range' 0 len) (h1 : vs.all (·.oneCell') = true) (hl : Nat.ble len 1000 = true) (hd : Nat.blt d n = true)
    (kk : ∀ b w', Sat S w₀ w' (row (some ⟨b, 0, none⟩) len len e 1 (fun i _ => vs.getD i undef) :: L) → RunL P ops n rest (upd t d (.slice (some ⟨b, 0, none⟩) len len)) w' K) : RunL P ops n (⟨some d, .buildSlice T len parts.toArray, ty, pos, af, none⟩ :: rest) t w K := by
  have hll : len ≤ 1000 := by simpa [Nat.ble_eq] using hl
  have hpl : parts.length = len := by have := congrArg List.length hi; simpa using this
  have hvl : vs.length = len := by rw [← hv, List.length_map, hpl]
  refine valL (w' := w.alloc (.cells vs.toArray e)) rfl rfl hd ?_ (kk w.heap.size _ (hS.allocRow (g := fun i _ => vs.getD i undef) Nat.one_pos (by rw [hvl, Nat.mul_one]) (by unfold maxLen; omega) (fun i hi j hj => by obtain rfl : j = 0 := (by omega); rw [Nat.mul_one, Nat.add_zero, List.getD_eq_getElem?_getD, List.getElem?_eq_getElem (by omega)]; rfl)))
  have hps : (parts.toArray.map fun (i, x) => (i, ev t x)).toList = (List.range' 0 vs.length).zip vs := by
    have hz2 : ∀ l : List (Nat × Operand), (l.map (fun p => p.1)).zip (l.map (fun p => ev t p.2)) = l.map (fun p => (p.1, ev t p.2)) := by
      intro l
      induction l with
      | nil => rfl
      | cons p l ih => simp [ih]
    rw [hvl, ← hi, ← hv, hz2]
    simp
  show Sem.run P (do pure (Next.value (← Instr.buildSlice T len (parts.toArray.map fun (i, x) => (i, ev t x))))) w = _
  have hf : ∀ cs : Array Value, cs.size = len → Instr.fill (fun i => some (i * 1, 1)) cs (parts.toArray.map fun (i, x) => (i, ev t x)).toList = some vs.toArray := by
    intro cs hc
    rw [hps, fill_one vs (fun v h => List.all_eq_true.1 h1 v h) 0 cs len hc (by omega)]
    simp
  have hlt : ¬ 2 ^ 24 < len := by omega
  have hf2 : ∀ cs : Array Value, cs.size = len → Instr.fill (fun i => some (i, 1)) cs (parts.map fun x => (x.fst, ev t x.snd)) = some vs.toArray := by
    intro cs hc
    have := hf cs hc
    simp at this
    simpa using this
  by_cases h0 : len = 0
  · subst h0
    have := hf2 #[] rfl
    simp only [Instr.buildSlice, Sem.run_bind, run_underlying hT.eq, Result.andThen_ok, hT.run, Nat.zero_mul]
    simp [Array.range_zero', newRow, newObj]
    rw [this]
    rfl
  · have := hf2 ((Array.range len).map fun x => z.cells[x % z.cells.size]!) (by simp)
    simp only [Instr.buildSlice, Sem.run_bind, run_underlying hT.eq, Result.andThen_ok, hT.run]
    simp [hlt, h0, hz.run, newRow, newObj]
    rw [this]
    rfl
end
end Go.Proofs.YtpiodhdbdlfnhaaGreatDoor
