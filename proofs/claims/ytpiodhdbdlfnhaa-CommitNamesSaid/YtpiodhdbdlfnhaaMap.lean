/- Maps from whole numbers: what lies there, and what the operations do. Over any program. Maps from whole numbers: the operations, for the engine. Over any program. A range over a map: its steps. Over any program. -/
import Derived.Test.YtpiodhdbdlfnhaaExch
import Derived.Maps.RangeRun
import Derived.MapKept
import Derived.Test.YtpiodhdbdlfnhaaMore
import Derived.Test.YtpiodhdbdlfnhaaRnd
namespace Go.Proofs.Ytpiodhdbdlfnhaa
open Go.RowKit Go.Lib Go.MapKept
open Go.ChangeMaps (setBlock)
set_option linter.unusedVariables false
section
variable {α : Type}
/-- The map of rising keys m lies at b. -/
def MapOk (w : World) (b : Nat) (enc : α → Value) (m : List (Int × α)) : Prop :=
  ∃ es clock, w.heap[b]? = some (.map es clock) ∧ Stamped es clock ∧ (∀ e ∈ es.toList, ∃ p ∈ m, e.key = .int .i64 p.1 ∧ e.val = enc p.2) ∧ (∀ p ∈ m, ∃ e ∈ es.toList, e.key = .int .i64 p.1) ∧ es.size = m.length ∧ m.Pairwise (fun p q => p.1 < q.1)
def mapR (b : Nat) (enc : α → Value) (m : List (Int × α)) : Res where
  foot k := k = b
  ro := false
  holds w := MapOk w b enc m
  lt w k h e := by
    obtain ⟨es, c, h1, _⟩ := h
    subst e
    exact (Array.getElem?_eq_some_iff.1 h1).1
  loc w w' h e := by
    obtain ⟨es, c, h1, h2⟩ := h
    exact ⟨es, c, (e b rfl).trans h1, h2⟩
def getM (m : List (Int × α)) (k : Int) : Option α := (m.find? fun p => p.1 == k).map (·.2)
def putM : List (Int × α) → Int → α → List (Int × α)
  | [], k, x => [(k, x)]
  | p :: r, k, x => if k < p.1 then (k, x) :: p :: r else if k = p.1 then (k, x) :: r else p :: putM r k x
def delM (m : List (Int × α)) (k : Int) : List (Int × α) := m.filter fun p => decide (p.1 ≠ k)
theorem getM_some {m : List (Int × α)} (hs : m.Pairwise (fun p q => p.1 < q.1)) {k : Int} {x : α} : getM m k = some x ↔ (k, x) ∈ m := by
  unfold getM
  induction m with
  | nil => simp
  | cons p r ih =>
    obtain ⟨h1, h2⟩ := List.pairwise_cons.1 hs
    rw [List.find?_cons]
    by_cases e : p.1 = k
    · rw [show (p.1 == k) = true from by simp [e]]
      subst e
      simp only [Option.map_some, Option.some.injEq, List.mem_cons]
      constructor
      · intro e; subst e; exact .inl rfl
      · rintro (e | e)
        · rw [← e]
        · have := h1 _ e; simp at this
    · rw [show (p.1 == k) = false from by simp [e]]
      simp only
      rw [ih h2, List.mem_cons]
      constructor
      · exact .inr
      · rintro (h | h)
        · exact absurd (by rw [← h]) e
        · exact h
theorem getM_none {m : List (Int × α)} {k : Int} : getM m k = none ↔ ∀ p ∈ m, p.1 ≠ k := by
  unfold getM
  rw [Option.map_eq_none_iff, List.find?_eq_none]
  simp
theorem mem_putM {m : List (Int × α)} (hs : m.Pairwise (fun p q => p.1 < q.1)) {k : Int} {x : α} {p : Int × α} : p ∈ putM m k x ↔ p = (k, x) ∨ (p ∈ m ∧ p.1 ≠ k) := by
  induction m with
  | nil => simp [putM]
  | cons q r ih =>
    obtain ⟨h1, h2⟩ := List.pairwise_cons.1 hs
    unfold putM
    by_cases a : k < q.1
    · rw [if_pos a]
      simp only [List.mem_cons]
      constructor
      · rintro (h | h | h)
        · exact .inl h
        · subst h; exact .inr ⟨.inl rfl, by omega⟩
        · have := h1 _ h; exact .inr ⟨.inr h, by omega⟩
      · rintro (h | ⟨h, _⟩)
        · exact .inl h
        · exact .inr h
    · rw [if_neg a]
      by_cases b : k = q.1
      · rw [if_pos b]
        simp only [List.mem_cons]
        constructor
        · rintro (h | h)
          · exact .inl h
          · have := h1 _ h; exact .inr ⟨.inr h, by omega⟩
        · rintro (h | ⟨h | h, h3⟩)
          · exact .inl h
          · subst h; exact absurd b.symm h3
          · exact .inr h
      · rw [if_neg b]
        simp only [List.mem_cons, ih h2]
        constructor
        · rintro (h | h | ⟨h, h3⟩)
          · subst h; exact .inr ⟨.inl rfl, fun e => b e.symm⟩
          · exact .inl h
          · exact .inr ⟨.inr h, h3⟩
        · rintro (h | ⟨h | h, h3⟩)
          · exact .inr (.inl h)
          · exact .inl h
          · exact .inr (.inr ⟨h, h3⟩)
theorem putM_sorted {m : List (Int × α)} (hs : m.Pairwise (fun p q => p.1 < q.1)) (k : Int) (x : α) : (putM m k x).Pairwise (fun p q => p.1 < q.1) := by
  induction m with
  | nil => simp [putM]
  | cons q r ih =>
    have hs0 := hs
    obtain ⟨h1, h2⟩ := List.pairwise_cons.1 hs
    unfold putM
    by_cases a : k < q.1
    · rw [if_pos a]
      refine .cons (fun p hp => ?_) hs0
      rcases List.mem_cons.1 hp with rfl | hp
      · exact a
      · have := h1 _ hp; show k < p.1; omega
    · rw [if_neg a]
      by_cases b : k = q.1
      · rw [if_pos b]
        exact .cons (fun p hp => by have := h1 _ hp; show k < p.1; omega) h2
      · rw [if_neg b]
        refine .cons (fun p hp => ?_) (ih h2)
        rcases (mem_putM h2).1 hp with rfl | ⟨hp, _⟩
        · show q.1 < k; omega
        · exact h1 _ hp
theorem getM_put {m : List (Int × α)} (hs : m.Pairwise (fun p q => p.1 < q.1)) (k : Int) (x : α) (i : Int) : getM (putM m k x) i = if i = k then some x else getM m i := by
  by_cases e : i = k
  · subst e
    rw [if_pos rfl, getM_some (putM_sorted hs _ _), mem_putM hs]
    exact .inl rfl
  · rw [if_neg e]
    cases h : getM m i with
    | none =>
      rw [getM_none] at h ⊢
      intro p hp
      rcases (mem_putM hs).1 hp with rfl | ⟨hp, _⟩
      · exact fun x => e x.symm
      · exact h p hp
    | some y =>
      rw [getM_some hs] at h
      rw [getM_some (putM_sorted hs _ _), mem_putM hs]
      exact .inr ⟨h, e⟩
theorem delM_sorted {m : List (Int × α)} (hs : m.Pairwise (fun p q => p.1 < q.1)) (k : Int) : (delM m k).Pairwise (fun p q => p.1 < q.1) := List.Pairwise.filter _ hs
theorem getM_del {m : List (Int × α)} (hs : m.Pairwise (fun p q => p.1 < q.1)) (k i : Int) : getM (delM m k) i = if i = k then none else getM m i := by
  by_cases e : i = k
  · subst e
    rw [if_pos rfl, getM_none]
    intro p hp
    have := (List.mem_filter.1 hp).2
    simpa using this
  · rw [if_neg e]
    cases h : getM m i with
    | none =>
      rw [getM_none] at h ⊢
      exact fun p hp => h p (List.mem_filter.1 hp).1
    | some y =>
      rw [getM_some hs] at h
      rw [getM_some (delM_sorted hs k)]
      exact List.mem_filter.2 ⟨h, by simpa using e⟩
theorem MapOk.keys {w : World} {b : Nat} {enc : α → Value} {m : List (Int × α)} {es : Array MapEntry} (h : ∀ e ∈ es.toList, ∃ p ∈ m, e.key = .int .i64 p.1 ∧ e.val = enc p.2) : ∀ x ∈ es.toList, IsKey (.int .i64) x.key := fun x hx => by
  obtain ⟨p, _, e, _⟩ := h x hx
  rw [e]
  rfl
theorem putM_len_none {m : List (Int × α)} {k : Int} {x : α} (h : getM m k = none) : (putM m k x).length = m.length + 1 := by
  rw [getM_none] at h
  induction m with
  | nil => rfl
  | cons q r ih =>
    unfold putM
    split
    · rfl
    · rw [if_neg (fun e => h q (by simp) e.symm)]
      simp [ih (fun p hp => h p (by simp [hp]))]
theorem putM_len_some {m : List (Int × α)} (hs : m.Pairwise (fun p q => p.1 < q.1)) {k : Int} {x y : α} (h : getM m k = some y) : (putM m k x).length = m.length := by
  rw [getM_some hs] at h
  induction m with
  | nil => cases h
  | cons q r ih =>
    obtain ⟨h1, h2⟩ := List.pairwise_cons.1 hs
    unfold putM
    rcases List.mem_cons.1 h with e | h
    · subst e
      rw [if_neg (by show ¬ k < k; omega), if_pos rfl]
      rfl
    · have := h1 _ h
      rw [if_neg (by have : q.1 < k := this; omega), if_neg (by have : q.1 < k := this; omega)]
      simp [ih h2 h]
theorem delM_len {m : List (Int × α)} (hs : m.Pairwise (fun p q => p.1 < q.1)) {k : Int} {y : α} (h : getM m k = some y) : (delM m k).length = m.length - 1 := by
  rw [getM_some hs] at h
  unfold delM
  induction m with
  | nil => cases h
  | cons q r ih =>
    obtain ⟨h1, h2⟩ := List.pairwise_cons.1 hs
    rcases List.mem_cons.1 h with e | h
    · subst e
      rw [List.filter_cons, if_neg (by simp), List.filter_eq_self.2 (fun p hp => by have : k < p.1 := h1 p hp; simp; omega)]
      simp
    · have hlt : q.1 < k := h1 _ h
      rw [List.filter_cons, if_pos (by simp; omega), List.length_cons, ih h2 h]
      have : 0 < r.length := List.length_pos_iff.2 (fun e => by subst e; cases h)
      simp
      omega
/-- Where a key is found, or not. -/
theorem map_find {b : Nat} {enc : α → Value} {m : List (Int × α)} {es : Array MapEntry} (h1 : ∀ e ∈ es.toList, ∃ p ∈ m, e.key = .int .i64 p.1 ∧ e.val = enc p.2) (h2 : ∀ p ∈ m, ∃ e ∈ es.toList, e.key = .int .i64 p.1) (hs : m.Pairwise (fun p q => p.1 < q.1)) (k : Int) :
    (getM m k = none ∧ Instr.findNow (.int .i64) (.int .i64 k) es.toList 0 = some none ∧ ∀ x ∈ es.toList, x.key ≠ .int .i64 k) ∨
    ∃ x j e, getM m k = some x ∧ Instr.findNow (.int .i64) (.int .i64 k) es.toList 0 = some (some (j, e.val)) ∧ es.toList[j]? = some e ∧ e.key = .int .i64 k ∧ e.val = enc x := by
  rcases findNow_spec (d := .int .i64) (k := .int .i64 k) rfl es.toList 0 (MapOk.keys (w := default) (b := b) h1) with ⟨g1, g2⟩ | ⟨j, e, g1, g2, g3⟩
  · refine .inl ⟨getM_none.2 fun p hp => ?_, g1, g2⟩
    obtain ⟨e, he, hk⟩ := h2 p hp
    intro x
    exact g2 e he (by rw [hk, x])
  · obtain ⟨p, hp, hk, hv⟩ := h1 e (List.mem_of_getElem? g2)
    have ek : p.1 = k := by rw [g3] at hk; injection hk with _ e; exact e.symm
    refine .inr ⟨p.2, j, e, (getM_some hs).2 (by rw [← ek]; exact hp), by rw [g1, Nat.zero_add], g2, g3, hv⟩
theorem chg_setBlock {w : World} {b : Nat} {o : Obj} : Chg (fun k => k = b) w (setBlock w b o) :=
  ⟨rfl, rfl, rfl, by simp [setBlock], fun k hk hn => by simp [setBlock, Ne.symm hn]⟩
theorem setBlock_get {w : World} {b : Nat} {o o' : Obj} (hb : w.heap[b]? = some o) : (setBlock w b o').heap[b]? = some o' := by
  have hlt : b < w.heap.size := (Array.getElem?_eq_some_iff.1 hb).1
  simp [setBlock, hlt]
section
variable {P : Program} {w : World} {T e : TypeId} {b : Nat} {enc : α → Value} {m : List (Int × α)}
/-- m[k]. -/
theorem run_lookup [hT : TyMapI P T e] {z : Value} [hz : TyZ P e z] (h : MapOk w b enc m) (k : Int) (c : Bool) :
    (Instr.lookup T (.map (some b)) (.int .i64 k) c).run P w = .ok (bif c then .tuple #[((getM m k).map enc).getD z, .bool (getM m k).isSome] else ((getM m k).map enc).getD z) w := by
  obtain ⟨kt, t1, t2⟩ := hT.ex
  obtain ⟨es, clock, h0, h1, h2, h3, h4, h5⟩ := h
  have hk : IsKey (.int .i64) (.int .i64 k) := rfl
  rcases map_find (b := b) h2 h3 h5 k with ⟨g1, g2, _⟩ | ⟨x, j, ee, g1, g2, g3, g4, g5⟩
  · rw [g1]
    cases c <;> simp [Instr.lookup, run_underlying t1, MapKept.run_getObj_map h0, MapKept.run_checkKey t2 hk, MapKept.run_findKey t2 g2, Result.andThen, hz.run]
  · rw [g1]
    cases c <;> simp [Instr.lookup, run_underlying t1, MapKept.run_getObj_map h0, MapKept.run_checkKey t2 hk, MapKept.run_findKey t2 g2, Result.andThen, g5]
theorem run_lookup_nil [hT : TyMapI P T e] {z : Value} [hz : TyZ P e z] (k : Int) (c : Bool) :
    (Instr.lookup T (.map none) (.int .i64 k) c).run P w = .ok (bif c then .tuple #[z, .bool false] else z) w := by
  obtain ⟨kt, t1, t2⟩ := hT.ex
  have hk : IsKey (.int .i64) (.int .i64 k) := rfl
  have hf : Instr.findNow (.int .i64) (.int .i64 k) [] 0 = some none := rfl
  cases c <;> simp [Instr.lookup, run_underlying t1, MapKept.run_checkKey t2 hk, MapKept.run_findKey t2 hf, Result.andThen, hz.run]
theorem run_mapLen [hT : TyMapI P T e] (h : MapOk w b enc m) (ty : TypeId) : (Builtin.len_ #[T] ty #[.map (some b)]).run P w = .ok (.int .i64 m.length) w := by
  obtain ⟨kt, t1, t2⟩ := hT.ex
  obtain ⟨es, clock, h0, h1, h2, h3, h4, h5⟩ := h
  simp [Builtin.len_, run_underlying t1, MapKept.run_getObj_map h0, Result.andThen, goInt, h4]
/-- m[k] = x. -/
theorem run_mapPut [hT : TyMapI P T e] (h : MapOk w b enc m) (k : Int) (x : α) :
    ∃ w', (Instr.mapUpdate T (.map (some b)) (.int .i64 k) (enc x)).run P w = .ok () w' ∧ MapOk w' b enc (putM m k x) ∧ Chg (fun k => k = b) w w' := by
  obtain ⟨kt, t1, t2⟩ := hT.ex
  obtain ⟨es, clock, h0, ⟨h1a, h1b, h1c⟩, h2, h3, h4, h5⟩ := h
  have hk : IsKey (.int .i64) (.int .i64 k) := rfl
  rcases map_find (b := b) h2 h3 h5 k with ⟨g1, g2, g3⟩ | ⟨y, j, ee, g1, g2, g3, g4, g5⟩
  · refine ⟨setBlock w b (.map (es.push { key := .int .i64 k, val := enc x, born := clock }) (clock + 1)), ?_, ⟨_, _, setBlock_get h0, ⟨?_, ?_, ?_⟩, ?_, ?_, ?_, putM_sorted h5 k x⟩, chg_setBlock⟩
    · simp [Instr.mapUpdate, run_underlying t1, MapKept.run_getObj_map h0, MapKept.run_checkKey t2 hk, MapKept.run_findKey t2 g2, MapKept.run_setObj_map _ h0, Result.andThen, Go.ChangeMaps.setBlock]
    · intro z hz
      simp only [Array.toList_push, List.mem_append, List.mem_singleton] at hz
      rcases hz with hz | rfl
      · have := h1a z hz; omega
      · show clock < clock + 1; omega
    · rw [Array.toList_push, List.map_append, List.nodup_append]
      refine ⟨h1b, by simp, ?_⟩
      intro a ha c hc
      simp only [List.map_cons, List.map_nil, List.mem_singleton] at hc
      obtain ⟨z, hz, rfl⟩ := List.mem_map.1 ha
      have := h1a z hz
      rw [hc]
      show z.born ≠ clock
      omega
    · rw [Array.toList_push, List.map_append, List.nodup_append]
      refine ⟨h1c, by simp, ?_⟩
      intro a ha c hc
      simp only [List.map_cons, List.map_nil, List.mem_singleton] at hc
      obtain ⟨z, hz, rfl⟩ := List.mem_map.1 ha
      rw [hc]
      exact g3 z hz
    · intro z hz
      simp only [Array.toList_push, List.mem_append, List.mem_singleton] at hz
      rcases hz with hz | rfl
      · obtain ⟨p, hp, q1, q2⟩ := h2 z hz
        exact ⟨p, (mem_putM h5).2 (.inr ⟨hp, fun e => g3 z hz (by rw [q1, e])⟩), q1, q2⟩
      · exact ⟨(k, x), (mem_putM h5).2 (.inl rfl), rfl, rfl⟩
    · intro p hp
      rcases (mem_putM h5).1 hp with rfl | ⟨hp, _⟩
      · exact ⟨_, by rw [Array.toList_push]; exact List.mem_append_right _ (List.mem_singleton.2 rfl), rfl⟩
      · obtain ⟨z, hz, q⟩ := h3 p hp
        exact ⟨z, by rw [Array.toList_push]; exact List.mem_append_left _ hz, q⟩
    · rw [Array.size_push, h4, putM_len_none g1]
  · have hj : j < es.size := by
      have := (List.getElem?_eq_some_iff.1 g3).1
      simpa using this
    have hje : es[j]? = some ee := by rw [← Array.getElem?_toList]; exact g3
    have hl : (es.modify j fun e => { e with key := .int .i64 k, val := enc x }).toList = es.toList.modify j fun e => { e with key := .int .i64 k, val := enc x } := by simp
    have hmem : ∀ z, z ∈ (es.modify j fun e => { e with key := .int .i64 k, val := enc x }).toList → (z = { ee with key := .int .i64 k, val := enc x } ∨ (z ∈ es.toList ∧ z.key ≠ .int .i64 k)) := by
      intro z hz
      rw [hl] at hz
      obtain ⟨i, hi⟩ := List.mem_iff_getElem?.1 hz
      rw [List.getElem?_modify] at hi
      by_cases e : j = i
      · subst e
        rw [g3] at hi
        simp at hi
        exact .inl hi.symm
      · simp [e] at hi
        rw [← Array.getElem?_toList] at hi
        refine .inr ⟨List.mem_of_getElem? hi, fun hk2 => ?_⟩
        have := List.pairwise_iff_getElem.1 (List.nodup_iff_pairwise_ne.1 h1c)
        obtain ⟨hi1, hi2⟩ := List.getElem?_eq_some_iff.1 hi
        obtain ⟨hj1, hj2⟩ := List.getElem?_eq_some_iff.1 g3
        rcases Nat.lt_or_gt_of_ne e with hlt | hlt
        · exact this j i (by simpa using hj1) (by simpa using hi1) hlt (by simp [hi2, hj2, hk2, g4])
        · exact this i j (by simpa using hi1) (by simpa using hj1) hlt (by simp [hi2, hj2, hk2, g4])
    have hback : ∀ z ∈ es.toList, z.key ≠ .int .i64 k → z ∈ (es.modify j fun e => { e with key := .int .i64 k, val := enc x }).toList := by
      intro z hz hk2
      rw [hl]
      obtain ⟨i, hi⟩ := List.mem_iff_getElem?.1 hz
      refine List.mem_iff_getElem?.2 ⟨i, ?_⟩
      rw [List.getElem?_modify]
      by_cases e : j = i
      · subst e
        rw [g3] at hi
        injection hi with hi
        subst hi
        exact absurd g4 hk2
      · simp [e, hi]
    have hnew : { ee with key := .int .i64 k, val := enc x } ∈ (es.modify j fun e => { e with key := .int .i64 k, val := enc x }).toList := by
      rw [hl]
      refine List.mem_iff_getElem?.2 ⟨j, ?_⟩
      rw [List.getElem?_modify, g3]
      simp
    have hborn : (es.modify j fun e => { e with key := .int .i64 k, val := enc x }).toList.map (·.born) = es.toList.map (·.born) := by
      rw [hl]
      apply List.ext_getElem?
      intro i
      rw [List.getElem?_map, List.getElem?_map, List.getElem?_modify]
      by_cases e : j = i
      · subst e; rw [g3]; simp
      · simp [e]
    have hkeys : (es.modify j fun e => { e with key := .int .i64 k, val := enc x }).toList.map (·.key) = es.toList.map (·.key) := by
      rw [hl]
      apply List.ext_getElem?
      intro i
      rw [List.getElem?_map, List.getElem?_map, List.getElem?_modify]
      by_cases e : j = i
      · subst e; rw [g3]; simp [g4]
      · simp [e]
    refine ⟨setBlock w b (.map (es.modify j fun e => { e with key := .int .i64 k, val := enc x }) clock), ?_, ⟨_, _, setBlock_get h0, ⟨?_, by rw [hborn]; exact h1b, by rw [hkeys]; exact h1c⟩, ?_, ?_, ?_, putM_sorted h5 k x⟩, chg_setBlock⟩
    · simp [Instr.mapUpdate, run_underlying t1, MapKept.run_getObj_map h0, MapKept.run_checkKey t2 hk, MapKept.run_findKey t2 g2, hje, g4, MapKept.run_keyThatStays hk, MapKept.run_setObj_map _ h0, Result.andThen, Go.ChangeMaps.setBlock]
    · intro z hz
      rcases hmem z hz with rfl | ⟨hz, _⟩
      · exact h1a ee (List.mem_of_getElem? g3)
      · exact h1a z hz
    · intro z hz
      rcases hmem z hz with rfl | ⟨hz, hk2⟩
      · exact ⟨(k, x), (mem_putM h5).2 (.inl rfl), rfl, rfl⟩
      · obtain ⟨p, hp, q1, q2⟩ := h2 z hz
        exact ⟨p, (mem_putM h5).2 (.inr ⟨hp, fun e => hk2 (by rw [q1, e])⟩), q1, q2⟩
    · intro p hp
      rcases (mem_putM h5).1 hp with rfl | ⟨hp, hk2⟩
      · exact ⟨_, hnew, rfl⟩
      · obtain ⟨z, hz, q⟩ := h3 p hp
        exact ⟨z, hback z hz (by rw [q]; intro e; injection e with _ e; exact hk2 e), q⟩
    · rw [Array.size_modify, h4, putM_len_some h5 g1]
/-- delete(m, k). -/
theorem run_mapDel [hT : TyMapI P T e] (h : MapOk w b enc m) (k : Int) (kt ty : TypeId) :
    ∃ w', (Builtin.delete_ #[T, kt] ty #[.map (some b), .int .i64 k]).run P w = .ok (.tuple #[]) w' ∧ MapOk w' b enc (delM m k) ∧ Chg (fun k => k = b) w w' := by
  obtain ⟨kt2, t1, t2⟩ := hT.ex
  obtain ⟨es, clock, h0, ⟨h1a, h1b, h1c⟩, h2, h3, h4, h5⟩ := h
  have hk : IsKey (.int .i64) (.int .i64 k) := rfl
  rcases map_find (b := b) h2 h3 h5 k with ⟨g1, g2, g3⟩ | ⟨y, j, ee, g1, g2, g3, g4, g5⟩
  · refine ⟨setBlock w b (.map es clock), ?_, ?_, chg_setBlock⟩
    · simp [Builtin.delete_, run_underlying t1, MapKept.run_getObj_map h0, MapKept.run_checkKey t2 hk, MapKept.run_findKey t2 g2, MapKept.run_setObj_map _ h0, Result.andThen, Go.ChangeMaps.setBlock]
    · have e : delM m k = m := List.filter_eq_self.2 fun p hp => by simpa using getM_none.1 g1 p hp
      rw [e]
      exact ⟨es, clock, setBlock_get h0, ⟨h1a, h1b, h1c⟩, h2, h3, h4, h5⟩
  · obtain ⟨hj1, hj2⟩ := List.getElem?_eq_some_iff.1 g3
    have hl : (es.eraseIdxIfInBounds j).toList = es.toList.eraseIdx j := by simp
    have hsub : (es.eraseIdxIfInBounds j).toList.Sublist es.toList := by rw [hl]; exact List.eraseIdx_sublist _ _
    have hpw := List.pairwise_iff_getElem.1 (List.nodup_iff_pairwise_ne.1 h1c)
    have hmem : ∀ z, z ∈ (es.eraseIdxIfInBounds j).toList → z.key ≠ .int .i64 k := by
      intro z hz hk2
      rw [hl] at hz
      obtain ⟨i, hi⟩ := List.mem_iff_getElem?.1 hz
      rw [List.getElem?_eraseIdx] at hi
      split at hi
      · rename_i hlt
        obtain ⟨hi1, hi2⟩ := List.getElem?_eq_some_iff.1 hi
        exact hpw i j (by simpa using hi1) (by simpa using hj1) hlt (by simp [hi2, hj2, hk2, g4])
      · rename_i hlt
        obtain ⟨hi1, hi2⟩ := List.getElem?_eq_some_iff.1 hi
        exact hpw j (i + 1) (by simpa using hj1) (by simpa using hi1) (by omega) (by simp [hi2, hj2, hk2, g4])
    have hback : ∀ z ∈ es.toList, z.key ≠ .int .i64 k → z ∈ (es.eraseIdxIfInBounds j).toList := by
      intro z hz hk2
      rw [hl]
      obtain ⟨i, hi⟩ := List.mem_iff_getElem?.1 hz
      refine List.mem_eraseIdx_iff_getElem?.2 ⟨i, fun e => ?_, hi⟩
      subst e
      rw [g3] at hi
      injection hi with hi
      subst hi
      exact hk2 g4
    refine ⟨setBlock w b (.map (es.eraseIdxIfInBounds j) clock), ?_, ⟨_, _, setBlock_get h0, ⟨fun z hz => h1a z (hsub.subset hz), h1b.sublist (hsub.map _), h1c.sublist (hsub.map _)⟩, ?_, ?_, ?_, delM_sorted h5 k⟩, chg_setBlock⟩
    · simp [Builtin.delete_, run_underlying t1, MapKept.run_getObj_map h0, MapKept.run_checkKey t2 hk, MapKept.run_findKey t2 g2, MapKept.run_setObj_map _ h0, Result.andThen, Go.ChangeMaps.setBlock]
    · intro z hz
      obtain ⟨p, hp, q1, q2⟩ := h2 z (hsub.subset hz)
      refine ⟨p, List.mem_filter.2 ⟨hp, ?_⟩, q1, q2⟩
      have := hmem z hz
      simp only [ne_eq, decide_not, Bool.not_eq_eq_eq_not, Bool.not_true, decide_eq_false_iff_not]
      exact fun e => this (by rw [q1, e])
    · intro p hp
      obtain ⟨hp, hk2⟩ := List.mem_filter.1 hp
      obtain ⟨z, hz, q⟩ := h3 p hp
      refine ⟨z, hback z hz ?_, q⟩
      rw [q]
      intro e
      injection e with _ e
      simp at hk2
      exact hk2 e
    · have e1 : (es.eraseIdxIfInBounds j).size = es.size - 1 := by
        rw [← Array.length_toList, hl, List.length_eraseIdx]
        simp [show j < es.size by simpa using hj1]
      rw [e1, h4, delM_len h5 g1]
end
end
end Go.Proofs.Ytpiodhdbdlfnhaa
namespace Go.Proofs.Ytpiodhdbdlfnhaa
open Go.RowKit Go.Lib
set_option linter.unusedVariables false
class PickM (L : List Res) (b : Nat) (α : outParam Type) (enc : outParam (α → Value)) (m : outParam (List (Int × α))) : Prop where
  ok : ∀ w, (∀ r ∈ L, r.holds w) → MapOk w b enc m
instance pickM_map {α : Type} (b : Nat) (enc : α → Value) (m : List (Int × α)) (L : List Res) : PickM (mapR b enc m :: L) b α enc m := ⟨fun w h => h (mapR b enc m) (by simp)⟩
instance pickM_ro {α : Type} (b : Nat) (enc : α → Value) (m : List (Int × α)) (L : List Res) : PickM (roR (mapR b enc m) :: L) b α enc m := ⟨fun w h => h (roR (mapR b enc m)) (by simp)⟩
instance pickM_tail {α : Type} (x : Res) (b : Nat) (enc : α → Value) (m : List (Int × α)) (L : List Res) [hp : PickM L b α enc m] : PickM (x :: L) b α enc m := ⟨fun w h => hp.ok w fun r hr => h r (by simp [hr])⟩
class PickMap (L : List Res) (b : Nat) (α : outParam Type) (enc : outParam (α → Value)) (m : outParam (List (Int × α))) (g : outParam (Res → List Res)) : Prop where
  pick : Pick L (mapR b enc m) g
instance pickMap_head {α : Type} (b : Nat) (enc : α → Value) (m : List (Int × α)) (L : List Res) : PickMap (mapR b enc m :: L) b α enc m (fun x => x :: L) := ⟨inferInstance⟩
instance pickMap_tail {α : Type} (x : Res) (b : Nat) (enc : α → Value) (m : List (Int × α)) (L : List Res) (g : Res → List Res) [h : PickMap L b α enc m g] : PickMap (x :: L) b α enc m (fun y => x :: g y) := ⟨@pick_tail x _ L g h.pick⟩
section
variable {S : Nat → Prop} {w₀ : World} {L : List Res}
variable {P : Program} {ops : Array Oper} {n f : Nat} {rest : List Oper} {t : Tm} {w : World} {K : Tm → World → Prop} {KQ : Tm → Prop} {d : Nat} {ty : TypeId} {pos : String} {af : Array Edge} {α : Type} {enc : α → Value} {m : List (Int × α)} {b : Nat} {T e : TypeId}

theorem lookup_l (hS : Sat S w₀ w L) {x y : Operand} {z : Value} {k : Int} (hx : ev t x = .map (some b)) [hp : PickM L b α enc m] [hT : TyMapI P T e] [hz : TyZ P e z] (hy : ev t y = .int .i64 k) {v : Value} (hv : ((getM m k).map enc).getD z = v) (hd : Nat.blt d n = true) (kk : RunL P ops n rest (upd t d (v)) w K) : RunL P ops n (⟨some d, .lookup T x y false, ty, pos, af, none⟩ :: rest) t w K :=
  valL rfl rfl hd (by show Sem.run P (do pure (Next.value (← Instr.lookup T (ev t x) (ev t y) false))) w = _; rw [hx, hy, Sem.run_bind, run_lookup (hp.ok w hS.all) k false, ← hv]; rfl) kk
theorem lookup_x {x y : Operand} {z : Value} {k : Int} (hx : ev t x = .map (some b)) [hp : PickM L b α enc m] [hT : TyMapI P T e] [hz : TyZ P e z] (hy : ev t y = .int .i64 k) {v : Value} (hv : ((getM m k).map enc).getD z = v) (hd : Nat.blt d n = true) (kk : KQ (upd t d (v))) : QX P ops n S w₀ L ⟨some d, .lookup T x y false, ty, pos, af, none⟩ t KQ :=
  valX rfl rfl hd (fun w hS => by show Sem.run P (do pure (Next.value (← Instr.lookup T (ev t x) (ev t y) false))) w = _; rw [hx, hy, Sem.run_bind, run_lookup (hp.ok w hS.all) k false, ← hv]; rfl) kk
theorem lookup_q {x y : Operand} {z : Value} {k : Int} (hx : ev t x = .map (some b)) [hp : PickM L b α enc m] [hT : TyMapI P T e] [hz : TyZ P e z] (hy : ev t y = .int .i64 k) {v : Value} (hv : ((getM m k).map enc).getD z = v) (hd : Nat.blt d n = true) (kk : QL P ops n S w₀ L rest (upd t d (v)) KQ) : QL P ops n S w₀ L (⟨some d, .lookup T x y false, ty, pos, af, none⟩ :: rest) t KQ :=
  valQ rfl rfl hd (fun w hS => by show Sem.run P (do pure (Next.value (← Instr.lookup T (ev t x) (ev t y) false))) w = _; rw [hx, hy, Sem.run_bind, run_lookup (hp.ok w hS.all) k false, ← hv]; rfl) kk
theorem lookupOk_l (hS : Sat S w₀ w L) {x y : Operand} {z : Value} {k : Int} (hx : ev t x = .map (some b)) [hp : PickM L b α enc m] [hT : TyMapI P T e] [hz : TyZ P e z] (hy : ev t y = .int .i64 k) {v : Value} (hv : ((getM m k).map enc).getD z = v) {ok : Bool} (hk : (getM m k).isSome = ok) (hd : Nat.blt d n = true) (kk : RunL P ops n rest (upd t d (.tuple #[v, .bool ok])) w K) : RunL P ops n (⟨some d, .lookup T x y true, ty, pos, af, none⟩ :: rest) t w K :=
  valL rfl rfl hd (by show Sem.run P (do pure (Next.value (← Instr.lookup T (ev t x) (ev t y) true))) w = _; rw [hx, hy, Sem.run_bind, run_lookup (hp.ok w hS.all) k true, ← hv, ← hk]; rfl) kk
theorem lookupOk_x {x y : Operand} {z : Value} {k : Int} (hx : ev t x = .map (some b)) [hp : PickM L b α enc m] [hT : TyMapI P T e] [hz : TyZ P e z] (hy : ev t y = .int .i64 k) {v : Value} (hv : ((getM m k).map enc).getD z = v) {ok : Bool} (hk : (getM m k).isSome = ok) (hd : Nat.blt d n = true) (kk : KQ (upd t d (.tuple #[v, .bool ok]))) : QX P ops n S w₀ L ⟨some d, .lookup T x y true, ty, pos, af, none⟩ t KQ :=
  valX rfl rfl hd (fun w hS => by show Sem.run P (do pure (Next.value (← Instr.lookup T (ev t x) (ev t y) true))) w = _; rw [hx, hy, Sem.run_bind, run_lookup (hp.ok w hS.all) k true, ← hv, ← hk]; rfl) kk
theorem lookupOk_q {x y : Operand} {z : Value} {k : Int} (hx : ev t x = .map (some b)) [hp : PickM L b α enc m] [hT : TyMapI P T e] [hz : TyZ P e z] (hy : ev t y = .int .i64 k) {v : Value} (hv : ((getM m k).map enc).getD z = v) {ok : Bool} (hk : (getM m k).isSome = ok) (hd : Nat.blt d n = true) (kk : QL P ops n S w₀ L rest (upd t d (.tuple #[v, .bool ok])) KQ) : QL P ops n S w₀ L (⟨some d, .lookup T x y true, ty, pos, af, none⟩ :: rest) t KQ :=
  valQ rfl rfl hd (fun w hS => by show Sem.run P (do pure (Next.value (← Instr.lookup T (ev t x) (ev t y) true))) w = _; rw [hx, hy, Sem.run_bind, run_lookup (hp.ok w hS.all) k true, ← hv, ← hk]; rfl) kk
theorem lookupN_l (hS : Sat S w₀ w L) {x y : Operand} {z : Value} {k : Int} (hx : ev t x = .map none) [hT : TyMapI P T e] [hz : TyZ P e z] (hy : ev t y = .int .i64 k) (hd : Nat.blt d n = true) (kk : RunL P ops n rest (upd t d (z)) w K) : RunL P ops n (⟨some d, .lookup T x y false, ty, pos, af, none⟩ :: rest) t w K :=
  valL rfl rfl hd (by show Sem.run P (do pure (Next.value (← Instr.lookup T (ev t x) (ev t y) false))) w = _; rw [hx, hy, Sem.run_bind, run_lookup_nil (T := T) (e := e) (z := z) k false]; rfl) kk
theorem lookupN_x {x y : Operand} {z : Value} {k : Int} (hx : ev t x = .map none) [hT : TyMapI P T e] [hz : TyZ P e z] (hy : ev t y = .int .i64 k) (hd : Nat.blt d n = true) (kk : KQ (upd t d (z))) : QX P ops n S w₀ L ⟨some d, .lookup T x y false, ty, pos, af, none⟩ t KQ :=
  valX rfl rfl hd (fun w hS => by show Sem.run P (do pure (Next.value (← Instr.lookup T (ev t x) (ev t y) false))) w = _; rw [hx, hy, Sem.run_bind, run_lookup_nil (T := T) (e := e) (z := z) k false]; rfl) kk
theorem lookupN_q {x y : Operand} {z : Value} {k : Int} (hx : ev t x = .map none) [hT : TyMapI P T e] [hz : TyZ P e z] (hy : ev t y = .int .i64 k) (hd : Nat.blt d n = true) (kk : QL P ops n S w₀ L rest (upd t d (z)) KQ) : QL P ops n S w₀ L (⟨some d, .lookup T x y false, ty, pos, af, none⟩ :: rest) t KQ :=
  valQ rfl rfl hd (fun w hS => by show Sem.run P (do pure (Next.value (← Instr.lookup T (ev t x) (ev t y) false))) w = _; rw [hx, hy, Sem.run_bind, run_lookup_nil (T := T) (e := e) (z := z) k false]; rfl) kk
theorem lookupOkN_l (hS : Sat S w₀ w L) {x y : Operand} {z : Value} {k : Int} (hx : ev t x = .map none) [hT : TyMapI P T e] [hz : TyZ P e z] (hy : ev t y = .int .i64 k) (hd : Nat.blt d n = true) (kk : RunL P ops n rest (upd t d (.tuple #[z, .bool false])) w K) : RunL P ops n (⟨some d, .lookup T x y true, ty, pos, af, none⟩ :: rest) t w K :=
  valL rfl rfl hd (by show Sem.run P (do pure (Next.value (← Instr.lookup T (ev t x) (ev t y) true))) w = _; rw [hx, hy, Sem.run_bind, run_lookup_nil (T := T) (e := e) (z := z) k true]; rfl) kk
theorem lookupOkN_x {x y : Operand} {z : Value} {k : Int} (hx : ev t x = .map none) [hT : TyMapI P T e] [hz : TyZ P e z] (hy : ev t y = .int .i64 k) (hd : Nat.blt d n = true) (kk : KQ (upd t d (.tuple #[z, .bool false]))) : QX P ops n S w₀ L ⟨some d, .lookup T x y true, ty, pos, af, none⟩ t KQ :=
  valX rfl rfl hd (fun w hS => by show Sem.run P (do pure (Next.value (← Instr.lookup T (ev t x) (ev t y) true))) w = _; rw [hx, hy, Sem.run_bind, run_lookup_nil (T := T) (e := e) (z := z) k true]; rfl) kk
theorem lookupOkN_q {x y : Operand} {z : Value} {k : Int} (hx : ev t x = .map none) [hT : TyMapI P T e] [hz : TyZ P e z] (hy : ev t y = .int .i64 k) (hd : Nat.blt d n = true) (kk : QL P ops n S w₀ L rest (upd t d (.tuple #[z, .bool false])) KQ) : QL P ops n S w₀ L (⟨some d, .lookup T x y true, ty, pos, af, none⟩ :: rest) t KQ :=
  valQ rfl rfl hd (fun w hS => by show Sem.run P (do pure (Next.value (← Instr.lookup T (ev t x) (ev t y) true))) w = _; rw [hx, hy, Sem.run_bind, run_lookup_nil (T := T) (e := e) (z := z) k true]; rfl) kk
theorem lenM_l (hS : Sat S w₀ w L) {x : Operand} (hx : ev t x = .map (some b)) [hp : PickM L b α enc m] [hT : TyMapI P T e] (hd : Nat.blt d n = true) (kk : RunL P ops n rest (upd t d (.int .i64 (m.length : Nat))) w K) : RunL P ops n (⟨some d, .call ⟨.builtin .len, #[x], #[T]⟩, ty, pos, af, none⟩ :: rest) t w K :=
  valL rfl rfl hd (by rw [BigFrame.execOp_builtin, show Array.map (ev t) #[x] = #[.map (some b)] from by simp [hx], BigFrame.builtin_len, Sem.run_bind, run_mapLen (hp.ok w hS.all) ty]; rfl) kk
theorem lenM_x {x : Operand} (hx : ev t x = .map (some b)) [hp : PickM L b α enc m] [hT : TyMapI P T e] (hd : Nat.blt d n = true) (kk : KQ (upd t d (.int .i64 (m.length : Nat)))) : QX P ops n S w₀ L ⟨some d, .call ⟨.builtin .len, #[x], #[T]⟩, ty, pos, af, none⟩ t KQ :=
  valX rfl rfl hd (fun w hS => by rw [BigFrame.execOp_builtin, show Array.map (ev t) #[x] = #[.map (some b)] from by simp [hx], BigFrame.builtin_len, Sem.run_bind, run_mapLen (hp.ok w hS.all) ty]; rfl) kk
theorem lenM_q {x : Operand} (hx : ev t x = .map (some b)) [hp : PickM L b α enc m] [hT : TyMapI P T e] (hd : Nat.blt d n = true) (kk : QL P ops n S w₀ L rest (upd t d (.int .i64 (m.length : Nat))) KQ) : QL P ops n S w₀ L (⟨some d, .call ⟨.builtin .len, #[x], #[T]⟩, ty, pos, af, none⟩ :: rest) t KQ :=
  valQ rfl rfl hd (fun w hS => by rw [BigFrame.execOp_builtin, show Array.map (ev t) #[x] = #[.map (some b)] from by simp [hx], BigFrame.builtin_len, Sem.run_bind, run_mapLen (hp.ok w hS.all) ty]; rfl) kk
theorem eqlM_l (hS : Sat S w₀ w L) {x y : Operand} {T' : TypeId} {mm : Option Nat} [hT : TyMapI P T e] (hx : ev t x = .map mm) (hy : ev t y = .map none) (hd : Nat.blt d n = true) (kk : RunL P ops n rest (upd t d (.bool (mm.isNone))) w K) : RunL P ops n (⟨some d, .binOp .eql T x y T', ty, pos, af, none⟩ :: rest) t w K :=
  valL rfl rfl hd (by obtain ⟨kt, t1, _⟩ := hT.ex; show Sem.run P (do let u ← (do eqGuard .eql T x y (ev t x) (ev t y); binOp .eql T (ev t x) (ev t y)); pure (Next.value u)) w = _; rw [hx, hy, eqGuard_at_map]; show Sem.run P (do let u ← binOp .eql T (.map mm) (.map none); pure (Next.value u)) w = _; simp only [Sem.run_bind, run_eql_map_nil w T kt e mm t1, Result.andThen_ok, Sem.run_pure]) kk
theorem eqlM_x {x y : Operand} {T' : TypeId} {mm : Option Nat} [hT : TyMapI P T e] (hx : ev t x = .map mm) (hy : ev t y = .map none) (hd : Nat.blt d n = true) (kk : KQ (upd t d (.bool (mm.isNone)))) : QX P ops n S w₀ L ⟨some d, .binOp .eql T x y T', ty, pos, af, none⟩ t KQ :=
  valX rfl rfl hd (fun w hS => by obtain ⟨kt, t1, _⟩ := hT.ex; show Sem.run P (do let u ← (do eqGuard .eql T x y (ev t x) (ev t y); binOp .eql T (ev t x) (ev t y)); pure (Next.value u)) w = _; rw [hx, hy, eqGuard_at_map]; show Sem.run P (do let u ← binOp .eql T (.map mm) (.map none); pure (Next.value u)) w = _; simp only [Sem.run_bind, run_eql_map_nil w T kt e mm t1, Result.andThen_ok, Sem.run_pure]) kk
theorem eqlM_q {x y : Operand} {T' : TypeId} {mm : Option Nat} [hT : TyMapI P T e] (hx : ev t x = .map mm) (hy : ev t y = .map none) (hd : Nat.blt d n = true) (kk : QL P ops n S w₀ L rest (upd t d (.bool (mm.isNone))) KQ) : QL P ops n S w₀ L (⟨some d, .binOp .eql T x y T', ty, pos, af, none⟩ :: rest) t KQ :=
  valQ rfl rfl hd (fun w hS => by obtain ⟨kt, t1, _⟩ := hT.ex; show Sem.run P (do let u ← (do eqGuard .eql T x y (ev t x) (ev t y); binOp .eql T (ev t x) (ev t y)); pure (Next.value u)) w = _; rw [hx, hy, eqGuard_at_map]; show Sem.run P (do let u ← binOp .eql T (.map mm) (.map none); pure (Next.value u)) w = _; simp only [Sem.run_bind, run_eql_map_nil w T kt e mm t1, Result.andThen_ok, Sem.run_pure]) kk
theorem neqM_l (hS : Sat S w₀ w L) {x y : Operand} {T' : TypeId} {mm : Option Nat} [hT : TyMapI P T e] (hx : ev t x = .map mm) (hy : ev t y = .map none) (hd : Nat.blt d n = true) (kk : RunL P ops n rest (upd t d (.bool (!mm.isNone))) w K) : RunL P ops n (⟨some d, .binOp .neq T x y T', ty, pos, af, none⟩ :: rest) t w K :=
  valL rfl rfl hd (by obtain ⟨kt, t1, _⟩ := hT.ex; show Sem.run P (do let u ← (do eqGuard .neq T x y (ev t x) (ev t y); binOp .neq T (ev t x) (ev t y)); pure (Next.value u)) w = _; rw [hx, hy, eqGuard_at_map]; show Sem.run P (do let u ← binOp .neq T (.map mm) (.map none); pure (Next.value u)) w = _; simp only [Sem.run_bind, run_neq_map_nil w T kt e mm t1, Result.andThen_ok, Sem.run_pure]) kk
theorem neqM_x {x y : Operand} {T' : TypeId} {mm : Option Nat} [hT : TyMapI P T e] (hx : ev t x = .map mm) (hy : ev t y = .map none) (hd : Nat.blt d n = true) (kk : KQ (upd t d (.bool (!mm.isNone)))) : QX P ops n S w₀ L ⟨some d, .binOp .neq T x y T', ty, pos, af, none⟩ t KQ :=
  valX rfl rfl hd (fun w hS => by obtain ⟨kt, t1, _⟩ := hT.ex; show Sem.run P (do let u ← (do eqGuard .neq T x y (ev t x) (ev t y); binOp .neq T (ev t x) (ev t y)); pure (Next.value u)) w = _; rw [hx, hy, eqGuard_at_map]; show Sem.run P (do let u ← binOp .neq T (.map mm) (.map none); pure (Next.value u)) w = _; simp only [Sem.run_bind, run_neq_map_nil w T kt e mm t1, Result.andThen_ok, Sem.run_pure]) kk
theorem neqM_q {x y : Operand} {T' : TypeId} {mm : Option Nat} [hT : TyMapI P T e] (hx : ev t x = .map mm) (hy : ev t y = .map none) (hd : Nat.blt d n = true) (kk : QL P ops n S w₀ L rest (upd t d (.bool (!mm.isNone))) KQ) : QL P ops n S w₀ L (⟨some d, .binOp .neq T x y T', ty, pos, af, none⟩ :: rest) t KQ :=
  valQ rfl rfl hd (fun w hS => by obtain ⟨kt, t1, _⟩ := hT.ex; show Sem.run P (do let u ← (do eqGuard .neq T x y (ev t x) (ev t y); binOp .neq T (ev t x) (ev t y)); pure (Next.value u)) w = _; rw [hx, hy, eqGuard_at_map]; show Sem.run P (do let u ← binOp .neq T (.map mm) (.map none); pure (Next.value u)) w = _; simp only [Sem.run_bind, run_neq_map_nil w T kt e mm t1, Result.andThen_ok, Sem.run_pure]) kk
theorem dropL {o : Oper} {v : Value} {w' : World} (hg : o.guard = none) (hdst : o.dst = none) (hr : (execOp (ev t) o).run P w = .ok (.value v) w') (k : RunL P ops n rest t w' K) : RunL P ops n (o :: rest) t w K := by
  unfold RunL at k ⊢
  intro Q hQ a ha
  refine wpList_plain hg fun K' hK => ?_
  unfold Oper.wp
  rw [ha.eval, hr, Oper.upon_value, hdst]
  exact hK _ _ (k Q hQ _ ha)
/-- m[k] = v. -/
theorem mapPut_l (hS : Sat S w₀ w L) {x y z : Operand} {k : Int} {a : α} {g : Res → List Res} (hx : ev t x = .map (some b)) [hp : PickMap L b α enc m g] [hT : TyMapI P T e] (hy : ev t y = .int .i64 k) (hz : ev t z = enc a)
    (kk : ∀ w', Sat S w₀ w' (g (mapR b enc (putM m k a))) → RunL P ops n rest t w' K) : RunL P ops n (⟨none, .mapUpdate T x y z, ty, pos, af, none⟩ :: rest) t w K := by
  have hpick := hp.pick
  have hb : (mapR b enc m).holds w := hS.holds
  obtain ⟨w', h1, h2, h3⟩ := run_mapPut (P := P) (T := T) (e := e) (show MapOk w b enc m from hb) k a
  refine skipL rfl rfl ?_ (kk w' (hS.swap (r := mapR b enc m) (r' := mapR b enc (putM m k a)) rfl h3 h2 rfl (fun k e => .inl e)))
  show Sem.run P (do let u ← Instr.mapUpdate T (ev t x) (ev t y) (ev t z); pure Next.skip) w = _
  rw [hx, hy, hz, Sem.run_bind, h1]
  rfl
/-- delete(m, k). -/
theorem mapDel_l (hS : Sat S w₀ w L) {x y : Operand} {k : Int} {kt : TypeId} {g : Res → List Res} (hx : ev t x = .map (some b)) [hp : PickMap L b α enc m g] [hT : TyMapI P T e] (hy : ev t y = .int .i64 k)
    (kk : ∀ w', Sat S w₀ w' (g (mapR b enc (delM m k))) → RunL P ops n rest t w' K) : RunL P ops n (⟨none, .call ⟨.builtin .delete, #[x, y], #[T, kt]⟩, ty, pos, af, none⟩ :: rest) t w K := by
  have hpick := hp.pick
  have hb : (mapR b enc m).holds w := hS.holds
  obtain ⟨w', h1, h2, h3⟩ := run_mapDel (P := P) (T := T) (e := e) (show MapOk w b enc m from hb) k kt ty
  refine dropL (v := .tuple #[]) rfl rfl ?_ (kk w' (hS.swap (r := mapR b enc m) (r' := mapR b enc (delM m k)) rfl h3 h2 rfl (fun k e => .inl e)))
  rw [BigFrame.execOp_builtin, show Array.map (ev t) #[x, y] = #[.map (some b), .int .i64 k] from by simp [hx, hy], BigFrame.builtin_delete, Sem.run_bind, h1]
  rfl
/-- A new map. -/
theorem makeMap_l (hS : Sat S w₀ w L) {α : Type} (enc : α → Value) (hd : Nat.blt d n = true) (kk : ∀ b w', Sat S w₀ w' (mapR b enc [] :: L) → RunL P ops n rest (upd t d (.map (some b))) w' K) : RunL P ops n (⟨some d, .makeMap T none, ty, pos, af, none⟩ :: rest) t w K := by
  have hm : MapOk (w.alloc (.map #[] 0)) w.heap.size enc [] := ⟨#[], 0, heap_alloc_new w _, ⟨by simp, by simp, by simp⟩, by simp, by simp, rfl, .nil⟩
  refine valL (w' := w.alloc (.map #[] 0)) rfl rfl hd ?_ (kk w.heap.size _ (hS.fresh (r := mapR w.heap.size enc []) ((Below.refl _ w).alloc (Nat.le_refl _) _) hm (fun k e => by cases e; exact Nat.le_refl _)))
  show Sem.run P (do pure (Next.value (← Instr.makeMap T none))) w = _
  simp [Instr.makeMap, newObj, Sem.run, World.alloc_eq]
end
end Go.Proofs.Ytpiodhdbdlfnhaa
namespace Go.Proofs.Ytpiodhdbdlfnhaa
open Go.RowKit Go.Lib Go.MapKept
open Go.ChangeMaps (setBlock)
set_option linter.unusedVariables false
section
variable {α : Type}
/-- The entries of the map m. -/
structure EntOk (enc : α → Value) (m : List (Int × α)) (es : Array MapEntry) (clock : Nat) : Prop where
  st : Stamped es clock
  sub : ∀ e ∈ es.toList, ∃ p ∈ m, e.key = .int .i64 p.1 ∧ e.val = enc p.2
  sup : ∀ p ∈ m, ∃ e ∈ es.toList, e.key = .int .i64 p.1
  size : es.size = m.length
  sorted : m.Pairwise (fun p q => p.1 < q.1)
theorem MapOk.ents {w : World} {b : Nat} {enc : α → Value} {m : List (Int × α)} (h : MapOk w b enc m) : ∃ es clock, w.heap[b]? = some (.map es clock) ∧ EntOk enc m es clock := by
  obtain ⟨es, clock, h0, h1, h2, h3, h4, h5⟩ := h
  exact ⟨es, clock, h0, h1, h2, h3, h4, h5⟩
theorem EntOk.map {w : World} {b : Nat} {enc : α → Value} {m : List (Int × α)} {es : Array MapEntry} {clock : Nat} (h : EntOk enc m es clock) (hw : w.heap[b]? = some (.map es clock)) : MapOk w b enc m :=
  ⟨es, clock, hw, h.st, h.sub, h.sup, h.size, h.sorted⟩
/-- What has come so far: pre; what is left: post. -/
structure WkOk (enc : α → Value) (m : List (Int × α)) (es : Array MapEntry) (clock : Nat) (seen : Array Nat) (pre post : List (Int × α)) : Prop where
  ent : EntOk enc m es clock
  perm : (pre ++ post).Perm m
  len : seen.size = pre.length
  at_ : ∀ (i : Nat) (p : Int × α), pre[i]? = some p → ∃ e ∈ es.toList, e.key = .int .i64 p.1 ∧ seen[i]? = some e.born
theorem WkOk.start {enc : α → Value} {m : List (Int × α)} {es : Array MapEntry} {clock : Nat} (h : EntOk enc m es clock) : WkOk enc m es clock #[] [] m := ⟨h, .refl _, rfl, fun i p h => by simp at h⟩
theorem EntOk.born_eq {enc : α → Value} {m : List (Int × α)} {es : Array MapEntry} {clock : Nat} (h : EntOk enc m es clock) {e e' : MapEntry} (he : e ∈ es.toList) (he' : e' ∈ es.toList) (hb : e.born = e'.born) : e = e' := by
  have hn := h.st.2.1
  have := List.pairwise_iff_getElem.1 (List.nodup_iff_pairwise_ne.1 hn)
  obtain ⟨i, hi, rfl⟩ := List.getElem_of_mem he
  obtain ⟨j, hj, rfl⟩ := List.getElem_of_mem he'
  rcases Nat.lt_trichotomy i j with h1 | h1 | h1
  · exact absurd (by rw [List.getElem_map, List.getElem_map]; exact hb) (this i j (by simpa using hi) (by simpa using hj) h1)
  · subst h1; rfl
  · exact absurd (by rw [List.getElem_map, List.getElem_map]; exact hb.symm) (this j i (by simpa using hj) (by simpa using hi) h1)
theorem EntOk.key_eq {enc : α → Value} {m : List (Int × α)} {es : Array MapEntry} {clock : Nat} (h : EntOk enc m es clock) {e e' : MapEntry} (he : e ∈ es.toList) (he' : e' ∈ es.toList) (hb : e.key = e'.key) : e = e' := by
  have hn := h.st.2.2
  have := List.pairwise_iff_getElem.1 (List.nodup_iff_pairwise_ne.1 hn)
  obtain ⟨i, hi, rfl⟩ := List.getElem_of_mem he
  obtain ⟨j, hj, rfl⟩ := List.getElem_of_mem he'
  rcases Nat.lt_trichotomy i j with h1 | h1 | h1
  · exact absurd (by rw [List.getElem_map, List.getElem_map]; exact hb) (this i j (by simpa using hi) (by simpa using hj) h1)
  · subst h1; rfl
  · exact absurd (by rw [List.getElem_map, List.getElem_map]; exact hb.symm) (this j i (by simpa using hj) (by simpa using hi) h1)
theorem sorted_key {m : List (Int × α)} (hs : m.Pairwise (fun p q => p.1 < q.1)) {p q : Int × α} (hp : p ∈ m) (hq : q ∈ m) (e : p.1 = q.1) : p = q := by
  have h1 := (getM_some hs (k := p.1) (x := p.2)).2 hp
  have h2 := (getM_some hs (k := q.1) (x := q.2)).2 hq
  rw [e, h2] at h1
  injection h1 with h1
  exact Prod.ext e h1.symm
theorem WkOk.done {enc : α → Value} {m : List (Int × α)} {es : Array MapEntry} {clock : Nat} {seen : Array Nat} {pre post : List (Int × α)} (h : WkOk enc m es clock seen pre post) (h0 : (leftOf es seen).size = 0) : post = [] := by
  cases post with
  | nil => rfl
  | cons p post =>
    exfalso
    have hpm : p ∈ m := h.perm.mem_iff.1 (by simp)
    obtain ⟨e, he, hk⟩ := h.ent.sup p hpm
    have hseen : e.born ∈ seen.toList := by
      apply Classical.byContradiction
      intro hn
      have : e ∈ (leftOf es seen).toList := by
        unfold leftOf
        simp only [Array.toList_filter, List.mem_filter]
        exact ⟨he, by simpa using hn⟩
      have h1 : (leftOf es seen) = #[] := Array.eq_empty_of_size_eq_zero h0
      rw [h1] at this
      simp at this
    obtain ⟨i, hi⟩ := List.mem_iff_getElem?.1 hseen
    have hlt : i < pre.length := by
      have := (List.getElem?_eq_some_iff.1 hi).1
      rw [← h.len]; simpa using this
    obtain ⟨e', he', hk', hs'⟩ := h.at_ i pre[i] (List.getElem?_eq_getElem hlt)
    rw [Array.getElem?_toList] at hi
    rw [hi] at hs'
    injection hs' with hb
    have := h.ent.born_eq he he' hb
    subst this
    have hkk : p.1 = (pre[i]).1 := by rw [hk] at hk'; injection hk'
    have hpi : pre[i] ∈ m := h.perm.mem_iff.1 (List.mem_append_left _ (List.getElem_mem hlt))
    have hpe := sorted_key h.ent.sorted hpm hpi hkk
    have hnd : (pre ++ p :: post).Nodup := h.perm.nodup_iff.2 (h.ent.sorted.imp fun hlt e => by subst e; omega)
    have := (List.nodup_append.1 hnd).2.2 pre[i] (List.getElem_mem hlt) p (by simp)
    exact this hpe.symm
theorem WkOk.next {enc : α → Value} {m : List (Int × α)} {es : Array MapEntry} {clock : Nat} {seen : Array Nat} {pre post : List (Int × α)} (h : WkOk enc m es clock seen pre post) {e : MapEntry} (he : e ∈ (leftOf es seen).toList) :
    ∃ p post', e.key = .int .i64 p.1 ∧ e.val = enc p.2 ∧ WkOk enc m es clock (seen.push e.born) (pre ++ [p]) post' := by
  unfold leftOf at he
  simp only [Array.toList_filter, List.mem_filter] at he
  obtain ⟨he, hns⟩ := he
  have hns : e.born ∉ seen.toList := by simpa using hns
  obtain ⟨p, hp, hk, hv⟩ := h.ent.sub e he
  have hpp : p ∈ pre ++ post := h.perm.mem_iff.2 hp
  have hnp : p ∉ pre := fun hin => by
    obtain ⟨i, hi⟩ := List.mem_iff_getElem?.1 hin
    obtain ⟨e', he', hk', hs'⟩ := h.at_ i p hi
    have := h.ent.key_eq he he' (by rw [hk, hk'])
    subst this
    exact hns (List.mem_iff_getElem?.2 ⟨i, by rw [Array.getElem?_toList]; exact hs'⟩)
  have hpo : p ∈ post := by
    rcases List.mem_append.1 hpp with h | h
    · exact absurd h hnp
    · exact h
  obtain ⟨A, B, rfl⟩ := List.append_of_mem hpo
  refine ⟨p, A ++ B, hk, hv, h.ent, ?_, by rw [Array.size_push, List.length_append, h.len]; rfl, fun i q hq => ?_⟩
  · refine List.Perm.trans ?_ h.perm
    rw [List.append_assoc]
    exact List.Perm.append_left pre (List.perm_middle (a := p) (l₁ := A) (l₂ := B)).symm
  · by_cases hi : i < pre.length
    · rw [List.getElem?_append_left hi] at hq
      obtain ⟨e', he', hk', hs'⟩ := h.at_ i q hq
      exact ⟨e', he', hk', by rw [Array.getElem?_push, if_neg (by rw [h.len]; omega)]; exact hs'⟩
    · rw [List.getElem?_append_right (by omega)] at hq
      have hil : i = pre.length := by
        have := (List.getElem?_eq_some_iff.1 hq).1
        simp at this
        omega
      subst hil
      simp at hq
      subst hq
      exact ⟨e, he, hk, by rw [Array.getElem?_push, if_pos h.len.symm]⟩
end
/-! The walk's block, and the map's. -/
def mapE (b : Nat) (es : Array MapEntry) (clock : Nat) : Res := objR b (.map es clock)
def wkR (r b clock : Nat) (seen : Array Nat) : Res := objR r (.mapIter (some b) clock seen clock)
class PickME (L : List Res) (b : Nat) (es : outParam (Array MapEntry)) (clock : outParam Nat) : Prop where
  ok : ∀ w, (∀ r ∈ L, r.holds w) → w.heap[b]? = some (.map es clock)
instance pickME_own (b : Nat) (es : Array MapEntry) (clock : Nat) (L : List Res) : PickME (mapE b es clock :: L) b es clock := ⟨fun w h => h (mapE b es clock) (by simp)⟩
instance pickME_ro (b : Nat) (es : Array MapEntry) (clock : Nat) (L : List Res) : PickME (roR (mapE b es clock) :: L) b es clock := ⟨fun w h => h (roR (mapE b es clock)) (by simp)⟩
instance pickME_tail (x : Res) (b : Nat) (es : Array MapEntry) (clock : Nat) (L : List Res) [hp : PickME L b es clock] : PickME (x :: L) b es clock := ⟨fun w h => hp.ok w fun r hr => h r (by simp [hr])⟩
class PickW (L : List Res) (r : Nat) (b clock : outParam Nat) (seen : outParam (Array Nat)) (f : outParam (Res → List Res)) : Prop where
  pick : Pick L (wkR r b clock seen) f
instance pickW_head (r b clock : Nat) (seen : Array Nat) (L : List Res) : PickW (wkR r b clock seen :: L) r b clock seen (fun x => x :: L) := ⟨inferInstance⟩
instance pickW_tail (x : Res) (r b clock : Nat) (seen : Array Nat) (L : List Res) (f : Res → List Res) [h : PickW L r b clock seen f] : PickW (x :: L) r b clock seen (fun y => x :: f y) := ⟨@pick_tail x _ L f h.pick⟩
section
variable {S : Nat → Prop} {w₀ : World} {L : List Res}
variable {P : Program} {ops : Array Oper} {n : Nat} {rest : List Oper} {t : Tm} {w : World} {K : Tm → World → Prop} {d : Nat} {ty : TypeId} {pos : String} {af : Array Edge} {T e : TypeId}
/-- A map that is read, its entries named. -/
theorem Sat.mapEnts {α : Type} {b : Nat} {enc : α → Value} {m : List (Int × α)} {f : Res → List Res} (h : Sat S w₀ w L) [hp : Pick L (roR (mapR b enc m)) f] : ∃ es clock, EntOk enc m es clock ∧ Sat S w₀ w (f (roR (mapE b es clock))) := by
  have hm : MapOk w b enc m := (show (roR (mapR b enc m)).holds w from h.holds (r := roR (mapR b enc m)))
  obtain ⟨es, clock, h1, h2⟩ := hm.ents
  exact ⟨es, clock, h2, h.turn (r := roR (mapR b enc m)) (r' := roR (mapE b es clock)) h1 rfl (fun k e => e)⟩
theorem Sat.mapEntsO {α : Type} {b : Nat} {enc : α → Value} {m : List (Int × α)} {f : Res → List Res} (h : Sat S w₀ w L) [hp : Pick L (mapR b enc m) f] : ∃ es clock, EntOk enc m es clock ∧ Sat S w₀ w (f (mapE b es clock)) := by
  have hm : MapOk w b enc m := (show (mapR b enc m).holds w from h.holds (r := mapR b enc m))
  obtain ⟨es, clock, h1, h2⟩ := hm.ents
  exact ⟨es, clock, h2, h.turn (r := mapR b enc m) (r' := mapE b es clock) h1 rfl (fun k e => e)⟩
theorem range_l (hS : Sat S w₀ w L) {x : Operand} {b clock : Nat} {es : Array MapEntry} (hx : ev t x = .map (some b)) [hp : PickME L b es clock] [hT : TyMapI P T e] (hd : Nat.blt d n = true)
    (kk : ∀ r w', Sat S w₀ w' (wkR r b clock #[] :: L) → RunL P ops n rest (upd t d (.pointer (some ⟨r, 0, none⟩))) w' K) : RunL P ops n (⟨some d, .range T x, ty, pos, af, none⟩ :: rest) t w K := by
  obtain ⟨kt, t1, t2⟩ := hT.ex
  have hm := hp.ok w hS.all
  refine valL (w' := w.alloc (.mapIter (some b) clock #[] clock)) rfl rfl hd ?_ (kk w.heap.size _ (hS.allocObj (.mapIter (some b) clock #[] clock)))
  show Sem.run P (do pure (Next.value (← Instr.range T (ev t x)))) w = _
  rw [hx]
  simp [Instr.range, run_underlying t1, MapKept.run_getObj_map hm, Result.andThen, newObj, Sem.run, World.alloc_eq]
theorem next_l {α : Type} {enc : α → Value} {m : List (Int × α)} {es : Array MapEntry} {clock b r : Nat} {seen : Array Nat} {pre post : List (Int × α)} {f : Res → List Res} (hS : Sat S w₀ w L) {x : Operand} (hx : ev t x = .pointer (some ⟨r, 0, none⟩)) [hw : PickW L r b clock seen f] [hp : PickME L b es clock] (hk : WkOk enc m es clock seen pre post) (hd : Nat.blt d n = true)
    (k0 : post = [] → RunL P ops n rest (upd t d (.tuple #[.bool false])) w K)
    (k1 : ∀ p post' seen' w', WkOk enc m es clock seen' (pre ++ [p]) post' → Sat S w₀ w' (f (wkR r b clock seen')) → RunL P ops n rest (upd t d (.tuple #[.bool true, .int .i64 p.1, enc p.2])) w' K) : RunL P ops n (⟨some d, .next x false, ty, pos, af, none⟩ :: rest) t w K := by
  have hpick := hw.pick
  have h1 : w.heap[r]? = some (.mapIter (some b) clock seen clock) := hS.holds (r := wkR r b clock seen)
  have h2 := hp.ok w hS.all
  rcases run_next_at (P := P) w ty r b clock clock seen es clock h1 h2 (fun x hx => hk.ent.st.1 x hx) (Nat.le_refl _) with ⟨g1, g2⟩ | ⟨e, he, w1, hal, g2⟩
  · refine valL rfl rfl hd ?_ (k0 (hk.done g1))
    show Sem.run P (do pure (Next.value (← Instr.next (ev t x) false ty))) w = _
    rw [hx, Sem.run_bind, g2]
    rfl
  · obtain ⟨p, post', e1, e2, e3⟩ := hk.next he
    have hS1 : Sat S w₀ w1 L := by
      rcases hal with rfl | rfl
      · exact hS
      · exact hS.below ⟨rfl, rfl, rfl, Nat.le_refl _, fun _ _ => rfl⟩
    have hS2 := hS1.putObj (k := r) (hp := hpick) (.mapIter (some b) clock (seen.push e.born) clock)
    refine valL rfl rfl hd ?_ (k1 p post' _ _ e3 hS2)
    show Sem.run P (do pure (Next.value (← Instr.next (ev t x) false ty))) w = _
    rw [hx, Sem.run_bind, g2, e1, e2]
    rfl
theorem entry_l {α : Type} {enc : α → Value} {m : List (Int × α)} {es : Array MapEntry} {clock b r : Nat} {seen : Array Nat} {pre post : List (Int × α)} {p : Int × α} {f : Res → List Res} (hS : Sat S w₀ w L) {x : Operand} (hx : ev t x = .pointer (some ⟨r, 0, none⟩)) [hw : PickW L r b clock seen f] [hp : PickME L b es clock] (hk : WkOk enc m es clock seen (pre ++ [p]) post) (hd : Nat.blt d n = true)
    (kk : RunL P ops n rest (upd t d (.tuple #[.int .i64 p.1, enc p.2])) w K) : RunL P ops n (⟨some d, .entry x, ty, pos, af, none⟩ :: rest) t w K := by
  have hpick := hw.pick
  have h1 : w.heap[r]? = some (.mapIter (some b) clock seen clock) := hS.holds (r := wkR r b clock seen)
  have h2 := hp.ok w hS.all
  obtain ⟨e, he, e1, e2⟩ := hk.at_ pre.length p (by simp)
  have hsz : seen.size = pre.length + 1 := by rw [hk.len]; simp
  have hpush : seen = seen.pop.push e.born := by
    apply Array.ext'
    rw [Array.toList_push, Array.toList_pop]
    have hne : seen.toList ≠ [] := fun h => by have := congrArg List.length h; rw [Array.length_toList, hsz] at this; simp at this
    have hlast : seen.toList.getLast hne = e.born := by
      rw [List.getLast_eq_getElem]
      have : seen.toList[pre.length]? = some e.born := by rw [Array.getElem?_toList]; exact e2
      obtain ⟨q1, q2⟩ := List.getElem?_eq_some_iff.1 this
      rw [← q2]
      congr 1
      simp [hsz]
    rw [← hlast]
    exact (List.dropLast_concat_getLast hne).symm
  rw [hpush] at h1
  obtain ⟨q, hq, e3, e4⟩ := hk.ent.sub e he
  have hpm : p ∈ m := hk.perm.mem_iff.1 (by simp)
  have : q = p := sorted_key hk.ent.sorted hq hpm (by rw [e1] at e3; injection e3 with _ e3; exact e3.symm)
  subst this
  refine valL rfl rfl hd ?_ kk
  show Sem.run P (do pure (Next.value (← Instr.entry (ev t x)))) w = _
  rw [hx, Sem.run_bind, run_entry_at (P := P) w r b clock seen.pop es clock e h1 h2 he hk.ent.st.2.1, e1, e4]
  rfl
end
end Go.Proofs.Ytpiodhdbdlfnhaa
