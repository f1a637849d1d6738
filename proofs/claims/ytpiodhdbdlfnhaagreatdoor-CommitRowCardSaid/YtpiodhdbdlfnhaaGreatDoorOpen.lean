/- Slices among the arguments, opened: what each element's cells hold. Over any program. -/
import Derived.Test.YtpiodhdbdlfnhaaGreatDoorMem
import Derived.Deep.Slices
import Derived.ChangeSame
import Derived.ProofKit
namespace Go.Proofs.YtpiodhdbdlfnhaaGreatDoor
open Go.RowKit Go.Deep Go.ChangeShapes Go.WideShapes
set_option linter.unusedVariables false
/-- A slice value whose elements are zs: element i lies in sz cells, as 'cells' says. -/
def SliceAt {α : Type} (w : World) (a : Option Addr) (len cap : Nat) (sz : Nat) (cells : α → List Value) (zs : List α) : Prop :=
  zs.length = len ∧ len ≤ cap ∧ cap ≤ maxLen ∧ (len = 0 ∨ ∃ b off, a = some ⟨b, off, none⟩ ∧ b < w.heap.size ∧ ∀ i (h : i < zs.length) j v, (cells zs[i])[j]? = some v → w.cell? ⟨b, off + i * sz + j, none⟩ = some v)
theorem mapM_get {β : Type} {f : Nat → Option β} : ∀ {l : List Nat} {r : List β}, l.mapM f = some r → ∀ i (h : i < l.length), f l[i] = r[i]? := by
  intro l
  induction l with
  | nil => intro r _ i h; simp at h
  | cons a l ih =>
    intro r hr i h
    simp only [List.mapM_cons, Option.bind_eq_bind] at hr
    cases ha : f a with
    | none => simp [ha] at hr
    | some x =>
      cases hl : l.mapM f with
      | none => simp [ha, hl] at hr
      | some y =>
        simp [ha, hl] at hr
        subst hr
        cases i with
        | zero => simpa using ha
        | succ i => simpa using ih hl i (by simpa using h)
section
variable {H : Type} {enc : TypeId × Value → H} {P : Program} {w : World}
theorem slice_open {α : Type} [Inhabited α] (T e : TypeId) (sz : Nat) (cells : α → List Value) (wf : α → Prop) (hT : P.underlying T = some (.slice e)) (hsz : P.cellsOf e = sz) (hpos : 0 < sz) (hlen : ∀ d, (cells d).length = sz)
    (hel : ∀ fuel cs (x : DataW H × List MemPlace), DataW.trod enc P w 0 (fun _ => true) true fuel e cs = some x → ∃ d, cs = cells d ∧ wf d)
    {a : Option Addr} {len cap : Nat} {d : DataW H} {p : List MemPlace} (h : DataW.Trod enc P w 0 (fun _ => true) true T (.slice a len cap) d p) :
    ∃ zs : List α, SliceAt w a len cap sz cells zs ∧ ∀ z ∈ zs, wf z := by
  obtain ⟨fuel, hf⟩ := h
  rcases open_slice hT hf with ⟨hcs, _⟩ | ⟨x, l, c, m, n, D, Pl, hcs, _, hl, hm, hmm, _, hi⟩
  · simp [Value.cells] at hcs
    obtain ⟨rfl, rfl, rfl⟩ := hcs
    exact ⟨[], ⟨rfl, Nat.le_refl _, Nat.zero_le _, .inl rfl⟩, fun z hz => by cases hz⟩
  · simp [Value.cells] at hcs
    obtain ⟨rfl, rfl, rfl⟩ := hcs
    have hmc : m = cap := by simpa using hmm
    have key : ∀ i, i < len → ∃ d, wf d ∧ ∀ j v, (cells d)[j]? = some v → w.cell? ((x.add (i * sz)).add j) = some v := fun i hil => by
      obtain ⟨cs', hc1, hc2⟩ := hi i (by omega)
      obtain ⟨d, rfl, hw⟩ := hel _ _ _ hc2
      refine ⟨d, hw, fun j v hv => ?_⟩
      unfold World.cells? at hc1
      rw [if_pos (Nat.zero_le _), hsz] at hc1
      have hj : j < sz := by
        rcases Nat.lt_or_ge j sz with h | h
        · exact h
        · rw [List.getElem?_eq_none (by rw [hlen]; exact h)] at hv; cases hv
      have := mapM_get hc1 j (by simpa using hj)
      simpa [hv] using this
    obtain ⟨f, hf'⟩ := choose_lt key
    refine ⟨(List.range len).map f, ⟨by simp, hl, hm, ?_⟩, fun z hz => ?_⟩
    · by_cases h0 : len = 0
      · exact .inl h0
      · right
        obtain ⟨v0, hv0⟩ : ∃ v, (cells (f 0))[0]? = some v := ⟨_, List.getElem?_eq_getElem (by rw [hlen]; exact hpos)⟩
        have hc0 := (hf' 0 (by omega)).2 0 v0 hv0
        have hb := block_lt_of_cell hc0
        have hspot : x.spot = none := by
          have hx : ((x.add (0 * sz)).add 0) = x := by simp [Addr.add]
          rw [hx] at hc0
          unfold World.cell? at hc0
          split at hc0
          · split at hc0
            · cases hc0
            · rename_i h; simpa using h
          · cases hc0
        have hx : ∀ k, x.add k = ⟨x.block, x.off + k, none⟩ := fun k => by
          unfold Addr.add
          split
          · rename_i hk; subst hk; cases x; simp_all
          · simp_all
        refine ⟨x.block, x.off, ?_, ?_, fun i h j v hv => ?_⟩
        · cases x; simp_all
        · have : ((x.add (0 * sz)).add 0).block = x.block := by rw [add_add, hx]
          rw [this] at hb; exact hb
        · have hil : i < len := by simpa using h
          have := (hf' i hil).2 j v (by simpa using hv)
          rw [add_add, hx] at this
          rw [Nat.add_assoc]; exact this
    · obtain ⟨i, hi', rfl⟩ := List.mem_map.1 hz
      exact (hf' i (List.mem_range.1 hi')).1
end
end Go.Proofs.YtpiodhdbdlfnhaaGreatDoor
