/- The law package seesawlaw10: awake, made. -/
import Derived.Test.YtpiodhdbdlfnhaaRsWk
namespace Go.Proofs.Ytpiodhdbdlfnhaa
open Go.RowKit Go.Lib
set_option linter.unusedVariables false
def intRow (zs : List Int) : Array Value := (zs.map (Value.int .i64)).toArray
theorem Ints.of_row {w : World} {g : Nat} {e : TypeId} {fr : Nat × Nat} (zs : List Int) (n : Nat) (hn : n = zs.length) (hl : zs.length ≤ maxLen) (h : w.heap[g]? = some (.cells (intRow zs) e fr)) : Ints w (some ⟨g, 0, none⟩) n n zs := by
  subst hn
  refine ⟨rfl, Nat.le_refl _, hl, .inr ⟨g, 0, rfl, lt_of_heap h, fun i hi j v hv => ?_⟩⟩
  have hj : j = 0 := by
    rcases Nat.eq_zero_or_pos j with h | h
    · exact h
    · rw [List.getElem?_eq_none (by simp; omega)] at hv; cases hv
  subst hj
  rw [cell_of_row _ _ _ _ _ _ h]
  simp at hv
  subst hv
  simp [intRow, hi]
theorem ints2 (w : World) (xs ys : List Int) (e : TypeId) (hx : xs.length ≤ maxLen) (hy : ys.length ≤ maxLen) (W : World) (hW : (w.alloc (.cells (intRow xs) e)).alloc (.cells (intRow ys) e) = W) :
    Ints W (some ⟨w.heap.size, 0, none⟩) xs.length xs.length xs ∧ Ints W (some ⟨w.heap.size + 1, 0, none⟩) ys.length ys.length ys ∧ Below w.heap.size w W := by
  subst hW
  have h := heap_alloc_new (w.alloc (.cells (intRow xs) e)) (.cells (intRow ys) e)
  rw [World.size_alloc] at h
  exact ⟨Ints.of_row xs _ rfl hx ((heap_alloc_old _ _ _ (by simp)).trans (heap_alloc_new _ _)), Ints.of_row ys _ rfl hy h, ((Below.refl _ w).alloc (Nat.le_refl _) _).alloc (by simp) _⟩
/-- What 'made' has read. -/
def madeH (l : List Int) : List Bool := l.foldl (addH 32) (List.replicate 32 false)
def madeRV (rv : Int) : Int := (rv % 18446744073709551616) % 1099511627776
theorem madeRV_bd (rv : Int) : 0 ≤ madeRV rv ∧ madeRV rv < 1099511627776 := by unfold madeRV; omega
theorem madeH_len (l : List Int) : (madeH l).length = 32 := by
  unfold madeH
  suffices h : ∀ (l : List Int) (hs : List Bool), hs.length = 32 → (l.foldl (addH 32) hs).length = 32 from h l _ (by simp)
  intro l
  induction l with
  | nil => exact fun _ h => h
  | cons a l ih => exact fun hs h => ih _ (by unfold addH; split <;> simp [h])
end Go.Proofs.Ytpiodhdbdlfnhaa
