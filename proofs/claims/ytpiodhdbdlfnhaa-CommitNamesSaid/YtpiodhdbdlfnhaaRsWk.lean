/- readset: each, Wakes. -/
import Derived.Test.YtpiodhdbdlfnhaaRsIt
import Derived.Test.YtpiodhdbdlfnhaaOpen
import Derived.RangeFuncCalls
namespace Go.Proofs.Ytpiodhdbdlfnhaa
open Go.RowKit Go.Lib
set_option linter.unusedVariables false
attribute [local go_sem] wide_fn Oper.semAt_some
set_option maxHeartbeats 400000 in
theorem each_at (p : Option Addr) (w : World) :
    Calls Try.prog 79 #[.pointer p] w fun e w' => e = .returned (.func (.func 84) #[] #[.pointer (some ⟨w.heap.size, 0, none⟩)]) ∧ w' = w.alloc (.cells #[.pointer p] 61) := by
  go_enter Try.func79, Try.ntmps79
  go_wp2
  go_ret
  exact ⟨rfl, rfl⟩
/-- Does stripe k wake? -/
def wakeAt (rv : Int) (os vs : List Int) (k : Nat) : Bool := lookI rv (os.getD k (-1)) (vs.getD k 0) == 2
def wakesB (rv st : Int) (hs : List Bool) (os vs : List Int) : Bool := (upto st hs 32).any (wakeAt rv os vs)
/-- A slice of ints. -/
def Ints (w : World) (a : Option Addr) (len cap : Nat) (zs : List Int) : Prop := SliceAt w a len cap 1 (fun x => [Value.int .i64 x]) zs
theorem Ints.cell {w : World} {a : Option Addr} {len cap : Nat} {zs : List Int} (h : Ints w a len cap zs) (k : Nat) (hk : k < len) :
    ∃ b off, a = some ⟨b, off, none⟩ ∧ w.cell? ⟨b, off + k, none⟩ = some (.int .i64 (zs.getD k 0)) ∧ ∀ d, zs.getD k d = zs.getD k 0 := by
  obtain ⟨h1, _, _, h4⟩ := h
  rcases h4 with h | ⟨b, off, ha, hb, hc⟩
  · omega
  · have hz : k < zs.length := by omega
    have := hc k hz 0 _ rfl
    refine ⟨b, off, ha, ?_, fun d => ?_⟩
    · rw [List.getD_eq_getElem?_getD, List.getElem?_eq_getElem hz]
      simpa using this
    · rw [List.getD_eq_getElem?_getD, List.getD_eq_getElem?_getD, List.getElem?_eq_getElem hz]; rfl
theorem Ints.below {w w' : World} {a : Option Addr} {len cap : Nat} {zs : List Int} (h : Ints w a len cap zs) (hb : Below w.heap.size w w') : Ints w' a len cap zs := SliceAt.keeps h hb
/-- What lies in the round. -/
structure WkInv (w : World) (s o v : Value) (r : Bool) (W : World) : Prop where
  below : Below w.heap.size w W
  bs : W.cell? ⟨w.heap.size, 0, none⟩ = some s
  bo : W.cell? ⟨w.heap.size + 1, 0, none⟩ = some o
  bv : W.cell? ⟨w.heap.size + 1 + 1, 0, none⟩ = some v
  br : W.cell? ⟨w.heap.size + 1 + 1 + 1, 0, none⟩ = some (.bool r)
  fr : W.frozen? ⟨w.heap.size + 1 + 1 + 1, 0, none⟩ = false
theorem WkInv.own {w : World} {s o v : Value} {r : Bool} {A B : World} {B0 : Nat} {row : Option Nat} (h : WkInv w s o v r A) (hB0 : w.heap.size ≤ B0) (hg : A.grownBy B row) (hr : ∀ r, row = some r → B0 ≤ r ∧ ∃ o : Obj, A.heap[r]? = some o ∧ o.isCells = false) : WkInv w s o v r B :=
  ⟨h.below.grown hg h.below.size (fun k e => Nat.le_trans hB0 (hr k e).1), cell_kept h.bs hg (fun r e => (hr r e).2), cell_kept h.bo hg (fun r e => (hr r e).2), cell_kept h.bv hg (fun r e => (hr r e).2),
   cell_kept h.br hg (fun r e => (hr r e).2), (frozen_kept h.br hg (fun r e => (hr r e).2)).trans h.fr⟩
theorem alloc5 (w : World) (o0 o1 o2 o3 o4 : Obj) (W : World) (hW : ((((w.alloc o0).alloc o1).alloc o2).alloc o3).alloc o4 = W) :
    W.heap.size = w.heap.size + 5 ∧ Below w.heap.size w W ∧ W.heap[w.heap.size]? = some o0 ∧ W.heap[w.heap.size + 1]? = some o1 ∧ W.heap[w.heap.size + 1 + 1]? = some o2 ∧ W.heap[w.heap.size + 1 + 1 + 1]? = some o3 ∧ W.heap[w.heap.size + 1 + 1 + 1 + 1]? = some o4 := by
  subst hW
  refine ⟨by simp, ?_, ?_, ?_, ?_, ?_, ?_⟩
  · exact (((((Below.refl _ w).alloc (Nat.le_refl _) _).alloc (by simp) _).alloc (by simp <;> omega) _).alloc (by simp <;> omega) _).alloc (by simp <;> omega) _
  · rw [heap_alloc_old _ _ _ (by simp <;> omega), heap_alloc_old _ _ _ (by simp <;> omega), heap_alloc_old _ _ _ (by simp <;> omega), heap_alloc_old _ _ _ (by simp), heap_alloc_new]
  · have := heap_alloc_new (w.alloc o0) o1
    rw [World.size_alloc] at this
    rw [heap_alloc_old _ _ _ (by simp <;> omega), heap_alloc_old _ _ _ (by simp <;> omega), heap_alloc_old _ _ _ (by simp), this]
  · have := heap_alloc_new ((w.alloc o0).alloc o1) o2
    rw [World.size_alloc, World.size_alloc] at this
    rw [heap_alloc_old _ _ _ (by simp <;> omega), heap_alloc_old _ _ _ (by simp), this]
  · have := heap_alloc_new (((w.alloc o0).alloc o1).alloc o2) o3
    rw [World.size_alloc, World.size_alloc, World.size_alloc] at this
    rw [heap_alloc_old _ _ _ (by simp), this]
  · have := heap_alloc_new ((((w.alloc o0).alloc o1).alloc o2).alloc o3) o4
    rw [World.size_alloc, World.size_alloc, World.size_alloc, World.size_alloc] at this
    exact this
/-- The values that a round's variables have. -/
theorem wake_of {rv : Int} {os vs : List Int} {k : Nat} (x : Int) (h : lookI rv (os.getD k (-1)) (vs.getD k 0) = x) : wakeAt rv os vs k = (x == 2) := by
  unfold wakeAt
  rw [h]
end Go.Proofs.Ytpiodhdbdlfnhaa
