/- slices.Sort of ints: the library's contract, laid here. slices.Sort of one's own row of ints. -/
import Derived.Shelf.Sort.Plain
import Derived.Shelf.Slices.In.SortNone
import Derived.Test.YtpiodhdbdlfnhaaProg
import Derived.Test.YtpiodhdbdlfnhaaGen
import Derived.Test.YtpiodhdbdlfnhaaFacts
namespace Go.Proofs
open Go.Shelf
def Try.lays189_ren : Go.Shelf.Ren := ⟨fun | 189 => 81 | 125 => 87 | 257 => 86 | 128 => 97 | 129 => 98 | 294 => 88 | 295 => 89 | 296 => 90 | 297 => 91 | 298 => 92 | 299 => 93 | 216 => 94 | 300 => 95 | 301 => 96 | 328 => 99 | 329 => 100 | 330 => 101 | 331 => 102 | 332 => 103 | 215 => 104 | 343 => 105 | n => n, fun | 28 => 24 | 3 => 3 | 46 => 52 | 0 => 0 | 51 => 113 | 53 => 116 | 4 => 4 | 183 => 130 | 182 => 129 | 131 => 135 | 5 => 5 | 9 => 9 | 218 => 139 | 222 => 143 | 228 => 145 | 229 => 146 | n => n, fun | n => n⟩
theorem Try.lays189 : Go.Proofs.Lays.n189 Try.prog Try.lays189_ren := {
  mixed := by kernel_rfl
  f125 := Try.func87.trans (congrArg some (by kernel_rfl))
  f128 := Try.func97.trans (congrArg some (by kernel_rfl))
  f129 := Try.func98.trans (congrArg some (by kernel_rfl))
  f189 := Try.func81.trans (congrArg some (by kernel_rfl))
  f215 := Try.func104.trans (congrArg some (by kernel_rfl))
  f216 := Try.func94.trans (congrArg some (by kernel_rfl))
  f257 := Try.func86.trans (congrArg some (by kernel_rfl))
  f294 := Try.func88.trans (congrArg some (by kernel_rfl))
  f295 := Try.func89.trans (congrArg some (by kernel_rfl))
  f296 := Try.func90.trans (congrArg some (by kernel_rfl))
  f297 := Try.func91.trans (congrArg some (by kernel_rfl))
  f298 := Try.func92.trans (congrArg some (by kernel_rfl))
  f299 := Try.func93.trans (congrArg some (by kernel_rfl))
  f300 := Try.func95.trans (congrArg some (by kernel_rfl))
  f301 := Try.func96.trans (congrArg some (by kernel_rfl))
  f328 := Try.func99.trans (congrArg some (by kernel_rfl))
  f329 := Try.func100.trans (congrArg some (by kernel_rfl))
  f330 := Try.func101.trans (congrArg some (by kernel_rfl))
  f331 := Try.func102.trans (congrArg some (by kernel_rfl))
  f332 := Try.func103.trans (congrArg some (by kernel_rfl))
  f343 := Try.func105.trans (congrArg some (by kernel_rfl))
  t0 := Try.underlying0
  a0 := Try.isAgg0
  z0 := Try.sizeOf0
  v0 := Try.zeroValue0
  t3 := Try.underlying3
  a3 := Try.isAgg3
  z3 := Try.sizeOf3
  v3 := Try.zeroValue3
  t4 := Try.underlying4
  a4 := Try.isAgg4
  z4 := Try.sizeOf4
  v4 := Try.zeroValue4
  t5 := Try.underlying5
  a5 := Try.isAgg5
  z5 := Try.sizeOf5
  v5 := Try.zeroValue5
  t9 := Try.underlying9
  a9 := Try.isAgg9
  z9 := Try.sizeOf9
  v9 := Try.zeroValue9
  t28 := Try.underlying24
  a28 := Try.isAgg24
  z28 := Try.sizeOf24
  v28 := Try.zeroValue24
  t46 := Try.underlying52
  a46 := Try.isAgg52
  z46 := Try.sizeOf52
  v46 := Try.zeroValue52
  t51 := Try.underlying113
  a51 := Try.isAgg113
  z51 := Try.sizeOf113
  v51 := Try.zeroValue113
  t53 := Try.underlying116
  a53 := Try.isAgg116
  z53 := Try.sizeOf116
  v53 := Try.zeroValue116
  t131 := Try.underlying135
  a131 := Try.isAgg135
  z131 := Try.sizeOf135
  v131 := Try.zeroValue135
  t182 := Try.underlying129
  a182 := Try.isAgg129
  z182 := Try.sizeOf129
  v182 := Try.zeroValue129
  t183 := Try.underlying130
  a183 := Try.isAgg130
  z183 := Try.sizeOf130
  v183 := Try.zeroValue130
  t218 := Try.underlying139
  a218 := Try.isAgg139
  z218 := Try.sizeOf139
  v218 := Try.zeroValue139
  t222 := Try.underlying143
  a222 := Try.isAgg143
  z222 := Try.sizeOf143
  v222 := Try.zeroValue143
  t228 := Try.underlying145
  a228 := Try.isAgg145
  z228 := Try.sizeOf145
  v228 := Try.zeroValue145
  t229 := Try.underlying146
  a229 := Try.isAgg146
  z229 := Try.sizeOf146
  v229 := Try.zeroValue146 }
open Go.Sort Go.RowKit in
theorem Try.slices_Sort_int (blk off cap : Nat) (zs : List Int) (w : World) (hH : Holds (Value.int .i64) w blk off zs.toArray) (hblk : blk < w.heap.size) (hsz : zs.length < 4611686018427387904) :
    Calls Try.prog 81 #[.slice (some ⟨blk, off, none⟩) zs.length cap] w fun e w' =>
      e = .returned (.tuple #[]) ∧ ∃ n os, w' = grow (putRow (Value.int .i64) (Sort.ahead w n) blk off (zs.mergeSort fun x y => decide (x ≤ y)).toArray) os := Any.slices_Sort_int Try.lays189 blk off cap zs w hH hblk hsz
open Go.RowKit Go.Sort in
/-- .. and plain. (LAID: no walk: one application.) -/
theorem Try.slices_Sort_int_none (p : Option Addr) (cap : Nat) (w : World) :
    Calls Try.prog 81 #[.slice p 0 cap] w fun e w' => e = .returned (.tuple #[]) ∧ w' = w := Any.slices_Sort_int_none Try.lays189 p cap w
end Go.Proofs
namespace Go.Proofs.Ytpiodhdbdlfnhaa
open Go.RowKit Go.Lib
set_option linter.unusedVariables false
theorem toArr_get (d : List Int) (i : Nat) : d.toArray[i]! = d.getD i 0 := by
  rw [List.getElem!_toArray, List.getElem!_eq_getElem?_getD, List.getD_eq_getElem?_getD]
  rfl
theorem RowOk.held {w : World} {b e cap : Nat} {zs : List Int} (h : RowOk w (some ⟨b, 0, none⟩) zs.length cap e 1 (gL encI 0 zs)) : Go.Sort.Holds (Value.int .i64) w b 0 zs.toArray := by
  obtain ⟨h0, ⟨hx, _, _⟩ | ⟨b', cur, hb, h1, h2, h3, h4, h5⟩⟩ := h
  · cases hx
  cases hb
  intro j hj
  have hj2 : j < zs.length := by simpa using hj
  have h6 := h5 j hj2 0 (by omega)
  rw [Nat.mul_one, Nat.add_zero] at h6
  rw [toArr_get, Nat.zero_add]
  exact ⟨by rw [cell_of_row _ _ _ _ _ _ h1]; exact h6, by simp [World.frozen?, h1]⟩
theorem RowOk.put {w : World} {b e cap : Nat} {zs : List Int} (h : RowOk w (some ⟨b, 0, none⟩) zs.length cap e 1 (gL encI 0 zs)) (d : List Int) (m : Nat) (hm : m ≤ d.length) (hd : d.length = zs.length) (n : Nat) (os : Array Obj) :
    RowOk (Go.Sort.grow (Go.Sort.putRow (Value.int .i64) (Go.Sort.ahead w n) b 0 d.toArray) os) (some ⟨b, 0, none⟩) m cap e 1 (gL encI 0 d) ∧ Chg (fun k => k = b) w (Go.Sort.grow (Go.Sort.putRow (Value.int .i64) (Go.Sort.ahead w n) b 0 d.toArray) os) := by
  obtain ⟨h0, ⟨hx, _, _⟩ | ⟨b', cur, hb, h1, h2, h3, h4, h5⟩⟩ := h
  · cases hx
  cases hb
  have hlt : b < w.heap.size := lt_of_heap h1
  refine ⟨⟨h0, .inr ⟨b, Go.Sort.putCells (Value.int .i64) 0 d.toArray cur, rfl, ?_, by omega, h3, ?_, ?_⟩⟩, rfl, rfl, rfl, ?_, ?_⟩
  · rw [Go.Sort.heap_grow_old _ _ (by simpa using hlt)]
    simp [Go.Sort.putRow, Go.Sort.mapBlock, Array.getElem?_modify, h1, Go.Sort.onCells]
  · simp [Go.Sort.putCells, h4]
  · intro i hi j hj
    obtain rfl : j = 0 := by omega
    have h6 := h5 i (by omega) 0 (by omega)
    rw [Nat.mul_one, Nat.add_zero] at h6 ⊢
    simp only [Go.Sort.putCells, Array.getElem?_mapIdx, h6, Option.map_some]
    rw [if_pos ⟨by omega, by simp; omega⟩, toArr_get, Nat.sub_zero]
    rfl
  · simp
  · intro k hk hn
    rw [Go.Sort.heap_grow_old _ _ (by simpa using hk)]
    simp only [Go.Sort.putRow, Go.Sort.mapBlock, Array.getElem?_modify]
    rw [if_neg (fun e : b = k => hn e.symm)]
    rfl
def sortL (zs : List Int) : List Int := zs.mergeSort fun x y => decide (x ≤ y)
theorem sort_at {w : World} {a : Option Addr} {e cap : Nat} {zs : List Int} (hn : zs.length < 4611686018427387904) (h : RowOk w a zs.length cap e 1 (gL encI 0 zs)) : Calls Try.prog 81 #[.slice a zs.length cap] w fun r w' =>
    r = .returned (.tuple #[]) ∧ RowOk w' a (sortL zs).length cap e 1 (gL encI 0 (sortL zs)) ∧ Chg (fun k => ∃ x, a = some x ∧ x.block = k) w w' := by
  have hl : (sortL zs).length = zs.length := List.length_mergeSort _
  have h' := h
  obtain ⟨h0, ⟨rfl, hz, _⟩ | ⟨b, cur, rfl, h1, h2, h3, h4, h5⟩⟩ := h'
  · have : zs = [] := List.eq_nil_of_length_eq_zero hz
    subst this
    refine (Try.slices_Sort_int_none none cap w).mono fun r w' hr => ?_
    obtain ⟨rfl, rfl⟩ := hr
    rw [show sortL [] = [] from List.mergeSort_nil]
    exact ⟨rfl, h, Chg.refl _ _⟩
  · refine (Try.slices_Sort_int b 0 cap zs w h.held (lt_of_heap h1) hn).mono fun r w' hr => ?_
    obtain ⟨rfl, n, os, rfl⟩ := hr
    have hp := h.put (sortL zs) (sortL zs).length (Nat.le_refl _) hl n os
    exact ⟨rfl, hp.1, hp.2.mono fun k _ e => ⟨_, rfl, e.symm⟩⟩
theorem sortL_perm (zs : List Int) : (sortL zs).Perm zs := List.mergeSort_perm _ _
theorem sortL_le (zs : List Int) : (sortL zs).Pairwise (· ≤ ·) := by
  have h := List.pairwise_mergeSort (le := fun x y : Int => decide (x ≤ y)) (fun a b c h1 h2 => by simp at h1 h2 ⊢; omega) (fun a b => by simp; omega) zs
  exact h.imp (fun h => by simpa using h)
end Go.Proofs.Ytpiodhdbdlfnhaa
