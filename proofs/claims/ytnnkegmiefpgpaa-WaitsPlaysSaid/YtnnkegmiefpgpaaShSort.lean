/- slices.Sort of ints: the library's contract, laid here. slices.Sort of one's own row of ints. -/
import Derived.Shelf.Sort.Plain
import Derived.Shelf.Slices.In.SortNone
import Derived.Test.YtnnkegmiefpgpaaProg
import Derived.Test.YtnnkegmiefpgpaaGen
import Derived.Test.YtnnkegmiefpgpaaFacts
namespace Go.Proofs
open Go.Shelf
def Try.lays189_ren : Go.Shelf.Ren := ⟨fun | 189 => 80 | 125 => 90 | 257 => 89 | 128 => 102 | 129 => 103 | 294 => 93 | 295 => 94 | 296 => 95 | 297 => 96 | 298 => 97 | 299 => 98 | 216 => 99 | 300 => 100 | 301 => 101 | 328 => 104 | 329 => 105 | 330 => 106 | 331 => 107 | 332 => 108 | 215 => 109 | 343 => 110 | n => n, fun | 28 => 22 | 3 => 3 | 46 => 24 | 0 => 0 | 51 => 143 | 53 => 146 | 4 => 4 | 183 => 151 | 182 => 150 | 131 => 156 | 5 => 5 | 9 => 9 | 218 => 160 | 222 => 164 | 228 => 166 | 229 => 167 | n => n, fun | n => n⟩
theorem Try.lays189 : Go.Proofs.Lays.n189 Try.prog Try.lays189_ren := {
  mixed := by kernel_rfl
  f125 := Try.func90.trans (congrArg some (by kernel_rfl))
  f128 := Try.func102.trans (congrArg some (by kernel_rfl))
  f129 := Try.func103.trans (congrArg some (by kernel_rfl))
  f189 := Try.func80.trans (congrArg some (by kernel_rfl))
  f215 := Try.func109.trans (congrArg some (by kernel_rfl))
  f216 := Try.func99.trans (congrArg some (by kernel_rfl))
  f257 := Try.func89.trans (congrArg some (by kernel_rfl))
  f294 := Try.func93.trans (congrArg some (by kernel_rfl))
  f295 := Try.func94.trans (congrArg some (by kernel_rfl))
  f296 := Try.func95.trans (congrArg some (by kernel_rfl))
  f297 := Try.func96.trans (congrArg some (by kernel_rfl))
  f298 := Try.func97.trans (congrArg some (by kernel_rfl))
  f299 := Try.func98.trans (congrArg some (by kernel_rfl))
  f300 := Try.func100.trans (congrArg some (by kernel_rfl))
  f301 := Try.func101.trans (congrArg some (by kernel_rfl))
  f328 := Try.func104.trans (congrArg some (by kernel_rfl))
  f329 := Try.func105.trans (congrArg some (by kernel_rfl))
  f330 := Try.func106.trans (congrArg some (by kernel_rfl))
  f331 := Try.func107.trans (congrArg some (by kernel_rfl))
  f332 := Try.func108.trans (congrArg some (by kernel_rfl))
  f343 := Try.func110.trans (congrArg some (by kernel_rfl))
  t0 := Try.underlying0
  a0 := Try.isAgg0
  z0 := Try.sizeOf0
  v0 := Try.zeroValue0
  t3 := Try.underlying3
  a3 := Try.isAgg3
  z3 := Try.sizeOf3
  v3 := Try.zeroValue3
  t4 := Try.underlying4
  a4 := Try.isAgg4
  z4 := Try.sizeOf4
  v4 := Try.zeroValue4
  t5 := Try.underlying5
  a5 := Try.isAgg5
  z5 := Try.sizeOf5
  v5 := Try.zeroValue5
  t9 := Try.underlying9
  a9 := Try.isAgg9
  z9 := Try.sizeOf9
  v9 := Try.zeroValue9
  t28 := Try.underlying22
  a28 := Try.isAgg22
  z28 := Try.sizeOf22
  v28 := Try.zeroValue22
  t46 := Try.underlying24
  a46 := Try.isAgg24
  z46 := Try.sizeOf24
  v46 := Try.zeroValue24
  t51 := Try.underlying143
  a51 := Try.isAgg143
  z51 := Try.sizeOf143
  v51 := Try.zeroValue143
  t53 := Try.underlying146
  a53 := Try.isAgg146
  z53 := Try.sizeOf146
  v53 := Try.zeroValue146
  t131 := Try.underlying156
  a131 := Try.isAgg156
  z131 := Try.sizeOf156
  v131 := Try.zeroValue156
  t182 := Try.underlying150
  a182 := Try.isAgg150
  z182 := Try.sizeOf150
  v182 := Try.zeroValue150
  t183 := Try.underlying151
  a183 := Try.isAgg151
  z183 := Try.sizeOf151
  v183 := Try.zeroValue151
  t218 := Try.underlying160
  a218 := Try.isAgg160
  z218 := Try.sizeOf160
  v218 := Try.zeroValue160
  t222 := Try.underlying164
  a222 := Try.isAgg164
  z222 := Try.sizeOf164
  v222 := Try.zeroValue164
  t228 := Try.underlying166
  a228 := Try.isAgg166
  z228 := Try.sizeOf166
  v228 := Try.zeroValue166
  t229 := Try.underlying167
  a229 := Try.isAgg167
  z229 := Try.sizeOf167
  v229 := Try.zeroValue167 }
open Go.Sort Go.RowKit in
theorem Try.slices_Sort_int (blk off cap : Nat) (zs : List Int) (w : World) (hH : Holds (Value.int .i64) w blk off zs.toArray) (hblk : blk < w.heap.size) (hsz : zs.length < 4611686018427387904) :
    Calls Try.prog 80 #[.slice (some ⟨blk, off, none⟩) zs.length cap] w fun e w' =>
      e = .returned (.tuple #[]) ∧ ∃ n os, w' = grow (putRow (Value.int .i64) (Sort.ahead w n) blk off (zs.mergeSort fun x y => decide (x ≤ y)).toArray) os := Any.slices_Sort_int Try.lays189 blk off cap zs w hH hblk hsz
open Go.RowKit Go.Sort in
/-- .. and plain. (LAID: no walk: one application.) -/
theorem Try.slices_Sort_int_none (p : Option Addr) (cap : Nat) (w : World) :
    Calls Try.prog 80 #[.slice p 0 cap] w fun e w' => e = .returned (.tuple #[]) ∧ w' = w := Any.slices_Sort_int_none Try.lays189 p cap w
end Go.Proofs
namespace Go.Proofs.Ytnnkegmiefpgpaa
open Go.RowKit Go.Lib
set_option linter.unusedVariables false
theorem toArr_get (d : List Int) (i : Nat) : d.toArray[i]! = d.getD i 0 := by
  rw [List.getElem!_toArray, List.getElem!_eq_getElem?_getD, List.getD_eq_getElem?_getD]
  rfl
theorem RowOk.held {w : World} {b e cap : Nat} {zs : List Int} (h : RowOk w (some ⟨b, 0, none⟩) zs.length cap e 1 (gL encI 0 zs)) : Go.Sort.Holds (Value.int .i64) w b 0 zs.toArray := by
  obtain ⟨h0, ⟨hx, _, _⟩ | ⟨b', cur, hb, h1, h2, h3, h4, h5⟩⟩ := h
  · cases hx
  cases hb
  intro j hj
  have hj2 : j < zs.length := by simpa using hj
  have h6 := h5 j hj2 0 (by omega)
  rw [Nat.mul_one, Nat.add_zero] at h6
  rw [toArr_get, Nat.zero_add]
  exact ⟨by rw [cell_of_row _ _ _ _ _ _ h1]; exact h6, by simp [World.frozen?, h1]⟩
theorem RowOk.put {w : World} {b e cap : Nat} {zs : List Int} (h : RowOk w (some ⟨b, 0, none⟩) zs.length cap e 1 (gL encI 0 zs)) (d : List Int) (m : Nat) (hm : m ≤ d.length) (hd : d.length = zs.length) (n : Nat) (os : Array Obj) :
    RowOk (Go.Sort.grow (Go.Sort.putRow (Value.int .i64) (Go.Sort.ahead w n) b 0 d.toArray) os) (some ⟨b, 0, none⟩) m cap e 1 (gL encI 0 d) ∧ Chg (fun k => k = b) w (Go.Sort.grow (Go.Sort.putRow (Value.int .i64) (Go.Sort.ahead w n) b 0 d.toArray) os) := by
  obtain ⟨h0, ⟨hx, _, _⟩ | ⟨b', cur, hb, h1, h2, h3, h4, h5⟩⟩ := h
  · cases hx
  cases hb
  have hlt : b < w.heap.size := lt_of_heap h1
  refine ⟨⟨h0, .inr ⟨b, Go.Sort.putCells (Value.int .i64) 0 d.toArray cur, rfl, ?_, by omega, h3, ?_, ?_⟩⟩, rfl, rfl, rfl, ?_, ?_⟩
  · rw [Go.Sort.heap_grow_old _ _ (by simpa using hlt)]
    simp [Go.Sort.putRow, Go.Sort.mapBlock, Array.getElem?_modify, h1, Go.Sort.onCells]
  · simp [Go.Sort.putCells, h4]
  · intro i hi j hj
    obtain rfl : j = 0 := by omega
    have h6 := h5 i (by omega) 0 (by omega)
    rw [Nat.mul_one, Nat.add_zero] at h6 ⊢
    simp only [Go.Sort.putCells, Array.getElem?_mapIdx, h6, Option.map_some]
    rw [if_pos ⟨by omega, by simp; omega⟩, toArr_get, Nat.sub_zero]
    rfl
  · simp
  · intro k hk hn
    rw [Go.Sort.heap_grow_old _ _ (by simpa using hk)]
    simp only [Go.Sort.putRow, Go.Sort.mapBlock, Array.getElem?_modify]
    rw [if_neg (fun e : b = k => hn e.symm)]
    rfl
def sortL (zs : List Int) : List Int := zs.mergeSort fun x y => decide (x ≤ y)
theorem sort_at {w : World} {a : Option Addr} {e cap : Nat} {zs : List Int} (hn : zs.length < 4611686018427387904) (h : RowOk w a zs.length cap e 1 (gL encI 0 zs)) : Calls Try.prog 80 #[.slice a zs.length cap] w fun r w' =>
    r = .returned (.tuple #[]) ∧ RowOk w' a (sortL zs).length cap e 1 (gL encI 0 (sortL zs)) ∧ Chg (fun k => ∃ x, a = some x ∧ x.block = k) w w' := by
  have hl : (sortL zs).length = zs.length := List.length_mergeSort _
  have h' := h
  obtain ⟨h0, ⟨rfl, hz, _⟩ | ⟨b, cur, rfl, h1, h2, h3, h4, h5⟩⟩ := h'
  · have : zs = [] := List.eq_nil_of_length_eq_zero hz
    subst this
    refine (Try.slices_Sort_int_none none cap w).mono fun r w' hr => ?_
    obtain ⟨rfl, rfl⟩ := hr
    rw [show sortL [] = [] from List.mergeSort_nil]
    exact ⟨rfl, h, Chg.refl _ _⟩
  · refine (Try.slices_Sort_int b 0 cap zs w h.held (lt_of_heap h1) hn).mono fun r w' hr => ?_
    obtain ⟨rfl, n, os, rfl⟩ := hr
    have hp := h.put (sortL zs) (sortL zs).length (Nat.le_refl _) hl n os
    exact ⟨rfl, hp.1, hp.2.mono fun k _ e => ⟨_, rfl, e.symm⟩⟩
theorem sortL_perm (zs : List Int) : (sortL zs).Perm zs := List.mergeSort_perm _ _
theorem sortL_le (zs : List Int) : (sortL zs).Pairwise (· ≤ ·) := by
  have h := List.pairwise_mergeSort (le := fun x y : Int => decide (x ≤ y)) (fun a b c h1 h2 => by simp at h1 h2 ⊢; omega) (fun a b => by simp; omega) zs
  exact h.imp (fun h => by simpa using h)
end Go.Proofs.Ytnnkegmiefpgpaa
