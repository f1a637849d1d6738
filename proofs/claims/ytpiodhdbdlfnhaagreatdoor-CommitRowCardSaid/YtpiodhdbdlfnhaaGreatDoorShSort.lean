/- slices.Sort of ints: the library's contract, laid here. slices.Sort of one's own row of ints. slices.Compact of ints: the library's contract, laid here. slices.Compact of one's own row of ints. -/
import Derived.Shelf.Sort.Plain
import Derived.Shelf.Slices.In.SortNone
import Derived.Test.YtpiodhdbdlfnhaaGreatDoorProg
import Derived.Test.YtpiodhdbdlfnhaaGreatDoorGen
import Derived.Test.YtpiodhdbdlfnhaaGreatDoorFacts
import Derived.Ground.Names2Prog
import Derived.Shelf.Slices.CompactI
import Derived.Test.YtpiodhdbdlfnhaaGreatDoorCmC
namespace Go.Proofs
open Go.Shelf
def Tryz.lays189_ren : Go.Shelf.Ren := ⟨fun | 189 => 93 | 125 => 97 | 257 => 96 | 128 => 107 | 129 => 108 | 294 => 98 | 295 => 99 | 296 => 100 | 297 => 101 | 298 => 102 | 299 => 103 | 216 => 104 | 300 => 105 | 301 => 106 | 328 => 109 | 329 => 110 | 330 => 111 | 331 => 112 | 332 => 113 | 215 => 114 | 343 => 115 | n => n, fun | 28 => 23 | 3 => 3 | 46 => 103 | 0 => 0 | 51 => 85 | 53 => 123 | 4 => 4 | 183 => 149 | 182 => 148 | 131 => 154 | 5 => 5 | 9 => 9 | 218 => 157 | 222 => 161 | 228 => 163 | 229 => 164 | n => n, fun | n => n⟩
theorem Tryz.lays189 : Go.Proofs.Lays.n189 Tryz.prog Tryz.lays189_ren := {
  mixed := by kernel_rfl
  f125 := Tryz.func97.trans (congrArg some (by kernel_rfl))
  f128 := Tryz.func107.trans (congrArg some (by kernel_rfl))
  f129 := Tryz.func108.trans (congrArg some (by kernel_rfl))
  f189 := Tryz.func93.trans (congrArg some (by kernel_rfl))
  f215 := Tryz.func114.trans (congrArg some (by kernel_rfl))
  f216 := Tryz.func104.trans (congrArg some (by kernel_rfl))
  f257 := Tryz.func96.trans (congrArg some (by kernel_rfl))
  f294 := Tryz.func98.trans (congrArg some (by kernel_rfl))
  f295 := Tryz.func99.trans (congrArg some (by kernel_rfl))
  f296 := Tryz.func100.trans (congrArg some (by kernel_rfl))
  f297 := Tryz.func101.trans (congrArg some (by kernel_rfl))
  f298 := Tryz.func102.trans (congrArg some (by kernel_rfl))
  f299 := Tryz.func103.trans (congrArg some (by kernel_rfl))
  f300 := Tryz.func105.trans (congrArg some (by kernel_rfl))
  f301 := Tryz.func106.trans (congrArg some (by kernel_rfl))
  f328 := Tryz.func109.trans (congrArg some (by kernel_rfl))
  f329 := Tryz.func110.trans (congrArg some (by kernel_rfl))
  f330 := Tryz.func111.trans (congrArg some (by kernel_rfl))
  f331 := Tryz.func112.trans (congrArg some (by kernel_rfl))
  f332 := Tryz.func113.trans (congrArg some (by kernel_rfl))
  f343 := Tryz.func115.trans (congrArg some (by kernel_rfl))
  t0 := Tryz.underlying0
  a0 := Tryz.isAgg0
  z0 := Tryz.sizeOf0
  v0 := Tryz.zeroValue0
  t3 := Tryz.underlying3
  a3 := Tryz.isAgg3
  z3 := Tryz.sizeOf3
  v3 := Tryz.zeroValue3
  t4 := Tryz.underlying4
  a4 := Tryz.isAgg4
  z4 := Tryz.sizeOf4
  v4 := Tryz.zeroValue4
  t5 := Tryz.underlying5
  a5 := Tryz.isAgg5
  z5 := Tryz.sizeOf5
  v5 := Tryz.zeroValue5
  t9 := Tryz.underlying9
  a9 := Tryz.isAgg9
  z9 := Tryz.sizeOf9
  v9 := Tryz.zeroValue9
  t28 := Tryz.underlying23
  a28 := Tryz.isAgg23
  z28 := Tryz.sizeOf23
  v28 := Tryz.zeroValue23
  t46 := Tryz.underlying103
  a46 := Tryz.isAgg103
  z46 := Tryz.sizeOf103
  v46 := Tryz.zeroValue103
  t51 := Tryz.underlying85
  a51 := Tryz.isAgg85
  z51 := Tryz.sizeOf85
  v51 := Tryz.zeroValue85
  t53 := Tryz.underlying123
  a53 := Tryz.isAgg123
  z53 := Tryz.sizeOf123
  v53 := Tryz.zeroValue123
  t131 := Tryz.underlying154
  a131 := Tryz.isAgg154
  z131 := Tryz.sizeOf154
  v131 := Tryz.zeroValue154
  t182 := Tryz.underlying148
  a182 := Tryz.isAgg148
  z182 := Tryz.sizeOf148
  v182 := Tryz.zeroValue148
  t183 := Tryz.underlying149
  a183 := Tryz.isAgg149
  z183 := Tryz.sizeOf149
  v183 := Tryz.zeroValue149
  t218 := Tryz.underlying157
  a218 := Tryz.isAgg157
  z218 := Tryz.sizeOf157
  v218 := Tryz.zeroValue157
  t222 := Tryz.underlying161
  a222 := Tryz.isAgg161
  z222 := Tryz.sizeOf161
  v222 := Tryz.zeroValue161
  t228 := Tryz.underlying163
  a228 := Tryz.isAgg163
  z228 := Tryz.sizeOf163
  v228 := Tryz.zeroValue163
  t229 := Tryz.underlying164
  a229 := Tryz.isAgg164
  z229 := Tryz.sizeOf164
  v229 := Tryz.zeroValue164 }
open Go.Sort Go.RowKit in
theorem Tryz.slices_Sort_int (blk off cap : Nat) (zs : List Int) (w : World) (hH : Holds (Value.int .i64) w blk off zs.toArray) (hblk : blk < w.heap.size) (hsz : zs.length < 4611686018427387904) :
    Calls Tryz.prog 93 #[.slice (some ⟨blk, off, none⟩) zs.length cap] w fun e w' =>
      e = .returned (.tuple #[]) ∧ ∃ n os, w' = grow (putRow (Value.int .i64) (Sort.ahead w n) blk off (zs.mergeSort fun x y => decide (x ≤ y)).toArray) os := Any.slices_Sort_int Tryz.lays189 blk off cap zs w hH hblk hsz
open Go.RowKit Go.Sort in
/-- .. and plain. (LAID: no walk: one application.) -/
theorem Tryz.slices_Sort_int_none (p : Option Addr) (cap : Nat) (w : World) :
    Calls Tryz.prog 93 #[.slice p 0 cap] w fun e w' => e = .returned (.tuple #[]) ∧ w' = w := Any.slices_Sort_int_none Tryz.lays189 p cap w
end Go.Proofs
namespace Go.Proofs.YtpiodhdbdlfnhaaGreatDoor
open Go.RowKit Go.Lib
set_option linter.unusedVariables false
theorem toArr_get (d : List Int) (i : Nat) : d.toArray[i]! = d.getD i 0 := by
  rw [List.getElem!_toArray, List.getElem!_eq_getElem?_getD, List.getD_eq_getElem?_getD]
  rfl
theorem RowOk.held {w : World} {b e cap : Nat} {zs : List Int} (h : RowOk w (some ⟨b, 0, none⟩) zs.length cap e 1 (gL encI 0 zs)) : Go.Sort.Holds (Value.int .i64) w b 0 zs.toArray := by
  obtain ⟨h0, ⟨hx, _, _⟩ | ⟨b', cur, hb, h1, h2, h3, h4, h5⟩⟩ := h
  · cases hx
  cases hb
  intro j hj
  have hj2 : j < zs.length := by simpa using hj
  have h6 := h5 j hj2 0 (by omega)
  rw [Nat.mul_one, Nat.add_zero] at h6
  rw [toArr_get, Nat.zero_add]
  exact ⟨by rw [cell_of_row _ _ _ _ _ _ h1]; exact h6, by simp [World.frozen?, h1]⟩
theorem RowOk.put {w : World} {b e cap : Nat} {zs : List Int} (h : RowOk w (some ⟨b, 0, none⟩) zs.length cap e 1 (gL encI 0 zs)) (d : List Int) (m : Nat) (hm : m ≤ d.length) (hd : d.length = zs.length) (n : Nat) (os : Array Obj) :
    RowOk (Go.Sort.grow (Go.Sort.putRow (Value.int .i64) (Go.Sort.ahead w n) b 0 d.toArray) os) (some ⟨b, 0, none⟩) m cap e 1 (gL encI 0 d) ∧ Chg (fun k => k = b) w (Go.Sort.grow (Go.Sort.putRow (Value.int .i64) (Go.Sort.ahead w n) b 0 d.toArray) os) := by
  obtain ⟨h0, ⟨hx, _, _⟩ | ⟨b', cur, hb, h1, h2, h3, h4, h5⟩⟩ := h
  · cases hx
  cases hb
  have hlt : b < w.heap.size := lt_of_heap h1
  refine ⟨⟨h0, .inr ⟨b, Go.Sort.putCells (Value.int .i64) 0 d.toArray cur, rfl, ?_, by omega, h3, ?_, ?_⟩⟩, rfl, rfl, rfl, ?_, ?_⟩
  · rw [Go.Sort.heap_grow_old _ _ (by simpa using hlt)]
    simp [Go.Sort.putRow, Go.Sort.mapBlock, Array.getElem?_modify, h1, Go.Sort.onCells]
  · simp [Go.Sort.putCells, h4]
  · intro i hi j hj
    obtain rfl : j = 0 := by omega
    have h6 := h5 i (by omega) 0 (by omega)
    rw [Nat.mul_one, Nat.add_zero] at h6 ⊢
    simp only [Go.Sort.putCells, Array.getElem?_mapIdx, h6, Option.map_some]
    rw [if_pos ⟨by omega, by simp; omega⟩, toArr_get, Nat.sub_zero]
    rfl
  · simp
  · intro k hk hn
    rw [Go.Sort.heap_grow_old _ _ (by simpa using hk)]
    simp only [Go.Sort.putRow, Go.Sort.mapBlock, Array.getElem?_modify]
    rw [if_neg (fun e : b = k => hn e.symm)]
    rfl
def sortL (zs : List Int) : List Int := zs.mergeSort fun x y => decide (x ≤ y)
theorem sort_at {w : World} {a : Option Addr} {e cap : Nat} {zs : List Int} (hn : zs.length < 4611686018427387904) (h : RowOk w a zs.length cap e 1 (gL encI 0 zs)) : Calls Tryz.prog 93 #[.slice a zs.length cap] w fun r w' =>
    r = .returned (.tuple #[]) ∧ RowOk w' a (sortL zs).length cap e 1 (gL encI 0 (sortL zs)) ∧ Chg (fun k => ∃ x, a = some x ∧ x.block = k) w w' := by
  have hl : (sortL zs).length = zs.length := List.length_mergeSort _
  have h' := h
  obtain ⟨h0, ⟨rfl, hz, _⟩ | ⟨b, cur, rfl, h1, h2, h3, h4, h5⟩⟩ := h'
  · have : zs = [] := List.eq_nil_of_length_eq_zero hz
    subst this
    refine (Tryz.slices_Sort_int_none none cap w).mono fun r w' hr => ?_
    obtain ⟨rfl, rfl⟩ := hr
    rw [show sortL [] = [] from List.mergeSort_nil]
    exact ⟨rfl, h, Chg.refl _ _⟩
  · refine (Tryz.slices_Sort_int b 0 cap zs w h.held (lt_of_heap h1) hn).mono fun r w' hr => ?_
    obtain ⟨rfl, n, os, rfl⟩ := hr
    have hp := h.put (sortL zs) (sortL zs).length (Nat.le_refl _) hl n os
    exact ⟨rfl, hp.1, hp.2.mono fun k _ e => ⟨_, rfl, e.symm⟩⟩
theorem sortL_perm (zs : List Int) : (sortL zs).Perm zs := List.mergeSort_perm _ _
theorem sortL_le (zs : List Int) : (sortL zs).Pairwise (· ≤ ·) := by
  have h := List.pairwise_mergeSort (le := fun x y : Int => decide (x ≤ y)) (fun a b c h1 h2 => by simp at h1 h2 ⊢; omega) (fun a b => by simp; omega) zs
  exact h.imp (fun h => by simpa using h)
end Go.Proofs.YtpiodhdbdlfnhaaGreatDoor
namespace Go.Proofs
open Go.Shelf
def Tryz.laysNm220_ren : Go.Shelf.Ren := ⟨fun | 20 => 94 | n => n, fun | 22 => 23 | 3 => 3 | 4 => 4 | 0 => 0 | n => n, fun | n => n⟩
theorem Tryz.laysNm220 : Go.Proofs.Lays2.n20 Tryz.prog Tryz.laysNm220_ren := {
  mixed := by kernel_rfl
  f20 := Tryz.func94.trans (congrArg some (by kernel_rfl))
  t0 := Tryz.underlying0
  a0 := Tryz.isAgg0
  z0 := Tryz.sizeOf0
  v0 := Tryz.zeroValue0
  t3 := Tryz.underlying3
  a3 := Tryz.isAgg3
  z3 := Tryz.sizeOf3
  v3 := Tryz.zeroValue3
  t4 := Tryz.underlying4
  a4 := Tryz.isAgg4
  z4 := Tryz.sizeOf4
  v4 := Tryz.zeroValue4
  t22 := Tryz.underlying23
  a22 := Tryz.isAgg23
  z22 := Tryz.sizeOf23
  v22 := Tryz.zeroValue23
  i3 := by kernel_rfl }
open Go.RowKit Go.Lib Go.Sort in
/-- slices.Compact at []int: "Compact replaces consecutive runs of equal elements with a single copy. This is like the uniq command found on Unix. Compact modifies the contents of the slice s and returns the modified slice, which may have a smaller length. Compact zeroes the elements between the new length and the original length. The result preserves the nilness of s.": IT RETURNS THE SLICE CUT TO 'Lib.compact zs'; ITS CELLS HOLD 'Lib.compact zs', THEN ZERO VALUES up to the old length; all else is as it was, but for the count of draws. IN THE WORDS OF slices.Sort's CONTRACT ('Holds', 'putRow'): so the everyday 'slices.Sort(xs); xs = slices.Compact(xs)' goes from the one contract to the other. It asks 'zs.length ≤ cap' (every slice's: the reslicing 's[:k]' looks at it). Length 0, nil: '.._empty'. (LAID: no walk: one application.) -/
theorem Tryz.slices_Compact_int (blk off cap : Nat) (zs : List Int) (w : World) (hH : Holds (Value.int .i64) w blk off zs.toArray) (hsz : zs.length ≤ 9223372036854775807) (hcap : zs.length ≤ cap) :
    Calls Tryz.prog 94 #[.slice (some ⟨blk, off, none⟩) zs.length cap] w fun e w' => e = .returned (.slice (some ⟨blk, off, none⟩) (Lib.compact zs).length cap) ∧ ∃ q, w' = putRow (Value.int .i64) (Sort.ahead w q) blk off (Lib.compact zs ++ List.replicate (zs.length - (Lib.compact zs).length) 0).toArray := Any.slices_Compact_int Tryz.laysNm220 blk off cap zs w hH hsz hcap
open Go.RowKit Go.Lib Go.Sort in
/-- The same at a slice of length 0, a nil one too: it comes back as it is. (LAID: no walk: one application.) -/
theorem Tryz.slices_Compact_int_empty (a : Option Addr) (cap : Nat) (w : World) :
    Calls Tryz.prog 94 #[.slice a 0 cap] w fun e w' => e = .returned (.slice a 0 cap) ∧ w' = w := Any.slices_Compact_int_empty Tryz.laysNm220 a cap w
end Go.Proofs
namespace Go.Proofs.YtpiodhdbdlfnhaaGreatDoor
open Go.RowKit Go.Lib
set_option linter.unusedVariables false
theorem compact_len (zs : List Int) : (Lib.compact zs).length ≤ zs.length := by
  unfold Lib.compact Lib.compactUpTo
  rw [List.length_map]
  exact Nat.le_trans (List.length_filter_le _ _) (by simp)
theorem mem_compact (zs : List Int) (x : Int) : x ∈ Lib.compact zs ↔ x ∈ zs := by
  unfold Lib.compact Lib.compactUpTo
  simp only [List.mem_map, List.mem_filter, List.mem_range, toArr_get]
  constructor
  · rintro ⟨j, ⟨h1, _⟩, rfl⟩
    rw [List.getD_eq_getElem?_getD, List.getElem?_eq_getElem h1]
    exact List.getElem_mem h1
  · intro hx
    have : ∃ j, j < zs.length ∧ zs.getD j 0 = x := by
      obtain ⟨j, hj, e⟩ := List.getElem_of_mem hx
      exact ⟨j, hj, by rw [List.getD_eq_getElem?_getD, List.getElem?_eq_getElem hj]; exact e⟩
    obtain ⟨j, hj⟩ := this
    have key : ∀ j, j < zs.length → zs.getD j 0 = x → ∃ a, (a < zs.length ∧ Lib.keeps zs.toArray a = true) ∧ zs.getD a 0 = x := by
      intro j
      induction j with
      | zero => intro h1 h2; exact ⟨0, ⟨h1, by simp [Lib.keeps]⟩, h2⟩
      | succ j ih =>
        intro h1 h2
        by_cases e : zs.getD j 0 = x
        · exact ih (by omega) e
        · refine ⟨j + 1, ⟨h1, Lib.keeps_pos ?_⟩, h2⟩
          rw [toArr_get, toArr_get, h2, Nat.add_sub_cancel]
          exact fun e' => e e'.symm
    exact key j hj.1 hj.2
theorem compact_lt (zs : List Int) (h : zs.Pairwise (· ≤ ·)) : (Lib.compact zs).Pairwise (· < ·) := by
  unfold Lib.compact Lib.compactUpTo
  rw [List.pairwise_map]
  have hr : (List.range zs.length).Pairwise (· < ·) := List.pairwise_lt_range
  have hg : ∀ i j, i ≤ j → j < zs.length → zs.getD i 0 ≤ zs.getD j 0 := by
    intro i j hij hj
    rw [List.getD_eq_getElem?_getD, List.getD_eq_getElem?_getD, List.getElem?_eq_getElem (by omega), List.getElem?_eq_getElem hj]
    rcases Nat.lt_or_ge i j with e | e
    · exact List.pairwise_iff_getElem.1 h i j (by omega) hj e
    · have : i = j := by omega
      subst this; exact Int.le_refl _
  have hs := hr.filter (fun j => Lib.keeps zs.toArray j)
  refine hs.imp_of_mem fun {a b} ha hb hab => ?_
  simp only [List.mem_filter, List.mem_range] at ha hb
  rw [toArr_get, toArr_get]
  have hk := hb.2
  simp only [Lib.keeps, decide_eq_true_eq, toArr_get] at hk
  have h1 := hg a (b - 1) (by omega) (by omega)
  have h2 := hg (b - 1) b (by omega) hb.1
  rcases hk with e | e
  · omega
  · omega
def uniqL (zs : List Int) : List Int := Lib.compact (sortL zs)
theorem uniqL_lt (zs : List Int) : (uniqL zs).Pairwise (· < ·) := compact_lt _ (sortL_le zs)
theorem mem_uniqL (zs : List Int) (x : Int) : x ∈ uniqL zs ↔ x ∈ zs := (mem_compact _ _).trans (sortL_perm zs).mem_iff
theorem uniqL_len (zs : List Int) : (uniqL zs).length ≤ zs.length := Nat.le_trans (compact_len _) (by rw [(sortL_perm zs).length_eq]; exact Nat.le_refl _)
theorem compact_at {w : World} {a : Option Addr} {e cap : Nat} {zs : List Int} (h : RowOk w a zs.length cap e 1 (gL encI 0 zs)) : Calls Tryz.prog 94 #[.slice a zs.length cap] w fun r w' =>
    r = .returned (.slice a (Lib.compact zs).length cap) ∧ RowOk w' a (Lib.compact zs).length cap e 1 (gL encI 0 (Lib.compact zs)) ∧ Chg (fun k => ∃ x, a = some x ∧ x.block = k) w w' := by
  have hl := compact_len zs
  have h' := h
  obtain ⟨h0, ⟨rfl, hz, _⟩ | ⟨b, cur, rfl, h1, h2, h3, h4, h5⟩⟩ := h'
  · have : zs = [] := List.eq_nil_of_length_eq_zero hz
    subst this
    refine (Tryz.slices_Compact_int_empty none cap w).mono fun r w' hr => ?_
    obtain ⟨rfl, rfl⟩ := hr
    exact ⟨rfl, h, Chg.refl _ _⟩
  · refine (Tryz.slices_Compact_int b 0 cap zs w h.held (by have := h.sl.small; omega) h2).mono fun r w' hr => ?_
    obtain ⟨rfl, q, rfl⟩ := hr
    have hp := h.put (Lib.compact zs ++ List.replicate (zs.length - (Lib.compact zs).length) 0) (Lib.compact zs).length (by simp) (by simp; omega) q #[]
    rw [Go.Sort.grow_empty] at hp
    refine ⟨rfl, RowOk.congr hp.1 fun i hi j hj => ?_, hp.2.mono fun k _ e => ⟨_, rfl, e.symm⟩⟩
    unfold gL
    rw [List.getD_eq_getElem?_getD, List.getD_eq_getElem?_getD, List.getElem?_append_left hi]
end Go.Proofs.YtpiodhdbdlfnhaaGreatDoor
