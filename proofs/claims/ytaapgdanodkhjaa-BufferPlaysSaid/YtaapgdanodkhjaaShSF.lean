/- slices.SortFunc of pairs of ints by a function that holds their first ones against each other: the library's contract, laid here. -/
import Derived.Shelf.SlSortCmp.WholeK
import Derived.Shelf.SlSortCmp.NoneTotal
import Derived.Lib.Strings
import Derived.Lib.Slices
import Derived.Lib.Small
import Derived.Lib.Walk
import Derived.Test.YtaapgdanodkhjaaProg
import Derived.Test.YtaapgdanodkhjaaGen
import Derived.Test.YtaapgdanodkhjaaFacts
namespace Go.Proofs
open Go.Shelf
def Try.laysSF_ren : Go.Shelf.Ren := ⟨fun | 6 => 32 | 15 => 39 | 14 => 38 | 28 => 50 | 29 => 51 | 20 => 42 | 21 => 43 | 22 => 44 | 23 => 45 | 24 => 46 | 25 => 47 | 26 => 48 | 27 => 49 | 46 => 52 | 47 => 53 | 48 => 54 | 49 => 55 | 50 => 56 | 57 => 57 | n => n, fun | 22 => 32 | 24 => 35 | 25 => 62 | 3 => 3 | 39 => 69 | 0 => 0 | 53 => 81 | 55 => 83 | 4 => 4 | 46 => 74 | 45 => 73 | 50 => 78 | 5 => 5 | 9 => 9 | 66 => 84 | 70 => 88 | 76 => 90 | 77 => 91 | n => n, fun | n => n⟩
theorem Try.laysSF : Go.Proofs.SlLaysF0.n6 Try.prog Try.laysSF_ren := {
  mixed := by kernel_rfl
  f6 := ⟨Try.f32.name, by decide, Try.func32.trans (congrArg some (by kernel_rfl))⟩
  f14 := ⟨Try.f38.name, by decide, Try.func38.trans (congrArg some (by kernel_rfl))⟩
  f15 := Try.func39.trans (congrArg some (by kernel_rfl))
  f20 := ⟨Try.f42.name, by decide, Try.func42.trans (congrArg some (by kernel_rfl))⟩
  f21 := ⟨Try.f43.name, by decide, Try.func43.trans (congrArg some (by kernel_rfl))⟩
  f22 := ⟨Try.f44.name, by decide, Try.func44.trans (congrArg some (by kernel_rfl))⟩
  f23 := ⟨Try.f45.name, by decide, Try.func45.trans (congrArg some (by kernel_rfl))⟩
  f24 := ⟨Try.f46.name, by decide, Try.func46.trans (congrArg some (by kernel_rfl))⟩
  f25 := ⟨Try.f47.name, by decide, Try.func47.trans (congrArg some (by kernel_rfl))⟩
  f26 := ⟨Try.f48.name, by decide, Try.func48.trans (congrArg some (by kernel_rfl))⟩
  f27 := ⟨Try.f49.name, by decide, Try.func49.trans (congrArg some (by kernel_rfl))⟩
  f28 := Try.func50.trans (congrArg some (by kernel_rfl))
  f29 := Try.func51.trans (congrArg some (by kernel_rfl))
  f46 := ⟨Try.f52.name, by decide, Try.func52.trans (congrArg some (by kernel_rfl))⟩
  f47 := Try.func53.trans (congrArg some (by kernel_rfl))
  f48 := Try.func54.trans (congrArg some (by kernel_rfl))
  f49 := ⟨Try.f55.name, by decide, Try.func55.trans (congrArg some (by kernel_rfl))⟩
  f50 := ⟨Try.f56.name, by decide, Try.func56.trans (congrArg some (by kernel_rfl))⟩
  f57 := ⟨Try.f57.name, by decide, Try.func57.trans (congrArg some (by kernel_rfl))⟩
  t0 := Try.underlying0
  a0 := Try.isAgg0
  z0 := Try.sizeOf0
  v0 := Try.zeroValue0
  t3 := Try.underlying3
  a3 := Try.isAgg3
  z3 := Try.sizeOf3
  v3 := Try.zeroValue3
  t4 := Try.underlying4
  a4 := Try.isAgg4
  z4 := Try.sizeOf4
  v4 := Try.zeroValue4
  t5 := Try.underlying5
  a5 := Try.isAgg5
  z5 := Try.sizeOf5
  v5 := Try.zeroValue5
  t9 := Try.underlying9
  a9 := Try.isAgg9
  z9 := Try.sizeOf9
  v9 := Try.zeroValue9
  t22 := Try.underlying32
  a22 := Try.isAgg32
  z22 := Try.sizeOf32
  v22 := Try.zeroValue32
  t25 := Try.underlying62
  a25 := Try.isAgg62
  z25 := Try.sizeOf62
  v25 := Try.zeroValue62
  t39 := Try.underlying69
  a39 := Try.isAgg69
  z39 := Try.sizeOf69
  v39 := Try.zeroValue69
  t45 := Try.underlying73
  a45 := Try.isAgg73
  z45 := Try.sizeOf73
  v45 := Try.zeroValue73
  t46 := Try.underlying74
  a46 := Try.isAgg74
  z46 := Try.sizeOf74
  v46 := Try.zeroValue74
  t50 := Try.underlying78
  a50 := Try.isAgg78
  z50 := Try.sizeOf78
  v50 := Try.zeroValue78
  t53 := Try.underlying81
  a53 := Try.isAgg81
  z53 := Try.sizeOf81
  v53 := Try.zeroValue81
  t55 := Try.underlying83
  a55 := Try.isAgg83
  z55 := Try.sizeOf83
  v55 := Try.zeroValue83
  t66 := Try.underlying84
  a66 := Try.isAgg84
  z66 := Try.sizeOf84
  v66 := Try.zeroValue84
  t70 := Try.underlying88
  a70 := Try.isAgg88
  z70 := Try.sizeOf88
  v70 := Try.zeroValue88
  t76 := Try.underlying90
  a76 := Try.isAgg90
  z76 := Try.sizeOf90
  v76 := Try.zeroValue90
  t77 := Try.underlying91
  a77 := Try.isAgg91
  z77 := Try.sizeOf91
  v77 := Try.zeroValue91
}
end Go.Proofs
namespace Go.Proofs.Ytaapgdanodkhjaa
open Go.RowKit Go.Lib Go.Sort Go.Shelf
set_option linter.unusedVariables false
set_option maxHeartbeats 2000000
theorem isNaN_x (x : Int) (w : World) : Calls Try.prog 40 #[.int .i64 x] w fun e w' => e = .returned (.bool false) ∧ w' = w := by
  go_enter Try.func40, Try.ntmps40
  go_wp2
  go_ret
  exact ⟨by simp, rfl⟩
theorem compare_x (x y : Int) (w : World) : Calls Try.prog 34 #[.int .i64 x, .int .i64 y] w fun e w' => e = .returned (.int .i64 (Lib.compareInt x y)) ∧ w' = w := by
  go_enter Try.func34, Try.ntmps34
  go_wp2_with (go_at_call 40; refine (isNaN_x _ _).mono ?_; rintro e w' ⟨rfl, hw⟩; rw [hw])
  all_goals (go_ret; refine ⟨?_, rfl⟩; unfold Lib.compareInt; (repeat' split) <;> first | rfl | (exfalso; omega))
/-- A pair's two cells. -/
def encPL (x : Int × Int) : List Value := [.int .i64 x.1, .int .i64 x.2]
def encQ (p : Int × Int) : Nat → Value := fun j => match j with | 0 => .int .i64 p.1 | _ => .int .i64 p.2
instance plainQ : Plain encQ := ⟨fun z j => by cases j <;> rfl⟩
theorem allcmp_x (x y : Int × Int) (W : World) : Calls Try.prog 33 #[.agg #[.int .i64 x.1, .int .i64 x.2], .agg #[.int .i64 y.1, .int .i64 y.2]] W fun e w' => e = .returned (.int .i64 (Lib.compareInt x.1 y.1)) ∧ ∃ q os', w' = grow (W.drewN q) os' := by
  have hcon := fun W' => compare_x x.1 y.1 W'
  generalize Lib.compareInt x.1 y.1 = r at hcon ⊢
  go_enter Try.func33, Try.ntmps33
  go_wp2_with (go_at_call 34; refine (hcon _).mono ?_; rintro e w' ⟨rfl, rfl⟩)
  go_ret
  exact ⟨rfl, 0, _, by rw [alloc_eq_grow, alloc_eq_grow, grow_grow]; rfl⟩
theorem ltPair (x y : Int × Int) : ltOf (fun x y : Int × Int => Lib.compareInt x.1 y.1) x y = decide (x.1 < y.1) := by
  unfold ltOf Lib.compareInt
  by_cases h1 : x.1 < y.1
  · simp [h1]
  · by_cases h2 : y.1 < x.1 <;> simp [h1, h2]
theorem swoPair : SWO (ltOf fun x y : Int × Int => Lib.compareInt x.1 y.1) where
  irrefl x := by rw [ltPair]; simp
  trans x y z h1 h2 := by rw [ltPair] at *; simp at *; omega
  ntrans x y z h1 h2 := by rw [ltPair] at *; simp at *; omega
theorem toArrP (d : List (Int × Int)) (i : Nat) : d.toArray[i]! = d.getD i (0, 0) := by
  rw [List.getElem!_toArray, List.getElem!_eq_getElem?_getD, List.getD_eq_getElem?_getD]
  rfl
theorem flatQ_get (d : List (Int × Int)) (i j : Nat) (hi : i < d.length) (hj : j < 2) : (flatK encPL 2 d.toArray)[i * 2 + j]! = gL encQ (0, 0) d i j := by
  rw [get_flatK _ _ _ _ (by simp; omega), show (i * 2 + j) / 2 = i from by omega, show (i * 2 + j) % 2 = j from by omega, toArrP]
  unfold gL encPL encQ
  match j, hj with
  | 0, _ => rfl
  | 1, _ => rfl
theorem RowOk.heldP {w : World} {b e cap : Nat} {zs : List (Int × Int)} (h : RowOk w (some ⟨b, 0, none⟩) zs.length cap e 2 (gL encQ (0, 0) zs)) : HoldsK encPL 2 w b 0 zs.toArray := by
  obtain ⟨h0, ⟨hx, _, _⟩ | ⟨b', cur, hb, h1, h2, h3, h4, h5⟩⟩ := h
  · cases hx
  cases hb
  intro t ht
  have ht2 : t < zs.length * 2 := by simpa [flatK] using ht
  have h6 := h5 (t / 2) (by omega) (t % 2) (by omega)
  rw [show t / 2 * 2 + t % 2 = t from by omega] at h6
  have h7 := flatQ_get zs (t / 2) (t % 2) (by omega) (by omega)
  rw [show t / 2 * 2 + t % 2 = t from by omega] at h7
  rw [h7, Nat.zero_add]
  exact ⟨by rw [cell_of_row _ _ _ _ _ _ h1]; exact h6, by simp [World.frozen?, h1]⟩
theorem RowOk.putP {w : World} {b e cap : Nat} {zs : List (Int × Int)} (h : RowOk w (some ⟨b, 0, none⟩) zs.length cap e 2 (gL encQ (0, 0) zs)) (d : List (Int × Int)) (hd : d.length = zs.length) (n : Nat) (os : Array Obj) :
    RowOk (sortWorldK encPL 2 w b 0 n d.toArray os) (some ⟨b, 0, none⟩) d.length cap e 2 (gL encQ (0, 0) d) ∧ Chg (fun k => k = b) w (sortWorldK encPL 2 w b 0 n d.toArray os) := by
  obtain ⟨h0, ⟨hx, _, _⟩ | ⟨b', cur, hb, h1, h2, h3, h4, h5⟩⟩ := h
  · cases hx
  cases hb
  have hlt : b < w.heap.size := lt_of_heap h1
  unfold sortWorldK putRowK
  refine ⟨⟨h0, .inr ⟨b, Go.Sort.putCells id 0 (flatK encPL 2 d.toArray) cur, rfl, ?_, by omega, h3, ?_, ?_⟩⟩, rfl, rfl, rfl, ?_, ?_⟩
  · rw [Go.Sort.heap_grow_old _ _ (by simpa using hlt)]
    simp [Go.Sort.putRow, Go.Sort.mapBlock, Array.getElem?_modify, h1, Go.Sort.onCells]
  · simp [Go.Sort.putCells, h4]
  · intro i hi j hj
    have h6 := h5 i (by omega) j hj
    have h7 := flatQ_get d i j hi hj
    simp only [Go.Sort.putCells, Array.getElem?_mapIdx, h6, Option.map_some]
    rw [if_pos ⟨by omega, by simp [flatK]; omega⟩, Nat.sub_zero, h7]
    rfl
  · simp
  · intro k hk hn
    rw [Go.Sort.heap_grow_old _ _ (by simpa using hk)]
    simp only [Go.Sort.putRow, Go.Sort.mapBlock, Array.getElem?_modify]
    rw [if_neg (fun e : b = k => hn e.symm)]
    rfl
theorem sortP_at {w : World} {a : Option Addr} {e cap : Nat} {zs : List (Int × Int)} (hn : zs.length < 4611686018427387904) (h : RowOk w a zs.length cap e 2 (gL encQ (0, 0) zs)) : Calls Try.prog 32 #[.slice a zs.length cap, .func (.func 33) #[] #[]] w fun r w' =>
    r = .returned (.tuple #[]) ∧ ∃ d, d.Perm zs ∧ d.Pairwise (fun p q => ¬ q.1 < p.1) ∧ RowOk w' a d.length cap e 2 (gL encQ (0, 0) d) ∧ Chg (fun k => ∃ x, a = some x ∧ x.block = k) w w' := by
  have h' := h
  obtain ⟨h0, ⟨rfl, hz, _⟩ | ⟨b, cur, rfl, h1, h2, h3, h4, h5⟩⟩ := h'
  · have : zs = [] := List.eq_nil_of_length_eq_zero hz
    subst this
    refine (AnyF.slices_SortFunc_none Try.laysSF none cap _ w).mono fun r w' hr => ?_
    obtain ⟨rfl, rfl⟩ := hr
    exact ⟨rfl, [], .refl _, .nil, h, Chg.refl _ _⟩
  · have eg : ∀ args w, (callFunc 33 args).run Try.prog w = .ok (.enter 33 args) w := enters_of Try.func33 (by kernel_rfl) rfl
    have hcon := AnyQ.slices_SortFunc Try.laysSF 2 Try.isAgg35 Try.sizeOf35 encPL (fun _ => rfl) (fun x v hv => by simp [encPL] at hv; rcases hv with rfl | rfl <;> rfl) (fun x y => Lib.compareInt x.1 y.1) swoPair 33 #[] b 0 cap zs.toArray w eg (fun _ _ _ _ x y => allcmp_x x y _) h.heldP (lt_of_heap h1) (by simpa using hn)
    refine Calls.mono hcon fun r w' hr => ?_
    obtain ⟨rfl, d', n, os, ⟨hs, _, hp⟩, ho, rfl⟩ := hr
    have hs' : d'.toList.length = zs.length := by simpa using hs
    have hput := h.putP d'.toList hs' n os
    rw [Array.toArray_toList] at hput
    refine ⟨rfl, d'.toList, ?_, ?_, hput.1, hput.2.mono fun k _ e => ⟨_, rfl, e.symm⟩⟩
    · have e1 : d'.extract 0 zs.toArray.size = d' := by rw [← hs]; simp
      rw [e1] at hp
      simpa using hp
    · rw [List.pairwise_iff_getElem]
      intro i j hi hj hij
      have := ho i j (Nat.zero_le _) hij (by simpa [← hs] using hj)
      rw [ltPair] at this
      rw [getElem!_pos d' j (by simpa using hj), getElem!_pos d' i (by simpa using hi)] at this
      simpa using this
end Go.Proofs.Ytaapgdanodkhjaa
