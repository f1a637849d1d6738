/- The walks of the laws VarintZig and VarintOne. -/
import Derived.Test.YtcbbghepekehdaaVarL
import Derived.Test.YtcbbghepekehdaaVarP2
import Derived.RegionTactic
import Derived.Deep.RegionHeld3
import Derived.Outline
namespace Go.Proofs.Ytcbbghepekehdaa
open Go.RowKit
set_option linter.unusedVariables false
theorem i64_bounds {n : Int} (h : (Lit.int .i64 n).wf = true) : -9223372036854775808 ≤ n ∧ n ≤ 9223372036854775807 := by
  have := bounds_i64 h; omega
theorem zig_to (x z : Int) (hz : Hid (zigI x = z)) (h0 : -9223372036854775808 ≤ x) (h1 : x ≤ 9223372036854775807) (w : World) :
    Calls Try.prog 13 #[.int .i64 x] w fun e w' => e = .returned (.int .u64 z) ∧ w = w' := by
  have := zig_at x h0 h1 w
  rw [hz.out] at this; exact this
theorem zag_to (x z : Int) (hz : Hid (zagI x = z)) (h0 : 0 ≤ x) (h1 : x < 18446744073709551616) (w : World) :
    Calls Try.prog 14 #[.int .u64 x] w fun e w' => e = .returned (.int .i64 z) ∧ w = w' := by
  have := zag_at x h0 h1 w
  rw [hz.out] at this; exact this
set_option maxHeartbeats 1000000 in
theorem walk_VarintZig (a0 a1 a2 : Int) (w : World) (w0 : (Lit.int .i64 a0).wf = true) (w1 : (Lit.int .i64 a1).wf = true) (w2 : (Lit.int .u64 a2).wf = true) :
    Calls Try.prog 7 #[.int .i64 a0, .int .i64 a1, .int .u64 a2] w fun e w' => e = .returned (.bool true) ∧ Below w.heap.size w w' := by
  obtain ⟨hx0, hx1⟩ := i64_bounds w0
  obtain ⟨hy0, hy1⟩ := i64_bounds w1
  obtain ⟨hn0, hn1⟩ := u64_bounds w2
  obtain ⟨zx, hzx⟩ : ∃ z, zigI a0 = z := ⟨_, rfl⟩
  obtain ⟨zy, hzy⟩ : ∃ z, zigI a1 = z := ⟨_, rfl⟩
  obtain ⟨zn, hzn⟩ : ∃ z, zagI a2 = z := ⟨_, rfl⟩
  have bx := zig_bd a0 hx0 hx1
  have bn := zag_bd a2 hn0 hn1
  have hX2 := Lib.hid (zag_zig a0)
  have hN2 := Lib.hid (zig_zag a2 hn0)
  rw [hzx] at bx hX2
  rw [hzn] at bn hN2
  have cmp : (0 ≤ a0 → 0 ≤ a1 → (decide (zx < zy) == decide (a0 < a1)) = true) ∧ (a0 < 0 → a1 < 0 → (decide (zx < zy) == decide (a1 < a0)) = true) := by
    rw [← hzx, ← hzy]
    unfold zigI
    constructor
    · intro h h'
      rw [if_neg (by omega), if_neg (by omega)]
      by_cases g : a0 < a1
      · rw [decide_eq_true g, decide_eq_true (by omega)]; rfl
      · rw [decide_eq_false g, decide_eq_false (by omega)]; rfl
    · intro h h'
      rw [if_pos (by omega), if_pos (by omega)]
      by_cases g : a1 < a0
      · rw [decide_eq_true g, decide_eq_true (by omega)]; rfl
      · rw [decide_eq_false g, decide_eq_false (by omega)]; rfl
  have hC := Lib.hid cmp
  have hX := Lib.hid hzx
  have hY := Lib.hid hzy
  have hN := Lib.hid hzn
  obtain ⟨bx0, bx1⟩ := bx
  obtain ⟨bn0, bn1⟩ := bn
  clear hzx hzy hzn cmp w0 w1 w2
  go_enter Try.func7, Try.ntmps7
  go_wp2_with fail
  refine (works_at _).mono ?_
  rintro e W1 ⟨rfl, b1⟩
  go_wp2_with fail
  refine (zig_to a0 zx hX hx0 hx1 _).mono ?_
  rintro e w' ⟨rfl, rfl⟩
  go_wp2_with fail
  refine (zag_to zx a0 hX2 bx0 bx1 _).mono ?_
  rintro e w' ⟨rfl, rfl⟩
  go_wp2_with fail
  refine (zag_to a2 zn hN hn0 hn1 _).mono ?_
  rintro e w' ⟨rfl, rfl⟩
  go_wp2_with fail
  refine (zig_to zn a2 hN2 bn0 bn1 _).mono ?_
  rintro e w' ⟨rfl, rfl⟩
  go_wp2_with fail
  all_goals first
    | (go_ret; exact ⟨rfl, b1⟩)
    | (refine (zig_to a0 zx hX hx0 hx1 _).mono ?_
       rintro e w' ⟨rfl, rfl⟩
       go_wp2_with fail
       refine (zig_to a1 zy hY hy0 hy1 _).mono ?_
       rintro e w' ⟨rfl, rfl⟩
       go_wp2_with fail
       go_ret
       first
         | exact ⟨congrArg (fun b => Ending.returned (.bool b)) (hC.out.1 (by omega) (by omega)), b1⟩
         | exact ⟨congrArg (fun b => Ending.returned (.bool b)) (by rw [hC.out.2 (by omega) (by omega), Bool.or_true]), b1⟩)
theorem neS (a b : ByteArray) (h : a.data.toList ≠ b.data.toList) : (a.toList == b.toList) = false := by
  rw [beq_eq_false_iff_ne, Go.ByteArray.toList_eq, Go.ByteArray.toList_eq]
  exact h
set_option maxHeartbeats 1000000 in
theorem walk_VarintOne (a0 a1 : Int) (w : World) (w0 : (Lit.int .u64 a0).wf = true) (w1 : (Lit.int .u64 a1).wf = true) :
    Calls Try.prog 4 #[.int .u64 a0, .int .u64 a1] w fun e w' => e = .returned (.bool true) ∧ Below w.heap.size w w' := by
  obtain ⟨hx0, hx1⟩ := u64_bounds w0
  obtain ⟨hy0, hy1⟩ := u64_bounds w1
  obtain ⟨s, hs⟩ : ∃ t, strB (putB a0.toNat) = t := ⟨_, rfl⟩
  obtain ⟨t, ht⟩ : ∃ t, strB (putB a1.toNat) = t := ⟨_, rfl⟩
  have hs1 : s.data.toList = putB a0.toNat := by rw [← hs]; rfl
  have ht1 : t.data.toList = putB a1.toNat := by rw [← ht]; rfl
  have hS := Lib.hid hs
  have hT := Lib.hid ht
  have hm : a0 ≤ a1 → s.size ≤ t.size := fun h => by
    rw [size_list, size_list, hs1, ht1]; exact putB_mono _ _ (by omega)
  have hm' : a1 ≤ a0 → t.size ≤ s.size := fun h => by
    rw [size_list, size_list, hs1, ht1]; exact putB_mono _ _ (by omega)
  have hsz : s.size ≤ 10 := by rw [size_list, hs1]; exact (putB_len _).2
  have htz : t.size ≤ 10 := by rw [size_list, ht1]; exact (putB_len _).2
  by_cases he : a0 = a1
  · subst he
    obtain rfl : s = t := hs.symm.trans ht
    clear hs ht hs1 ht1 hm hm'
    go_enter Try.func4, Try.ntmps4
    go_wp2_with fail
    refine (works_at _).mono ?_
    rintro e W1 ⟨rfl, b1⟩
    go_wp2_with fail
    refine (put_at a0 s hS.out hx0 hx1 _).mono ?_
    rintro e W2 ⟨rfl, b2⟩
    go_wp2_with fail
    refine (put_at a0 s hS.out hx0 hx1 _).mono ?_
    rintro e W3 ⟨rfl, b3⟩
    go_wp2_with fail
    go_ret
    exact ⟨rfl, bchain (bchain b1 b2) b3⟩
  · have hne : s.data.toList ≠ t.data.toList := fun h => he (by
      rw [hs1, ht1] at h
      have := putB_inj _ _ (by omega) (by omega) h
      omega)
    have hb := neS s t hne
    have hab : (a0 == a1) = false := by simpa using he
    have hpre : s.size ≤ t.size → ((t.extract 0 s.size).toList == s.toList) = false := fun h => neS _ _ (fun h' => he (by
      rw [ByteArray.data_extract, Array.toList_extract, size_list, hs1, ht1] at h'
      have := putB_prefix a0.toNat a1.toNat (by omega) (by omega) (by simpa using h')
      omega))
    clear hs ht hs1 ht1 hne
    by_cases hlt : a0 < a1
    · have h1 := hm (by omega)
      have h2 := hpre h1
      clear hm hm' hpre
      go_enter Try.func4, Try.ntmps4
      go_wp2_with fail
      refine (works_at _).mono ?_
      rintro e W1 ⟨rfl, b1⟩
      go_wp2_with fail
      refine (put_at a0 s hS.out hx0 hx1 _).mono ?_
      rintro e W2 ⟨rfl, b2⟩
      go_wp2_with fail
      refine (put_at a1 t hT.out hy0 hy1 _).mono ?_
      rintro e W3 ⟨rfl, b3⟩
      go_wp2_with fail
      go_ret
      exact ⟨rfl, bchain (bchain b1 b2) b3⟩
    · have h1 := hm' (by omega)
      by_cases hl : s.size ≤ t.size
      · have h2 := hpre hl
        clear hm hm' hpre
        go_enter Try.func4, Try.ntmps4
        go_wp2_with fail
        refine (works_at _).mono ?_
        rintro e W1 ⟨rfl, b1⟩
        go_wp2_with fail
        refine (put_at a0 s hS.out hx0 hx1 _).mono ?_
        rintro e W2 ⟨rfl, b2⟩
        go_wp2_with fail
        refine (put_at a1 t hT.out hy0 hy1 _).mono ?_
        rintro e W3 ⟨rfl, b3⟩
        go_wp2_with fail
        go_ret
        exact ⟨rfl, bchain (bchain b1 b2) b3⟩
      · clear hm hm' hpre
        go_enter Try.func4, Try.ntmps4
        go_wp2_with fail
        refine (works_at _).mono ?_
        rintro e W1 ⟨rfl, b1⟩
        go_wp2_with fail
        refine (put_at a0 s hS.out hx0 hx1 _).mono ?_
        rintro e W2 ⟨rfl, b2⟩
        go_wp2_with fail
        refine (put_at a1 t hT.out hy0 hy1 _).mono ?_
        rintro e W3 ⟨rfl, b3⟩
        go_wp2_with fail
        go_ret
        exact ⟨rfl, bchain (bchain b1 b2) b3⟩
end Go.Proofs.Ytcbbghepekehdaa
