/- The walk of the law VarintBack. -/
import Derived.Test.YtcbbghepekehdaaVarL
import Derived.RegionTactic
import Derived.Deep.RegionHeld3
import Derived.Outline
namespace Go.Proofs.Ytcbbghepekehdaa
open Go.RowKit
set_option linter.unusedVariables false
set_option maxHeartbeats 1000000 in
theorem walk_VarintBack (a0 : Int) (a1 a2 : ByteArray) (w : World) (w0 : (Lit.int .u64 a0).wf = true) (w1 : a1.size ≤ maxLen) (w2 : a2.size ≤ maxLen) :
    Calls Try.prog 3 #[.int .u64 a0, .string a1, .string a2] w fun e w' => e = .returned (.bool true) ∧ Below w.heap.size w w' := by
  obtain ⟨h0, h1⟩ := u64_bounds w0
  by_cases hl : a1.size ≤ 1000
  · by_cases hl2 : a2.size ≤ 1000
    · obtain ⟨t, ht⟩ : ∃ t, strB (putB a0.toNat) = t := ⟨_, rfl⟩
      have ht1 : t.data.toList = putB a0.toNat := by rw [← ht]; rfl
      have hlen : t.size = (putB a0.toNat).length := by rw [← ht1]; exact size_list t
      have hp := putB_len a0.toNat
      have hz1 : 1 ≤ t.size := by omega
      have hz2 : t.size ≤ 10 := by omega
      have hg1 := Lib.hid (getB_putB a0.toNat a1.data.toList (by omega))
      have hg2 := Lib.hid (getB_short a0.toNat (by omega))
      obtain ⟨⟨g1, g2, g3⟩, hg⟩ : ∃ p, getB a2.data.toList = p := ⟨_, rfl⟩
      have hgb := Lib.hid (getB_back _ _ _ _ hg)
      have hG := Lib.hid hg
      have hT := Lib.hid ht
      have hT1 := Lib.hid ht1
      have hL := Lib.hid hlen
      clear hp hg ht ht1 hlen
      go_enter Try.func3, Try.ntmps3
      go_wp2_with fail
      refine (works_at _).mono ?_
      rintro e W1 ⟨rfl, b1⟩
      go_wp2_with fail
      refine (put_at a0 t hT.out h0 h1 _).mono ?_
      rintro e W2 ⟨rfl, b2⟩
      go_wp2_with fail
      refine (gets_at (t ++ a1) _ _ _ true a0.toNat t.size 0 ?g1 ?g2 ?g3 _).mono ?_
      case g1 => rw [append_list, hT1.out, hL.out]; exact hg1.out
      case g2 => simp; omega
      case g3 => rw [size_list, append_list, List.length_append, ← size_list, ← size_list]; unfold maxLen; omega
      rintro e w' ⟨rfl, rfl⟩
      go_wp2_with fail
      refine (gets_at _ _ _ _ true 0 0 8 ?g4 ?g5 ?g6 _).mono ?_
      case g4 => rw [show (t.extract 0 (t.size - 1)).data.toList = (putB a0.toNat).dropLast by rw [← hT1.out]; exact drop_last t]; exact hg2.out
      case g5 => rfl
      case g6 => rw [size_list, drop_last, List.length_dropLast, ← size_list]; unfold maxLen; omega
      rintro e w' ⟨rfl, rfl⟩
      rcases hgb.out with ⟨rfl, k1, k2, k3, k4, k5⟩ | ⟨rfl, rfl, rfl | rfl | rfl⟩
      · have hK2 := Lib.hid k2
        have hK5 := Lib.hid k5
        rw [← size_list] at k4
        clear k2 k5
        go_wp2_with fail
        refine (get_at a2 g1 g2 0 hG.out w2 _).mono ?_
        rintro e w' ⟨rfl, rfl⟩
        go_wp2_with fail
        have hd1 : decide ((1 : Int) ≤ (g2 : Int)) = true := by simp; omega
        have hd2 : decide ((g2 : Int) ≤ (a2.size : Int)) = true := by simp; omega
        go_region_held3 (fun _ => True) (trivial) (first | (go_at_call 9; refine (put_at g1 (strB (putB g1)) rfl (by omega) (by omega) _).mono ?_; rintro e W3 ⟨rfl, b3⟩))
        go_wp2
        go_ret
        refine ⟨congrArg (fun b => Ending.returned (.bool b)) ?_, bchain (bchain b1 b2).drew b3⟩
        have e1 : (strB (putB g1)).data.toList = (a2.extract 0 g2).data.toList := by
          rw [ByteArray.data_extract, Array.toList_extract]
          simpa [strB] using hK5.out
        exact eqS _ _ e1
      all_goals
        go_wp2_with fail
        refine (get_at a2 0 0 _ hG.out w2 _).mono ?_
        rintro e w' ⟨rfl, rfl⟩
        go_wp2_with fail
        go_ret
        exact ⟨rfl, bchain b1 b2⟩
    · go_enter Try.func3, Try.ntmps3
      go_wp2_with fail
      refine (works_at _).mono ?_
      rintro e W1 ⟨rfl, b1⟩
      go_wp2_with fail
      refine (works_at _).mono ?_
      rintro e W2 ⟨rfl, b2⟩
      go_wp2_with fail
      go_ret
      exact ⟨rfl, bchain b1 b2⟩
  · go_enter Try.func3, Try.ntmps3
    go_wp2_with fail
    refine (works_at _).mono ?_
    rintro e W1 ⟨rfl, b1⟩
    go_wp2_with fail
    refine (works_at _).mono ?_
    rintro e W2 ⟨rfl, b2⟩
    go_wp2_with fail
    go_ret
    exact ⟨rfl, bchain b1 b2⟩
end Go.Proofs.Ytcbbghepekehdaa
