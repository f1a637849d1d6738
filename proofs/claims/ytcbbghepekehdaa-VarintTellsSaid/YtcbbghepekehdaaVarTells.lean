/- The walk of the law VarintTells. -/
import Derived.Test.YtcbbghepekehdaaVarR2
namespace Go.Proofs.Ytcbbghepekehdaa
open Go.RowKit
set_option linter.unusedVariables false
theorem eqS' (t : ByteArray) : (t.toList == t.toList) = true := eqS t t rfl
set_option maxRecDepth 100000 in
set_option maxHeartbeats 1000000 in
theorem walk_VarintTells (a0 a1 : Int) (a2 : ByteArray) (w : World) (w0 : (Lit.int .u64 a0).wf = true) (w1 : (Lit.int .i64 a1).wf = true) (w2 : a2.size ≤ maxLen) :
    Calls Try.prog 6 #[.int .u64 a0, .int .i64 a1, .string a2] w fun e w' => e = .returned (.bool true) ∧ Below w.heap.size w w' := by
  obtain ⟨hx0, hx1⟩ := u64_bounds w0
  obtain ⟨hy0, hy1⟩ := bounds_i64 w1
  have hy2 : a1 ≤ 9223372036854775807 := by omega
  by_cases hl : a2.size ≤ 1000
  · obtain ⟨t, ht⟩ : ∃ t, strB (putB a0.toNat) = t := ⟨_, rfl⟩
    obtain ⟨⟨g1, g2, g3⟩, hg⟩ : ∃ p, getB a2.data.toList = p := ⟨_, rfl⟩
    obtain ⟨zx, hzx⟩ : ∃ z, zigI a1 = z := ⟨_, rfl⟩
    obtain ⟨zn, hzn⟩ : ∃ z, zagI a0 = z := ⟨_, rfl⟩
    have hT := Lib.hid ht
    have hG := Lib.hid hg
    have he := eqS' t
    have hX := zig_at a1 hy0 hy2
    have hX' := refzig_at a1 hy0 hy2
    have hN := zag_at a0 hx0 hx1
    have hN' := refzag_at a0 hx0 hx1
    rw [hzx] at hX hX'
    rw [hzn] at hN hN'
    have HX := Lib.hid hX
    have HX' := Lib.hid hX'
    have HN := Lib.hid hN
    have HN' := Lib.hid hN'
    clear ht hg hzx hzn hX hX' hN hN'
    go_enter Try.func6, Try.ntmps6
    go_wp2_with fail
    refine (get_at a2 _ _ _ hG.out w2 _).mono ?_
    rintro e w' ⟨rfl, rfl⟩
    go_wp2_with fail
    refine (refget_at a2 _ _ _ hG.out w2 _).mono ?_
    rintro e w' ⟨rfl, rfl⟩
    go_wp2_with fail
    refine (put_at a0 t hT.out hx0 hx1 _).mono ?_
    rintro e W1 ⟨rfl, b1⟩
    go_wp2_with fail
    refine (refput_at a0 t hT.out hx0 hx1 _).mono ?_
    rintro e W2 ⟨rfl, b2⟩
    go_wp2_with fail
    refine (HX.out _).mono ?_
    rintro e w' ⟨rfl, rfl⟩
    go_wp2_with fail
    refine (HX'.out _).mono ?_
    rintro e w' ⟨rfl, rfl⟩
    go_wp2_with fail
    refine (HN.out _).mono ?_
    rintro e w' ⟨rfl, rfl⟩
    go_wp2_with fail
    refine (HN'.out _).mono ?_
    rintro e w' ⟨rfl, rfl⟩
    go_wp2_with fail
    go_ret
    exact ⟨by simp, bchain b1 b2⟩
  · go_enter Try.func6, Try.ntmps6
    go_wp2_with fail
    go_ret
    exact ⟨rfl, Below.refl _ _⟩
end Go.Proofs.Ytcbbghepekehdaa
