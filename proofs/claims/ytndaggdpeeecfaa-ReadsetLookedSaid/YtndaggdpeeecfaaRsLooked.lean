/- The walk of the law ReadsetLooked. -/
import Derived.Test.YtndaggdpeeecfaaRsL
import Derived.OpenShut
namespace Go.Proofs.Ytndaggdpeeecfaa
open Go.RowKit Go.Lib
set_option linter.unusedVariables false
theorem Ints.nil (w : World) : Ints w none 0 0 [] := ⟨rfl, Nat.le_refl _, Nat.zero_le _, .inl rfl⟩
set_option maxRecDepth 100000 in
set_option maxHeartbeats 8000000 in
theorem walk_ReadsetLooked (a0 a1 a2 a3 a4 : Int) (w : World) (w0 : (Lit.int .i64 a0).wf = true) (w1 : (Lit.int .i64 a1).wf = true) (w2 : (Lit.int .i64 a2).wf = true) (w3 : (Lit.int .i64 a3).wf = true) (w4 : (Lit.int .i64 a4).wf = true) :
    Calls Try.prog 3 #[.int .i64 a0, .int .i64 a1, .int .i64 a2, .int .i64 a3, .int .i64 a4] w fun e w' => e = .returned (.bool true) ∧ Below w.heap.size w w' := by
  have hb0 : -9223372036854775808 ≤ a0 ∧ a0 ≤ 9223372036854775807 := by have := bounds_i64 w0; omega
  obtain ⟨m, hm⟩ : ∃ m, (a1 % 18446744073709551616) % 1000 = m := ⟨_, rfl⟩
  have hmb : 0 ≤ m ∧ m < 1000 := by omega
  have e1 : IntKind.u64.wrap a1 = a1 % 18446744073709551616 := by rw [IntKind.wrap_u64]
  have e2 : IntKind.u64.wrap ((a1 % 18446744073709551616).tmod 1000) = m := by rw [IntKind.wrap_u64, Int.tmod_eq_emod_of_nonneg (by omega)]; omega
  have e3 : IntKind.i64.wrap m = m := by rw [IntKind.wrap_i64]; omega
  have e4 : (a1 % 18446744073709551616).tmod 1000 = m := by rw [Int.tmod_eq_emod_of_nonneg (by omega)]; exact hm
  clear hm w0 w1 w2 w3 w4
  go_enter Try.func3, Try.ntmps3
  go_wp2_with fail
  refine (awake_at _).mono ?_
  rintro e wA ⟨rfl, bA⟩
  have BA := Lib.hid bA
  clear bA
  go_wp2_with fail
  refine (made_at a0 none 0 0 [] _ (Ints.nil _) hb0.1 hb0.2).mono ?_
  rintro e wB ⟨rfl, hS, hB⟩
  have SB := Lib.hid hS
  have BB := Lib.hid (BA.out.trans (hB.mono BA.out.size))
  obtain ⟨r, hr⟩ : ∃ r, madeRV a0 = r := ⟨_, rfl⟩
  have hrb := madeRV_bd a0
  rw [hr] at SB hrb
  clear hS hB hr
  go_wp2_with fail
  refine (rv_at _ r 32 _ _ SB.out).mono ?_
  rintro e w' ⟨rfl, rfl⟩
  by_cases hmn : r + m ≤ 1099511627776
  · go_wp2_with fail
    refine (new_ok (r + m) 32 (by omega) hmn (by decide) (by decide) _).mono ?_
    rintro e wC ⟨rfl, eC⟩
    have SC := Lib.hid (eC ▸ SetAt.new (r + m) 32 (by omega) (by omega) (by decide) (by decide) wB : SetAt wC wB.heap.size (r + m) 32 (List.replicate 32 false))
    have kC : Below wB.heap.size wB wC := eC ▸ (Below.refl _ wB).alloc (Nat.le_refl _) _
    have SA := Lib.hid (SB.out.below kC)
    have BC := Lib.hid (BB.out.trans (kC.mono BB.out.size))
    obtain ⟨r2, hr2⟩ : ∃ r2, (r + m) = r2 := ⟨_, rfl⟩
    rw [hr2] at SC
    have hrr : r ≤ r2 := by omega
    clear kC eC hr2 e1 e2 e3 e4 hmn
    by_cases ho : a2 = -1
    · subst ho
      by_cases hv : r < a3
      · have h1 : ¬ a3 ≤ r := by omega
        have st : staleB r (-1) a3 a4 = true := by simp [staleB, hv]
        have lk : lookI r (-1) a3 = 2 := by simp [lookI, hv]
        have ST := Lib.hid st
        have LK := Lib.hid lk
        clear st lk
        go_wp2_with fail
        refine (look_at _ r 32 _ (-1) a3 2 _ SA.out LK.out).mono ?_
        rintro e w' ⟨rfl, rfl⟩
        go_wp2_with fail
        refine (rv_at _ r 32 _ _ SA.out).mono ?_
        rintro e w' ⟨rfl, rfl⟩
        go_wp2_with fail
        refine (stale_at _ r 32 _ (-1) a3 a4 true _ SA.out ST.out).mono ?_
        rintro e w' ⟨rfl, rfl⟩
        go_wp2_with fail
        go_ret
        refine ⟨congrArg (fun b => Ending.returned (.bool b)) ?_, BC.out⟩
        simp; omega
      · have h1 : a3 ≤ r := by omega
        have st : staleB r (-1) a3 a4 = false := by simp [staleB]; omega
        have lk : lookI r (-1) a3 = 0 := by simp [lookI]; omega
        have lk2 : lookI r2 (-1) a3 = 0 := by simp [lookI]; omega
        have ST := Lib.hid st
        have LK := Lib.hid lk
        have LK2 := Lib.hid lk2
        clear st lk lk2
        go_wp2_with fail
        refine (look_at _ r 32 _ (-1) a3 0 _ SA.out LK.out).mono ?_
        rintro e w' ⟨rfl, rfl⟩
        go_wp2_with fail
        refine (stale_at _ r 32 _ (-1) a3 a4 false _ SA.out ST.out).mono ?_
        rintro e w' ⟨rfl, rfl⟩
        go_wp2_with fail
        refine (look_at _ r2 32 _ (-1) a3 0 _ SC.out LK2.out).mono ?_
        rintro e w' ⟨rfl, rfl⟩
        go_wp2_with fail
        refine (rv_at _ r 32 _ _ SA.out).mono ?_
        rintro e w' ⟨rfl, rfl⟩
        go_wp2_with fail
        refine (stale_at _ r 32 _ (-1) a3 a4 false _ SA.out ST.out).mono ?_
        rintro e w' ⟨rfl, rfl⟩
        go_wp2_with fail
        go_ret
        exact ⟨rfl, BC.out⟩
    · have hb1 : (a2 == -1) = false := by simpa using ho
      have lk : lookI r a2 a3 = 1 := by simp [lookI, ho]
      have LK := Lib.hid lk
      clear lk ho
      go_wp2_with fail
      refine (look_at _ r 32 _ a2 a3 1 _ SA.out LK.out).mono ?_
      rintro e w' ⟨rfl, rfl⟩
      cases hst : staleB r a2 a3 a4
      all_goals
        have ST := Lib.hid hst
        clear hst
        go_wp2_with fail
        refine (stale_at _ r 32 _ a2 a3 a4 _ _ SA.out ST.out).mono ?_
        rintro e w' ⟨rfl, rfl⟩
        go_wp2_with fail
        go_ret
        exact ⟨rfl, BC.out⟩
  · have hmn' : ¬ r + m ≤ 1099511627776 := hmn
    go_wp2_with fail
    refine (new_ok 1099511627776 32 (by omega) (by omega) (by decide) (by decide) _).mono ?_
    rintro e wC ⟨rfl, eC⟩
    have SC := Lib.hid (eC ▸ SetAt.new 1099511627776 32 (by omega) (by omega) (by decide) (by decide) wB : SetAt wC wB.heap.size (1099511627776) 32 (List.replicate 32 false))
    have kC : Below wB.heap.size wB wC := eC ▸ (Below.refl _ wB).alloc (Nat.le_refl _) _
    have SA := Lib.hid (SB.out.below kC)
    have BC := Lib.hid (BB.out.trans (kC.mono BB.out.size))
    obtain ⟨r2, hr2⟩ : ∃ r2, (1099511627776 : Int) = r2 := ⟨_, rfl⟩
    rw [hr2] at SC
    have hrr : r ≤ r2 := by omega
    clear kC eC hr2 e1 e2 e3 e4 hmn hmn'
    by_cases ho : a2 = -1
    · subst ho
      by_cases hv : r < a3
      · have h1 : ¬ a3 ≤ r := by omega
        have st : staleB r (-1) a3 a4 = true := by simp [staleB, hv]
        have lk : lookI r (-1) a3 = 2 := by simp [lookI, hv]
        have ST := Lib.hid st
        have LK := Lib.hid lk
        clear st lk
        go_wp2_with fail
        refine (look_at _ r 32 _ (-1) a3 2 _ SA.out LK.out).mono ?_
        rintro e w' ⟨rfl, rfl⟩
        go_wp2_with fail
        refine (rv_at _ r 32 _ _ SA.out).mono ?_
        rintro e w' ⟨rfl, rfl⟩
        go_wp2_with fail
        refine (stale_at _ r 32 _ (-1) a3 a4 true _ SA.out ST.out).mono ?_
        rintro e w' ⟨rfl, rfl⟩
        go_wp2_with fail
        go_ret
        refine ⟨congrArg (fun b => Ending.returned (.bool b)) ?_, BC.out⟩
        simp; omega
      · have h1 : a3 ≤ r := by omega
        have st : staleB r (-1) a3 a4 = false := by simp [staleB]; omega
        have lk : lookI r (-1) a3 = 0 := by simp [lookI]; omega
        have lk2 : lookI r2 (-1) a3 = 0 := by simp [lookI]; omega
        have ST := Lib.hid st
        have LK := Lib.hid lk
        have LK2 := Lib.hid lk2
        clear st lk lk2
        go_wp2_with fail
        refine (look_at _ r 32 _ (-1) a3 0 _ SA.out LK.out).mono ?_
        rintro e w' ⟨rfl, rfl⟩
        go_wp2_with fail
        refine (stale_at _ r 32 _ (-1) a3 a4 false _ SA.out ST.out).mono ?_
        rintro e w' ⟨rfl, rfl⟩
        go_wp2_with fail
        refine (look_at _ r2 32 _ (-1) a3 0 _ SC.out LK2.out).mono ?_
        rintro e w' ⟨rfl, rfl⟩
        go_wp2_with fail
        refine (rv_at _ r 32 _ _ SA.out).mono ?_
        rintro e w' ⟨rfl, rfl⟩
        go_wp2_with fail
        refine (stale_at _ r 32 _ (-1) a3 a4 false _ SA.out ST.out).mono ?_
        rintro e w' ⟨rfl, rfl⟩
        go_wp2_with fail
        go_ret
        exact ⟨rfl, BC.out⟩
    · have hb1 : (a2 == -1) = false := by simpa using ho
      have lk : lookI r a2 a3 = 1 := by simp [lookI, ho]
      have LK := Lib.hid lk
      clear lk ho
      go_wp2_with fail
      refine (look_at _ r 32 _ a2 a3 1 _ SA.out LK.out).mono ?_
      rintro e w' ⟨rfl, rfl⟩
      cases hst : staleB r a2 a3 a4
      all_goals
        have ST := Lib.hid hst
        clear hst
        go_wp2_with fail
        refine (stale_at _ r 32 _ a2 a3 a4 _ _ SA.out ST.out).mono ?_
        rintro e w' ⟨rfl, rfl⟩
        go_wp2_with fail
        go_ret
        exact ⟨rfl, BC.out⟩
end Go.Proofs.Ytndaggdpeeecfaa
