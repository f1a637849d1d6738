/- The law package seesawlaw10: awake, made. -/
import Derived.Test.YtndaggdpeeecfaaRsWk
namespace Go.Proofs.Ytndaggdpeeecfaa
open Go.RowKit Go.Lib
set_option linter.unusedVariables false
def intRow (zs : List Int) : Array Value := (zs.map (Value.int .i64)).toArray
theorem Ints.of_row {w : World} {g : Nat} {e : TypeId} {fr : Nat × Nat} (zs : List Int) (n : Nat) (hn : n = zs.length) (hl : zs.length ≤ maxLen) (h : w.heap[g]? = some (.cells (intRow zs) e fr)) : Ints w (some ⟨g, 0, none⟩) n n zs := by
  subst hn
  refine ⟨rfl, Nat.le_refl _, hl, .inr ⟨g, 0, rfl, lt_of_heap h, fun i hi j v hv => ?_⟩⟩
  have hj : j = 0 := by
    rcases Nat.eq_zero_or_pos j with h | h
    · exact h
    · rw [List.getElem?_eq_none (by simp; omega)] at hv; cases hv
  subst hj
  rw [cell_of_row _ _ _ _ _ _ h]
  simp at hv
  subst hv
  simp [intRow, hi]
theorem ints2 (w : World) (xs ys : List Int) (e : TypeId) (hx : xs.length ≤ maxLen) (hy : ys.length ≤ maxLen) (W : World) (hW : (w.alloc (.cells (intRow xs) e)).alloc (.cells (intRow ys) e) = W) :
    Ints W (some ⟨w.heap.size, 0, none⟩) xs.length xs.length xs ∧ Ints W (some ⟨w.heap.size + 1, 0, none⟩) ys.length ys.length ys ∧ Below w.heap.size w W := by
  subst hW
  have h := heap_alloc_new (w.alloc (.cells (intRow xs) e)) (.cells (intRow ys) e)
  rw [World.size_alloc] at h
  exact ⟨Ints.of_row xs _ rfl hx ((heap_alloc_old _ _ _ (by simp)).trans (heap_alloc_new _ _)), Ints.of_row ys _ rfl hy h, ((Below.refl _ w).alloc (Nat.le_refl _) _).alloc (by simp) _⟩
set_option maxRecDepth 100000 in
set_option maxHeartbeats 4000000 in
theorem awake_at (w : World) : Calls Try.prog 8 #[] w fun e w' => e = .returned (.bool true) ∧ Below w.heap.size w w' := by
  go_enter Try.func8, Try.ntmps8
  go_wp2_with fail
  refine (new_ok 5 4 (by decide) (by decide) (by decide) (by decide) _).mono ?_
  rintro e w1 ⟨rfl, e1⟩
  have S1 := Lib.hid (e1 ▸ SetAt.new 5 4 (by decide) (by decide) (by decide) (by decide) w : SetAt w1 w.heap.size 5 4 (List.replicate 32 false))
  have B1 := Lib.hid (e1 ▸ (Below.refl _ w).alloc (Nat.le_refl _) _ : Below w.heap.size w w1)
  clear e1
  go_wp2_with fail
  refine (look_at _ 5 4 _ (-1) 5 0 _ S1.out (by decide)).mono ?_
  rintro e w' ⟨rfl, rfl⟩
  go_wp2_with fail
  refine (look_at _ 5 4 _ (-1) 6 2 _ S1.out (by decide)).mono ?_
  rintro e w' ⟨rfl, rfl⟩
  go_wp2_with fail
  refine (look_at _ 5 4 _ 2 5 1 _ S1.out (by decide)).mono ?_
  rintro e w' ⟨rfl, rfl⟩
  go_wp2_with fail
  refine (stale_at _ 5 4 _ 2 5 2 false _ S1.out (by decide)).mono ?_
  rintro e w' ⟨rfl, rfl⟩
  go_wp2_with fail
  refine (stale_at _ 5 4 _ 2 5 1 true _ S1.out (by decide)).mono ?_
  rintro e w' ⟨rfl, rfl⟩
  go_wp2_with fail
  refine (add_at _ 5 4 _ 1 _ S1.out 0 _ (by decide) rfl).mono ?_
  rintro e w2 ⟨rfl, hS2, hc2⟩
  have S2 := Lib.hid hS2
  have C2 := Lib.hid ((Chg.of_below B1.out).trans hc2 (fun i hi h => by omega))
  clear hS2 hc2
  go_wp2_with fail
  refine (add_at _ 5 4 _ 3 _ S2.out 0 _ (by decide) rfl).mono ?_
  rintro e w3 ⟨rfl, hS3, hc3⟩
  have S3 := Lib.hid hS3
  have C3 := Lib.hid (C2.out.trans hc3 (fun i hi h => by omega))
  clear hS3 hc3
  go_wp2_with fail
  obtain ⟨W4, hW4⟩ : ∃ W, (w3.alloc (.cells (intRow [-1, -1, -1, -1]) 3)).alloc (.cells (intRow [0, 6, 0, 4]) 3) = W := ⟨_, rfl⟩
  obtain ⟨i1, i2, b4⟩ := ints2 w3 [-1, -1, -1, -1] [0, 6, 0, 4] 3 (by decide) (by decide) W4 hW4
  have S4 := Lib.hid (S3.out.below b4)
  have I1 := Lib.hid i1
  have I2 := Lib.hid i2
  have C4 := Lib.hid (C3.out.trans (Chg.of_below b4) (fun _ _ h => h))
  rw [show (w3.alloc (.cells #[.int .i64 (-1), .int .i64 (-1), .int .i64 (-1), .int .i64 (-1)] 3)).alloc (.cells #[.int .i64 0, .int .i64 6, .int .i64 0, .int .i64 4] 3) = W4 from hW4]
  clear hW4 i1 i2 b4
  refine (wakes_at _ 5 4 _ _ _ 4 4 4 4 _ _ true _ S4.out I1.out I2.out (by decide +kernel)).mono ?_
  rintro e w5 ⟨rfl, b5⟩
  have S5 := Lib.hid (S4.out.below b5)
  have C5 := Lib.hid (C4.out.trans (Chg.of_below b5) (fun _ _ h => h))
  clear b5
  go_wp2_with fail
  obtain ⟨W6, hW6⟩ : ∃ W, (w5.alloc (.cells (intRow [-1, 0, -1, -1]) 3)).alloc (.cells (intRow [0, 6, 0, 4]) 3) = W := ⟨_, rfl⟩
  obtain ⟨i1, i2, b6⟩ := ints2 w5 [-1, 0, -1, -1] [0, 6, 0, 4] 3 (by decide) (by decide) W6 hW6
  have S6 := Lib.hid (S5.out.below b6)
  have I3 := Lib.hid i1
  have I4 := Lib.hid i2
  have C6 := Lib.hid (C5.out.trans (Chg.of_below b6) (fun _ _ h => h))
  rw [show (w5.alloc (.cells #[.int .i64 (-1), .int .i64 0, .int .i64 (-1), .int .i64 (-1)] 3)).alloc (.cells #[.int .i64 0, .int .i64 6, .int .i64 0, .int .i64 4] 3) = W6 from hW6]
  clear hW6 i1 i2 b6
  refine (wakes_at _ 5 4 _ _ _ 4 4 4 4 _ _ false _ S6.out I3.out I4.out (by decide +kernel)).mono ?_
  rintro e w7 ⟨rfl, b7⟩
  have B7 := Lib.hid (C6.out.trans (Chg.of_below b7) (fun _ _ h => h)).below
  clear b7
  go_wp2_with fail
  go_ret
  exact ⟨rfl, B7.out⟩
/-- What 'made' has read. -/
def madeH (l : List Int) : List Bool := l.foldl (addH 32) (List.replicate 32 false)
def madeRV (rv : Int) : Int := (rv % 18446744073709551616) % 1099511627776
theorem madeRV_bd (rv : Int) : 0 ≤ madeRV rv ∧ madeRV rv < 1099511627776 := by unfold madeRV; omega
theorem madeH_len (l : List Int) : (madeH l).length = 32 := by
  unfold madeH
  suffices h : ∀ (l : List Int) (hs : List Bool), hs.length = 32 → (l.foldl (addH 32) hs).length = 32 from h l _ (by simp)
  intro l
  induction l with
  | nil => exact fun _ h => h
  | cons a l ih => exact fun hs h => ih _ (by unfold addH; split <;> simp [h])
set_option maxRecDepth 100000 in
set_option maxHeartbeats 4000000 in
theorem made_at (rv : Int) (a : Option Addr) (len cap : Nat) (zs : List Int) (w : World) (hI : Ints w a len cap zs) (h0 : -9223372036854775808 ≤ rv) (h1 : rv ≤ 9223372036854775807) :
    Calls Try.prog 9 #[.int .i64 rv, .slice a len cap] w fun e w' => e = .returned (.tuple #[.pointer (some ⟨w.heap.size, 0, none⟩), .bool true]) ∧ SetAt w' w.heap.size (madeRV rv) 32 (madeH zs) ∧ Below w.heap.size w w' := by
  obtain ⟨r, hr⟩ : ∃ r, madeRV rv = r := ⟨_, rfl⟩
  have hbd := madeRV_bd rv
  rw [hr] at hbd ⊢
  have hm : len ≤ 9223372036854775807 := by have := hI.2.1; have := hI.2.2.1; unfold maxLen at this; omega
  have hzl := Lib.hid hI.1
  have HI := Lib.hid hI
  have e1 : IntKind.u64.wrap rv = rv % 18446744073709551616 := by rw [IntKind.wrap_u64]
  have e2 : IntKind.u64.wrap ((rv % 18446744073709551616).tmod 1099511627776) = r := by
    rw [IntKind.wrap_u64, Int.tmod_eq_emod_of_nonneg (by omega), ← hr]; unfold madeRV; omega
  have e3 : IntKind.i64.wrap r = r := by rw [IntKind.wrap_i64]; omega
  have e4 : (rv % 18446744073709551616).tmod 1099511627776 = r := by rw [Int.tmod_eq_emod_of_nonneg (by omega), ← hr]; rfl
  clear hI hr
  go_enter Try.func9, Try.ntmps9
  go_wp2_with fail
  refine (new_ok r 32 hbd.1 (by omega) (by decide) (by decide) _).mono ?_
  rintro e w1 ⟨rfl, eA⟩
  have S1 := Lib.hid (eA ▸ SetAt.new r 32 hbd.1 (by omega) (by decide) (by decide) w : SetAt w1 w.heap.size r 32 (List.replicate 32 false))
  have B1 := Lib.hid (eA ▸ (Below.refl _ w).alloc (Nat.le_refl _) _ : Below w.heap.size w w1)
  clear eA e1 e2 e3 e4
  obtain ⟨b, hb⟩ : ∃ b, w.heap.size = b := ⟨_, rfl⟩
  rw [hb] at S1
  rw [hb]
  have Hb := Lib.hid hb
  clear hb
  go_wp2_with fail
  go_loopw [8] (fun i wr => ∃ k : Nat, k ≤ len ∧ i = .int .i64 k ∧ Hid (SetAt wr b r 32 (madeH (zs.take k)) ∧ Chg (fun j => j = b) w1 wr)) (fun i _ => len - (intOf i).toNat)
  case atStart => exact ⟨0, Nat.zero_le _, rfl, Lib.hid ⟨S1.out, Chg.refl _ _⟩⟩
  case round =>
    obtain ⟨k, hk, rfl, H⟩ := hrel
    have HB := Lib.hid (show Below w.heap.size w wr from ((Chg.of_below B1.out).trans H.out.2 (fun i hi h => by have := Hb.out; omega)).below)
    by_cases hlt : k < len
    · obtain ⟨b2, off, rfl, hc, _⟩ := (HI.out.below HB.out).cell k hlt
      obtain ⟨z, hz⟩ : ∃ z, zs.getD k 0 = z := ⟨_, rfl⟩
      rw [hz] at hc
      have HN : Hid (addH 32 (madeH (zs.take k)) z = madeH (zs.take (k + 1))) := Lib.hid (by
        have hk2 : k < zs.length := by rw [hzl.out]; exact hlt
        rw [List.take_succ_eq_append_getElem hk2]
        unfold madeH
        rw [List.foldl_append]
        have : zs[k] = z := by rw [← hz, List.getD_eq_getElem?_getD, List.getElem?_eq_getElem hk2]; rfl
        rw [this]; rfl)
      obtain ⟨er, her⟩ : ∃ er, addE 32 z = er := ⟨_, rfl⟩
      have Her := Lib.hid her
      clear hz her
      go_wp2_with fail
      refine (add_at b r 32 _ z _ H.out.1 er _ Her.out HN.out).mono ?_
      rintro e w2 ⟨rfl, hS2, hc2⟩
      have S2 := Lib.hid hS2
      have C2 := Lib.hid (H.out.2.trans hc2 (fun _ _ h => h))
      clear hS2 hc2
      go_wp2_with fail
      go_roundw
      case rel => exact ⟨k + 1, by omega, by go_num, Lib.hid ⟨S2.out, C2.out⟩⟩
      case measure => simp [intOf]; omega
    · obtain rfl : k = len := by omega
      have HZ : Hid (zs.take k = zs) := Lib.hid (by rw [← hzl.out]; exact List.take_length)
      go_wp2_with fail
      have hb := Hb.out
      subst hb
      go_ret2
      exact ⟨rfl, by rw [← HZ.out]; exact H.out.1, HB.out⟩
end Go.Proofs.Ytndaggdpeeecfaa
