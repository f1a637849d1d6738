/- The walk of the law BytesPlaces. -/
import Derived.Test.YtbdgmpjaibejnaaBytBack
namespace Go.Proofs.Ytbdgmpjaibejnaa
open Go.RowKit Go.Lib
set_option linter.unusedVariables false
/-- The three ways in which reading ends. -/
def Ways (a : Nat) (e err : Int) (a' : Nat) (e' : Int) : Prop :=
  (err = 0 ∧ e = 0 ∧ e' = 0 ∧ a ≤ a') ∨ (err ≠ 0 ∧ e = 0 ∧ a' = a ∧ e' = err) ∨ (e ≠ 0 ∧ err = e ∧ a' = a ∧ e' = e)
theorem rd_ways {α : Type} (zero : α) (e : Int) (a : Nat) (W : α × Nat × Nat) (v : α) (err : Int) (a' : Nat) (e' : Int) (h : rd zero e a W = (v, err, a', e')) : Ways a e err a' e' := by
  unfold rd at h
  by_cases he : e ≠ 0
  · rw [if_pos he] at h
    simp only [Prod.mk.injEq] at h
    obtain ⟨_, rfl, rfl, rfl⟩ := h
    exact .inr (.inr ⟨he, rfl, rfl, rfl⟩)
  · rw [if_neg he] at h
    have he' : e = 0 := by simpa using he
    split at h
    · simp only [Prod.mk.injEq] at h
      obtain ⟨_, rfl, rfl, rfl⟩ := h
      exact .inl ⟨rfl, he', rfl, Nat.le_add_right _ _⟩
    · rename_i h0
      simp only [Prod.mk.injEq] at h
      obtain ⟨_, rfl, rfl, rfl⟩ := h
      exact .inr (.inl ⟨by omega, he', rfl, rfl⟩)
theorem Rd.drewN {w : World} {q : Nat} {s : ByteArray} {a : Nat} {e : Int} (h : Rd w q s a e) (n : Nat) : Rd (w.drewN n) q s a e := ⟨h.head, h.le, h.size⟩
theorem Chg.drewN {S : Nat → Prop} {a b : World} (h : Chg S a b) (n : Nat) : Chg S a (b.drewN n) := ⟨h.os, h.tape, h.output, h.size, h.block⟩
def PlInv (W0 : World) (q : Nat) (s : ByteArray) (e : Int) (wr : World) : Prop := ∃ a, Rd wr q s a e ∧ Chg (fun k => k = q) W0 wr
set_option maxRecDepth 100000 in
set_option maxHeartbeats 16000000 in
theorem walk_BytesPlaces (a0 : ByteArray) (a1 : Option Addr) (len1 cap1 : Nat) (z1 : List StepD) (w : World) (w0 : a0.size ≤ maxLen) (w1 : SliceAt w a1 len1 cap1 5 StepD.cells z1 ∧ ∀ z ∈ z1, z.Wf) :
    Calls Try.prog 6 #[.string a0, .slice a1 len1 cap1] w fun e w' => e = .returned (.bool true) ∧ Below w.heap.size w w' := by
  obtain ⟨hS, hwf⟩ := w1
  have HS := Lib.hid hS
  have HWF := Lib.hid hwf
  have hm : len1 ≤ 9223372036854775807 := by have := hS.2.1; have := hS.2.2.1; unfold maxLen at this; omega
  have hzl := Lib.hid hS.1
  have hm0 : a0.size ≤ 9223372036854775807 := by unfold maxLen at w0; omega
  clear hS hwf w0
  by_cases h5 : 5000 < a0.size
  · go_enter Try.func6, Try.ntmps6
    go_wp2_with fail
    refine (awake_at _).mono ?_
    rintro e W1 ⟨rfl, b1⟩
    go_wp2_with fail
    go_ret
    exact ⟨rfl, b1⟩
  have hs5 : a0.size ≤ 5000 := by omega
  have h24 : a0.size ≤ 16777216 := by omega
  clear h5
  cases hlarge : largeB z1 with
  | true =>
    have HL := Lib.hid (fun W hW => large_at a1 len1 cap1 z1 W hW HWF.out)
    rw [hlarge] at HL
    clear hlarge
    go_enter Try.func6, Try.ntmps6
    go_wp2_with fail
    refine (HL.out _ HS.out).mono ?_
    rintro e w' ⟨rfl, rfl⟩
    go_wp2_with fail
    refine (awake_at _).mono ?_
    rintro e W1 ⟨rfl, b1⟩
    go_wp2_with fail
    go_ret
    exact ⟨rfl, b1⟩
  | false =>
    have HL := Lib.hid (fun W hW => large_at a1 len1 cap1 z1 W hW HWF.out)
    rw [hlarge] at HL
    clear hlarge
    go_enter Try.func6, Try.ntmps6
    go_wp2_with fail
    refine (HL.out _ HS.out).mono ?_
    rintro e w' ⟨rfl, rfl⟩
    go_wp2_with fail
    refine (awake_at _).mono ?_
    rintro e wA ⟨rfl, bA⟩
    have BA := Lib.hid bA
    clear bA
    go_wp2_with fail
    refine (newReader_ok a0 h24 _).mono ?_
    rintro e wB ⟨rfl, eB⟩
    have RB := Lib.hid (eB ▸ Rd.new a0 h24 wA : Rd wB wA.heap.size a0 0 0)
    have hzB : wA.heap.size < wB.heap.size := by rw [eB]; simp
    have CB := Lib.hid (eB ▸ (Chg.of_below BA.out).alloc _ : Chg (fun _ => False) w wB)
    have hp0 : w.heap.size ≤ wA.heap.size := BA.out.size
    obtain ⟨q, hq⟩ : ∃ p, wA.heap.size = p := ⟨_, rfl⟩
    rw [hq] at RB hzB hp0
    rw [hq]
    clear eB BA hq
    go_wp2_with fail
    go_loopw [7, 8] (fun v i wr => ∃ (k : Nat) (e : Int), k ≤ len1 ∧ i = .int .i64 k ∧ v = .int .i64 e ∧ Hid (PlInv wB q a0 e wr)) (fun _ i _ => len1 - (intOf i).toNat)
    case atStart => exact ⟨0, 0, Nat.zero_le _, rfl, rfl, 0, RB.out, Chg.refl _ _⟩
    case round =>
      obtain ⟨k, e, hk, rfl, rfl, H⟩ := hrel
      obtain ⟨a, hR, hC⟩ := H.out
      have HR := Lib.hid hR
      have HC := Lib.hid hC
      have HB := Lib.hid (show Below w.heap.size w wr from (CB.out.trans hC (fun i hi h => by omega)).below)
      have hle := hR.le
      clear hR hC H
      by_cases hlt : k < len1
      · have hz : k < z1.length := by rw [hzl.out]; exact hlt
        obtain ⟨b, off, rfl⟩ := HS.out.at (by omega)
        have hwf := HWF.out _ (List.getElem_mem hz)
        obtain ⟨c0, c1, c2, c3, c4⟩ := (HS.out.keeps HB.out).five k hlt hz
        by_cases k0 : z1[k].kind = 0
        · rw [k0] at c0
          clear k0
          obtain ⟨⟨v, err, a', e'⟩, hrd⟩ : ∃ p, rd (0 : Int) e a (byteW (a0.data.toList.drop a)) = p := ⟨_, rfl⟩
          have hways := Lib.hid (rd_ways _ _ _ _ _ _ _ _ hrd)
          have Hrd := Lib.hid hrd
          clear hrd
          go_wp2_with fail
          refine (at_rd q a0 a e wr HR.out).mono ?_
          rintro x w' ⟨rfl, rfl⟩
          go_wp2_with fail
          refine (byte_rd q a0 a e wr HR.out v err a' e' Hrd.out).mono ?_
          rintro x wy ⟨rfl, hR2, hc2⟩
          have HR2 := Lib.hid hR2
          have Hc2 := Lib.hid hc2
          have hle2 := hR2.le
          clear hR2 hc2 c0 c1 c2 c3 c4
          rcases hways.out with ⟨rfl, rfl, rfl, h1⟩ | ⟨h1, rfl, rfl, rfl⟩ | ⟨h1, rfl, rfl, rfl⟩
          · clear hways Hrd
            go_wp2_with fail
            refine (at_rd q a0 _ _ _ HR2.out).mono ?_
            rintro x w' ⟨rfl, rfl⟩
            go_wp2_with fail
            refine (at_rd q a0 _ _ _ HR2.out).mono ?_
            rintro x w' ⟨rfl, rfl⟩
            go_wp2_with fail
            refine (left_rd q a0 _ _ _ HR2.out).mono ?_
            rintro x w' ⟨rfl, n1, rfl⟩
            go_wp2_with fail
            refine (wrong_rd q a0 _ _ _ (HR2.out.drewN n1) _ _ (if_pos rfl)).mono ?_
            rintro x w' ⟨rfl, n2, rfl⟩
            go_wp2_with fail
            go_roundw
            case rel => exact ⟨k + 1, _, by omega, by go_num, rfl, _, (HR2.out.drewN (n1 + n2)), (HC.out.trans Hc2.out (fun _ _ h => h)).drewN (n1 + n2)⟩
            case measure => simp [intOf]; omega
          · have hb1 : (e' == 0) = false := by simpa using h1
            have hb2 : (e' != 0) = true := by simpa using h1
            clear hways Hrd h1
            go_wp2_with fail
            refine (at_rd q a0 _ _ _ HR2.out).mono ?_
            rintro x w' ⟨rfl, rfl⟩
            go_wp2_with fail
            refine (at_rd q a0 _ _ _ HR2.out).mono ?_
            rintro x w' ⟨rfl, rfl⟩
            go_wp2_with fail
            refine (left_rd q a0 _ _ _ HR2.out).mono ?_
            rintro x w' ⟨rfl, n1, rfl⟩
            go_wp2_with fail
            refine (at_rd q a0 _ _ _ (HR2.out.drewN n1)).mono ?_
            rintro x w' ⟨rfl, rfl⟩
            go_wp2_with fail
            refine (wrong_rd q a0 _ _ _ (HR2.out.drewN n1) _ _ (if_neg (by simpa using hb1))).mono ?_
            rintro x w' ⟨rfl, n2, rfl⟩
            go_wp2_with fail
            refine (at_rd q a0 _ _ _ (HR2.out.drewN (n1 + n2))).mono ?_
            rintro x w' ⟨rfl, rfl⟩
            go_wp2_with fail
            go_roundw
            case rel => exact ⟨k + 1, _, by omega, by go_num, rfl, _, (HR2.out.drewN (n1 + n2)), (HC.out.trans Hc2.out (fun _ _ h => h)).drewN (n1 + n2)⟩
            case measure => simp [intOf]; omega
          · have hb1 : (e' == 0) = false := by simpa using h1
            have hb2 : (e' != 0) = true := by simpa using h1
            clear hways Hrd h1
            go_wp2_with fail
            refine (at_rd q a0 _ _ _ HR2.out).mono ?_
            rintro x w' ⟨rfl, rfl⟩
            go_wp2_with fail
            refine (at_rd q a0 _ _ _ HR2.out).mono ?_
            rintro x w' ⟨rfl, rfl⟩
            go_wp2_with fail
            refine (left_rd q a0 _ _ _ HR2.out).mono ?_
            rintro x w' ⟨rfl, n1, rfl⟩
            go_wp2_with fail
            refine (at_rd q a0 _ _ _ (HR2.out.drewN n1)).mono ?_
            rintro x w' ⟨rfl, rfl⟩
            go_wp2_with fail
            refine (wrong_rd q a0 _ _ _ (HR2.out.drewN n1) _ _ (if_neg (by simpa using hb1))).mono ?_
            rintro x w' ⟨rfl, n2, rfl⟩
            go_wp2_with fail
            refine (at_rd q a0 _ _ _ (HR2.out.drewN (n1 + n2))).mono ?_
            rintro x w' ⟨rfl, rfl⟩
            go_wp2_with fail
            go_roundw
            case rel => exact ⟨k + 1, _, by omega, by go_num, rfl, _, (HR2.out.drewN (n1 + n2)), (HC.out.trans Hc2.out (fun _ _ h => h)).drewN (n1 + n2)⟩
            case measure => simp [intOf]; omega
        have b0 : (z1[k].kind == 0) = false := by simpa using k0
        by_cases k1 : z1[k].kind = 1
        · rw [k1] at c0
          clear k1
          obtain ⟨⟨v, err, a', e'⟩, hrd⟩ : ∃ p, rd (0 : Nat) e a (numW z1[k].n.toNat (a0.data.toList.drop a)) = p := ⟨_, rfl⟩
          have hways := Lib.hid (rd_ways _ _ _ _ _ _ _ _ hrd)
          have Hrd := Lib.hid hrd
          clear hrd
          go_wp2_with fail
          refine (at_rd q a0 a e wr HR.out).mono ?_
          rintro x w' ⟨rfl, rfl⟩
          go_wp2_with fail
          refine (num_rdI q a0 a e z1[k].n wr HR.out hwf.n0 v v err a' e' rfl Hrd.out).mono ?_
          rintro x wy ⟨rfl, hR2, hc2⟩
          have HR2 := Lib.hid hR2
          have Hc2 := Lib.hid hc2
          have hle2 := hR2.le
          clear hR2 hc2 c0 c1 c2 c3 c4
          rcases hways.out with ⟨rfl, rfl, rfl, h1⟩ | ⟨h1, rfl, rfl, rfl⟩ | ⟨h1, rfl, rfl, rfl⟩
          · clear hways Hrd
            go_wp2_with fail
            refine (at_rd q a0 _ _ _ HR2.out).mono ?_
            rintro x w' ⟨rfl, rfl⟩
            go_wp2_with fail
            refine (at_rd q a0 _ _ _ HR2.out).mono ?_
            rintro x w' ⟨rfl, rfl⟩
            go_wp2_with fail
            refine (left_rd q a0 _ _ _ HR2.out).mono ?_
            rintro x w' ⟨rfl, n1, rfl⟩
            go_wp2_with fail
            refine (wrong_rd q a0 _ _ _ (HR2.out.drewN n1) _ _ (if_pos rfl)).mono ?_
            rintro x w' ⟨rfl, n2, rfl⟩
            go_wp2_with fail
            go_roundw
            case rel => exact ⟨k + 1, _, by omega, by go_num, rfl, _, (HR2.out.drewN (n1 + n2)), (HC.out.trans Hc2.out (fun _ _ h => h)).drewN (n1 + n2)⟩
            case measure => simp [intOf]; omega
          · have hb1 : (e' == 0) = false := by simpa using h1
            have hb2 : (e' != 0) = true := by simpa using h1
            clear hways Hrd h1
            go_wp2_with fail
            refine (at_rd q a0 _ _ _ HR2.out).mono ?_
            rintro x w' ⟨rfl, rfl⟩
            go_wp2_with fail
            refine (at_rd q a0 _ _ _ HR2.out).mono ?_
            rintro x w' ⟨rfl, rfl⟩
            go_wp2_with fail
            refine (left_rd q a0 _ _ _ HR2.out).mono ?_
            rintro x w' ⟨rfl, n1, rfl⟩
            go_wp2_with fail
            refine (at_rd q a0 _ _ _ (HR2.out.drewN n1)).mono ?_
            rintro x w' ⟨rfl, rfl⟩
            go_wp2_with fail
            refine (wrong_rd q a0 _ _ _ (HR2.out.drewN n1) _ _ (if_neg (by simpa using hb1))).mono ?_
            rintro x w' ⟨rfl, n2, rfl⟩
            go_wp2_with fail
            refine (at_rd q a0 _ _ _ (HR2.out.drewN (n1 + n2))).mono ?_
            rintro x w' ⟨rfl, rfl⟩
            go_wp2_with fail
            go_roundw
            case rel => exact ⟨k + 1, _, by omega, by go_num, rfl, _, (HR2.out.drewN (n1 + n2)), (HC.out.trans Hc2.out (fun _ _ h => h)).drewN (n1 + n2)⟩
            case measure => simp [intOf]; omega
          · have hb1 : (e' == 0) = false := by simpa using h1
            have hb2 : (e' != 0) = true := by simpa using h1
            clear hways Hrd h1
            go_wp2_with fail
            refine (at_rd q a0 _ _ _ HR2.out).mono ?_
            rintro x w' ⟨rfl, rfl⟩
            go_wp2_with fail
            refine (at_rd q a0 _ _ _ HR2.out).mono ?_
            rintro x w' ⟨rfl, rfl⟩
            go_wp2_with fail
            refine (left_rd q a0 _ _ _ HR2.out).mono ?_
            rintro x w' ⟨rfl, n1, rfl⟩
            go_wp2_with fail
            refine (at_rd q a0 _ _ _ (HR2.out.drewN n1)).mono ?_
            rintro x w' ⟨rfl, rfl⟩
            go_wp2_with fail
            refine (wrong_rd q a0 _ _ _ (HR2.out.drewN n1) _ _ (if_neg (by simpa using hb1))).mono ?_
            rintro x w' ⟨rfl, n2, rfl⟩
            go_wp2_with fail
            refine (at_rd q a0 _ _ _ (HR2.out.drewN (n1 + n2))).mono ?_
            rintro x w' ⟨rfl, rfl⟩
            go_wp2_with fail
            go_roundw
            case rel => exact ⟨k + 1, _, by omega, by go_num, rfl, _, (HR2.out.drewN (n1 + n2)), (HC.out.trans Hc2.out (fun _ _ h => h)).drewN (n1 + n2)⟩
            case measure => simp [intOf]; omega
        have b1 : (z1[k].kind == 1) = false := by simpa using k1
        by_cases k2 : z1[k].kind = 2
        · rw [k2] at c0
          clear k2
          obtain ⟨⟨v, err, a', e'⟩, hrd⟩ : ∃ p, rd (0 : Nat) e a (numW 18446744073709551615 (a0.data.toList.drop a)) = p := ⟨_, rfl⟩
          have hways := Lib.hid (rd_ways _ _ _ _ _ _ _ _ hrd)
          have Hrd := Lib.hid hrd
          clear hrd
          go_wp2_with fail
          refine (at_rd q a0 a e wr HR.out).mono ?_
          rintro x w' ⟨rfl, rfl⟩
          go_wp2_with fail
          refine (int_rd q a0 a e wr HR.out v err a' e' Hrd.out).mono ?_
          rintro x wy ⟨rfl, hR2, hc2⟩
          have HR2 := Lib.hid hR2
          have Hc2 := Lib.hid hc2
          have hle2 := hR2.le
          clear hR2 hc2 c0 c1 c2 c3 c4
          rcases hways.out with ⟨rfl, rfl, rfl, h1⟩ | ⟨h1, rfl, rfl, rfl⟩ | ⟨h1, rfl, rfl, rfl⟩
          · clear hways Hrd
            go_wp2_with fail
            refine (at_rd q a0 _ _ _ HR2.out).mono ?_
            rintro x w' ⟨rfl, rfl⟩
            go_wp2_with fail
            refine (at_rd q a0 _ _ _ HR2.out).mono ?_
            rintro x w' ⟨rfl, rfl⟩
            go_wp2_with fail
            refine (left_rd q a0 _ _ _ HR2.out).mono ?_
            rintro x w' ⟨rfl, n1, rfl⟩
            go_wp2_with fail
            refine (wrong_rd q a0 _ _ _ (HR2.out.drewN n1) _ _ (if_pos rfl)).mono ?_
            rintro x w' ⟨rfl, n2, rfl⟩
            go_wp2_with fail
            go_roundw
            case rel => exact ⟨k + 1, _, by omega, by go_num, rfl, _, (HR2.out.drewN (n1 + n2)), (HC.out.trans Hc2.out (fun _ _ h => h)).drewN (n1 + n2)⟩
            case measure => simp [intOf]; omega
          · have hb1 : (e' == 0) = false := by simpa using h1
            have hb2 : (e' != 0) = true := by simpa using h1
            clear hways Hrd h1
            go_wp2_with fail
            refine (at_rd q a0 _ _ _ HR2.out).mono ?_
            rintro x w' ⟨rfl, rfl⟩
            go_wp2_with fail
            refine (at_rd q a0 _ _ _ HR2.out).mono ?_
            rintro x w' ⟨rfl, rfl⟩
            go_wp2_with fail
            refine (left_rd q a0 _ _ _ HR2.out).mono ?_
            rintro x w' ⟨rfl, n1, rfl⟩
            go_wp2_with fail
            refine (at_rd q a0 _ _ _ (HR2.out.drewN n1)).mono ?_
            rintro x w' ⟨rfl, rfl⟩
            go_wp2_with fail
            refine (wrong_rd q a0 _ _ _ (HR2.out.drewN n1) _ _ (if_neg (by simpa using hb1))).mono ?_
            rintro x w' ⟨rfl, n2, rfl⟩
            go_wp2_with fail
            refine (at_rd q a0 _ _ _ (HR2.out.drewN (n1 + n2))).mono ?_
            rintro x w' ⟨rfl, rfl⟩
            go_wp2_with fail
            go_roundw
            case rel => exact ⟨k + 1, _, by omega, by go_num, rfl, _, (HR2.out.drewN (n1 + n2)), (HC.out.trans Hc2.out (fun _ _ h => h)).drewN (n1 + n2)⟩
            case measure => simp [intOf]; omega
          · have hb1 : (e' == 0) = false := by simpa using h1
            have hb2 : (e' != 0) = true := by simpa using h1
            clear hways Hrd h1
            go_wp2_with fail
            refine (at_rd q a0 _ _ _ HR2.out).mono ?_
            rintro x w' ⟨rfl, rfl⟩
            go_wp2_with fail
            refine (at_rd q a0 _ _ _ HR2.out).mono ?_
            rintro x w' ⟨rfl, rfl⟩
            go_wp2_with fail
            refine (left_rd q a0 _ _ _ HR2.out).mono ?_
            rintro x w' ⟨rfl, n1, rfl⟩
            go_wp2_with fail
            refine (at_rd q a0 _ _ _ (HR2.out.drewN n1)).mono ?_
            rintro x w' ⟨rfl, rfl⟩
            go_wp2_with fail
            refine (wrong_rd q a0 _ _ _ (HR2.out.drewN n1) _ _ (if_neg (by simpa using hb1))).mono ?_
            rintro x w' ⟨rfl, n2, rfl⟩
            go_wp2_with fail
            refine (at_rd q a0 _ _ _ (HR2.out.drewN (n1 + n2))).mono ?_
            rintro x w' ⟨rfl, rfl⟩
            go_wp2_with fail
            go_roundw
            case rel => exact ⟨k + 1, _, by omega, by go_num, rfl, _, (HR2.out.drewN (n1 + n2)), (HC.out.trans Hc2.out (fun _ _ h => h)).drewN (n1 + n2)⟩
            case measure => simp [intOf]; omega
        have b2 : (z1[k].kind == 2) = false := by simpa using k2
        by_cases k3 : z1[k].kind = 3
        · rw [k3] at c0
          clear k3
          obtain ⟨⟨v, err, a', e'⟩, hrd⟩ : ∃ p, rd ([] : List UInt8) e a (rawW z1[k].k (a0.data.toList.drop a)) = p := ⟨_, rfl⟩
          have hways := Lib.hid (rd_ways _ _ _ _ _ _ _ _ hrd)
          have Hrd := Lib.hid hrd
          clear hrd
          go_wp2_with fail
          refine (at_rd q a0 a e wr HR.out).mono ?_
          rintro x w' ⟨rfl, rfl⟩
          go_wp2_with fail
          refine (raw_rd q a0 a e z1[k].k wr HR.out v err a' e' Hrd.out).mono ?_
          rintro x wy ⟨rfl, hR2, hc2⟩
          have HR2 := Lib.hid hR2
          have Hc2 := Lib.hid hc2
          have hle2 := hR2.le
          clear hR2 hc2 c0 c1 c2 c3 c4
          rcases hways.out with ⟨rfl, rfl, rfl, h1⟩ | ⟨h1, rfl, rfl, rfl⟩ | ⟨h1, rfl, rfl, rfl⟩
          · clear hways Hrd
            go_wp2_with fail
            refine (at_rd q a0 _ _ _ HR2.out).mono ?_
            rintro x w' ⟨rfl, rfl⟩
            go_wp2_with fail
            refine (at_rd q a0 _ _ _ HR2.out).mono ?_
            rintro x w' ⟨rfl, rfl⟩
            go_wp2_with fail
            refine (left_rd q a0 _ _ _ HR2.out).mono ?_
            rintro x w' ⟨rfl, n1, rfl⟩
            go_wp2_with fail
            refine (wrong_rd q a0 _ _ _ (HR2.out.drewN n1) _ _ (if_pos rfl)).mono ?_
            rintro x w' ⟨rfl, n2, rfl⟩
            go_wp2_with fail
            go_roundw
            case rel => exact ⟨k + 1, _, by omega, by go_num, rfl, _, (HR2.out.drewN (n1 + n2)), (HC.out.trans Hc2.out (fun _ _ h => h)).drewN (n1 + n2)⟩
            case measure => simp [intOf]; omega
          · have hb1 : (e' == 0) = false := by simpa using h1
            have hb2 : (e' != 0) = true := by simpa using h1
            clear hways Hrd h1
            go_wp2_with fail
            refine (at_rd q a0 _ _ _ HR2.out).mono ?_
            rintro x w' ⟨rfl, rfl⟩
            go_wp2_with fail
            refine (at_rd q a0 _ _ _ HR2.out).mono ?_
            rintro x w' ⟨rfl, rfl⟩
            go_wp2_with fail
            refine (left_rd q a0 _ _ _ HR2.out).mono ?_
            rintro x w' ⟨rfl, n1, rfl⟩
            go_wp2_with fail
            refine (at_rd q a0 _ _ _ (HR2.out.drewN n1)).mono ?_
            rintro x w' ⟨rfl, rfl⟩
            go_wp2_with fail
            refine (wrong_rd q a0 _ _ _ (HR2.out.drewN n1) _ _ (if_neg (by simpa using hb1))).mono ?_
            rintro x w' ⟨rfl, n2, rfl⟩
            go_wp2_with fail
            refine (at_rd q a0 _ _ _ (HR2.out.drewN (n1 + n2))).mono ?_
            rintro x w' ⟨rfl, rfl⟩
            go_wp2_with fail
            go_roundw
            case rel => exact ⟨k + 1, _, by omega, by go_num, rfl, _, (HR2.out.drewN (n1 + n2)), (HC.out.trans Hc2.out (fun _ _ h => h)).drewN (n1 + n2)⟩
            case measure => simp [intOf]; omega
          · have hb1 : (e' == 0) = false := by simpa using h1
            have hb2 : (e' != 0) = true := by simpa using h1
            clear hways Hrd h1
            go_wp2_with fail
            refine (at_rd q a0 _ _ _ HR2.out).mono ?_
            rintro x w' ⟨rfl, rfl⟩
            go_wp2_with fail
            refine (at_rd q a0 _ _ _ HR2.out).mono ?_
            rintro x w' ⟨rfl, rfl⟩
            go_wp2_with fail
            refine (left_rd q a0 _ _ _ HR2.out).mono ?_
            rintro x w' ⟨rfl, n1, rfl⟩
            go_wp2_with fail
            refine (at_rd q a0 _ _ _ (HR2.out.drewN n1)).mono ?_
            rintro x w' ⟨rfl, rfl⟩
            go_wp2_with fail
            refine (wrong_rd q a0 _ _ _ (HR2.out.drewN n1) _ _ (if_neg (by simpa using hb1))).mono ?_
            rintro x w' ⟨rfl, n2, rfl⟩
            go_wp2_with fail
            refine (at_rd q a0 _ _ _ (HR2.out.drewN (n1 + n2))).mono ?_
            rintro x w' ⟨rfl, rfl⟩
            go_wp2_with fail
            go_roundw
            case rel => exact ⟨k + 1, _, by omega, by go_num, rfl, _, (HR2.out.drewN (n1 + n2)), (HC.out.trans Hc2.out (fun _ _ h => h)).drewN (n1 + n2)⟩
            case measure => simp [intOf]; omega
        have b3 : (z1[k].kind == 3) = false := by simpa using k3
        clear k0 k1 k2 k3
        by_cases k4 : z1[k].kind = 4
        · rw [k4] at c0
          clear k4
          go_wp2_with fail
          refine (at_rd q a0 a e wr HR.out).mono ?_
          rintro x w' ⟨rfl, rfl⟩
          go_wp2_with fail
          go_roundw
          case rel => exact ⟨k + 1, _, by omega, by go_num, rfl, a, HR.out, HC.out⟩
          case measure => simp [intOf]; omega
        have b4 : (z1[k].kind == 4) = false := by simpa using k4
        clear k4
        obtain ⟨⟨v, err, a', e'⟩, hrd⟩ : ∃ p, rd false e a (endW (a0.data.toList.drop a)) = p := ⟨_, rfl⟩
        have hways := Lib.hid (rd_ways _ _ _ _ _ _ _ _ hrd)
        have Hrd := Lib.hid hrd
        clear hrd
        go_wp2_with fail
        refine (at_rd q a0 a e wr HR.out).mono ?_
        rintro x w' ⟨rfl, rfl⟩
        go_wp2_with fail
        refine (end_rd q a0 a e wr HR.out v err a' e' Hrd.out).mono ?_
        rintro x wy ⟨rfl, hR2, hc2⟩
        have HR2 := Lib.hid hR2
        have Hc2 := Lib.hid hc2
        have hle2 := hR2.le
        clear hR2 hc2 c0 c1 c2 c3 c4
        rcases hways.out with ⟨rfl, rfl, rfl, h1⟩ | ⟨h1, rfl, rfl, rfl⟩ | ⟨h1, rfl, rfl, rfl⟩
        · clear hways Hrd
          go_wp2_with fail
          refine (at_rd q a0 _ _ _ HR2.out).mono ?_
          rintro x w' ⟨rfl, rfl⟩
          go_wp2_with fail
          refine (at_rd q a0 _ _ _ HR2.out).mono ?_
          rintro x w' ⟨rfl, rfl⟩
          go_wp2_with fail
          refine (left_rd q a0 _ _ _ HR2.out).mono ?_
          rintro x w' ⟨rfl, n1, rfl⟩
          go_wp2_with fail
          refine (wrong_rd q a0 _ _ _ (HR2.out.drewN n1) _ _ (if_pos rfl)).mono ?_
          rintro x w' ⟨rfl, n2, rfl⟩
          go_wp2_with fail
          go_roundw
          case rel => exact ⟨k + 1, _, by omega, by go_num, rfl, _, (HR2.out.drewN (n1 + n2)), (HC.out.trans Hc2.out (fun _ _ h => h)).drewN (n1 + n2)⟩
          case measure => simp [intOf]; omega
        · have hb1 : (e' == 0) = false := by simpa using h1
          have hb2 : (e' != 0) = true := by simpa using h1
          clear hways Hrd h1
          go_wp2_with fail
          refine (at_rd q a0 _ _ _ HR2.out).mono ?_
          rintro x w' ⟨rfl, rfl⟩
          go_wp2_with fail
          refine (at_rd q a0 _ _ _ HR2.out).mono ?_
          rintro x w' ⟨rfl, rfl⟩
          go_wp2_with fail
          refine (left_rd q a0 _ _ _ HR2.out).mono ?_
          rintro x w' ⟨rfl, n1, rfl⟩
          go_wp2_with fail
          refine (at_rd q a0 _ _ _ (HR2.out.drewN n1)).mono ?_
          rintro x w' ⟨rfl, rfl⟩
          go_wp2_with fail
          refine (wrong_rd q a0 _ _ _ (HR2.out.drewN n1) _ _ (if_neg (by simpa using hb1))).mono ?_
          rintro x w' ⟨rfl, n2, rfl⟩
          go_wp2_with fail
          refine (at_rd q a0 _ _ _ (HR2.out.drewN (n1 + n2))).mono ?_
          rintro x w' ⟨rfl, rfl⟩
          go_wp2_with fail
          go_roundw
          case rel => exact ⟨k + 1, _, by omega, by go_num, rfl, _, (HR2.out.drewN (n1 + n2)), (HC.out.trans Hc2.out (fun _ _ h => h)).drewN (n1 + n2)⟩
          case measure => simp [intOf]; omega
        · have hb1 : (e' == 0) = false := by simpa using h1
          have hb2 : (e' != 0) = true := by simpa using h1
          clear hways Hrd h1
          go_wp2_with fail
          refine (at_rd q a0 _ _ _ HR2.out).mono ?_
          rintro x w' ⟨rfl, rfl⟩
          go_wp2_with fail
          refine (at_rd q a0 _ _ _ HR2.out).mono ?_
          rintro x w' ⟨rfl, rfl⟩
          go_wp2_with fail
          refine (left_rd q a0 _ _ _ HR2.out).mono ?_
          rintro x w' ⟨rfl, n1, rfl⟩
          go_wp2_with fail
          refine (at_rd q a0 _ _ _ (HR2.out.drewN n1)).mono ?_
          rintro x w' ⟨rfl, rfl⟩
          go_wp2_with fail
          refine (wrong_rd q a0 _ _ _ (HR2.out.drewN n1) _ _ (if_neg (by simpa using hb1))).mono ?_
          rintro x w' ⟨rfl, n2, rfl⟩
          go_wp2_with fail
          refine (at_rd q a0 _ _ _ (HR2.out.drewN (n1 + n2))).mono ?_
          rintro x w' ⟨rfl, rfl⟩
          go_wp2_with fail
          go_roundw
          case rel => exact ⟨k + 1, _, by omega, by go_num, rfl, _, (HR2.out.drewN (n1 + n2)), (HC.out.trans Hc2.out (fun _ _ h => h)).drewN (n1 + n2)⟩
          case measure => simp [intOf]; omega
      · go_wp2_with fail
        go_ret
        exact ⟨rfl, HB.out⟩
end Go.Proofs.Ytbdgmpjaibejnaa
