/- The walk of the law BytesReads. -/
import Derived.Test.YtbdgmpjaibejnaaBytXR
namespace Go.Proofs.Ytbdgmpjaibejnaa
open Go.RowKit Go.Lib
set_option linter.unusedVariables false
def RdInv (W0 : World) (q : Nat) (s : ByteArray) (wr : World) : Prop := ∃ (a : Nat) (e : Int), Rd wr q s a e ∧ XRd wr (q + 1) s a e ∧ Chg (fun k => k = q ∨ k = q + 1) W0 wr
theorem xnum_rdI (q : Nat) (s : ByteArray) (a : Nat) (e m : Int) (w : World) (hR : XRd w q s a e) (hm : 0 ≤ m) (v : Nat) (vi err : Int) (a' : Nat) (e' : Int) (hv : (v : Int) = vi) (h : rd 0 e a (numW m.toNat (s.data.toList.drop a)) = (v, err, a', e')) :
    Calls Try.prog 36 #[.pointer (some ⟨q, 0, none⟩), .int .u64 m] w (XPost q s w (.int .u64 vi) err a' e') := by
  have := xnum_rd q s a e m.toNat w hR v err a' e' h
  rw [Int.toNat_of_nonneg hm, hv] at this
  exact this
theorem Rd.drewn {w : World} {q : Nat} {s : ByteArray} {a : Nat} {e : Int} (h : Rd w q s a e) : Rd w.drew q s a e := ⟨h.head, h.le, h.size⟩
theorem chgL {q : Nat} {wB wr w : World} (h : Chg (fun k => k = q ∨ k = q + 1) wB wr) (hc : Chg (fun k => k = q) wr w) : Chg (fun k => k = q ∨ k = q + 1) wB w := h.trans hc (fun _ _ h => .inl h)
theorem chgR {q : Nat} {wB wr w : World} (h : Chg (fun k => k = q ∨ k = q + 1) wB wr) (hc : Chg (fun k => k = q + 1) wr w) : Chg (fun k => k = q ∨ k = q + 1) wB w := h.trans hc (fun _ _ h => .inr h)
theorem xkeepL {q : Nat} {s : ByteArray} {a : Nat} {e : Int} {w w' : World} (h : XRd w (q + 1) s a e) (hc : Chg (fun k => k = q) w w') : XRd w' (q + 1) s a e := h.keeps hc (fun h => by omega)
theorem keepR {q : Nat} {s : ByteArray} {a : Nat} {e : Int} {w w' : World} (h : Rd w q s a e) (hc : Chg (fun k => k = q + 1) w w') : Rd w' q s a e := h.keeps hc (fun h => by omega)
set_option maxRecDepth 100000 in
set_option maxHeartbeats 16000000 in
theorem walk_BytesReads (a0 : ByteArray) (a1 : Option Addr) (len1 cap1 : Nat) (z1 : List StepD) (w : World) (w0 : a0.size ≤ maxLen) (w1 : SliceAt w a1 len1 cap1 5 StepD.cells z1 ∧ ∀ z ∈ z1, z.Wf) :
    Calls Try.prog 8 #[.string a0, .slice a1 len1 cap1] w fun e w' => e = .returned (.bool true) ∧ Below w.heap.size w w' := by
  obtain ⟨hS, hwf⟩ := w1
  have HS := Lib.hid hS
  have HWF := Lib.hid hwf
  have hm : len1 ≤ 9223372036854775807 := by have := hS.2.1; have := hS.2.2.1; unfold maxLen at this; omega
  have hzl := Lib.hid hS.1
  have hm0 : a0.size ≤ 9223372036854775807 := by unfold maxLen at w0; omega
  clear hS hwf w0
  by_cases h5 : 5000 < a0.size
  · go_enter Try.func8, Try.ntmps8
    go_wp2_with fail
    refine (awake_at _).mono ?_
    rintro e W1 ⟨rfl, b1⟩
    go_wp2_with fail
    go_ret
    exact ⟨rfl, b1⟩
  have hs5 : a0.size ≤ 5000 := by omega
  have h24 : a0.size ≤ 16777216 := by omega
  clear h5
  cases hlarge : largeB z1 with
  | true =>
    have HL := Lib.hid (fun W hW => large_at a1 len1 cap1 z1 W hW HWF.out)
    rw [hlarge] at HL
    clear hlarge
    go_enter Try.func8, Try.ntmps8
    go_wp2_with fail
    refine (HL.out _ HS.out).mono ?_
    rintro e w' ⟨rfl, rfl⟩
    go_wp2_with fail
    refine (awake_at _).mono ?_
    rintro e W1 ⟨rfl, b1⟩
    go_wp2_with fail
    go_ret
    exact ⟨rfl, b1⟩
  | false =>
    have HL := Lib.hid (fun W hW => large_at a1 len1 cap1 z1 W hW HWF.out)
    rw [hlarge] at HL
    clear hlarge
    go_enter Try.func8, Try.ntmps8
    go_wp2_with fail
    refine (HL.out _ HS.out).mono ?_
    rintro e w' ⟨rfl, rfl⟩
    go_wp2_with fail
    refine (newReader_ok a0 h24 _).mono ?_
    rintro e wA ⟨rfl, eA⟩
    have RA := Lib.hid (eA ▸ Rd.new a0 h24 w : Rd wA w.heap.size a0 0 0)
    have CA := Lib.hid (eA ▸ (Chg.refl _ w).alloc _ : Chg (fun _ => False) w wA)
    have hzA : wA.heap.size = w.heap.size + 1 := by rw [eA]; simp
    obtain ⟨q, hq⟩ : ∃ p, w.heap.size = p := ⟨_, rfl⟩
    rw [hq] at RA hzA
    rw [hq]
    have Hq := Lib.hid hq
    clear eA hq
    go_wp2_with fail
    refine (xnewReader_ok a0 h24 _).mono ?_
    rintro e wB ⟨rfl, eB⟩
    have XB := Lib.hid (eB ▸ XRd.new a0 h24 wA : XRd wB wA.heap.size a0 0 0)
    have kB : Chg (fun _ => False) wA wB := eB ▸ (Chg.refl _ wA).alloc _
    have RB := Lib.hid (RA.out.keeps kB (fun h => h))
    have CB := Lib.hid (CA.out.trans kB (fun _ _ h => h))
    rw [hzA] at XB
    rw [hzA]
    clear eB kB RA CA hzA
    go_wp2_with fail
    go_loopw [9] (fun i wr => ∃ k : Nat, k ≤ len1 ∧ i = .int .i64 k ∧ Hid (RdInv wB q a0 wr)) (fun i _ => len1 - (intOf i).toNat)
    case atStart => exact ⟨0, Nat.zero_le _, rfl, 0, 0, RB.out, XB.out, Chg.refl _ _⟩
    case round =>
      obtain ⟨k, hk, rfl, H⟩ := hrel
      have HB := Lib.hid (show Below w.heap.size w wr by
        obtain ⟨_, _, _, _, hc⟩ := H.out
        exact (CB.out.trans hc (fun i hi h => by have := Hq.out; omega)).below)
      by_cases hlt : k < len1
      · obtain ⟨a, e, hR, hX, hC⟩ := H.out
        have HR := Lib.hid hR
        have HX := Lib.hid hX
        have HC := Lib.hid hC
        have hle := hR.le
        have hz : k < z1.length := by rw [hzl.out]; exact hlt
        obtain ⟨b, off, rfl⟩ := HS.out.at (by omega)
        have hwf := HWF.out _ (List.getElem_mem hz)
        have Five := Lib.hid (fun W (hW : Below w.heap.size w W) => (HS.out.keeps hW).five k hlt hz)
        obtain ⟨c0, c1, c2, c3, c4⟩ := Five.out wr HB.out
        have S1 : Hid (∀ W, Chg (fun k => k = q ∨ k = q + 1) wB W → _) := Lib.hid (fun W (hC : Chg (fun k => k = q ∨ k = q + 1) wB W) => Five.out W (CB.out.trans hC (fun i hi h => by have := Hq.out; omega)).below)
        clear hR hX hC H
        by_cases k0 : z1[k].kind = 0
        · rw [k0] at c0
          have H0 := Lib.hid k0
          clear k0
          obtain ⟨⟨v, err, a', e'⟩, hrd⟩ : ∃ p, rd (0 : Int) e a (byteW (a0.data.toList.drop a)) = p := ⟨_, rfl⟩
          have Hrd := Lib.hid hrd
          clear hrd
          go_wp2_with fail
          refine (byte_rd q a0 a e wr HR.out v err a' e' Hrd.out).mono ?_
          rintro x wx ⟨rfl, hR2, hc2⟩
          have RX := Lib.hid hR2
          have CX := Lib.hid hc2
          have HCX := Lib.hid (chgL HC.out hc2)
          have XX := Lib.hid (xkeepL HX.out hc2)
          obtain ⟨c0, c1, c2, c3, c4⟩ := S1.out wx HCX.out
          clear hR2 hc2
          rw [H0.out] at c0
          go_wp2_with fail
          refine (xbyte_rd (q + 1) a0 a e wx XX.out v err a' e' Hrd.out).mono ?_
          rintro x wy ⟨rfl, hX2, hc2⟩
          have XY := Lib.hid hX2
          have HCY := Lib.hid (chgR HCX.out hc2)
          have RY := Lib.hid (keepR RX.out hc2)
          clear hX2 hc2 c0 c1 c2 c3 c4
          obtain ⟨⟨p, er⟩, hw⟩ : ∃ x, (if e' = 0 then ((0 : Int), (0 : Int)) else ((a' : Int), e')) = x := ⟨_, rfl⟩
          have Hw := Lib.hid hw
          clear hw Hrd
          have hle2 := RY.out.le
          have hss2 := RY.out.size
          go_wp2_with fail
          refine (wrong_rd q a0 _ _ _ RY.out _ _ Hw.out).mono ?_
          rintro x w' ⟨rfl, n1, rfl⟩
          go_wp2_with fail
          refine (xwrong_rd (q + 1) a0 _ _ _ (XY.out.drewN n1) _ _ Hw.out).mono ?_
          rintro x w' ⟨rfl, n2, rfl⟩
          go_wp2_with fail
          obtain ⟨wz, hwz⟩ : ∃ W, wy.drewN (n1 + n2) = W := ⟨_, rfl⟩
          rw [hwz]
          have RZ : Hid (Rd wz q a0 a' e') := Lib.hid (hwz ▸ RY.out.drewN (n1 + n2))
          have XZ : Hid (XRd wz (q + 1) a0 a' e') := Lib.hid (hwz ▸ XY.out.drewN (n1 + n2))
          have HCZ : Hid (Chg (fun k => k = q ∨ k = q + 1) wB wz) := Lib.hid (hwz ▸ HCY.out.drewN (n1 + n2))
          clear hwz
          have x1 : wz.cell? ⟨q + 1, 1, none⟩ = some (.int .i64 a') := XZ.out.cells.2.1
          go_quiet ((first
            | (go_at_call 18; exact Calls.quiet_of_same ((at_rd q a0 _ _ _ (RZ.out.drewN _)).mono (fun _ _ h => ⟨h.1, h.2.symm⟩)))
            | (go_at_call 32; exact Calls.quiet_of (left_rd q a0 _ _ _ (RZ.out.drewN _)))
            | (go_at_call 43; exact Calls.quiet_of (xleft_rd (q + 1) a0 _ _ _ (XZ.out.drewN _)))))
          go_wp2_with fail
          go_roundw
          case rel => exact ⟨k + 1, by omega, by go_num, a', e', RZ.out.drewN _, XZ.out.drewN _, HCZ.out.drewN _⟩
          case measure => simp [intOf]; omega
        have b0 : (z1[k].kind == 0) = false := by simpa using k0
        by_cases k1 : z1[k].kind = 1
        · rw [k1] at c0
          have H0 := Lib.hid k1
          clear k1
          obtain ⟨⟨v, err, a', e'⟩, hrd⟩ : ∃ p, rd (0 : Nat) e a (numW z1[k].n.toNat (a0.data.toList.drop a)) = p := ⟨_, rfl⟩
          have Hrd := Lib.hid hrd
          clear hrd
          go_wp2_with fail
          refine (num_rdI q a0 a e z1[k].n wr HR.out hwf.n0 v v err a' e' rfl Hrd.out).mono ?_
          rintro x wx ⟨rfl, hR2, hc2⟩
          have RX := Lib.hid hR2
          have CX := Lib.hid hc2
          have HCX := Lib.hid (chgL HC.out hc2)
          have XX := Lib.hid (xkeepL HX.out hc2)
          obtain ⟨c0, c1, c2, c3, c4⟩ := S1.out wx HCX.out
          clear hR2 hc2
          rw [H0.out] at c0
          go_wp2_with fail
          refine (xnum_rdI (q + 1) a0 a e z1[k].n wx XX.out hwf.n0 v v err a' e' rfl Hrd.out).mono ?_
          rintro x wy ⟨rfl, hX2, hc2⟩
          have XY := Lib.hid hX2
          have HCY := Lib.hid (chgR HCX.out hc2)
          have RY := Lib.hid (keepR RX.out hc2)
          clear hX2 hc2 c0 c1 c2 c3 c4
          obtain ⟨⟨p, er⟩, hw⟩ : ∃ x, (if e' = 0 then ((0 : Int), (0 : Int)) else ((a' : Int), e')) = x := ⟨_, rfl⟩
          have Hw := Lib.hid hw
          clear hw Hrd
          have hle2 := RY.out.le
          have hss2 := RY.out.size
          go_wp2_with fail
          refine (wrong_rd q a0 _ _ _ RY.out _ _ Hw.out).mono ?_
          rintro x w' ⟨rfl, n1, rfl⟩
          go_wp2_with fail
          refine (xwrong_rd (q + 1) a0 _ _ _ (XY.out.drewN n1) _ _ Hw.out).mono ?_
          rintro x w' ⟨rfl, n2, rfl⟩
          go_wp2_with fail
          obtain ⟨wz, hwz⟩ : ∃ W, wy.drewN (n1 + n2) = W := ⟨_, rfl⟩
          rw [hwz]
          have RZ : Hid (Rd wz q a0 a' e') := Lib.hid (hwz ▸ RY.out.drewN (n1 + n2))
          have XZ : Hid (XRd wz (q + 1) a0 a' e') := Lib.hid (hwz ▸ XY.out.drewN (n1 + n2))
          have HCZ : Hid (Chg (fun k => k = q ∨ k = q + 1) wB wz) := Lib.hid (hwz ▸ HCY.out.drewN (n1 + n2))
          clear hwz
          have x1 : wz.cell? ⟨q + 1, 1, none⟩ = some (.int .i64 a') := XZ.out.cells.2.1
          go_quiet ((first
            | (go_at_call 18; exact Calls.quiet_of_same ((at_rd q a0 _ _ _ (RZ.out.drewN _)).mono (fun _ _ h => ⟨h.1, h.2.symm⟩)))
            | (go_at_call 32; exact Calls.quiet_of (left_rd q a0 _ _ _ (RZ.out.drewN _)))
            | (go_at_call 43; exact Calls.quiet_of (xleft_rd (q + 1) a0 _ _ _ (XZ.out.drewN _)))))
          go_wp2_with fail
          go_roundw
          case rel => exact ⟨k + 1, by omega, by go_num, a', e', RZ.out.drewN _, XZ.out.drewN _, HCZ.out.drewN _⟩
          case measure => simp [intOf]; omega
        have b1 : (z1[k].kind == 1) = false := by simpa using k1
        by_cases k2 : z1[k].kind = 2
        · rw [k2] at c0
          have H0 := Lib.hid k2
          clear k2
          obtain ⟨⟨v, err, a', e'⟩, hrd⟩ : ∃ p, rd (0 : Nat) e a (numW 18446744073709551615 (a0.data.toList.drop a)) = p := ⟨_, rfl⟩
          have Hrd := Lib.hid hrd
          clear hrd
          go_wp2_with fail
          refine (int_rd q a0 a e wr HR.out v err a' e' Hrd.out).mono ?_
          rintro x wx ⟨rfl, hR2, hc2⟩
          have RX := Lib.hid hR2
          have CX := Lib.hid hc2
          have HCX := Lib.hid (chgL HC.out hc2)
          have XX := Lib.hid (xkeepL HX.out hc2)
          obtain ⟨c0, c1, c2, c3, c4⟩ := S1.out wx HCX.out
          clear hR2 hc2
          rw [H0.out] at c0
          go_wp2_with fail
          refine (xint_rd (q + 1) a0 a e wx XX.out v err a' e' Hrd.out).mono ?_
          rintro x wy ⟨rfl, hX2, hc2⟩
          have XY := Lib.hid hX2
          have HCY := Lib.hid (chgR HCX.out hc2)
          have RY := Lib.hid (keepR RX.out hc2)
          clear hX2 hc2 c0 c1 c2 c3 c4
          obtain ⟨⟨p, er⟩, hw⟩ : ∃ x, (if e' = 0 then ((0 : Int), (0 : Int)) else ((a' : Int), e')) = x := ⟨_, rfl⟩
          have Hw := Lib.hid hw
          clear hw Hrd
          have hle2 := RY.out.le
          have hss2 := RY.out.size
          go_wp2_with fail
          refine (wrong_rd q a0 _ _ _ RY.out _ _ Hw.out).mono ?_
          rintro x w' ⟨rfl, n1, rfl⟩
          go_wp2_with fail
          refine (xwrong_rd (q + 1) a0 _ _ _ (XY.out.drewN n1) _ _ Hw.out).mono ?_
          rintro x w' ⟨rfl, n2, rfl⟩
          go_wp2_with fail
          obtain ⟨wz, hwz⟩ : ∃ W, wy.drewN (n1 + n2) = W := ⟨_, rfl⟩
          rw [hwz]
          have RZ : Hid (Rd wz q a0 a' e') := Lib.hid (hwz ▸ RY.out.drewN (n1 + n2))
          have XZ : Hid (XRd wz (q + 1) a0 a' e') := Lib.hid (hwz ▸ XY.out.drewN (n1 + n2))
          have HCZ : Hid (Chg (fun k => k = q ∨ k = q + 1) wB wz) := Lib.hid (hwz ▸ HCY.out.drewN (n1 + n2))
          clear hwz
          have x1 : wz.cell? ⟨q + 1, 1, none⟩ = some (.int .i64 a') := XZ.out.cells.2.1
          go_quiet ((first
            | (go_at_call 18; exact Calls.quiet_of_same ((at_rd q a0 _ _ _ (RZ.out.drewN _)).mono (fun _ _ h => ⟨h.1, h.2.symm⟩)))
            | (go_at_call 32; exact Calls.quiet_of (left_rd q a0 _ _ _ (RZ.out.drewN _)))
            | (go_at_call 43; exact Calls.quiet_of (xleft_rd (q + 1) a0 _ _ _ (XZ.out.drewN _)))))
          go_wp2_with fail
          go_roundw
          case rel => exact ⟨k + 1, by omega, by go_num, a', e', RZ.out.drewN _, XZ.out.drewN _, HCZ.out.drewN _⟩
          case measure => simp [intOf]; omega
        have b2 : (z1[k].kind == 2) = false := by simpa using k2
        by_cases k3 : z1[k].kind = 3
        · rw [k3] at c0
          have H0 := Lib.hid k3
          clear k3
          obtain ⟨⟨v, err, a', e'⟩, hrd⟩ : ∃ p, rd ([] : List UInt8) e a (rawW z1[k].k (a0.data.toList.drop a)) = p := ⟨_, rfl⟩
          have Hrd := Lib.hid hrd
          clear hrd
          go_wp2_with fail
          refine (raw_rd q a0 a e z1[k].k wr HR.out v err a' e' Hrd.out).mono ?_
          rintro x wx ⟨rfl, hR2, hc2⟩
          have RX := Lib.hid hR2
          have CX := Lib.hid hc2
          have HCX := Lib.hid (chgL HC.out hc2)
          have XX := Lib.hid (xkeepL HX.out hc2)
          obtain ⟨c0, c1, c2, c3, c4⟩ := S1.out wx HCX.out
          clear hR2 hc2
          rw [H0.out] at c0
          go_wp2_with fail
          refine (xraw_rd (q + 1) a0 a e z1[k].k wx XX.out v err a' e' Hrd.out).mono ?_
          rintro x wy ⟨rfl, hX2, hc2⟩
          have XY := Lib.hid hX2
          have HCY := Lib.hid (chgR HCX.out hc2)
          have RY := Lib.hid (keepR RX.out hc2)
          clear hX2 hc2 c0 c1 c2 c3 c4
          obtain ⟨⟨p, er⟩, hw⟩ : ∃ x, (if e' = 0 then ((0 : Int), (0 : Int)) else ((a' : Int), e')) = x := ⟨_, rfl⟩
          have Hw := Lib.hid hw
          clear hw Hrd
          have hle2 := RY.out.le
          have hss2 := RY.out.size
          go_wp2_with fail
          refine (wrong_rd q a0 _ _ _ RY.out _ _ Hw.out).mono ?_
          rintro x w' ⟨rfl, n1, rfl⟩
          go_wp2_with fail
          refine (xwrong_rd (q + 1) a0 _ _ _ (XY.out.drewN n1) _ _ Hw.out).mono ?_
          rintro x w' ⟨rfl, n2, rfl⟩
          go_wp2_with fail
          obtain ⟨wz, hwz⟩ : ∃ W, wy.drewN (n1 + n2) = W := ⟨_, rfl⟩
          rw [hwz]
          have RZ : Hid (Rd wz q a0 a' e') := Lib.hid (hwz ▸ RY.out.drewN (n1 + n2))
          have XZ : Hid (XRd wz (q + 1) a0 a' e') := Lib.hid (hwz ▸ XY.out.drewN (n1 + n2))
          have HCZ : Hid (Chg (fun k => k = q ∨ k = q + 1) wB wz) := Lib.hid (hwz ▸ HCY.out.drewN (n1 + n2))
          clear hwz
          have x1 : wz.cell? ⟨q + 1, 1, none⟩ = some (.int .i64 a') := XZ.out.cells.2.1
          go_quiet ((first
            | (go_at_call 18; exact Calls.quiet_of_same ((at_rd q a0 _ _ _ (RZ.out.drewN _)).mono (fun _ _ h => ⟨h.1, h.2.symm⟩)))
            | (go_at_call 32; exact Calls.quiet_of (left_rd q a0 _ _ _ (RZ.out.drewN _)))
            | (go_at_call 43; exact Calls.quiet_of (xleft_rd (q + 1) a0 _ _ _ (XZ.out.drewN _)))))
          go_wp2_with fail
          go_roundw
          case rel => exact ⟨k + 1, by omega, by go_num, a', e', RZ.out.drewN _, XZ.out.drewN _, HCZ.out.drewN _⟩
          case measure => simp [intOf]; omega
        have b3 : (z1[k].kind == 3) = false := by simpa using k3
        clear k0 k1 k2 k3
        by_cases k4 : z1[k].kind = 4
        · rw [k4] at c0
          have H0 := Lib.hid k4
          clear k4
          obtain ⟨f, hf⟩ : ∃ f, z1[k].n % 50 = f := ⟨_, rfl⟩
          have hf0 : 0 ≤ f := by omega
          have hf1 : f < 50 := by omega
          have hw1 : IntKind.u64.wrap (z1[k].n.tmod 50) = f := by rw [IntKind.wrap_u64, Int.tmod_eq_emod_of_nonneg hwf.n0]; omega
          have hw2 : IntKind.i64.wrap f = f := by rw [IntKind.wrap_i64]; omega
          have hw3 : z1[k].n.tmod 50 = f := by rw [Int.tmod_eq_emod_of_nonneg hwf.n0]; omega
          clear hf
          obtain ⟨⟨err, a', e'⟩, hrd⟩ : ∃ p, failR e a z1[k].k f = p := ⟨_, rfl⟩
          have Hrd := Lib.hid hrd
          clear hrd
          go_wp2_with fail
          go_region_held3 (fun W => W.cell? ⟨b, off + k * 5 + 4, none⟩ = some (.int .i64 z1[k].k)) (first | exact (S1.out wr HC.out).2.2.2.2 | exact cx.2.2.2.2 | exact cy.2.2.2.2) (first
            | (go_at_call 39; refine (fail_rd q a0 a e z1[k].k f wr.drew HR.out.drewn err a' e' Hrd.out).mono ?_; rintro x wx ⟨rfl, hR2, hc2⟩; have RX := Lib.hid hR2; have HCX := Lib.hid (chgL HC.out hc2.from_drew); have XX := Lib.hid (xkeepL HX.out hc2.from_drew); have cx := S1.out wx HCX.out; clear hR2 hc2)
            | (go_at_call 40; refine (xfail_rd (q + 1) a0 a e z1[k].k f wx XX.out err a' e' Hrd.out).mono ?_; rintro x wy ⟨rfl, hX2, hc2⟩; have XY := Lib.hid hX2; have HCY := Lib.hid (chgR HCX.out hc2); have RY := Lib.hid (keepR RX.out hc2); have cy := S1.out wy HCY.out; clear hX2 hc2))
          clear c0 c1 c2 c3 c4 cx cy
          obtain ⟨⟨p, er⟩, hw⟩ : ∃ x, (if e' = 0 then ((0 : Int), (0 : Int)) else ((a' : Int), e')) = x := ⟨_, rfl⟩
          have Hw := Lib.hid hw
          clear hw Hrd
          have hle2 := RY.out.le
          have hss2 := RY.out.size
          go_wp2_with fail
          refine (wrong_rd q a0 _ _ _ RY.out _ _ Hw.out).mono ?_
          rintro x w' ⟨rfl, n1, rfl⟩
          go_wp2_with fail
          refine (xwrong_rd (q + 1) a0 _ _ _ (XY.out.drewN n1) _ _ Hw.out).mono ?_
          rintro x w' ⟨rfl, n2, rfl⟩
          go_wp2_with fail
          obtain ⟨wz, hwz⟩ : ∃ W, wy.drewN (n1 + n2) = W := ⟨_, rfl⟩
          rw [hwz]
          have RZ : Hid (Rd wz q a0 a' e') := Lib.hid (hwz ▸ RY.out.drewN (n1 + n2))
          have XZ : Hid (XRd wz (q + 1) a0 a' e') := Lib.hid (hwz ▸ XY.out.drewN (n1 + n2))
          have HCZ : Hid (Chg (fun k => k = q ∨ k = q + 1) wB wz) := Lib.hid (hwz ▸ HCY.out.drewN (n1 + n2))
          clear hwz
          have x1 : wz.cell? ⟨q + 1, 1, none⟩ = some (.int .i64 a') := XZ.out.cells.2.1
          go_quiet ((first
            | (go_at_call 18; exact Calls.quiet_of_same ((at_rd q a0 _ _ _ (RZ.out.drewN _)).mono (fun _ _ h => ⟨h.1, h.2.symm⟩)))
            | (go_at_call 32; exact Calls.quiet_of (left_rd q a0 _ _ _ (RZ.out.drewN _)))
            | (go_at_call 43; exact Calls.quiet_of (xleft_rd (q + 1) a0 _ _ _ (XZ.out.drewN _)))))
          go_wp2_with fail
          go_roundw
          case rel => exact ⟨k + 1, by omega, by go_num, a', e', RZ.out.drewN _, XZ.out.drewN _, HCZ.out.drewN _⟩
          case measure => simp [intOf]; omega
        have b4 : (z1[k].kind == 4) = false := by simpa using k4
        clear k4
        obtain ⟨⟨v, err, a', e'⟩, hrd⟩ : ∃ p, rd false e a (endW (a0.data.toList.drop a)) = p := ⟨_, rfl⟩
        have Hrd := Lib.hid hrd
        clear hrd
        go_wp2_with fail
        refine (end_rd q a0 a e wr HR.out v err a' e' Hrd.out).mono ?_
        rintro x wx ⟨rfl, hR2, hc2⟩
        have RX := Lib.hid hR2
        have CX := Lib.hid hc2
        have HCX := Lib.hid (chgL HC.out hc2)
        have XX := Lib.hid (xkeepL HX.out hc2)
        obtain ⟨c0, c1, c2, c3, c4⟩ := S1.out wx HCX.out
        clear hR2 hc2
        go_wp2_with fail
        refine (xend_rd (q + 1) a0 a e wx XX.out v err a' e' Hrd.out).mono ?_
        rintro x wy ⟨rfl, hX2, hc2⟩
        have XY := Lib.hid hX2
        have HCY := Lib.hid (chgR HCX.out hc2)
        have RY := Lib.hid (keepR RX.out hc2)
        clear hX2 hc2 c0 c1 c2 c3 c4
        obtain ⟨⟨p, er⟩, hw⟩ : ∃ x, (if e' = 0 then ((0 : Int), (0 : Int)) else ((a' : Int), e')) = x := ⟨_, rfl⟩
        have Hw := Lib.hid hw
        clear hw Hrd
        have hle2 := RY.out.le
        have hss2 := RY.out.size
        go_wp2_with fail
        refine (wrong_rd q a0 _ _ _ RY.out _ _ Hw.out).mono ?_
        rintro x w' ⟨rfl, n1, rfl⟩
        go_wp2_with fail
        refine (xwrong_rd (q + 1) a0 _ _ _ (XY.out.drewN n1) _ _ Hw.out).mono ?_
        rintro x w' ⟨rfl, n2, rfl⟩
        go_wp2_with fail
        obtain ⟨wz, hwz⟩ : ∃ W, wy.drewN (n1 + n2) = W := ⟨_, rfl⟩
        rw [hwz]
        have RZ : Hid (Rd wz q a0 a' e') := Lib.hid (hwz ▸ RY.out.drewN (n1 + n2))
        have XZ : Hid (XRd wz (q + 1) a0 a' e') := Lib.hid (hwz ▸ XY.out.drewN (n1 + n2))
        have HCZ : Hid (Chg (fun k => k = q ∨ k = q + 1) wB wz) := Lib.hid (hwz ▸ HCY.out.drewN (n1 + n2))
        clear hwz
        have x1 : wz.cell? ⟨q + 1, 1, none⟩ = some (.int .i64 a') := XZ.out.cells.2.1
        go_quiet ((first
          | (go_at_call 18; exact Calls.quiet_of_same ((at_rd q a0 _ _ _ (RZ.out.drewN _)).mono (fun _ _ h => ⟨h.1, h.2.symm⟩)))
          | (go_at_call 32; exact Calls.quiet_of (left_rd q a0 _ _ _ (RZ.out.drewN _)))
          | (go_at_call 43; exact Calls.quiet_of (xleft_rd (q + 1) a0 _ _ _ (XZ.out.drewN _)))))
        go_wp2_with fail
        go_roundw
        case rel => exact ⟨k + 1, by omega, by go_num, a', e', RZ.out.drewN _, XZ.out.drewN _, HCZ.out.drewN _⟩
        case measure => simp [intOf]; omega
      · go_wp2_with fail
        refine (awake_at _).mono ?_
        rintro e W1 ⟨rfl, b1⟩
        go_wp2_with fail
        go_ret
        exact ⟨rfl, HB.out.trans (b1.mono HB.out.size)⟩
end Go.Proofs.Ytbdgmpjaibejnaa
