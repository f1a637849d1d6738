/- The walk of the law BytesAnew. -/
import Derived.Test.YtbdgmpjaibejnaaBytL
import Derived.Test.YtbdgmpjaibejnaaBytP
import Derived.Deep.DeepCutAuto
import Derived.Deep.CutBlock
namespace Go.Proofs.Ytbdgmpjaibejnaa
open Go.RowKit Go.Lib
set_option linter.unusedVariables false
theorem numW_max (l : List UInt8) : numW 18446744073709551615 l = getB l := by
  obtain ⟨⟨x, size, e⟩, h⟩ : ∃ p, getB l = p := ⟨_, rfl⟩
  unfold numW
  rw [h]
  refine if_neg ?_
  rintro ⟨he, hx⟩
  have he' : e = 0 := he
  rcases getB_back _ _ _ _ h with ⟨_, h2, _⟩ | ⟨_, _, h4⟩
  · have hx' : 18446744073709551615 < x := hx
    omega
  · omega
theorem rawIs_ok (most : Int) (bs s : List UInt8) (h : (s.length : Int) + bs.length ≤ most) : RawIs most bs s 0 (bs ++ s) := by
  have h' : (s.length : Int) ≤ most - bs.length := by omega
  exact ⟨by rw [rawE, if_pos h'], by rw [rawB, if_pos h']⟩
theorem rd_ok {α : Type} (zero : α) (a : Nat) (x : α) (size : Nat) : rd zero 0 a (x, size, 0) = (x, 0, a + size, 0) := by simp [rd]
theorem rd_no {α : Type} (zero : α) (a : Nat) (x : α) (size er : Nat) (h : er ≠ 0) : rd zero 0 a (x, size, er) = (zero, (er : Int), a, (er : Int)) := by simp [rd, h]
/-- Between two rounds: the reader's place, the writer's bytes. -/
def AnewInv (W0 : World) (qa pa : Nat) (s : ByteArray) (i : Nat) (wr : World) : Prop :=
  ∃ (a : Nat) (r : Option Nat), Rd wr qa s a 0 ∧ Wr wr pa r 16777216 (s.data.toList.take a) ∧ (r = none ∨ ∃ k, r = some k ∧ W0.heap.size ≤ k) ∧ Chg (fun k => k = qa ∨ k = pa) W0 wr ∧ runTo s.data.toList (5000 - i) a = runTo s.data.toList 5000 0
/-- Behind the loop. -/
def AnewEnd (W0 : World) (qa pa : Nat) (s : ByteArray) (wr : World) : Prop :=
  ∃ (e : Int) (r : Option Nat), Rd wr qa s (runTo s.data.toList 5000 0) e ∧ Wr wr pa r 16777216 (s.data.toList.take (runTo s.data.toList 5000 0)) ∧ (r = none ∨ ∃ k, r = some k ∧ W0.heap.size ≤ k) ∧ Chg (fun k => k = qa ∨ k = pa) W0 wr
set_option maxRecDepth 100000 in
set_option maxHeartbeats 4000000 in
theorem walk_BytesAnew (a0 : ByteArray) (w : World) (w0 : a0.size ≤ maxLen) :
    Calls Try.prog 3 #[.string a0] w fun e w' => e = .returned (.bool true) ∧ Below w.heap.size w w' := by
  by_cases hl : a0.size ≤ 5000
  · have h24 : a0.size ≤ 16777216 := by omega
    go_enter Try.func3, Try.ntmps3
    go_wp2_with fail
    refine (awake_at _).mono ?_
    rintro e w1 ⟨rfl, b1⟩
    have B1 := Lib.hid b1
    clear b1
    go_wp2_with fail
    refine (newReader_ok a0 h24 _).mono ?_
    rintro e w2 ⟨rfl, e2⟩
    have hz2 : w2.heap.size = w1.heap.size + 1 := by rw [e2]; simp
    have Ra := Lib.hid (e2 ▸ Rd.new a0 h24 w1 : Rd w2 w1.heap.size a0 0 0)
    have C2 := Lib.hid (e2 ▸ (Chg.of_below B1.out).alloc _ : Chg (fun _ => False) w w2)
    clear e2
    obtain ⟨qa, hqa⟩ : ∃ q, w1.heap.size = q := ⟨_, rfl⟩
    have hq0 : w.heap.size ≤ qa := by rw [← hqa]; exact B1.out.size
    rw [hqa] at Ra hz2
    rw [hqa]
    go_wp2_with fail
    refine (newReader_ok a0 h24 _).mono ?_
    rintro e w3 ⟨rfl, e3⟩
    have hz3 : w3.heap.size = qa + 2 := by rw [e3]; simp; omega
    have Rb := Lib.hid (e3 ▸ Rd.new a0 h24 w2 : Rd w3 w2.heap.size a0 0 0)
    have k3 : Chg (fun _ => False) w2 w3 := e3 ▸ (Chg.refl _ w2).alloc _
    have Ra3 := Lib.hid (Ra.out.keeps k3 (fun h => h))
    have C3 := Lib.hid (C2.out.trans k3 (fun _ _ h => h))
    rw [hz2] at Rb
    rw [hz2]
    clear e3 k3 Ra C2
    go_wp2_with fail
    refine (newWriter_ok 16777216 (by decide) (by decide) _).mono ?_
    rintro e w4 ⟨rfl, e4⟩
    have hz4 : w4.heap.size = qa + 3 := by rw [e4]; simp; omega
    have Wa := Lib.hid (e4 ▸ Wr.new 16777216 w3 : Wr w4 w3.heap.size none 16777216 [])
    have k4 : Chg (fun _ => False) w3 w4 := e4 ▸ (Chg.refl _ w3).alloc _
    have Ra4 := Lib.hid (Ra3.out.keeps k4 (fun h => h))
    have Rb4 := Lib.hid (Rb.out.keeps k4 (fun h => h))
    have C4 := Lib.hid (C3.out.trans k4 (fun _ _ h => h))
    rw [hz3] at Wa
    rw [hz3]
    clear e4 k4 Ra3 Rb C3
    go_wp2_with fail
    refine (newWriter_ok 16777216 (by decide) (by decide) _).mono ?_
    rintro e w5 ⟨rfl, e5⟩
    have hz5 : w5.heap.size = qa + 4 := by rw [e5]; simp; omega
    have Wb := Lib.hid (e5 ▸ Wr.new 16777216 w4 : Wr w5 w4.heap.size none 16777216 [])
    have k5 : Chg (fun _ => False) w4 w5 := e5 ▸ (Chg.refl _ w4).alloc _
    have Ra5 := Lib.hid (Ra4.out.keeps k5 (fun h => h))
    have Rb5 := Lib.hid (Rb4.out.keeps k5 (fun h => h))
    have Wa5 := Lib.hid (Wa.out.keeps k5 (fun h => h) (fun _ _ h => h))
    have C5 := Lib.hid (C4.out.trans k5 (fun _ _ h => h))
    rw [hz4] at Wb
    rw [hz4]
    clear e5 k5 Ra4 Rb4 Wa C4 hz2 hz3 hz4
    go_upto_block 0 with fail
    go_cut [11] (fun _ wx => AnewEnd w5 qa (qa + 2) a0 wx)
    case first =>
      go_wp2_with fail
      go_loopw [11] (fun i wr => ∃ k : Nat, k ≤ 5000 ∧ i = .int .i64 k ∧ Hid (AnewInv w5 qa (qa + 2) a0 k wr)) (fun i _ => 5000 - (intOf i).toNat)
      case atStart => exact ⟨0, by omega, rfl, 0, none, Ra5.out, Wa5.out, .inl rfl, Chg.refl _ _, rfl⟩
      case round =>
        obtain ⟨k, hk, rfl, H⟩ := hrel
        obtain ⟨a, r, hR, hW, hr, hC, hrun⟩ := H.out
        clear H
        obtain ⟨⟨x, size, er⟩, hx⟩ : ∃ p, getB (a0.data.toList.drop a) = p := ⟨_, rfl⟩
        have hle := hR.le
        have hadv := adv_of a0.data.toList a x size er hx
        by_cases hk5 : k < 5000
        · by_cases he : er = 0
          · subst he
            obtain ⟨ha1, hxb, hsz, htk⟩ := hadv.1 rfl
            rw [← size_list] at hsz
            have hrd : rd 0 0 a (numW 18446744073709551615 (a0.data.toList.drop a)) = (x, 0, a + size, 0) := by rw [numW_max, hx]; exact rd_ok _ _ _ _
            have HR := Lib.hid hR
            have HW := Lib.hid hW
            have Hr := Lib.hid hr
            have HC := Lib.hid hC
            have Hrun := Lib.hid hrun
            have Hrd := Lib.hid hrd
            have Hadv := Lib.hid ha1
            have Htk := Lib.hid htk
            clear hR hW hr hC hrun hrd ha1 htk hadv hx
            go_wp2_with fail
            refine (num_rd qa a0 a 0 18446744073709551615 wr HR.out x 0 (a + size) 0 Hrd.out).mono ?_
            rintro e wr2 ⟨rfl, hR2, hc2⟩
            have HR2 := Lib.hid hR2
            have Hc2 := Lib.hid hc2
            clear hR2 hc2
            have HW2 := Lib.hid (HW.out.keeps Hc2.out (fun h => by omega) (fun k hk h => by
              rcases Hr.out with h' | ⟨k', h', hl'⟩
              · rw [h'] at hk; cases hk
              · rw [h'] at hk; injection hk with hk; omega))
            go_wp2_with fail
            refine (num_to (qa + 2) r 16777216 (a0.data.toList.take a) x wr2 HW2.out (by decide) (by decide) (by rw [List.length_take]; omega) (by omega) (by omega) 0 (a0.data.toList.take (a + size)) (by
              rw [Htk.out, Int.toNat_natCast]
              refine rawIs_ok _ _ _ ?_
              have := (putB_len x).2
              rw [List.length_take]; omega)).mono ?_
            rintro e wr3 ⟨rfl, r3, hW3, hr3, hc3⟩
            have HW3 := Lib.hid hW3
            have Hr3 := Lib.hid hr3
            have Hc3 := Lib.hid hc3
            clear hW3 hr3 hc3
            go_wp2_with fail
            go_roundw
            case rel =>
              refine ⟨k + 1, by omega, by go_num, a + size, r3, ?_, HW3.out, ?_, ?_, ?_⟩
              · refine HR2.out.keeps Hc3.out ?_
                rintro (h | h)
                · omega
                · rcases Hr.out with h' | ⟨k', h', hl'⟩
                  · rw [h'] at h; cases h
                  · rw [h'] at h; injection h with h; omega
              · rcases Hr3.out with h | ⟨k', h', hl'⟩
                · rw [h]; exact Hr.out
                · exact .inr ⟨k', h', Nat.le_trans (Nat.le_trans HC.out.size Hc2.out.size) hl'⟩
              · refine (HC.out.trans Hc2.out (fun k _ h => .inl h)).trans Hc3.out ?_
                rintro i hi (h | h)
                · exact .inr h
                · rcases Hr.out with h' | ⟨k', h', hl'⟩
                  · rw [h'] at h; cases h
                  · rw [h'] at h; injection h with h; omega
              · rw [← Hrun.out, show 5000 - k = (5000 - (k + 1)) + 1 by omega, runTo_some _ _ _ _ Hadv.out]
            case measure => simp [intOf]; omega
          · have hrd : rd 0 0 a (numW 18446744073709551615 (a0.data.toList.drop a)) = (0, (er : Int), a, (er : Int)) := by rw [numW_max, hx]; exact rd_no _ _ _ _ _ he
            have hb1 : ((er : Int) != 0) = true := by simpa using he
            have HR := Lib.hid hR
            have HW := Lib.hid hW
            have Hr := Lib.hid hr
            have HC := Lib.hid hC
            have Hrun := Lib.hid (show runTo a0.data.toList 5000 0 = a by rw [← hrun, runTo_none _ _ _ (hadv.2 he)])
            have Hrd := Lib.hid hrd
            clear hR hW hr hC hrun hrd hadv hx he
            go_wp2_with fail
            refine (num_rd qa a0 a 0 18446744073709551615 wr HR.out 0 er a er Hrd.out).mono ?_
            rintro e wr2 ⟨rfl, hR2, hc2⟩
            have HR2 := Lib.hid hR2
            have Hc2 := Lib.hid hc2
            clear hR2 hc2
            go_wp2_with fail
            go_meet
            case rel =>
              refine ⟨er, r, by rw [Hrun.out]; exact HR2.out, ?_, Hr.out, HC.out.trans Hc2.out (fun k _ h => .inl h)⟩
              rw [Hrun.out]
              exact HW.out.keeps Hc2.out (fun h => by omega) (fun k hk h => by
                rcases Hr.out with h' | ⟨k', h', hl'⟩
                · rw [h'] at hk; cases hk
                · rw [h'] at hk; injection hk with hk; omega)
        · have hEnd : AnewEnd w5 qa (qa + 2) a0 wr := ⟨0, r, by
            have e : runTo a0.data.toList 5000 0 = a := by rw [← hrun, show 5000 - k = 0 by omega]; rfl
            rw [e]; exact ⟨hR, hW, hr, hC⟩⟩
          have HE := Lib.hid hEnd
          clear hEnd hR hW hr hC hrun hadv hx
          go_wp2_with fail
          go_meet
          case rel => exact HE.out
    case rest =>
      obtain ⟨wA, rfl⟩ : ∃ wA : World, wA = wc := ⟨_, rfl⟩
      obtain ⟨ea, ra, hRa, hWa, hra, hCa⟩ := hcut
      have Rbc := Lib.hid (Rb5.out.keeps hCa (fun h => by omega))
      have Wbc := Lib.hid (Wb.out.keeps hCa (fun h => by omega) (fun _ h => by cases h))
      have HRa := Lib.hid hRa
      have HWa := Lib.hid hWa
      have Hra := Lib.hid hra
      have HCa := Lib.hid hCa
      have hsz : qa + 4 ≤ wA.heap.size := by have := hCa.size; omega
      clear hRa hWa hra hCa
      go_upto_block 2 with fail
      go_cut [14] (fun _ wx => AnewEnd wA (qa + 1) (qa + 3) a0 wx)
      case first =>
        go_wp2_with fail
        go_loopw [14] (fun i wr => ∃ k : Nat, k ≤ 5000 ∧ i = .int .i64 k ∧ Hid (AnewInv wA (qa + 1) (qa + 3) a0 k wr)) (fun i _ => 5000 - (intOf i).toNat)
        case atStart => exact ⟨0, by omega, rfl, 0, none, Rbc.out, Wbc.out, .inl rfl, Chg.refl _ _, rfl⟩
        case round =>
          obtain ⟨k, hk, rfl, H⟩ := hrel
          obtain ⟨a, r, hR, hW, hr, hC, hrun⟩ := H.out
          clear H
          obtain ⟨⟨x, size, er⟩, hx⟩ : ∃ p, getB (a0.data.toList.drop a) = p := ⟨_, rfl⟩
          have hle := hR.le
          have hadv := adv_of a0.data.toList a x size er hx
          by_cases hk5 : k < 5000
          · by_cases he : er = 0
            · subst he
              obtain ⟨ha1, hxb, hsz, htk⟩ := hadv.1 rfl
              rw [← size_list] at hsz
              have hrd : rd 0 0 a (numW 18446744073709551615 (a0.data.toList.drop a)) = (x, 0, a + size, 0) := by rw [numW_max, hx]; exact rd_ok _ _ _ _
              have hzb := zag_bd (x : Int) (by omega) (by omega)
              have HR := Lib.hid hR
              have HW := Lib.hid hW
              have Hr := Lib.hid hr
              have HC := Lib.hid hC
              have Hrun := Lib.hid hrun
              have Hrd := Lib.hid hrd
              have Hadv := Lib.hid ha1
              have Htk := Lib.hid htk
              clear hR hW hr hC hrun hrd ha1 htk hadv hx
              go_wp2_with fail
              refine (int_rd (qa + 1) a0 a 0 wr HR.out x 0 (a + size) 0 Hrd.out).mono ?_
              rintro e wr2 ⟨rfl, hR2, hc2⟩
              have HR2 := Lib.hid hR2
              have Hc2 := Lib.hid hc2
              clear hR2 hc2
              have HW2 := Lib.hid (HW.out.keeps Hc2.out (fun h => by omega) (fun k hk h => by
                rcases Hr.out with h' | ⟨k', h', hl'⟩
                · rw [h'] at hk; cases hk
                · rw [h'] at hk; injection hk with hk; omega))
              go_wp2_with fail
              refine (int_to (qa + 3) r 16777216 (a0.data.toList.take a) (zagI x) wr2 HW2.out (by decide) (by decide) (by rw [List.length_take]; omega) hzb.1 hzb.2 0 (a0.data.toList.take (a + size)) (by
                rw [Htk.out, zig_zag _ (by omega), Int.toNat_natCast]
                refine rawIs_ok _ _ _ ?_
                have := (putB_len x).2
                rw [List.length_take]; omega)).mono ?_
              rintro e wr3 ⟨rfl, r3, hW3, hr3, hc3⟩
              have HW3 := Lib.hid hW3
              have Hr3 := Lib.hid hr3
              have Hc3 := Lib.hid hc3
              clear hW3 hr3 hc3
              go_wp2_with fail
              go_roundw
              case rel =>
                refine ⟨k + 1, by omega, by go_num, a + size, r3, ?_, HW3.out, ?_, ?_, ?_⟩
                · refine HR2.out.keeps Hc3.out ?_
                  rintro (h | h)
                  · omega
                  · rcases Hr.out with h' | ⟨k', h', hl'⟩
                    · rw [h'] at h; cases h
                    · rw [h'] at h; injection h with h; omega
                · rcases Hr3.out with h | ⟨k', h', hl'⟩
                  · rw [h]; exact Hr.out
                  · exact .inr ⟨k', h', Nat.le_trans (Nat.le_trans HC.out.size Hc2.out.size) hl'⟩
                · refine (HC.out.trans Hc2.out (fun k _ h => .inl h)).trans Hc3.out ?_
                  rintro i hi (h | h)
                  · exact .inr h
                  · rcases Hr.out with h' | ⟨k', h', hl'⟩
                    · rw [h'] at h; cases h
                    · rw [h'] at h; injection h with h; omega
                · rw [← Hrun.out, show 5000 - k = (5000 - (k + 1)) + 1 by omega, runTo_some _ _ _ _ Hadv.out]
              case measure => simp [intOf]; omega
            · have hrd : rd 0 0 a (numW 18446744073709551615 (a0.data.toList.drop a)) = (0, (er : Int), a, (er : Int)) := by rw [numW_max, hx]; exact rd_no _ _ _ _ _ he
              have hb1 : ((er : Int) != 0) = true := by simpa using he
              have HR := Lib.hid hR
              have HW := Lib.hid hW
              have Hr := Lib.hid hr
              have HC := Lib.hid hC
              have Hrun := Lib.hid (show runTo a0.data.toList 5000 0 = a by rw [← hrun, runTo_none _ _ _ (hadv.2 he)])
              have Hrd := Lib.hid hrd
              clear hR hW hr hC hrun hrd hadv hx he
              go_wp2_with fail
              refine (int_rd (qa + 1) a0 a 0 wr HR.out 0 er a er Hrd.out).mono ?_
              rintro e wr2 ⟨rfl, hR2, hc2⟩
              have HR2 := Lib.hid hR2
              have Hc2 := Lib.hid hc2
              clear hR2 hc2
              go_wp2_with fail
              go_meet
              case rel =>
                refine ⟨er, r, by rw [Hrun.out]; exact HR2.out, ?_, Hr.out, HC.out.trans Hc2.out (fun k _ h => .inl h)⟩
                rw [Hrun.out]
                exact HW.out.keeps Hc2.out (fun h => by omega) (fun k hk h => by
                  rcases Hr.out with h' | ⟨k', h', hl'⟩
                  · rw [h'] at hk; cases hk
                  · rw [h'] at hk; injection hk with hk; omega)
          · have hEnd : AnewEnd wA (qa + 1) (qa + 3) a0 wr := ⟨0, r, by
              have e : runTo a0.data.toList 5000 0 = a := by rw [← hrun, show 5000 - k = 0 by omega]; rfl
              rw [e]; exact ⟨hR, hW, hr, hC⟩⟩
            have HE := Lib.hid hEnd
            clear hEnd hR hW hr hC hrun hadv hx
            go_wp2_with fail
            go_meet
            case rel => exact HE.out
      case rest =>
        obtain ⟨eb, rb, hRb, hWb, hrb, hCb⟩ := hcut
        have hpa : ∀ k, ra = some k → ¬ (k = qa + 1 ∨ k = qa + 3) := fun k hk h => by
          rcases Hra.out with h' | ⟨k', h', hl'⟩
          · rw [h'] at hk; cases hk
          · rw [h'] at hk; injection hk with hk; omega
        have hRa' := HRa.out.keeps hCb (fun h => by omega)
        have hWa' := HWa.out.keeps hCb (fun h => by omega) hpa
        have HCw := Lib.hid ((C5.out.trans HCa.out (fun k hk h => by omega)).trans hCb (fun k hk h => by omega))
        obtain ⟨P, hP⟩ : ∃ P, runTo a0.data.toList 5000 0 = P := ⟨_, rfl⟩
        rw [hP] at hRa' hWa' hRb hWb
        have hPl : P ≤ a0.size := hRa'.le
        have heq : ((strB (a0.data.toList.take P)).toList == (a0.extract 0 P).toList) = true := eqS _ _ (by
          rw [ByteArray.data_extract, Array.toList_extract]
          simp [strB])
        have HRa' := Lib.hid hRa'
        have HWa' := Lib.hid hWa'
        have HRb' := Lib.hid hRb
        have HWb' := Lib.hid hWb
        clear hRb hWb hrb hCb hpa hP hRa' hWa'
        go_wp2_with fail
        refine (text_ok _ _ _ _ _ HWa'.out).mono ?_
        rintro e w' ⟨rfl, rfl⟩
        go_wp2_with fail
        refine (at_rd _ _ _ _ _ HRa'.out).mono ?_
        rintro e w' ⟨rfl, rfl⟩
        go_wp2_with fail
        refine (text_ok _ _ _ _ _ HWb'.out).mono ?_
        rintro e w' ⟨rfl, rfl⟩
        go_wp2_with fail
        refine (at_rd _ _ _ _ _ HRb'.out).mono ?_
        rintro e w' ⟨rfl, rfl⟩
        go_wp2_with fail
        refine (at_rd _ _ _ _ _ HRa'.out).mono ?_
        rintro e w' ⟨rfl, rfl⟩
        go_wp2_with fail
        refine (at_rd _ _ _ _ _ HRb'.out).mono ?_
        rintro e w' ⟨rfl, rfl⟩
        go_wp2_with fail
        go_ret
        exact ⟨rfl, HCw.out.below⟩
  · go_enter Try.func3, Try.ntmps3
    go_wp2_with fail
    refine (awake_at _).mono ?_
    rintro e W1 ⟨rfl, b1⟩
    go_wp2_with fail
    go_ret
    exact ⟨rfl, b1⟩
end Go.Proofs.Ytbdgmpjaibejnaa
