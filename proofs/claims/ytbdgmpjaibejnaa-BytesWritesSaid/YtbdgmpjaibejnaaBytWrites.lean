/- The walk of the law BytesWrites. -/
import Derived.Test.YtbdgmpjaibejnaaBytX
namespace Go.Proofs.Ytbdgmpjaibejnaa
open Go.RowKit Go.Lib
set_option linter.unusedVariables false
def WrInv (W0 : World) (p px : Nat) (most : Int) (wr : World) : Prop :=
  ∃ (bs : List UInt8) (r : Option Nat), Wr wr p r most bs ∧ XWr wr px most bs ∧ (bs.length : Int) ≤ most ∧ (r = none ∨ ∃ k, r = some k ∧ W0.heap.size ≤ k) ∧ Chg (fun k => k = p ∨ k = px) W0 wr
theorem rawB_le (most : Int) (bs s : List UInt8) (h : (bs.length : Int) ≤ most) : ((rawB most bs s).length : Int) ≤ most := by
  unfold rawB
  split
  · rw [List.length_append]; omega
  · exact h
theorem Wr.drewn {w : World} {p : Nat} {r : Option Nat} {most : Int} {bs : List UInt8} (h : Wr w p r most bs) : Wr w.drew p r most bs :=
  h.keeps ((Chg.refl (fun _ => False) w).drew) (fun h => h) (fun _ _ h => h)
theorem Wr.drewnN {w : World} {p : Nat} {r : Option Nat} {most : Int} {bs : List UInt8} (h : Wr w p r most bs) (n : Nat) : Wr (w.drewN n) p r most bs :=
  h.keeps (⟨rfl, rfl, rfl, Nat.le_refl _, fun _ _ _ => rfl⟩ : Chg (fun _ => False) w (w.drewN n)) (fun h => h) (fun _ _ h => h)
theorem XWr.drewnN {w : World} {p : Nat} {most : Int} {bs : List UInt8} (h : XWr w p most bs) (n : Nat) : XWr (w.drewN n) p most bs := h
theorem Chg.drewnN {S : Nat → Prop} {a b : World} (h : Chg S a b) (n : Nat) : Chg S a (b.drewN n) := ⟨h.os, h.tape, h.output, h.size, h.block⟩
theorem wrChg {p : Nat} {r : Option Nat} {wB wr wg : World} (h : Chg (fun k => k = p ∨ k = p + 1) wB wr) (hc : Chg (fun k => k = p ∨ r = some k) wr wg) (hr : r = none ∨ ∃ k, r = some k ∧ wB.heap.size ≤ k) : Chg (fun k => k = p ∨ k = p + 1) wB wg :=
  h.trans hc (fun i hi h => by
    rcases h with h | h
    · exact .inl h
    · rcases hr with h' | ⟨q, h', hl⟩
      · rw [h'] at h; cases h
      · rw [h'] at h; injection h with h; omega)
theorem wrKeep {p : Nat} {r : Option Nat} {most : Int} {bs : List UInt8} {wr wg : World} (hc : Chg (fun k => k = p ∨ r = some k) wr wg) (hX : XWr wr (p + 1) most bs) (hr : ∀ i, r = some i → i ≠ p + 1) : XWr wg (p + 1) most bs :=
  hc.keeps hX (fun h => by
    rcases h with h | h
    · omega
    · exact hr _ h rfl)
set_option maxRecDepth 100000 in
set_option maxHeartbeats 16000000 in
theorem walk_BytesWrites (a0 : Int) (a1 : Option Addr) (len1 cap1 : Nat) (z1 : List StepD) (w : World) (w0 : (Lit.int .i64 a0).wf = true) (w1 : SliceAt w a1 len1 cap1 5 StepD.cells z1 ∧ ∀ z ∈ z1, z.Wf) :
    Calls Try.prog 4 #[.int .i64 a0, .slice a1 len1 cap1] w fun e w' => e = .returned (.bool true) ∧ Below w.heap.size w w' := by
  obtain ⟨hS, hwf⟩ := w1
  have HS := Lib.hid hS
  have HWF := Lib.hid hwf
  have hm : len1 ≤ 9223372036854775807 := by have := hS.2.1; have := hS.2.2.1; unfold maxLen at this; omega
  have hzl := Lib.hid hS.1
  clear hS hwf
  cases hlarge : largeB z1 with
  | true =>
    have HL := Lib.hid (fun W hW => large_at a1 len1 cap1 z1 W hW HWF.out)
    rw [hlarge] at HL
    clear hlarge
    go_enter Try.func4, Try.ntmps4
    go_wp2_with fail
    refine (HL.out _ HS.out).mono ?_
    rintro e w' ⟨rfl, rfl⟩
    go_wp2_with fail
    refine (awake_at _).mono ?_
    rintro e W1 ⟨rfl, b1⟩
    go_wp2_with fail
    go_ret
    exact ⟨rfl, b1⟩
  | false =>
    have hnl := not_large hlarge
    have HL := Lib.hid (fun W hW => large_at a1 len1 cap1 z1 W hW HWF.out)
    rw [hlarge] at HL
    clear hlarge
    by_cases hr : a0 < 0 ∨ 16777216 < a0
    · go_enter Try.func4, Try.ntmps4
      go_wp2_with fail
      refine (HL.out _ HS.out).mono ?_
      rintro e w' ⟨rfl, rfl⟩
      go_wp2_with fail
      refine (newWriter_no a0 hr _).mono ?_
      rintro e w' ⟨rfl, rfl⟩
      go_wp2_with fail
      refine (xnewWriter_no a0 hr _).mono ?_
      rintro e w' ⟨rfl, rfl⟩
      go_wp2_with fail
      refine (awake_at _).mono ?_
      rintro e W1 ⟨rfl, b1⟩
      go_wp2_with fail
      go_ret
      exact ⟨rfl, b1⟩
    · have ha0 : 0 ≤ a0 := by omega
      have ha1 : a0 ≤ 16777216 := by omega
      clear hr
      go_enter Try.func4, Try.ntmps4
      go_wp2_with fail
      refine (HL.out _ HS.out).mono ?_
      rintro e w' ⟨rfl, rfl⟩
      go_wp2_with fail
      refine (newWriter_ok a0 ha0 ha1 _).mono ?_
      rintro e wA ⟨rfl, eA⟩
      have WA := Lib.hid (eA ▸ Wr.new a0 w : Wr wA w.heap.size none a0 [])
      have CA := Lib.hid (eA ▸ (Chg.refl _ w).alloc _ : Chg (fun _ => False) w wA)
      have hzA : wA.heap.size = w.heap.size + 1 := by rw [eA]; simp
      obtain ⟨p, hp⟩ : ∃ p, w.heap.size = p := ⟨_, rfl⟩
      rw [hp] at WA hzA
      rw [hp]
      have Hp := Lib.hid hp
      clear eA hp
      go_wp2_with fail
      refine (xnewWriter_ok a0 ha0 ha1 _).mono ?_
      rintro e wB ⟨rfl, eB⟩
      have XB := Lib.hid (eB ▸ heap_alloc_new wA _ : XWr wB wA.heap.size a0 [])
      have kB : Chg (fun _ => False) wA wB := eB ▸ (Chg.refl _ wA).alloc _
      have WB := Lib.hid (WA.out.keeps kB (fun h => h) (fun _ _ h => h))
      have CB := Lib.hid (CA.out.trans kB (fun _ _ h => h))
      have hzB : wB.heap.size = p + 2 := by rw [eB]; simp; omega
      rw [hzA] at XB
      rw [hzA]
      clear eB kB WA CA hzA
      go_wp2_with fail
      go_loopw [9] (fun i wr => ∃ k : Nat, k ≤ len1 ∧ i = .int .i64 k ∧ Hid (WrInv wB p (p + 1) a0 wr)) (fun i _ => len1 - (intOf i).toNat)
      case atStart => exact ⟨0, Nat.zero_le _, rfl, [], none, WB.out, XB.out, ha0, .inl rfl, Chg.refl _ _⟩
      case round =>
        obtain ⟨k, hk, rfl, H⟩ := hrel
        have HB := Lib.hid (show Below w.heap.size w wr by
          obtain ⟨_, _, _, _, _, _, hc⟩ := H.out
          exact (CB.out.trans hc (fun i hi h => by have := Hp.out; omega)).below)
        by_cases hlt : k < len1
        · obtain ⟨bs, r, hW, hX, hbl, hrr, hC⟩ := H.out
          have hz : k < z1.length := by rw [hzl.out]; exact hlt
          obtain ⟨b, off, rfl⟩ := HS.out.at (by omega)
          have hwf := HWF.out _ (List.getElem_mem hz)
          have hsl := hnl.2 _ (List.getElem_mem hz)
          have HW := Lib.hid hW
          have HX := Lib.hid hX
          have Hrr := Lib.hid hrr
          have HC := Lib.hid hC
          have hrp : Hid (∀ i, r = some i → i ≠ p ∧ i ≠ p + 1) := Lib.hid (fun i h => by
            rcases hrr with h' | ⟨k', h', hl'⟩
            · rw [h'] at h; cases h
            · rw [h'] at h; injection h with h; omega)
          have Five := Lib.hid (fun W (hW : Below w.heap.size w W) => (HS.out.keeps hW).five k hlt hz)
          obtain ⟨c0, c1, c2, c3, c4⟩ := Five.out wr HB.out
          clear hW hX hrr hC H
          by_cases k0 : z1[k].kind = 0
          · rw [k0] at c0
            have H0 := Lib.hid k0
            clear k0
            obtain ⟨err, he⟩ : ∃ x, rawE a0 bs [UInt8.ofNat (z1[k].n % 256).toNat] = x := ⟨_, rfl⟩
            obtain ⟨bs2, hb2⟩ : ∃ x, rawB a0 bs [UInt8.ofNat (z1[k].n % 256).toNat] = x := ⟨_, rfl⟩
            have hble : (bs2.length : Int) ≤ a0 := by rw [← hb2]; exact rawB_le _ _ _ hbl
            have HI := Lib.hid (⟨he, hb2⟩ : RawIs a0 bs [UInt8.ofNat (z1[k].n % 256).toNat] err bs2)
            clear he hb2
            have hbl2 : bs.length ≤ 16777216 := by omega
            have hs9 : z1[k].s.size ≤ 100000000 := by omega
            have hw8 : IntKind.u8.wrap z1[k].n = z1[k].n % 256 := by rw [IntKind.wrap_u8]
            have S0 := Lib.hid (fun W (hW : Below w.heap.size w W) => (Five.out W hW).2.1)
            have S1 : Hid (∀ W, Chg (fun k => k = p ∨ k = p + 1) wB W → _) := Lib.hid (fun W (hC : Chg (fun k => k = p ∨ k = p + 1) wB W) => S0.out W (CB.out.trans hC (fun i hi h => by have := Hp.out; omega)).below)
            have Hrp2 : Hid (∀ i, r = some i → i ≠ p + 1) := Lib.hid (fun i h => (hrp.out i h).2)
            go_wp2_with fail
            go_region_held3 (fun W => W.cell? ⟨b, off + k * 5 + 1, none⟩ = some (.int .u64 z1[k].n)) (first | exact (Five.out wr HB.out).2.1 | exact cg | exact ch) (first
              | (go_at_call 21; refine (byte_to p r a0 bs (z1[k].n % 256) wr.drew HW.out.drewn ha0 ha1 hbl2 err bs2 HI.out).mono ?_; rintro e wg ⟨rfl, rg, hWg, hrg, hcg⟩; have WG := Lib.hid hWg; have Hrg := Lib.hid hrg; have Hcg := Lib.hid hcg.from_drew; have HCg := Lib.hid (wrChg HC.out Hcg.out Hrr.out); have XG := Lib.hid (wrKeep Hcg.out HX.out Hrp2.out); have cg := S1.out wg HCg.out; clear hWg hrg hcg)
              | (go_at_call 22; refine (xbyte_to (p + 1) a0 bs (z1[k].n % 256) wg XG.out ha0 ha1 hbl2 err bs2 HI.out).mono ?_; rintro e wh ⟨rfl, hXh, hch⟩; have XH := Lib.hid hXh; have Hch := Lib.hid hch; have HCh := Lib.hid (HCg.out.trans Hch.out (fun i hi h => .inr h)); have ch := S1.out wh HCh.out; clear hXh hch))
            have hrg2 : ∀ i, rg = some i → i ≠ p ∧ i ≠ p + 1 := fun i h => by
              have hge : wB.heap.size ≤ wr.heap.size := HC.out.size
              rcases Hrg.out with h' | ⟨k', h', hl'⟩
              · rw [h'] at h; exact hrp.out i h
              · rw [h'] at h; injection h with h; have : wr.drew.heap.size = wr.heap.size := rfl; omega
            have WH := Lib.hid (WG.out.keeps Hch.out (fun h => by omega) (fun i h h2 => (hrg2 i h).2 h2))
            have Hrr2 : Hid (rg = none ∨ ∃ k, rg = some k ∧ wB.heap.size ≤ k) := Lib.hid (by
              have hge : wB.heap.size ≤ wr.heap.size := HC.out.size
              rcases Hrg.out with h | ⟨q, h, hl⟩
              · rw [h]; exact Hrr.out
              · exact .inr ⟨q, h, by have : wr.drew.heap.size = wr.heap.size := rfl; omega⟩)
            clear hrg2 c0 c1 c2 c3 c4 cg ch
            have d1 := cell_of_row _ (p + 1) 1 _ _ _ XH.out
            have hs1 := strB_size bs2
            have d2 : wh.cell? ⟨p + 1, 1, none⟩ = some (.string (strB bs2)) := by rw [d1]; rfl
            clear d1
            have hl3 : bs2.length ≤ 16777216 := by omega
            go_wp2_with fail
            go_quiet ((first
              | (go_at_call 27; exact Calls.quiet_of_same ((len_ok _ _ _ _ _ (WH.out.drewnN _) hl3).mono (fun _ _ h => ⟨h.1, h.2.symm⟩)))
              | (go_at_call 17; exact Calls.quiet_of_same ((text_ok _ _ _ _ _ (WH.out.drewnN _)).mono (fun _ _ h => ⟨h.1, h.2.symm⟩)))))
            go_wp2_with fail
            go_roundw
            case rel => exact ⟨k + 1, by omega, by go_num, bs2, rg, WH.out.drewnN nq, XH.out.drewnN nq, hble, Hrr2.out, HCh.out.drewnN nq⟩
            case measure => simp [intOf]; omega
          have b0 : (z1[k].kind == 0) = false := by simpa using k0
          by_cases k1 : z1[k].kind = 1
          · rw [k1] at c0
            have H0 := Lib.hid k1
            clear k1
            obtain ⟨err, he⟩ : ∃ x, rawE a0 bs (putB z1[k].n.toNat) = x := ⟨_, rfl⟩
            obtain ⟨bs2, hb2⟩ : ∃ x, rawB a0 bs (putB z1[k].n.toNat) = x := ⟨_, rfl⟩
            have hble : (bs2.length : Int) ≤ a0 := by rw [← hb2]; exact rawB_le _ _ _ hbl
            have HI := Lib.hid (⟨he, hb2⟩ : RawIs a0 bs (putB z1[k].n.toNat) err bs2)
            clear he hb2
            have hbl2 : bs.length ≤ 16777216 := by omega
            have hs9 : z1[k].s.size ≤ 100000000 := by omega
            have hw8 : IntKind.u8.wrap z1[k].n = z1[k].n % 256 := by rw [IntKind.wrap_u8]
            have S0 := Lib.hid (fun W (hW : Below w.heap.size w W) => (Five.out W hW).2.1)
            have S1 : Hid (∀ W, Chg (fun k => k = p ∨ k = p + 1) wB W → _) := Lib.hid (fun W (hC : Chg (fun k => k = p ∨ k = p + 1) wB W) => S0.out W (CB.out.trans hC (fun i hi h => by have := Hp.out; omega)).below)
            have Hrp2 : Hid (∀ i, r = some i → i ≠ p + 1) := Lib.hid (fun i h => (hrp.out i h).2)
            go_wp2_with fail
            go_region_held3 (fun W => W.cell? ⟨b, off + k * 5 + 1, none⟩ = some (.int .u64 z1[k].n)) (first | exact (Five.out wr HB.out).2.1 | exact cg | exact ch) (first
              | (go_at_call 14; refine (num_to p r a0 bs z1[k].n wr.drew HW.out.drewn ha0 ha1 hbl2 hwf.n0 hwf.n1 err bs2 HI.out).mono ?_; rintro e wg ⟨rfl, rg, hWg, hrg, hcg⟩; have WG := Lib.hid hWg; have Hrg := Lib.hid hrg; have Hcg := Lib.hid hcg.from_drew; have HCg := Lib.hid (wrChg HC.out Hcg.out Hrr.out); have XG := Lib.hid (wrKeep Hcg.out HX.out Hrp2.out); have cg := S1.out wg HCg.out; clear hWg hrg hcg)
              | (go_at_call 23; refine (xnum_to (p + 1) a0 bs z1[k].n wg XG.out ha0 ha1 hbl2 hwf.n0 hwf.n1 err bs2 HI.out).mono ?_; rintro e wh ⟨rfl, hXh, hch⟩; have XH := Lib.hid hXh; have Hch := Lib.hid hch; have HCh := Lib.hid (HCg.out.trans Hch.out (fun i hi h => .inr h)); have ch := S1.out wh HCh.out; clear hXh hch))
            have hrg2 : ∀ i, rg = some i → i ≠ p ∧ i ≠ p + 1 := fun i h => by
              have hge : wB.heap.size ≤ wr.heap.size := HC.out.size
              rcases Hrg.out with h' | ⟨k', h', hl'⟩
              · rw [h'] at h; exact hrp.out i h
              · rw [h'] at h; injection h with h; have : wr.drew.heap.size = wr.heap.size := rfl; omega
            have WH := Lib.hid (WG.out.keeps Hch.out (fun h => by omega) (fun i h h2 => (hrg2 i h).2 h2))
            have Hrr2 : Hid (rg = none ∨ ∃ k, rg = some k ∧ wB.heap.size ≤ k) := Lib.hid (by
              have hge : wB.heap.size ≤ wr.heap.size := HC.out.size
              rcases Hrg.out with h | ⟨q, h, hl⟩
              · rw [h]; exact Hrr.out
              · exact .inr ⟨q, h, by have : wr.drew.heap.size = wr.heap.size := rfl; omega⟩)
            clear hrg2 c0 c1 c2 c3 c4 cg ch
            have d1 := cell_of_row _ (p + 1) 1 _ _ _ XH.out
            have hs1 := strB_size bs2
            have d2 : wh.cell? ⟨p + 1, 1, none⟩ = some (.string (strB bs2)) := by rw [d1]; rfl
            clear d1
            have hl3 : bs2.length ≤ 16777216 := by omega
            go_wp2_with fail
            go_quiet ((first
              | (go_at_call 27; exact Calls.quiet_of_same ((len_ok _ _ _ _ _ (WH.out.drewnN _) hl3).mono (fun _ _ h => ⟨h.1, h.2.symm⟩)))
              | (go_at_call 17; exact Calls.quiet_of_same ((text_ok _ _ _ _ _ (WH.out.drewnN _)).mono (fun _ _ h => ⟨h.1, h.2.symm⟩)))))
            go_wp2_with fail
            go_roundw
            case rel => exact ⟨k + 1, by omega, by go_num, bs2, rg, WH.out.drewnN nq, XH.out.drewnN nq, hble, Hrr2.out, HCh.out.drewnN nq⟩
            case measure => simp [intOf]; omega
          have b1 : (z1[k].kind == 1) = false := by simpa using k1
          by_cases k2 : z1[k].kind = 2
          · rw [k2] at c0
            have H0 := Lib.hid k2
            clear k2
            obtain ⟨err, he⟩ : ∃ x, rawE a0 bs (putB (zigI z1[k].x).toNat) = x := ⟨_, rfl⟩
            obtain ⟨bs2, hb2⟩ : ∃ x, rawB a0 bs (putB (zigI z1[k].x).toNat) = x := ⟨_, rfl⟩
            have hble : (bs2.length : Int) ≤ a0 := by rw [← hb2]; exact rawB_le _ _ _ hbl
            have HI := Lib.hid (⟨he, hb2⟩ : RawIs a0 bs (putB (zigI z1[k].x).toNat) err bs2)
            clear he hb2
            have hbl2 : bs.length ≤ 16777216 := by omega
            have hs9 : z1[k].s.size ≤ 100000000 := by omega
            have hw8 : IntKind.u8.wrap z1[k].n = z1[k].n % 256 := by rw [IntKind.wrap_u8]
            have S0 := Lib.hid (fun W (hW : Below w.heap.size w W) => (Five.out W hW).2.2.1)
            have S1 : Hid (∀ W, Chg (fun k => k = p ∨ k = p + 1) wB W → _) := Lib.hid (fun W (hC : Chg (fun k => k = p ∨ k = p + 1) wB W) => S0.out W (CB.out.trans hC (fun i hi h => by have := Hp.out; omega)).below)
            have Hrp2 : Hid (∀ i, r = some i → i ≠ p + 1) := Lib.hid (fun i h => (hrp.out i h).2)
            go_wp2_with fail
            go_region_held3 (fun W => W.cell? ⟨b, off + k * 5 + 2, none⟩ = some (.int .i64 z1[k].x)) (first | exact (Five.out wr HB.out).2.2.1 | exact cg | exact ch) (first
              | (go_at_call 16; refine (int_to p r a0 bs z1[k].x wr.drew HW.out.drewn ha0 ha1 hbl2 hwf.x0 hwf.x1 err bs2 HI.out).mono ?_; rintro e wg ⟨rfl, rg, hWg, hrg, hcg⟩; have WG := Lib.hid hWg; have Hrg := Lib.hid hrg; have Hcg := Lib.hid hcg.from_drew; have HCg := Lib.hid (wrChg HC.out Hcg.out Hrr.out); have XG := Lib.hid (wrKeep Hcg.out HX.out Hrp2.out); have cg := S1.out wg HCg.out; clear hWg hrg hcg)
              | (go_at_call 24; refine (xint_to (p + 1) a0 bs z1[k].x wg XG.out ha0 ha1 hbl2 hwf.x0 hwf.x1 err bs2 HI.out).mono ?_; rintro e wh ⟨rfl, hXh, hch⟩; have XH := Lib.hid hXh; have Hch := Lib.hid hch; have HCh := Lib.hid (HCg.out.trans Hch.out (fun i hi h => .inr h)); have ch := S1.out wh HCh.out; clear hXh hch))
            have hrg2 : ∀ i, rg = some i → i ≠ p ∧ i ≠ p + 1 := fun i h => by
              have hge : wB.heap.size ≤ wr.heap.size := HC.out.size
              rcases Hrg.out with h' | ⟨k', h', hl'⟩
              · rw [h'] at h; exact hrp.out i h
              · rw [h'] at h; injection h with h; have : wr.drew.heap.size = wr.heap.size := rfl; omega
            have WH := Lib.hid (WG.out.keeps Hch.out (fun h => by omega) (fun i h h2 => (hrg2 i h).2 h2))
            have Hrr2 : Hid (rg = none ∨ ∃ k, rg = some k ∧ wB.heap.size ≤ k) := Lib.hid (by
              have hge : wB.heap.size ≤ wr.heap.size := HC.out.size
              rcases Hrg.out with h | ⟨q, h, hl⟩
              · rw [h]; exact Hrr.out
              · exact .inr ⟨q, h, by have : wr.drew.heap.size = wr.heap.size := rfl; omega⟩)
            clear hrg2 c0 c1 c2 c3 c4 cg ch
            have d1 := cell_of_row _ (p + 1) 1 _ _ _ XH.out
            have hs1 := strB_size bs2
            have d2 : wh.cell? ⟨p + 1, 1, none⟩ = some (.string (strB bs2)) := by rw [d1]; rfl
            clear d1
            have hl3 : bs2.length ≤ 16777216 := by omega
            go_wp2_with fail
            go_quiet ((first
              | (go_at_call 27; exact Calls.quiet_of_same ((len_ok _ _ _ _ _ (WH.out.drewnN _) hl3).mono (fun _ _ h => ⟨h.1, h.2.symm⟩)))
              | (go_at_call 17; exact Calls.quiet_of_same ((text_ok _ _ _ _ _ (WH.out.drewnN _)).mono (fun _ _ h => ⟨h.1, h.2.symm⟩)))))
            go_wp2_with fail
            go_roundw
            case rel => exact ⟨k + 1, by omega, by go_num, bs2, rg, WH.out.drewnN nq, XH.out.drewnN nq, hble, Hrr2.out, HCh.out.drewnN nq⟩
            case measure => simp [intOf]; omega
          have b2 : (z1[k].kind == 2) = false := by simpa using k2
          by_cases k3 : z1[k].kind = 3
          · rw [k3] at c0
            have H0 := Lib.hid k3
            clear k3
            obtain ⟨err, he⟩ : ∃ x, rawE a0 bs z1[k].s.data.toList = x := ⟨_, rfl⟩
            obtain ⟨bs2, hb2⟩ : ∃ x, rawB a0 bs z1[k].s.data.toList = x := ⟨_, rfl⟩
            have hble : (bs2.length : Int) ≤ a0 := by rw [← hb2]; exact rawB_le _ _ _ hbl
            have HI := Lib.hid (⟨he, hb2⟩ : RawIs a0 bs z1[k].s.data.toList err bs2)
            clear he hb2
            have hbl2 : bs.length ≤ 16777216 := by omega
            have hs9 : z1[k].s.size ≤ 100000000 := by omega
            have hw8 : IntKind.u8.wrap z1[k].n = z1[k].n % 256 := by rw [IntKind.wrap_u8]
            have S0 := Lib.hid (fun W (hW : Below w.heap.size w W) => (Five.out W hW).2.2.2.1)
            have S1 : Hid (∀ W, Chg (fun k => k = p ∨ k = p + 1) wB W → _) := Lib.hid (fun W (hC : Chg (fun k => k = p ∨ k = p + 1) wB W) => S0.out W (CB.out.trans hC (fun i hi h => by have := Hp.out; omega)).below)
            have Hrp2 : Hid (∀ i, r = some i → i ≠ p + 1) := Lib.hid (fun i h => (hrp.out i h).2)
            go_wp2_with fail
            go_region_held3 (fun W => W.cell? ⟨b, off + k * 5 + 3, none⟩ = some (.string z1[k].s)) (first | exact (Five.out wr HB.out).2.2.2.1 | exact cg | exact ch) (first
              | (go_at_call 25; refine (raw_to p r a0 bs z1[k].s wr.drew HW.out.drewn ha0 ha1 hbl2 hwf.s1 err bs2 HI.out).mono ?_; rintro e wg ⟨rfl, rg, hWg, hrg, hcg⟩; have WG := Lib.hid hWg; have Hrg := Lib.hid hrg; have Hcg := Lib.hid hcg.from_drew; have HCg := Lib.hid (wrChg HC.out Hcg.out Hrr.out); have XG := Lib.hid (wrKeep Hcg.out HX.out Hrp2.out); have cg := S1.out wg HCg.out; clear hWg hrg hcg)
              | (go_at_call 26; refine (xraw_to (p + 1) a0 bs z1[k].s wg XG.out ha0 ha1 hbl2 hs9 err bs2 HI.out).mono ?_; rintro e wh ⟨rfl, hXh, hch⟩; have XH := Lib.hid hXh; have Hch := Lib.hid hch; have HCh := Lib.hid (HCg.out.trans Hch.out (fun i hi h => .inr h)); have ch := S1.out wh HCh.out; clear hXh hch))
            have hrg2 : ∀ i, rg = some i → i ≠ p ∧ i ≠ p + 1 := fun i h => by
              have hge : wB.heap.size ≤ wr.heap.size := HC.out.size
              rcases Hrg.out with h' | ⟨k', h', hl'⟩
              · rw [h'] at h; exact hrp.out i h
              · rw [h'] at h; injection h with h; have : wr.drew.heap.size = wr.heap.size := rfl; omega
            have WH := Lib.hid (WG.out.keeps Hch.out (fun h => by omega) (fun i h h2 => (hrg2 i h).2 h2))
            have Hrr2 : Hid (rg = none ∨ ∃ k, rg = some k ∧ wB.heap.size ≤ k) := Lib.hid (by
              have hge : wB.heap.size ≤ wr.heap.size := HC.out.size
              rcases Hrg.out with h | ⟨q, h, hl⟩
              · rw [h]; exact Hrr.out
              · exact .inr ⟨q, h, by have : wr.drew.heap.size = wr.heap.size := rfl; omega⟩)
            clear hrg2 c0 c1 c2 c3 c4 cg ch
            have d1 := cell_of_row _ (p + 1) 1 _ _ _ XH.out
            have hs1 := strB_size bs2
            have d2 : wh.cell? ⟨p + 1, 1, none⟩ = some (.string (strB bs2)) := by rw [d1]; rfl
            clear d1
            have hl3 : bs2.length ≤ 16777216 := by omega
            go_wp2_with fail
            go_quiet ((first
              | (go_at_call 27; exact Calls.quiet_of_same ((len_ok _ _ _ _ _ (WH.out.drewnN _) hl3).mono (fun _ _ h => ⟨h.1, h.2.symm⟩)))
              | (go_at_call 17; exact Calls.quiet_of_same ((text_ok _ _ _ _ _ (WH.out.drewnN _)).mono (fun _ _ h => ⟨h.1, h.2.symm⟩)))))
            go_wp2_with fail
            go_roundw
            case rel => exact ⟨k + 1, by omega, by go_num, bs2, rg, WH.out.drewnN nq, XH.out.drewnN nq, hble, Hrr2.out, HCh.out.drewnN nq⟩
            case measure => simp [intOf]; omega
          have b3 : (z1[k].kind == 3) = false := by simpa using k3
          clear k0 k1 k2 k3
          have d1 := cell_of_row _ (p + 1) 1 _ _ _ HX.out
          have hs1 := strB_size bs
          have d2 : wr.cell? ⟨p + 1, 1, none⟩ = some (.string (strB bs)) := by rw [d1]; rfl
          clear d1
          have hl3 : bs.length ≤ 16777216 := by omega
          go_wp2_with fail
          go_quiet ((first
            | (go_at_call 27; exact Calls.quiet_of_same ((len_ok _ _ _ _ _ (HW.out.drewnN _) hl3).mono (fun _ _ h => ⟨h.1, h.2.symm⟩)))
            | (go_at_call 17; exact Calls.quiet_of_same ((text_ok _ _ _ _ _ (HW.out.drewnN _)).mono (fun _ _ h => ⟨h.1, h.2.symm⟩)))))
          go_wp2_with fail
          go_roundw
          case rel => exact ⟨k + 1, by omega, by go_num, bs, r, HW.out.drewnN nq, HX.out.drewnN nq, hbl, Hrr.out, HC.out.drewnN nq⟩
          case measure => simp [intOf]; omega
        · go_wp2_with fail
          refine (awake_at _).mono ?_
          rintro e W1 ⟨rfl, b1⟩
          go_wp2_with fail
          go_ret
          exact ⟨rfl, HB.out.trans (b1.mono HB.out.size)⟩
end Go.Proofs.Ytbdgmpjaibejnaa
