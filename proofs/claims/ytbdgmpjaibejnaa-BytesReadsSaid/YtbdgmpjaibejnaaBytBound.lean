/- The walk of the law BytesBound. -/
import Derived.Test.YtbdgmpjaibejnaaBytS
import Derived.Test.YtbdgmpjaibejnaaBytAnew
namespace Go.Proofs.Ytbdgmpjaibejnaa
open Go.RowKit Go.Lib
set_option linter.unusedVariables false
/-- The five cells of step k. -/
theorem SliceAt.five {w : World} {b off len cap : Nat} {zs : List StepD} (h : SliceAt w (some ⟨b, off, none⟩) len cap 5 StepD.cells zs) (k : Nat) (hk : k < len) (hz : k < zs.length) :
    w.cell? ⟨b, off + k * 5, none⟩ = some (.int .u8 zs[k].kind) ∧ w.cell? ⟨b, off + k * 5 + 1, none⟩ = some (.int .u64 zs[k].n) ∧ w.cell? ⟨b, off + k * 5 + 2, none⟩ = some (.int .i64 zs[k].x) ∧
      w.cell? ⟨b, off + k * 5 + 3, none⟩ = some (.string zs[k].s) ∧ w.cell? ⟨b, off + k * 5 + 4, none⟩ = some (.int .i64 zs[k].k) := by
  obtain ⟨b', off', ha, _, hz', hc⟩ := h.cell k hk
  injection ha with ha
  injection ha with h1 h2
  subst h1 h2
  exact ⟨hc 0 _ rfl, hc 1 _ rfl, hc 2 _ rfl, hc 3 _ rfl, hc 4 _ rfl⟩
theorem SliceAt.at {α : Type} {w : World} {a : Option Addr} {len cap sz : Nat} {cells : α → List Value} {zs : List α} (h : SliceAt w a len cap sz cells zs) (h0 : 0 < len) : ∃ b off, a = some ⟨b, off, none⟩ := by
  obtain ⟨b, off, ha, _⟩ := h.cell 0 h0
  exact ⟨b, off, ha⟩
theorem not_large {zs : List StepD} (h : largeB zs = false) : zs.length ≤ 300 ∧ ∀ z ∈ zs, z.s.size ≤ 1000 := by
  rw [largeB, Bool.or_eq_false_iff] at h
  refine ⟨by have := h.1; simp at this; exact this, fun z hz => ?_⟩
  have := List.any_eq_false.1 h.2 z hz
  simp at this; exact this
theorem stepB_len (d : StepD) (h : d.s.size ≤ 1000) : (stepB d).length ≤ 1000 := by
  unfold stepB
  split
  · simp
  · split
    · have := (putB_len d.n.toNat).2; omega
    · split
      · have := (putB_len (zigI d.x).toNat).2; omega
      · rw [← size_list]; exact h
/-- What a writer of 'most' bytes answers. -/
theorem rawIs_of (most : Int) (bs s : List UInt8) : RawIs most bs s (rawE most bs s) (rawB most bs s) := ⟨rfl, rfl⟩
theorem strB_size (l : List UInt8) : (strB l).size = l.length := rfl
theorem strB_append (a b : List UInt8) : strB a ++ strB b = strB (a ++ b) := by
  apply ByteArray.ext
  simp [strB]
theorem rawIs_no (most : Int) (bs s : List UInt8) (h : most < (s.length : Int) + bs.length) : RawIs most bs s 40 bs := by
  have h' : ¬ (s.length : Int) ≤ most - bs.length := by omega
  exact ⟨by rw [rawE, if_neg h'], by rw [rawB, if_neg h']⟩
def BoundInv (W0 : World) (p : Nat) (most : Int) (wr : World) : Prop :=
  ∃ (bs : List UInt8) (r : Option Nat), Wr wr p r most bs ∧ (bs.length : Int) ≤ most ∧ (r = none ∨ ∃ k, r = some k ∧ W0.heap.size ≤ k) ∧ Chg (fun k => k = p) W0 wr
set_option maxRecDepth 100000 in
set_option maxHeartbeats 4000000 in
theorem walk_BytesBound (a0 : Int) (a1 : Option Addr) (len1 cap1 : Nat) (z1 : List StepD) (w : World) (w0 : (Lit.int .i64 a0).wf = true) (w1 : SliceAt w a1 len1 cap1 5 StepD.cells z1 ∧ ∀ z ∈ z1, z.Wf) :
    Calls Try.prog 5 #[.int .i64 a0, .slice a1 len1 cap1] w fun e w' => e = .returned (.bool true) ∧ Below w.heap.size w w' := by
  obtain ⟨hS, hwf⟩ := w1
  have HS := Lib.hid hS
  have HWF := Lib.hid hwf
  have hm : len1 ≤ 9223372036854775807 := by have := hS.2.1; have := hS.2.2.1; unfold maxLen at this; omega
  have hzl := Lib.hid hS.1
  clear hS hwf
  cases hlarge : largeB z1 with
  | true =>
    have HL := Lib.hid (fun W hW => large_at a1 len1 cap1 z1 W hW HWF.out)
    rw [hlarge] at HL
    clear hlarge
    go_enter Try.func5, Try.ntmps5
    go_wp2_with fail
    refine (HL.out _ HS.out).mono ?_
    rintro e w' ⟨rfl, rfl⟩
    go_wp2_with fail
    refine (awake_at _).mono ?_
    rintro e W1 ⟨rfl, b1⟩
    go_wp2_with fail
    go_ret
    exact ⟨rfl, b1⟩
  | false =>
    have hnl := not_large hlarge
    have HL := Lib.hid (fun W hW => large_at a1 len1 cap1 z1 W hW HWF.out)
    rw [hlarge] at HL
    clear hlarge
    by_cases hr : a0 < 0 ∨ 16777216 < a0
    · go_enter Try.func5, Try.ntmps5
      go_wp2_with fail
      refine (HL.out _ HS.out).mono ?_
      rintro e w' ⟨rfl, rfl⟩
      go_wp2_with fail
      refine (awake_at _).mono ?_
      rintro e W1 ⟨rfl, b1⟩
      go_wp2_with fail
      refine (newWriter_no a0 hr _).mono ?_
      rintro e w' ⟨rfl, rfl⟩
      go_wp2_with fail
      all_goals
        go_ret
        exact ⟨by simp [*] <;> omega, b1⟩
    · have ha0 : 0 ≤ a0 := by omega
      have ha1 : a0 ≤ 16777216 := by omega
      clear hr
      go_enter Try.func5, Try.ntmps5
      go_wp2_with fail
      refine (HL.out _ HS.out).mono ?_
      rintro e w' ⟨rfl, rfl⟩
      go_wp2_with fail
      refine (awake_at _).mono ?_
      rintro e wA ⟨rfl, bA⟩
      have BA := Lib.hid bA
      clear bA
      go_wp2_with fail
      refine (newWriter_ok a0 ha0 ha1 _).mono ?_
      rintro e wB ⟨rfl, eB⟩
      have WB := Lib.hid (eB ▸ Wr.new a0 wA : Wr wB wA.heap.size none a0 [])
      have hzB : wA.heap.size < wB.heap.size := by rw [eB]; simp
      have CB := Lib.hid (eB ▸ (Chg.of_below BA.out).alloc _ : Chg (fun _ => False) w wB)
      have hp0 : w.heap.size ≤ wA.heap.size := BA.out.size
      obtain ⟨p, hp⟩ : ∃ p, wA.heap.size = p := ⟨_, rfl⟩
      rw [hp] at WB hzB hp0
      rw [hp]
      clear eB BA hp
      go_wp2_with fail
      go_loopw [7] (fun i wr => ∃ k : Nat, k ≤ len1 ∧ i = .int .i64 k ∧ Hid (BoundInv wB p a0 wr)) (fun i _ => len1 - (intOf i).toNat)
      case atStart => exact ⟨0, Nat.zero_le _, rfl, [], none, WB.out, ha0, .inl rfl, Chg.refl _ _⟩
      case round =>
        obtain ⟨k, hk, rfl, H⟩ := hrel
        have HB := Lib.hid (show Below w.heap.size w wr by
          obtain ⟨_, _, _, _, _, hc⟩ := H.out
          exact (CB.out.trans hc (fun i hi h => by omega)).below)
        by_cases hlt : k < len1
        · obtain ⟨bs, r, hW, hbl, hrr, hC⟩ := H.out
          have hz : k < z1.length := by rw [hzl.out]; exact hlt
          obtain ⟨b, off, rfl⟩ := HS.out.at (by omega)
          have hdw := HWF.out _ (List.getElem_mem hz)
          have hsl := stepB_len z1[k] (hnl.2 _ (List.getElem_mem hz))
          obtain ⟨s, hs⟩ : ∃ s, stepB z1[k] = s := ⟨_, rfl⟩
          rw [hs] at hsl
          have Hs := Lib.hid hs
          have HD := Lib.hid hdw
          have HW := Lib.hid hW
          have Hrr := Lib.hid hrr
          have HC := Lib.hid hC
          have hpr : p < wr.heap.size := Nat.lt_of_lt_of_le hzB hC.size
          have hrl := Lib.hid hW.lt.2
          clear hs hdw hW hrr hC H
          go_wp2_with fail
          refine (newWriter_ok 16777216 (by decide) (by decide) _).mono ?_
          rintro e wf ⟨rfl, ef⟩
          have WF := Lib.hid (ef ▸ Wr.new 16777216 wr : Wr wf wr.heap.size none 16777216 [])
          have kf : Chg (fun _ => False) wr wf := ef ▸ (Chg.refl _ wr).alloc _
          have hzf : wf.heap.size = wr.heap.size + 1 := by rw [ef]; simp
          have HWf := Lib.hid (HW.out.keeps kf (fun h => h) (fun _ _ h => h))
          have Kf := Lib.hid kf
          have HBf := Lib.hid (show Below w.heap.size w wf from HB.out.trans (kf.below.mono HB.out.size))
          obtain ⟨pf, hpf⟩ : ∃ q, wr.heap.size = q := ⟨_, rfl⟩
          rw [hpf] at WF hzf hpr
          rw [hpf]
          obtain ⟨c0, c1, c2, c3, c4⟩ := (HS.out.keeps HBf.out).five k hlt hz
          clear ef kf
          go_wp2_with fail
          refine (write_to pf none 16777216 [] z1[k] HD.out wf WF.out (by decide) (by decide) (by decide) 0 s (by rw [Hs.out]; exact rawIs_ok _ _ _ (by simp; omega))).mono ?_
          rintro e wg ⟨rfl, rg, hWg, hrg, hcg⟩
          have WG := Lib.hid hWg
          have Hrg := Lib.hid hrg
          have Hcg := Lib.hid hcg
          have HWg := Lib.hid (HWf.out.keeps hcg (fun h => by
            rcases h with h | h
            · omega
            · cases h) (fun q hq h => by
            rcases h with h | h
            · have := hrl.out q hq; omega
            · cases h))
          have HBg := Lib.hid (show Below w.heap.size w wg from ((Chg.of_below HBf.out).trans hcg (fun i hi h => by
            rcases h with h | h
            · have := HB.out.size; omega
            · cases h)).below)
          clear hWg hrg hcg c0 c1 c2 c3 c4
          obtain ⟨c0, c1, c2, c3, c4⟩ := (HS.out.keeps HBg.out).five k hlt hz
          go_wp2_with fail
          refine (text_ok _ _ _ _ _ HWg.out).mono ?_
          rintro e w' ⟨rfl, rfl⟩
          go_wp2_with fail
          by_cases hf : (s.length : Int) + bs.length ≤ a0
          · refine (write_to p r a0 bs z1[k] HD.out wg HWg.out ha0 ha1 (by omega) 0 (bs ++ s) (by rw [Hs.out]; exact rawIs_ok _ _ _ (by omega))).mono ?_
            rintro e wh ⟨rfl, rh, hWh, hrh, hch⟩
            have WH := Lib.hid hWh
            have Hrh := Lib.hid hrh
            have Hch := Lib.hid hch
            have WGh := Lib.hid (WG.out.keeps hch (fun h => by
              rcases h with h | h
              · omega
              · have := hrl.out _ h; omega) (fun q hq h => by
              have hge : wf.heap.size ≤ q := by
                rcases Hrg.out with h' | ⟨q', h', hl'⟩
                · rw [h'] at hq; cases hq
                · rw [h'] at hq; injection hq with hq; omega
              rcases h with h | h
              · omega
              · have := hrl.out _ h; omega))
            clear hWh hrh hch c0 c1 c2 c3 c4
            have hs1 := strB_size bs
            have hs2 := strB_size s
            have hs3 := strB_size (bs ++ s)
            rw [List.length_append] at hs3
            have hap := strB_append bs s
            go_wp2_with fail
            refine (len_ok _ _ _ _ _ WGh.out (by omega)).mono ?_
            rintro e w' ⟨rfl, rfl⟩
            go_wp2_with fail
            refine (text_ok _ _ _ _ _ WGh.out).mono ?_
            rintro e w' ⟨rfl, rfl⟩
            go_wp2_with fail
            refine (text_ok _ _ _ _ _ WH.out).mono ?_
            rintro e w' ⟨rfl, rfl⟩
            go_wp2_with fail
            refine (len_ok _ _ _ _ _ WH.out (by rw [List.length_append]; omega)).mono ?_
            rintro e w' ⟨rfl, rfl⟩
            rw [List.length_append]
            go_wp2_with fail
            go_roundw
            case rel =>
              have hge : wB.heap.size ≤ wr.heap.size := HC.out.size
              refine ⟨k + 1, by omega, by go_num, (bs ++ s), rh, WH.out, by rw [List.length_append]; omega, ?_, ?_⟩
              · rcases Hrh.out with h | ⟨q, h, hl⟩
                · rw [h]; exact Hrr.out
                · exact .inr ⟨q, h, by have := Hcg.out.size; omega⟩
              · refine ((HC.out.trans Kf.out (fun _ _ h => h.elim)).trans Hcg.out (fun i hi h => ?_)).trans Hch.out (fun i hi h => ?_)
                · rcases h with h | h
                  · omega
                  · cases h
                · rcases h with h | h
                  · exact h
                  · rcases Hrr.out with h' | ⟨q, h', hl⟩
                    · rw [h'] at h; cases h
                    · rw [h'] at h; injection h with h; omega
            case measure => simp [intOf]; omega
          · refine (write_to p r a0 bs z1[k] HD.out wg HWg.out ha0 ha1 (by omega) 40 bs (by rw [Hs.out]; exact rawIs_no _ _ _ (by omega))).mono ?_
            rintro e wh ⟨rfl, rh, hWh, hrh, hch⟩
            have WH := Lib.hid hWh
            have Hrh := Lib.hid hrh
            have Hch := Lib.hid hch
            have WGh := Lib.hid (WG.out.keeps hch (fun h => by
              rcases h with h | h
              · omega
              · have := hrl.out _ h; omega) (fun q hq h => by
              have hge : wf.heap.size ≤ q := by
                rcases Hrg.out with h' | ⟨q', h', hl'⟩
                · rw [h'] at hq; cases hq
                · rw [h'] at hq; injection hq with hq; omega
              rcases h with h | h
              · omega
              · have := hrl.out _ h; omega))
            clear hWh hrh hch c0 c1 c2 c3 c4
            have hs1 := strB_size bs
            have hs2 := strB_size s
            have hs3 := strB_size (bs ++ s)
            rw [List.length_append] at hs3
            have hap := strB_append bs s
            go_wp2_with fail
            refine (len_ok _ _ _ _ _ WGh.out (by omega)).mono ?_
            rintro e w' ⟨rfl, rfl⟩
            go_wp2_with fail
            refine (text_ok _ _ _ _ _ WH.out).mono ?_
            rintro e w' ⟨rfl, rfl⟩
            go_wp2_with fail
            refine (len_ok _ _ _ _ _ WH.out (by omega)).mono ?_
            rintro e w' ⟨rfl, rfl⟩
            go_wp2_with fail
            go_roundw
            case rel =>
              have hge : wB.heap.size ≤ wr.heap.size := HC.out.size
              refine ⟨k + 1, by omega, by go_num, bs, rh, WH.out, hbl, ?_, ?_⟩
              · rcases Hrh.out with h | ⟨q, h, hl⟩
                · rw [h]; exact Hrr.out
                · exact .inr ⟨q, h, by have := Hcg.out.size; omega⟩
              · refine ((HC.out.trans Kf.out (fun _ _ h => h.elim)).trans Hcg.out (fun i hi h => ?_)).trans Hch.out (fun i hi h => ?_)
                · rcases h with h | h
                  · omega
                  · cases h
                · rcases h with h | h
                  · exact h
                  · rcases Hrr.out with h' | ⟨q, h', hl⟩
                    · rw [h'] at h; cases h
                    · rw [h'] at h; injection h with h; omega
            case measure => simp [intOf]; omega
        · go_wp2_with fail
          go_ret
          exact ⟨rfl, HB.out⟩
end Go.Proofs.Ytbdgmpjaibejnaa
