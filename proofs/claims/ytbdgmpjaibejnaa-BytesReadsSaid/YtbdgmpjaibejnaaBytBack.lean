/- The walk of the law BytesBack. -/
import Derived.Test.YtbdgmpjaibejnaaBytBound
namespace Go.Proofs.Ytbdgmpjaibejnaa
open Go.RowKit Go.Lib
set_option linter.unusedVariables false
/-- What the first k steps write. -/
def preB (zs : List StepD) (k : Nat) : List UInt8 := ((zs.take k).map stepB).flatten
theorem preB_succ (zs : List StepD) (k : Nat) (h : k < zs.length) : preB zs (k + 1) = preB zs k ++ stepB zs[k] := by
  rw [preB, List.take_succ_eq_append_getElem h, List.map_append, List.flatten_append]
  simp [preB]
theorem preB_drop (zs : List StepD) (k : Nat) (h : k < zs.length) : ∃ rest, (preB zs zs.length).drop (preB zs k).length = stepB zs[k] ++ rest := by
  refine ⟨((zs.drop (k + 1)).map stepB).flatten, ?_⟩
  have e : preB zs zs.length = preB zs k ++ (stepB zs[k] ++ ((zs.drop (k + 1)).map stepB).flatten) := by
    rw [preB, List.take_length]
    conv => lhs; rw [← List.take_append_drop (k + 1) zs]
    rw [List.map_append, List.flatten_append, ← List.append_assoc, ← preB_succ zs k h, preB]
  rw [e, List.drop_left]
theorem preB_len (zs : List StepD) (hs : ∀ z ∈ zs, z.s.size ≤ 1000) : ∀ k, k ≤ zs.length → (preB zs k).length ≤ 1000 * k := by
  intro k
  induction k with
  | zero => intro _; simp [preB]
  | succ k ih =>
    intro h
    have h1 := ih (by omega)
    have h2 := stepB_len zs[k] (hs _ (List.getElem_mem (by omega)))
    rw [preB_succ zs k (by omega), List.length_append]
    omega
theorem numW_put (most n : Nat) (rest : List UInt8) (hn : n < 18446744073709551616) (hm : n ≤ most) : numW most (putB n ++ rest) = (n, (putB n).length, 0) := by
  unfold numW
  rw [getB_putB n rest hn]
  exact if_neg (by rintro ⟨_, h⟩; have h' : most < n := h; omega)
theorem rd_put {α : Type} (zero : α) (a : Nat) (W : α × Nat × Nat) (x : α) (size : Nat) (h : W = (x, size, 0)) : rd zero 0 a W = (x, 0, a + size, 0) := by rw [h]; exact rd_ok _ _ _ _
theorem num_rdI (q : Nat) (s : ByteArray) (a : Nat) (e m : Int) (w : World) (hR : Rd w q s a e) (hm : 0 ≤ m) (v : Nat) (vi err : Int) (a' : Nat) (e' : Int) (hv : (v : Int) = vi) (h : rd 0 e a (numW m.toNat (s.data.toList.drop a)) = (v, err, a', e')) :
    Calls Try.prog 13 #[.pointer (some ⟨q, 0, none⟩), .int .u64 m] w (RPost q s w (.int .u64 vi) err a' e') := by
  have := num_rd q s a e m.toNat w hR v err a' e' h
  rw [Int.toNat_of_nonneg hm, hv] at this
  exact this
theorem int_rdI (q : Nat) (s : ByteArray) (a : Nat) (e : Int) (w : World) (hR : Rd w q s a e) (v : Nat) (vi err : Int) (a' : Nat) (e' : Int) (hv : zagI v = vi) (h : rd 0 e a (numW 18446744073709551615 (s.data.toList.drop a)) = (v, err, a', e')) :
    Calls Try.prog 15 #[.pointer (some ⟨q, 0, none⟩)] w (RPost q s w (.int .i64 vi) err a' e') := by
  have := int_rd q s a e w hR v err a' e' h
  rw [hv] at this
  exact this
theorem raw_rdI (q : Nat) (s : ByteArray) (a : Nat) (e n : Int) (w : World) (hR : Rd w q s a e) (v : List UInt8) (vs : ByteArray) (err : Int) (a' : Nat) (e' : Int) (hv : strB v = vs) (h : rd [] e a (rawW n (s.data.toList.drop a)) = (v, err, a', e')) :
    Calls Try.prog 30 #[.pointer (some ⟨q, 0, none⟩), .int .i64 n] w (RPost q s w (.string vs) err a' e') := by
  have := raw_rd q s a e n w hR v err a' e' h
  rw [hv] at this
  exact this
theorem strB_list (s : ByteArray) : strB s.data.toList = s := by
  apply ByteArray.ext
  simp [strB]
theorem u8_back (n : Int) : (((UInt8.ofNat (n % 256).toNat).toNat : Nat) : Int) = n % 256 := by
  have h : (n % 256).toNat < 256 := by omega
  rw [toNat_small _ h]; omega
def BackInv1 (W0 : World) (p : Nat) (zs : List StepD) (k : Nat) (wr : World) : Prop :=
  ∃ (r : Option Nat), Wr wr p r 16777216 (preB zs k) ∧ (r = none ∨ ∃ k, r = some k ∧ W0.heap.size ≤ k) ∧ Chg (fun k => k = p) W0 wr
def BackInv2 (W0 : World) (q : Nat) (zs : List StepD) (k : Nat) (wr : World) : Prop :=
  Rd wr q (strB (preB zs zs.length)) (preB zs k).length 0 ∧ Chg (fun k => k = q) W0 wr
set_option maxRecDepth 100000 in
set_option maxHeartbeats 4000000 in
theorem walk_BytesBack (a0 : Option Addr) (len0 cap0 : Nat) (z0 : List StepD) (w : World) (w0 : SliceAt w a0 len0 cap0 5 StepD.cells z0 ∧ ∀ z ∈ z0, z.Wf) :
    Calls Try.prog 7 #[.slice a0 len0 cap0] w fun e w' => e = .returned (.bool true) ∧ Below w.heap.size w w' := by
  obtain ⟨hS, hwf⟩ := w0
  have HS := Lib.hid hS
  have HWF := Lib.hid hwf
  have hm : len0 ≤ 9223372036854775807 := by have := hS.2.1; have := hS.2.2.1; unfold maxLen at this; omega
  have hzl := Lib.hid hS.1
  clear hS hwf
  cases hlarge : largeB z0 with
  | true =>
    have HL := Lib.hid (fun W hW => large_at a0 len0 cap0 z0 W hW HWF.out)
    rw [hlarge] at HL
    clear hlarge
    go_enter Try.func7, Try.ntmps7
    go_wp2_with fail
    refine (HL.out _ HS.out).mono ?_
    rintro e w' ⟨rfl, rfl⟩
    go_wp2_with fail
    refine (awake_at _).mono ?_
    rintro e W1 ⟨rfl, b1⟩
    go_wp2_with fail
    go_ret
    exact ⟨rfl, b1⟩
  | false =>
    have hnl := not_large hlarge
    have HL := Lib.hid (fun W hW => large_at a0 len0 cap0 z0 W hW HWF.out)
    rw [hlarge] at HL
    have HPL := Lib.hid (preB_len z0 hnl.2)
    clear hlarge
    have hl300 : len0 ≤ 300 := by rw [← hzl.out]; exact hnl.1
    go_enter Try.func7, Try.ntmps7
    go_wp2_with fail
    refine (HL.out _ HS.out).mono ?_
    rintro e w' ⟨rfl, rfl⟩
    go_wp2_with fail
    refine (awake_at _).mono ?_
    rintro e wA ⟨rfl, bA⟩
    have BA := Lib.hid bA
    clear bA
    go_wp2_with fail
    refine (newWriter_ok 16777216 (by decide) (by decide) _).mono ?_
    rintro e wB ⟨rfl, eB⟩
    have WB := Lib.hid (eB ▸ Wr.new 16777216 wA : Wr wB wA.heap.size none 16777216 [])
    have hzB : wA.heap.size < wB.heap.size := by rw [eB]; simp
    have CB := Lib.hid (eB ▸ (Chg.of_below BA.out).alloc _ : Chg (fun _ => False) w wB)
    have hp0 : w.heap.size ≤ wA.heap.size := BA.out.size
    obtain ⟨p, hp⟩ : ∃ p, wA.heap.size = p := ⟨_, rfl⟩
    rw [hp] at WB hzB hp0
    rw [hp]
    clear eB BA hp
    go_wp2_with fail
    go_loopw [5] (fun i wr => ∃ k : Nat, k ≤ len0 ∧ i = .int .i64 k ∧ Hid (BackInv1 wB p z0 k wr)) (fun i _ => len0 - (intOf i).toNat)
    case atStart => exact ⟨0, Nat.zero_le _, rfl, none, WB.out, .inl rfl, Chg.refl _ _⟩
    case round =>
      obtain ⟨k, hk, rfl, H⟩ := hrel
      have HB := Lib.hid (show Below w.heap.size w wr by
        obtain ⟨_, _, _, hc⟩ := H.out
        exact (CB.out.trans hc (fun i hi h => by omega)).below)
      obtain ⟨r, hW, hrr, hC⟩ := H.out
      have HW := Lib.hid hW
      have Hrr := Lib.hid hrr
      have HC := Lib.hid hC
      clear hW hrr hC H
      by_cases hlt : k < len0
      · have hz : k < z0.length := by rw [hzl.out]; exact hlt
        obtain ⟨b, off, rfl⟩ := HS.out.at (by omega)
        have HD := Lib.hid (HWF.out _ (List.getElem_mem hz))
        have hsl := stepB_len z0[k] (hnl.2 _ (List.getElem_mem hz))
        have hpl := HPL.out k (by omega)
        obtain ⟨c0, c1, c2, c3, c4⟩ := (HS.out.keeps HB.out).five k hlt hz
        go_wp2_with fail
        refine (write_to p r 16777216 (preB z0 k) z0[k] HD.out wr HW.out (by decide) (by decide) (by omega) 0 (preB z0 (k + 1)) (by rw [preB_succ z0 k hz]; exact rawIs_ok _ _ _ (by omega))).mono ?_
        rintro e wg ⟨rfl, rg, hWg, hrg, hcg⟩
        have WG := Lib.hid hWg
        have Hrg := Lib.hid hrg
        have Hcg := Lib.hid hcg
        clear hWg hrg hcg c0 c1 c2 c3 c4
        go_wp2_with fail
        go_roundw
        case rel =>
          have hge : wB.heap.size ≤ wr.heap.size := HC.out.size
          refine ⟨k + 1, by omega, by go_num, rg, WG.out, ?_, ?_⟩
          · rcases Hrg.out with h | ⟨q, h, hl⟩
            · rw [h]; exact Hrr.out
            · exact .inr ⟨q, h, by omega⟩
          · refine HC.out.trans Hcg.out (fun i hi h => ?_)
            rcases h with h | h
            · exact h
            · rcases Hrr.out with h' | ⟨q, h', hl⟩
              · rw [h'] at h; cases h
              · rw [h'] at h; injection h with h; omega
        case measure => simp [intOf]; omega
      · obtain rfl : k = len0 := by omega
        obtain ⟨wo, rfl⟩ : ∃ wo : World, wo = wr := ⟨_, rfl⟩
        obtain ⟨n, hn⟩ : ∃ n, z0.length = n := ⟨_, rfl⟩
        have hnk : n = k := hn.symm.trans hzl.out
        have hHn := Lib.hid hn
        have hpl := HPL.out k (by rw [hn, hnk]; exact Nat.le_refl _)
        have hssz : (strB (preB z0 k)).size ≤ 16777216 := by rw [strB_size]; omega
        go_wp2_with fail
        refine (text_ok _ _ _ _ _ HW.out).mono ?_
        rintro e w' ⟨rfl, rfl⟩
        go_wp2_with fail
        refine (newReader_ok (strB (preB z0 k)) hssz _).mono ?_
        rintro e wC ⟨rfl, eC⟩
        have RC := Lib.hid (eC ▸ Rd.new _ hssz wo : Rd wC wo.heap.size (strB (preB z0 k)) 0 0)
        have kC : Chg (fun _ => False) wo wC := eC ▸ (Chg.refl _ wo).alloc _
        have HWC := Lib.hid (HW.out.keeps kC (fun h => h) (fun _ _ h => h))
        have HBC := Lib.hid (show Below w.heap.size w wC from HB.out.trans (kC.below.mono HB.out.size))
        have hqn : wo.heap.size < wC.heap.size := by rw [eC]; simp
        have hq0 : w.heap.size ≤ wo.heap.size := HB.out.size
        have hWlt := Lib.hid HW.out.lt
        obtain ⟨q, hq⟩ : ∃ q, wo.heap.size = q := ⟨_, rfl⟩
        rw [hq] at RC hqn hq0 hWlt
        rw [hq]
        clear eC kC hq
        go_wp2_with fail
        go_loopw [7] (fun i wx => ∃ j : Nat, j ≤ k ∧ i = .int .i64 j ∧ Hid (BackInv2 wC q z0 j wx)) (fun i _ => k - (intOf i).toNat)
        case atStart => exact ⟨0, Nat.zero_le _, rfl, by rw [hHn.out, hnk]; exact RC.out, Chg.refl _ _⟩
        case round =>
          obtain ⟨j, hj, rfl, H⟩ := hrel
          obtain ⟨hR, hC⟩ := H.out
          have HR := Lib.hid hR
          have HC2 := Lib.hid hC
          have HBx := Lib.hid (show Below w.heap.size w wr from ((Chg.of_below HBC.out).trans hC (fun i hi h => by omega)).below)
          clear hR hC H
          by_cases hjk : j < k
          · have hz : j < z0.length := by omega
            obtain ⟨b, off, rfl⟩ := HS.out.at (by omega)
            have hwf := HWF.out _ (List.getElem_mem hz)
            have hsz := hnl.2 _ (List.getElem_mem hz)
            obtain ⟨rest, hrest⟩ := preB_drop z0 j hz
            have hsucc := congrArg List.length (preB_succ z0 j hz)
            rw [List.length_append] at hsucc
            have Hsucc := Lib.hid hsucc
            have Five := Lib.hid (fun W (hW : Below w.heap.size w W) => (HS.out.keeps hW).five j (by omega) hz)
            clear hsucc
            by_cases h0 : z0[j].kind = 0
            · obtain ⟨c0, c1, c2, c3, c4⟩ := Five.out wr HBx.out
              have hX : byteW ((preB z0 z0.length).drop (preB z0 j).length) = (z0[j].n % 256, (stepB z0[j]).length, 0) := by
                rw [hrest, stepB, if_pos h0, List.singleton_append, byteW, u8_back]; rfl
              have HX := Lib.hid hX
              clear hX
              rw [h0] at c0
              have H0 := Lib.hid h0
              clear h0 hrest
              go_wp2_with fail
              refine (byte_rd q (strB (preB z0 z0.length)) (preB z0 j).length 0 wr HR.out _ _ _ _ (rd_put _ _ _ _ _ HX.out)).mono ?_
              rintro e wy ⟨rfl, hR2, hc2⟩
              have HR2 := Lib.hid hR2
              have Hc2 := Lib.hid hc2
              obtain ⟨c0, c1, c2, c3, c4⟩ := Five.out wy ((Chg.of_below HBx.out).trans hc2 (fun i hi h => by omega)).below
              clear hR2 hc2
              rw [H0.out] at c0
              go_wp2_with fail
              go_roundw
              case rel => exact ⟨j + 1, by omega, by go_num, by rw [Hsucc.out]; exact HR2.out, HC2.out.trans Hc2.out (fun _ _ h => h)⟩
              case measure => simp [intOf]; omega
            · by_cases h1 : z0[j].kind = 1
              · obtain ⟨c0, c1, c2, c3, c4⟩ := Five.out wr HBx.out
                have hX : numW z0[j].n.toNat ((preB z0 z0.length).drop (preB z0 j).length) = (z0[j].n.toNat, (stepB z0[j]).length, 0) := by
                  rw [hrest, stepB, if_neg h0, if_pos h1]; exact numW_put _ _ _ (by have := hwf.n0; have := hwf.n1; omega) (Nat.le_refl _)
                have HX := Lib.hid hX
                clear hX
                rw [h1] at c0
                have H0 := Lib.hid h1
                clear h0 h1 hrest
                go_wp2_with fail
                refine (num_rdI q (strB (preB z0 z0.length)) (preB z0 j).length 0 z0[j].n wr HR.out hwf.n0 _ z0[j].n _ _ _ (Int.toNat_of_nonneg hwf.n0) (rd_put _ _ _ _ _ HX.out)).mono ?_
                rintro e wy ⟨rfl, hR2, hc2⟩
                have HR2 := Lib.hid hR2
                have Hc2 := Lib.hid hc2
                obtain ⟨c0, c1, c2, c3, c4⟩ := Five.out wy ((Chg.of_below HBx.out).trans hc2 (fun i hi h => by omega)).below
                clear hR2 hc2
                rw [H0.out] at c0
                go_wp2_with fail
                go_roundw
                case rel => exact ⟨j + 1, by omega, by go_num, by rw [Hsucc.out]; exact HR2.out, HC2.out.trans Hc2.out (fun _ _ h => h)⟩
                case measure => simp [intOf]; omega
              · by_cases h2 : z0[j].kind = 2
                · obtain ⟨c0, c1, c2, c3, c4⟩ := Five.out wr HBx.out
                  have hzb := zig_bd z0[j].x hwf.x0 hwf.x1
                  have hX : numW 18446744073709551615 ((preB z0 z0.length).drop (preB z0 j).length) = ((zigI z0[j].x).toNat, (stepB z0[j]).length, 0) := by
                    rw [hrest, stepB, if_neg h0, if_neg h1, if_pos h2]; exact numW_put _ _ _ (by omega) (by omega)
                  have HZ := Lib.hid (show zagI ((zigI z0[j].x).toNat : Int) = z0[j].x by rw [Int.toNat_of_nonneg hzb.1, zag_zig])
                  have HX := Lib.hid hX
                  clear hX
                  rw [h2] at c0
                  have H0 := Lib.hid h2
                  clear h0 h1 h2 hrest hzb
                  go_wp2_with fail
                  refine (int_rdI q (strB (preB z0 z0.length)) (preB z0 j).length 0 wr HR.out _ z0[j].x _ _ _ HZ.out (rd_put _ _ _ _ _ HX.out)).mono ?_
                  rintro e wy ⟨rfl, hR2, hc2⟩
                  have HR2 := Lib.hid hR2
                  have Hc2 := Lib.hid hc2
                  obtain ⟨c0, c1, c2, c3, c4⟩ := Five.out wy ((Chg.of_below HBx.out).trans hc2 (fun i hi h => by omega)).below
                  clear hR2 hc2
                  rw [H0.out] at c0
                  go_wp2_with fail
                  go_roundw
                  case rel => exact ⟨j + 1, by omega, by go_num, by rw [Hsucc.out]; exact HR2.out, HC2.out.trans Hc2.out (fun _ _ h => h)⟩
                  case measure => simp [intOf]; omega
                · obtain ⟨c0, c1, c2, c3, c4⟩ := Five.out wr HBx.out
                  have hX : rawW (z0[j].s.size : Int) ((preB z0 z0.length).drop (preB z0 j).length) = (z0[j].s.data.toList, (stepB z0[j]).length, 0) := by
                    have e : stepB z0[j] = z0[j].s.data.toList := by rw [stepB, if_neg h0, if_neg h1, if_neg h2]
                    rw [hrest, e, rawW, if_neg (by omega), if_neg (by rw [List.length_append, ← size_list]; omega), Int.toNat_natCast, size_list, List.take_left]
                  have HX := Lib.hid hX
                  clear hX
                  have b0 : (z0[j].kind == 0) = false := by simpa using h0
                  have b1 : (z0[j].kind == 1) = false := by simpa using h1
                  have b2 : (z0[j].kind == 2) = false := by simpa using h2
                  clear h0 h1 h2 hrest
                  go_wp2_with fail
                  refine (raw_rdI q (strB (preB z0 z0.length)) (preB z0 j).length 0 (z0[j].s.size : Int) wr HR.out _ z0[j].s _ _ _ (strB_list _) (rd_put _ _ _ _ _ HX.out)).mono ?_
                  rintro e wy ⟨rfl, hR2, hc2⟩
                  have HR2 := Lib.hid hR2
                  have Hc2 := Lib.hid hc2
                  obtain ⟨c0, c1, c2, c3, c4⟩ := Five.out wy ((Chg.of_below HBx.out).trans hc2 (fun i hi h => by omega)).below
                  clear hR2 hc2
                  go_wp2_with fail
                  go_roundw
                  case rel => exact ⟨j + 1, by omega, by go_num, by rw [Hsucc.out]; exact HR2.out, HC2.out.trans Hc2.out (fun _ _ h => h)⟩
                  case measure => simp [intOf]; omega
          · obtain rfl : j = k := by omega
            have hend : rd false 0 (preB z0 j).length (endW ((preB z0 z0.length).drop (preB z0 j).length)) = (true, 0, (preB z0 j).length, 0) := by
              have e : (preB z0 z0.length).drop (preB z0 j).length = [] := by
                rw [hn, hnk]; exact List.drop_eq_nil_of_le (Nat.le_refl _)
              rw [e]; rfl
            have HE := Lib.hid hend
            have hln : (strB (preB z0 z0.length)).size = (preB z0 j).length := by rw [strB_size, hn, hnk]
            have HLn := Lib.hid hln
            have hpl2 := HPL.out j (by omega)
            have HWx := Lib.hid (HWC.out.keeps HC2.out (fun h => by have := hWlt.out.1; omega) (fun i hi h => by have := hWlt.out.2 i hi; omega))
            clear hend hln hn hnk
            go_wp2_with fail
            refine (end_rd q (strB (preB z0 z0.length)) (preB z0 j).length 0 wr HR.out true 0 _ 0 HE.out).mono ?_
            rintro e wy ⟨rfl, hR2, hc2⟩
            have HR2 := Lib.hid hR2
            have HWy := Lib.hid (HWx.out.keeps hc2 (fun h => by have := hWlt.out.1; omega) (fun i hi h => by have := hWlt.out.2 i hi; omega))
            have HCy := Lib.hid ((Chg.of_below HBx.out).trans hc2 (fun i hi h => by omega) : Chg (fun _ => False) w wy)
            clear hR2 hc2
            go_wp2_with fail
            refine (left_rd q _ _ _ wy HR2.out).mono ?_
            rintro e wz ⟨rfl, n1, rfl⟩
            rw [HLn.out, Int.sub_self]
            go_wp2_with fail
            refine (at_rd q (strB (preB z0 z0.length)) (preB z0 j).length 0 _ (show Rd (wy.drewN n1) q _ _ _ from ⟨HR2.out.head, HR2.out.le, HR2.out.size⟩)).mono ?_
            rintro e w' ⟨rfl, rfl⟩
            go_wp2_with fail
            refine (len_ok p r 16777216 (preB z0 j) _ (show Wr (wy.drewN n1) p r 16777216 (preB z0 j) from HWy.out) (by omega)).mono ?_
            rintro e w' ⟨rfl, rfl⟩
            go_wp2_with fail
            go_ret
            exact ⟨rfl, (show Chg (fun _ => False) w (wy.drewN n1) from ⟨HCy.out.os, HCy.out.tape, HCy.out.output, HCy.out.size, HCy.out.block⟩).below⟩
end Go.Proofs.Ytbdgmpjaibejnaa
