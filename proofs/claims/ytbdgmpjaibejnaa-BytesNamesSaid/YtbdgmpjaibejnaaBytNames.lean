/- The walk of the closed law BytesNames. -/
import Derived.Test.YtbdgmpjaibejnaaBytNil
import Derived.Test.YtbdgmpjaibejnaaBytBound
namespace Go.Proofs.Ytbdgmpjaibejnaa
open Go.RowKit Go.Lib
set_option linter.unusedVariables false
set_option maxRecDepth 100000 in
set_option maxHeartbeats 8000000 in
theorem walk_BytesNames (w : World) : Calls Try.prog 9 #[] w fun e w' => e = .returned (.bool true) ∧ Below w.heap.size w w' := by
  go_enter Try.func9, Try.ntmps9
  go_wp2_with fail

  refine (byteR_nil _).mono ?_
  rintro e w' ⟨rfl, rfl⟩
  go_wp2_with fail
  refine (numR_nil _ _).mono ?_
  rintro e V1 ⟨rfl, bV1⟩
  have C1 := Lib.hid ((Chg.refl (fun _ => False) w).trans (Chg.of_below bV1) (fun _ _ h => h) : Chg (fun _ => False) w V1)
  clear bV1
  go_wp2_with fail
  refine (intR_nil _).mono ?_
  rintro e V2 ⟨rfl, bV2⟩
  have C2 := Lib.hid ((C1.out).trans (Chg.of_below bV2) (fun _ _ h => h) : Chg (fun _ => False) w V2)
  clear bV2
  go_wp2_with fail
  refine (rawR_nil _ _).mono ?_
  rintro e V3 ⟨rfl, bV3⟩
  have C3 := Lib.hid ((C2.out).trans (Chg.of_below bV3) (fun _ _ h => h) : Chg (fun _ => False) w V3)
  clear bV3
  go_wp2_with fail
  refine (wrongR_nil _).mono ?_
  rintro e w' ⟨rfl, rfl⟩
  go_wp2_with fail
  refine (failR_nil _ _ _).mono ?_
  rintro e w' ⟨rfl, rfl⟩
  go_wp2_with fail
  refine (byteW_nil _ _).mono ?_
  rintro e V4 ⟨rfl, bV4⟩
  have C4 := Lib.hid ((C3.out).trans (Chg.of_below bV4) (fun _ _ h => h) : Chg (fun _ => False) w V4)
  clear bV4
  go_wp2_with fail
  refine (numW_nil 1 (by decide) (by decide) _).mono ?_
  rintro e V5 ⟨rfl, bV5⟩
  have C5 := Lib.hid ((C4.out).trans (Chg.of_below bV5) (fun _ _ h => h) : Chg (fun _ => False) w V5)
  clear bV5
  go_wp2_with fail
  refine (intW_nil _).mono ?_
  rintro e V6 ⟨rfl, bV6⟩
  have C6 := Lib.hid ((C5.out).trans (Chg.of_below bV6) (fun _ _ h => h) : Chg (fun _ => False) w V6)
  clear bV6
  go_wp2_with fail
  refine (raw_nil _ _).mono ?_
  rintro e w' ⟨rfl, rfl⟩
  go_wp2_with fail
  refine (lenW_nil _).mono ?_
  rintro e w' ⟨rfl, rfl⟩
  go_wp2_with fail
  refine (textW_nil _).mono ?_
  rintro e w' ⟨rfl, rfl⟩
  go_wp2_with fail
  refine (atR_nil _).mono ?_
  rintro e w' ⟨rfl, rfl⟩
  go_wp2_with fail
  refine (leftR_nil _).mono ?_
  rintro e w' ⟨rfl, rfl⟩
  go_wp2_with fail
  refine (endR_nil _).mono ?_
  rintro e w' ⟨rfl, rfl⟩
  go_wp2_with fail
  refine (newWriter_no (-1) (.inl (by decide)) _).mono ?_
  rintro e w' ⟨rfl, rfl⟩
  go_wp2_with fail
  refine (newWriter_no 16777217 (.inr (by decide)) _).mono ?_
  rintro e w' ⟨rfl, rfl⟩
  go_wp2_with fail
  refine (newWriter_ok 16777216 (by decide) (by decide) _).mono ?_
  rintro e V7 ⟨rfl, eV7⟩
  have WX := Lib.hid (eV7 ▸ Wr.new 16777216 V6 : Wr V7 V6.heap.size none 16777216 [])
  have hleWX : w.heap.size ≤ V6.heap.size := (C6.out).size
  have C7 := Lib.hid (eV7 ▸ (C6.out).alloc _ : Chg (fun _ => False) w V7)
  clear eV7
  go_wp2_with fail
  refine (newWriter_ok 0 (by decide) (by decide) _).mono ?_
  rintro e V8 ⟨rfl, eV8⟩
  have WY := Lib.hid (eV8 ▸ Wr.new 0 V7 : Wr V8 V7.heap.size none 0 [])
  have hleWY : w.heap.size ≤ V7.heap.size := (C7.out).size
  have C8 := Lib.hid (eV8 ▸ (C7.out).alloc _ : Chg (fun _ => False) w V8)
  clear eV8
  go_wp2_with fail
  refine (raw_to V7.heap.size none 0 [] ⟨#[]⟩ _ WY.out (by decide) (by decide) (by decide) (by decide) 0 [] (by decide +kernel)).mono ?_
  rintro e V9 ⟨rfl, rV9, hV9, qV9, cV9⟩
  have WYV9 := Lib.hid hV9
  have C9 := Lib.hid ((C8.out).trans cV9 (fun i hi h => by
      rcases h with h | h
      · omega
      · cases h) : Chg (fun _ => False) w V9)
  have RYV9 : ∀ i, rV9 = some i → w.heap.size ≤ i := fun i h => by
    rcases qV9 with h' | ⟨j, h', hl⟩
    · rw [h'] at h; cases h
    · rw [h'] at h; injection h with h; have := hleWY; have := (C8.out).size; omega
  clear hV9 qV9 cV9
  go_wp2_with fail
  refine (byte_to V7.heap.size rV9 0 [] 0 _ WYV9.out (by decide) (by decide) (by decide) 40 [] (by decide +kernel)).mono ?_
  rintro e V10 ⟨rfl, rV10, hV10, qV10, cV10⟩
  have WYV10 := Lib.hid hV10
  have C10 := Lib.hid ((C9.out).trans cV10 (fun i hi h => by
      rcases h with h | h
      · omega
      · have := RYV9 i h; omega) : Chg (fun _ => False) w V10)
  have RYV10 : ∀ i, rV10 = some i → w.heap.size ≤ i := fun i h => by
    rcases qV10 with h' | ⟨j, h', hl⟩
    · exact RYV9 i (h' ▸ h)
    · rw [h'] at h; injection h with h; have := (C9.out).size; omega
  clear hV10 qV10 cV10
  go_wp2_with fail
  refine (num_to V7.heap.size rV10 0 [] 0 _ WYV10.out (by decide) (by decide) (by decide) (by decide) (by decide) 40 [] (by decide +kernel)).mono ?_
  rintro e V11 ⟨rfl, rV11, hV11, qV11, cV11⟩
  have WYV11 := Lib.hid hV11
  have C11 := Lib.hid ((C10.out).trans cV11 (fun i hi h => by
      rcases h with h | h
      · omega
      · have := RYV10 i h; omega) : Chg (fun _ => False) w V11)
  have RYV11 : ∀ i, rV11 = some i → w.heap.size ≤ i := fun i h => by
    rcases qV11 with h' | ⟨j, h', hl⟩
    · exact RYV10 i (h' ▸ h)
    · rw [h'] at h; injection h with h; have := (C10.out).size; omega
  clear hV11 qV11 cV11
  obtain ⟨zv, zw, hz1, hz2, hz3⟩ := run_big V11
  have CZ := Lib.hid (C11.out.trans (Chg.of_below hz3) (fun _ _ h => h) : Chg (fun _ => False) w zw)
  have hb1 : 16777217 ≤ bigS.size := by rw [bigS_size]; exact Nat.le_refl _
  have hb2 : bigS.size ≤ 16777217 := by rw [bigS_size]; exact Nat.le_refl _
  clear hz3
  go_wp2_with fail
  refine (newReader_no bigS (by omega) (by omega) _).mono ?_
  rintro e w' ⟨rfl, rfl⟩
  go_wp2_with fail
  refine (newReader_ok (bigS.extract 1 bigS.size) bigS_tail _).mono ?_
  rintro e U1 ⟨rfl, eU1⟩
  have D1 := Lib.hid (eU1 ▸ CZ.out.alloc _ : Chg (fun _ => False) w U1)
  clear eU1
  go_wp2_with fail
  refine (newReader_ok ⟨#[97, 98]⟩ (by decide) _).mono ?_
  rintro e U2 ⟨rfl, eU2⟩
  have RZ := Lib.hid (eU2 ▸ Rd.new ⟨#[97, 98]⟩ (by decide) U1 : Rd U2 U1.heap.size ⟨#[97, 98]⟩ 0 0)
  have D2 := Lib.hid (eU2 ▸ D1.out.alloc _ : Chg (fun _ => False) w U2)
  have g1 : w.heap.size ≤ U1.heap.size := D1.out.size
  clear eU2
  go_wp2_with fail
  refine (raw_rd U1.heap.size _ 0 0 3 U2 RZ.out [] 8 0 8 (by decide +kernel)).mono ?_
  rintro e U3 ⟨rfl, h3, c3⟩
  have RZ3 := Lib.hid h3
  have D3 := Lib.hid (D2.out.trans c3 (fun i hi h => by omega) : Chg (fun _ => False) w U3)
  clear h3 c3
  go_wp2_with fail
  refine (raw_rd U1.heap.size _ 0 8 1 U3 RZ3.out [] 8 0 8 (by decide +kernel)).mono ?_
  rintro e U4 ⟨rfl, h4, c4⟩
  have D4 := Lib.hid (D3.out.trans c4 (fun i hi h => by omega) : Chg (fun _ => False) w U4)
  clear h4 c4
  go_wp2_with fail
  refine (newReader_ok ⟨#[97, 98]⟩ (by decide) _).mono ?_
  rintro e U5 ⟨rfl, eU5⟩
  have RU := Lib.hid (eU5 ▸ Rd.new ⟨#[97, 98]⟩ (by decide) U4 : Rd U5 U4.heap.size ⟨#[97, 98]⟩ 0 0)
  have D5 := Lib.hid (eU5 ▸ D4.out.alloc _ : Chg (fun _ => False) w U5)
  have g4 : w.heap.size ≤ U4.heap.size := D4.out.size
  clear eU5
  go_wp2_with fail
  refine (raw_rd U4.heap.size _ 0 0 (-1) U5 RU.out [] 1 0 1 (by decide +kernel)).mono ?_
  rintro e U6 ⟨rfl, h6, c6⟩
  have D6 := Lib.hid (D5.out.trans c6 (fun i hi h => by omega) : Chg (fun _ => False) w U6)
  clear h6 c6
  go_wp2_with fail
  refine (newReader_ok ⟨#[5]⟩ (by decide) _).mono ?_
  rintro e U7 ⟨rfl, eU7⟩
  have RV := Lib.hid (eU7 ▸ Rd.new ⟨#[5]⟩ (by decide) U6 : Rd U7 U6.heap.size ⟨#[5]⟩ 0 0)
  have D7 := Lib.hid (eU7 ▸ D6.out.alloc _ : Chg (fun _ => False) w U7)
  have g6 : w.heap.size ≤ U6.heap.size := D6.out.size
  clear eU7
  go_wp2_with fail
  refine (num_rd U6.heap.size _ 0 0 4 U7 RV.out 0 20 0 20 (by decide +kernel)).mono ?_
  rintro e U8 ⟨rfl, h8, c8⟩
  have RV8 := Lib.hid h8
  have D8 := Lib.hid (D7.out.trans c8 (fun i hi h => by omega) : Chg (fun _ => False) w U8)
  clear h8 c8
  go_wp2_with fail
  refine (at_rd U6.heap.size _ 0 20 U8 RV8.out).mono ?_
  rintro e w' ⟨rfl, rfl⟩
  go_wp2_with fail
  refine (awake_at _).mono ?_
  rintro e U9 ⟨rfl, b9⟩
  have D9 := Lib.hid (D8.out.trans (Chg.of_below b9) (fun _ _ h => h) : Chg (fun _ => False) w U9)
  clear b9
  go_wp2_with fail
  go_ret
  exact ⟨rfl, D9.out.below⟩
end Go.Proofs.Ytbdgmpjaibejnaa
