/- The examples of the bytes' laws (awake), and forms of the contracts for callers. -/
import Derived.Test.YtbdgmpjaibejnaaBytR2
namespace Go.Proofs.Ytbdgmpjaibejnaa
open Go.RowKit Go.Lib
set_option linter.unusedVariables false
/-- What writing leaves, its answer and the bytes behind given. -/
def WPost (p : Nat) (r : Option Nat) (most : Int) (w : World) (err : Int) (bs' : List UInt8) (e : Ending) (w' : World) : Prop :=
  e = .returned (.int .i64 err) ∧ ∃ r', Wr w' p r' most bs' ∧ (r' = r ∨ ∃ k, r' = some k ∧ w.heap.size ≤ k) ∧ Chg (fun k => k = p ∨ r = some k) w w'
/-- What writing s comes to. -/
def RawIs (most : Int) (bs s : List UInt8) (err : Int) (bs' : List UInt8) : Prop := rawE most bs s = err ∧ rawB most bs s = bs'
instance (most : Int) (bs s : List UInt8) (err : Int) (bs' : List UInt8) : Decidable (RawIs most bs s err bs') := by unfold RawIs; infer_instance
theorem WPost.of {p : Nat} {r : Option Nat} {most : Int} {bs s : List UInt8} {w : World} {err : Int} {bs' : List UInt8} (h : RawIs most bs s err bs') {e : Ending} {w' : World} (hp : RawPost p r most bs s w e w') : WPost p r most w err bs' e w' := by
  obtain ⟨rfl, rfl⟩ := h
  exact hp
theorem raw_to (p : Nat) (r : Option Nat) (most : Int) (bs : List UInt8) (s : ByteArray) (w : World) (hW : Wr w p r most bs) (hm0 : 0 ≤ most) (hm : most ≤ 16777216) (hl : bs.length ≤ 16777216) (hs : s.size ≤ maxLen) (err : Int) (bs' : List UInt8) (h : RawIs most bs s.data.toList err bs') :
    Calls Try.prog 25 #[.pointer (some ⟨p, 0, none⟩), .string s] w (WPost p r most w err bs') :=
  (raw_any p r most bs s w hW hm0 hm hl hs).mono fun _ _ hp => WPost.of h hp
theorem byte_to (p : Nat) (r : Option Nat) (most : Int) (bs : List UInt8) (x : Int) (w : World) (hW : Wr w p r most bs) (hm0 : 0 ≤ most) (hm : most ≤ 16777216) (hl : bs.length ≤ 16777216) (err : Int) (bs' : List UInt8) (h : RawIs most bs [UInt8.ofNat x.toNat] err bs') :
    Calls Try.prog 21 #[.pointer (some ⟨p, 0, none⟩), .int .u8 x] w (WPost p r most w err bs') :=
  (byte_any p r most bs x w hW hm0 hm hl).mono fun _ _ hp => WPost.of h hp
theorem num_to (p : Nat) (r : Option Nat) (most : Int) (bs : List UInt8) (n : Int) (w : World) (hW : Wr w p r most bs) (hm0 : 0 ≤ most) (hm : most ≤ 16777216) (hl : bs.length ≤ 16777216) (h0 : 0 ≤ n) (h1 : n < 18446744073709551616) (err : Int) (bs' : List UInt8) (h : RawIs most bs (putB n.toNat) err bs') :
    Calls Try.prog 14 #[.pointer (some ⟨p, 0, none⟩), .int .u64 n] w (WPost p r most w err bs') :=
  (num_any p r most bs n w hW hm0 hm hl h0 h1).mono fun _ _ hp => WPost.of h hp
theorem int_to (p : Nat) (r : Option Nat) (most : Int) (bs : List UInt8) (x : Int) (w : World) (hW : Wr w p r most bs) (hm0 : 0 ≤ most) (hm : most ≤ 16777216) (hl : bs.length ≤ 16777216) (h0 : -9223372036854775808 ≤ x) (h1 : x ≤ 9223372036854775807) (err : Int) (bs' : List UInt8) (h : RawIs most bs (putB (zigI x).toNat) err bs') :
    Calls Try.prog 16 #[.pointer (some ⟨p, 0, none⟩), .int .i64 x] w (WPost p r most w err bs') :=
  (int_any p r most bs x w hW hm0 hm hl h0 h1).mono fun _ _ hp => WPost.of h hp
/-- A writer's row since a world in which it had r0: it is r0 still, or a newer one; only it and the writer have changed. -/
def WSince (p : Nat) (r0 : Option Nat) (w0 : World) (r : Option Nat) (w : World) : Prop :=
  (r = r0 ∨ ∃ k, r = some k ∧ w0.heap.size ≤ k) ∧ Chg (fun k => k = p ∨ r0 = some k) w0 w
theorem WSince.refl (p : Nat) (r : Option Nat) (w : World) : WSince p r w r w := ⟨.inl rfl, Chg.refl _ _⟩
theorem WSince.step {p : Nat} {r0 r r' : Option Nat} {w0 w w' : World} (h : WSince p r0 w0 r w) (h1 : r' = r ∨ ∃ k, r' = some k ∧ w.heap.size ≤ k) (h2 : Chg (fun k => k = p ∨ r = some k) w w') : WSince p r0 w0 r' w' := by
  obtain ⟨ha, hb⟩ := h
  refine ⟨?_, hb.trans h2 ?_⟩
  · rcases h1 with rfl | ⟨k, hk, hl⟩
    · exact ha
    · exact .inr ⟨k, hk, Nat.le_trans hb.size hl⟩
  · intro i hi hx
    rcases hx with rfl | hx
    · exact .inl rfl
    · rcases ha with rfl | ⟨k, hk, hl⟩
      · exact .inr hx
      · rw [hk] at hx
        injection hx with hx
        omega
theorem new_ne {w : World} {k : Nat} (h : k < w.heap.size) : w.heap.size ≠ k := by omega

set_option maxRecDepth 100000 in
set_option maxHeartbeats 2000000 in
theorem awake_at (w : World) : Calls Try.prog 10 #[] w fun r w' => r = .returned (.bool true) ∧ Below w.heap.size w w' := by
  go_enter Try.func10, Try.ntmps10
  go_wp2_with fail
  refine (newWriter_ok 9 (by decide) (by decide) _).mono ?_
  rintro e W1 ⟨rfl, hW1⟩
  have hw1 : Wr W1 w.heap.size none 9 [] := hW1 ▸ Wr.new 9 w
  have c1 : Below w.heap.size w W1 := hW1 ▸ (Below.refl _ _).alloc (Nat.le_refl _) _
  clear hW1
  have hS := Lib.hid (WSince.refl w.heap.size none W1)
  have H1 := Lib.hid hw1
  clear hw1
  go_wp2_with fail
  refine (num_to w.heap.size none 9 [] 300 W1 H1.out (by decide) (by decide) (by decide) (by decide) (by decide) 0 [172, 2] (by decide +kernel)).mono ?_
  rintro e W2 ⟨rfl, r2, H2, hr2, hc2⟩
  have hS2 := Lib.hid (hS.out.step hr2 hc2)
  have H2' := Lib.hid H2
  clear hr2 hc2 H2
  go_wp2_with fail
  refine (int_to w.heap.size r2 9 [172, 2] (-1) W2 H2'.out (by decide) (by decide) (by decide) (by decide) (by decide) 0 [172, 2, 1] (by decide +kernel)).mono ?_
  rintro e W3 ⟨rfl, r3, H3, hr3, hc3⟩
  have hS3 := Lib.hid (hS2.out.step hr3 hc3)
  have H3' := Lib.hid H3
  clear hr3 hc3 H3
  go_wp2_with fail
  refine (raw_to w.heap.size r3 9 [172, 2, 1] ⟨#[97, 98]⟩ W3 H3'.out (by decide) (by decide) (by decide) (by decide) 0 [172, 2, 1, 97, 98] (by decide +kernel)).mono ?_
  rintro e W4 ⟨rfl, r4, H4, hr4, hc4⟩
  have hS4 := Lib.hid (hS3.out.step hr4 hc4)
  have H4' := Lib.hid H4
  clear hr4 hc4 H4
  go_wp2_with fail
  refine (text_ok w.heap.size r4 9 [172, 2, 1, 97, 98] W4 H4'.out).mono ?_
  rintro e w' ⟨rfl, rfl⟩
  rw [show strB [172, 2, 1, 97, 98] = ⟨#[172, 2, 1, 97, 98]⟩ from rfl]
  go_wp2_with fail
  refine (text_ok w.heap.size r4 9 [172, 2, 1, 97, 98] W4 H4'.out).mono ?_
  rintro e w' ⟨rfl, rfl⟩
  have c4 : Chg (fun _ => False) w W4 := (Chg.of_below c1).trans hS4.out.2 (fun k hk h => h.elim (fun h => by omega) (fun h => by cases h))
  have C4 := Lib.hid c4
  clear c4 c1
  go_wp2_with fail
  refine (newReader_ok (strB [172, 2, 1, 97, 98]) (by decide) _).mono ?_
  rintro e W5 ⟨rfl, hW5⟩
  have R5 : Hid (Rd W5 W4.heap.size (strB [172, 2, 1, 97, 98]) 0 0) := Lib.hid (hW5 ▸ Rd.new _ (by decide) W4)
  have C5 : Hid (Chg (fun _ => False) w W5) := Lib.hid (hW5 ▸ C4.out.alloc _)
  have hle : w.heap.size ≤ W4.heap.size := C4.out.size
  clear hW5
  go_wp2_with fail
  refine (num_rd W4.heap.size _ 0 0 1000 W5 R5.out 300 0 2 0 (by decide +kernel)).mono ?_
  rintro e W6 ⟨rfl, R6, c6⟩
  have R6' := Lib.hid R6
  have C6 : Hid (Chg (fun _ => False) w W6) := Lib.hid (C5.out.trans c6 (fun k hk h => by omega))
  clear R6 c6
  go_wp2_with fail
  refine (at_rd W4.heap.size _ 2 0 W6 R6'.out).mono ?_
  rintro e w' ⟨rfl, rfl⟩
  go_wp2_with fail
  refine (int_rd W4.heap.size _ 2 0 W6 R6'.out 1 0 3 0 (by decide +kernel)).mono ?_
  rintro e W7 ⟨rfl, R7, c7⟩
  have R7' := Lib.hid R7
  have C7 : Hid (Chg (fun _ => False) w W7) := Lib.hid (C6.out.trans c7 (fun k hk h => by omega))
  clear R7 c7
  have z : zagI ((1 : Nat) : Int) = -1 := by decide
  rw [z]
  go_wp2_with fail
  refine (at_rd W4.heap.size _ 3 0 W7 R7'.out).mono ?_
  rintro e w' ⟨rfl, rfl⟩
  go_wp2_with fail
  refine (newReader_ok ⟨#[128]⟩ (by decide) _).mono ?_
  rintro e W8 ⟨rfl, hW8⟩
  have R8 : Hid (Rd W8 W7.heap.size ⟨#[128]⟩ 0 0) := Lib.hid (hW8 ▸ Rd.new _ (by decide) W7)
  have C8 : Hid (Chg (fun _ => False) w W8) := Lib.hid (hW8 ▸ C7.out.alloc _)
  have hle7 : w.heap.size ≤ W7.heap.size := C7.out.size
  clear hW8
  go_wp2_with fail
  refine (num_rd W7.heap.size _ 0 0 1000 W8 R8.out 0 8 0 8 (by decide +kernel)).mono ?_
  rintro e W9 ⟨rfl, R9, c9⟩
  have R9' := Lib.hid R9
  have C9 : Hid (Chg (fun _ => False) w W9) := Lib.hid (C8.out.trans c9 (fun k hk h => by omega))
  clear R9 c9
  go_wp2_with fail
  refine (byte_rd W7.heap.size _ 0 8 W9 R9'.out 0 8 0 8 (by decide +kernel)).mono ?_
  rintro e W10 ⟨rfl, R10, c10⟩
  have R10' := Lib.hid R10
  have C10 : Hid (Chg (fun _ => False) w W10) := Lib.hid (C9.out.trans c10 (fun k hk h => by omega))
  clear R10 c10
  go_wp2_with fail
  refine (wrong_rd W7.heap.size _ 0 8 W10 R10'.out 0 8 (by decide)).mono ?_
  rintro e W11 ⟨rfl, n, rfl⟩
  go_wp2_with fail
  go_ret
  exact ⟨rfl, (show Chg (fun _ => False) w (W10.drewN n) from ⟨C10.out.os, C10.out.tape, C10.out.output, C10.out.size, C10.out.block⟩).below⟩
end Go.Proofs.Ytbdgmpjaibejnaa
