/- The document's writer and reader (seesawref02): what each method returns, and what becomes of memory. -/
import Derived.Test.YtbdgmpjaibejnaaBytPlaces
import Derived.Test.YtbdgmpjaibejnaaVarR2
namespace Go.Proofs.Ytbdgmpjaibejnaa
open Go.RowKit Go.Lib
set_option linter.unusedVariables false
/-- At p lies the document's writer. -/
def XWr (w : World) (p : Nat) (most : Int) (bs : List UInt8) : Prop := w.heap[p]? = some (.cells #[.int .i64 most, .string (strB bs)] 50 (0, 0))
/-- At q lies the document's reader. -/
structure XRd (w : World) (q : Nat) (s : ByteArray) (at_ : Nat) (e : Int) : Prop where
  head : w.heap[q]? = some (.cells #[.string s, .int .i64 at_, .int .i64 e] 66 (0, 0))
  le : at_ ≤ s.size
  size : s.size ≤ 16777216
theorem XRd.keeps {w w' : World} {q : Nat} {s : ByteArray} {a : Nat} {e : Int} {S : Nat → Prop} (h : XRd w q s a e) (hc : Chg S w w') (hq : ¬ S q) : XRd w' q s a e := ⟨hc.keeps h.head hq, h.le, h.size⟩
theorem XRd.drewN {w : World} {q : Nat} {s : ByteArray} {a : Nat} {e : Int} (h : XRd w q s a e) (n : Nat) : XRd (w.drewN n) q s a e := ⟨h.head, h.le, h.size⟩
def XWPost (p : Nat) (most : Int) (w : World) (err : Int) (bs' : List UInt8) (e : Ending) (w' : World) : Prop :=
  e = .returned (.int .i64 err) ∧ XWr w' p most bs' ∧ Chg (fun k => k = p) w w'
theorem XWPost.after {p : Nat} {most : Int} {w w1 : World} {err : Int} {bs' : List UInt8} {e : Ending} {w' : World} (hb : Below w.heap.size w w1) (h : XWPost p most w1 err bs' e w') : XWPost p most w err bs' e w' :=
  ⟨h.1, h.2.1, (Chg.of_below hb).mono (fun _ _ h => h.elim) |>.trans h.2.2 (fun _ _ h => h)⟩
def XPost (q : Nat) (s : ByteArray) (w : World) (v : Value) (err : Int) (at' : Nat) (e' : Int) (e : Ending) (w' : World) : Prop :=
  e = .returned (.tuple #[v, .int .i64 err]) ∧ XRd w' q s at' e' ∧ Chg (fun k => k = q) w w'
def XEPost (q : Nat) (s : ByteArray) (w : World) (err : Int) (at' : Nat) (e' : Int) (e : Ending) (w' : World) : Prop :=
  e = .returned (.int .i64 err) ∧ XRd w' q s at' e' ∧ Chg (fun k => k = q) w w'
set_option maxHeartbeats 400000 in
theorem xnewWriter_ok (most : Int) (h0 : 0 ≤ most) (h1 : most ≤ 16777216) (w : World) :
    Calls Try.prog 20 #[.int .i64 most] w fun e w' => e = .returned (.tuple #[.pointer (some ⟨w.heap.size, 0, none⟩), .int .i64 0]) ∧ w' = w.alloc (.cells #[.int .i64 most, .string ⟨#[]⟩] 50) := by
  go_enter Try.func20, Try.ntmps20
  go_wp2
  go_ret2
  exact ⟨rfl, rfl⟩
set_option maxHeartbeats 400000 in
theorem xnewWriter_no (most : Int) (h : most < 0 ∨ 16777216 < most) (w : World) :
    Calls Try.prog 20 #[.int .i64 most] w fun e w' => e = .returned (.tuple #[.pointer none, .int .i64 1]) ∧ w = w' := by
  rcases h with h | h
  all_goals
    go_enter Try.func20, Try.ntmps20
    go_wp2
    go_ret2
    exact ⟨rfl, rfl⟩
set_option maxHeartbeats 400000 in
theorem xraw_to (p : Nat) (most : Int) (bs : List UInt8) (s : ByteArray) (w : World) (hW : XWr w p most bs) (hm0 : 0 ≤ most) (hm : most ≤ 16777216) (hl : bs.length ≤ 16777216) (hs : s.size ≤ 100000000) (err : Int) (bs' : List UInt8) (h : RawIs most bs s.data.toList err bs') :
    Calls Try.prog 26 #[.pointer (some ⟨p, 0, none⟩), .string s] w (XWPost p most w err bs') := by
  have hc0 : w.cell? ⟨p, 0, none⟩ = some (.int .i64 most) := by rw [cell_of_row w p 0 _ _ _ hW]; rfl
  have hc1 : w.cell? ⟨p, 1, none⟩ = some (.string (strB bs)) := by rw [cell_of_row w p 1 _ _ _ hW]; rfl
  have hf1 := frozen_of_row w p 1 _ _ hW
  have HW := Lib.hid hW
  have hz : (strB bs).size ≤ 16777216 := by rw [strB_size]; exact hl
  obtain ⟨h1, h2⟩ := h
  by_cases hf : (s.data.toList.length : Int) ≤ most - bs.length
  · rw [rawE, if_pos hf] at h1
    rw [rawB, if_pos hf] at h2
    have hf' : ((strB bs).size : Int) + s.size ≤ most := by rw [strB_size, size_list]; omega
    have h1' := Lib.hid h1
    have h2' := Lib.hid h2
    clear h1 h2 hf hW
    go_enter Try.func26, Try.ntmps26
    go_wp2_with fail
    go_quiet (fail)
    go_wp2_with fail
    go_ret
    have e2 : strB bs ++ s = strB bs' := by
      rw [← h2'.out, ← strB_append, strB_list]
    refine ⟨by rw [← h1'.out]; rfl, ?_, ((⟨rfl, rfl, rfl, Nat.le_refl _, fun _ _ _ => rfl⟩ : Chg (fun k => k = p) w (w.drewN nq))).setCell ⟨p, 1, none⟩ _ (fun _ => rfl)⟩
    show _ = _
    rw [← e2]
    exact heap_setCell_same _ p 1 _ _ _ HW.out
  · rw [rawE, if_neg hf] at h1
    rw [rawB, if_neg hf] at h2
    have hf' : most < ((strB bs).size : Int) + s.size := by rw [strB_size, size_list]; omega
    have h1' := Lib.hid h1
    have h2' := Lib.hid h2
    clear h1 h2 hf hW
    go_enter Try.func26, Try.ntmps26
    go_wp2_with fail
    go_quiet (fail)
    go_wp2_with fail
    go_ret
    exact ⟨by rw [← h1'.out]; rfl, by rw [← h2'.out]; exact HW.out, (⟨rfl, rfl, rfl, Nat.le_refl _, fun _ _ _ => rfl⟩ : Chg (fun k => k = p) w (w.drewN nq))⟩
theorem XWr.below {w w1 : World} {p : Nat} {most : Int} {bs : List UInt8} (h : XWr w p most bs) (hb : Below w.heap.size w w1) : XWr w1 p most bs := (Chg.of_below hb).keeps h (fun h => h)
set_option maxHeartbeats 400000 in
theorem xbyte_to (p : Nat) (most : Int) (bs : List UInt8) (x : Int) (w : World) (hW : XWr w p most bs) (hm0 : 0 ≤ most) (hm : most ≤ 16777216) (hl : bs.length ≤ 16777216) (err : Int) (bs' : List UInt8) (h : RawIs most bs [UInt8.ofNat x.toNat] err bs') :
    Calls Try.prog 22 #[.pointer (some ⟨p, 0, none⟩), .int .u8 x] w (XWPost p most w err bs') := by
  have hcv := conv_one
  have hb : Below w.heap.size w (w.alloc (.cells #[.int .u8 x] 5)) := (Below.refl _ _).alloc (Nat.le_refl _) _
  have HH := Lib.hid (xraw_to p most bs (strOfNums [x]) _ (hW.below hb) hm0 hm hl (by simp [strOfNums, ByteArray.size]) err bs' h)
  clear hW h
  go_enter Try.func22, Try.ntmps22
  go_wp2_with fail
  refine HH.out.mono ?_
  rintro e w' ⟨rfl, h2⟩
  go_wp2_with fail
  go_ret
  exact XWPost.after hb ⟨rfl, h2⟩
set_option maxHeartbeats 400000 in
theorem xnum_to (p : Nat) (most : Int) (bs : List UInt8) (n : Int) (w : World) (hW : XWr w p most bs) (hm0 : 0 ≤ most) (hm : most ≤ 16777216) (hl : bs.length ≤ 16777216) (h0 : 0 ≤ n) (h1 : n < 18446744073709551616) (err : Int) (bs' : List UInt8) (h : RawIs most bs (putB n.toNat) err bs') :
    Calls Try.prog 23 #[.pointer (some ⟨p, 0, none⟩), .int .u64 n] w (XWPost p most w err bs') := by
  have hH := Lib.hid hW
  have hh := Lib.hid h
  clear hW h
  go_enter Try.func23, Try.ntmps23
  go_wp2_with fail
  refine (refput_at n _ rfl h0 h1 _).mono ?_
  rintro e w1 ⟨rfl, hb⟩
  go_wp2_with fail
  refine (xraw_to p most bs (strB (putB n.toNat)) _ (hH.out.below hb) hm0 hm hl (by have := (putB_len n.toNat).2; rw [strB_size]; omega) err bs' hh.out).mono ?_
  rintro e w' ⟨rfl, h2⟩
  go_wp2_with fail
  go_ret
  exact XWPost.after hb ⟨rfl, h2⟩
set_option maxHeartbeats 400000 in
theorem xint_to (p : Nat) (most : Int) (bs : List UInt8) (x : Int) (w : World) (hW : XWr w p most bs) (hm0 : 0 ≤ most) (hm : most ≤ 16777216) (hl : bs.length ≤ 16777216) (h0 : -9223372036854775808 ≤ x) (h1 : x ≤ 9223372036854775807) (err : Int) (bs' : List UInt8) (h : RawIs most bs (putB (zigI x).toNat) err bs') :
    Calls Try.prog 24 #[.pointer (some ⟨p, 0, none⟩), .int .i64 x] w (XWPost p most w err bs') := by
  have hz := zig_bd x h0 h1
  have hH := Lib.hid hW
  have hh := Lib.hid h
  clear hW h
  go_enter Try.func24, Try.ntmps24
  go_wp2_with fail
  refine (refzig_at x h0 h1 _).mono ?_
  rintro e w' ⟨rfl, rfl⟩
  go_wp2_with fail
  refine (refput_at (zigI x) _ rfl hz.1 hz.2 _).mono ?_
  rintro e w1 ⟨rfl, hb⟩
  go_wp2_with fail
  refine (xraw_to p most bs (strB (putB (zigI x).toNat)) _ (hH.out.below hb) hm0 hm hl (by have := (putB_len (zigI x).toNat).2; rw [strB_size]; omega) err bs' hh.out).mono ?_
  rintro e w' ⟨rfl, h2⟩
  go_wp2_with fail
  go_ret
  exact XWPost.after hb ⟨rfl, h2⟩
end Go.Proofs.Ytbdgmpjaibejnaa
