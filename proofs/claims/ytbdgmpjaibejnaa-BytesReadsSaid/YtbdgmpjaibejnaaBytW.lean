/- The writer: what each method returns, and what becomes of memory. -/
import Derived.Test.YtbdgmpjaibejnaaMem
import Derived.Test.YtbdgmpjaibejnaaVarW2
import Derived.Test.YtbdgmpjaibejnaaVarP2
import Derived.Deep.RegionHeld3
import Derived.Deep.QuietTactic
import Derived.BigQuiet
import Derived.Outline
namespace Go.Proofs.Ytbdgmpjaibejnaa
open Go.RowKit Go.Lib
set_option linter.unusedVariables false
/-- Bytes as cells. -/
def u8s (l : List UInt8) : List Value := l.map fun b => Value.int .u8 b.toNat
theorem info_u8 : (Try.prog.info? 5).map (fun i => (i.zero, i.size, i.bytes)) = some (some (.int .u8 0), 1, 1) := by kernel_rfl
/-- At p lies a writer of at most 'most' bytes that has bs; its row is r. -/
def Wr (w : World) (p : Nat) (r : Option Nat) (most : Int) (bs : List UInt8) : Prop :=
  ∃ v, w.heap[p]? = some (.cells #[.int .i64 most, v] 71 (0, 0)) ∧ Row w 5 1 v r bs.length (u8s bs) ∧ r ≠ some p
theorem Wr.keeps {w w' : World} {p : Nat} {r : Option Nat} {most : Int} {bs : List UInt8} {S : Nat → Prop} (h : Wr w p r most bs) (hc : Chg S w w') (hp : ¬ S p) (hr : ∀ k, r = some k → ¬ S k) : Wr w' p r most bs := by
  obtain ⟨v, h1, h2, h3⟩ := h
  exact ⟨v, hc.keeps h1 hp, h2.keeps hc hr, h3⟩
theorem Wr.lt {w : World} {p : Nat} {r : Option Nat} {most : Int} {bs : List UInt8} (h : Wr w p r most bs) : p < w.heap.size ∧ ∀ k, r = some k → k < w.heap.size := by
  obtain ⟨v, h1, h2, h3⟩ := h
  exact ⟨lt_of_heap h1, h2.lt⟩
set_option maxHeartbeats 400000 in
theorem newWriter_ok (most : Int) (h0 : 0 ≤ most) (h1 : most ≤ 16777216) (w : World) :
    Calls Try.prog 12 #[.int .i64 most] w fun e w' => e = .returned (.tuple #[.pointer (some ⟨w.heap.size, 0, none⟩), .int .i64 0]) ∧ w' = w.alloc (.cells #[.int .i64 most, .slice none 0 0] 71) := by
  go_enter Try.func12, Try.ntmps12
  go_wp2
  go_ret2
  exact ⟨rfl, rfl⟩
set_option maxHeartbeats 400000 in
theorem newWriter_no (most : Int) (h : most < 0 ∨ 16777216 < most) (w : World) :
    Calls Try.prog 12 #[.int .i64 most] w fun e w' => e = .returned (.tuple #[.pointer none, .int .i64 1]) ∧ w = w' := by
  rcases h with h | h
  all_goals
    go_enter Try.func12, Try.ntmps12
    go_wp2
    go_ret2
    exact ⟨rfl, rfl⟩
set_option maxHeartbeats 400000 in
theorem raw_nil (s : ByteArray) (w : World) :
    Calls Try.prog 25 #[.pointer none, .string s] w fun e w' => e = .returned (.int .i64 2) ∧ w = w' := by
  go_enter Try.func25, Try.ntmps25
  go_wp2
  go_ret
  exact ⟨rfl, rfl⟩
set_option maxHeartbeats 400000 in
theorem raw_ok (p : Nat) (r : Option Nat) (most : Int) (bs : List UInt8) (s : ByteArray) (w : World) (hW : Wr w p r most bs) (hm : most ≤ 16777216) (hfit : (s.size : Int) ≤ most - bs.length) :
    Calls Try.prog 25 #[.pointer (some ⟨p, 0, none⟩), .string s] w fun e w' => e = .returned (.int .i64 0) ∧
      ∃ r', Wr w' p r' most (bs ++ s.data.toList) ∧ (r' = r ∨ ∃ k, r' = some k ∧ w.heap.size ≤ k) ∧ Chg (fun k => k = p ∨ r = some k) w w' := by
  obtain ⟨v, hp, hR, hne⟩ := hW
  obtain ⟨ao, cap, rfl⟩ := hR.form
  have hc0 : w.cell? ⟨p, 0, none⟩ = some (.int .i64 most) := by rw [cell_of_row w p 0 _ _ _ hp]; rfl
  have hc1 : w.cell? ⟨p, 1, none⟩ = some (.slice ao bs.length cap) := by rw [cell_of_row w p 1 _ _ _ hp]; rfl
  have hf1 := frozen_of_row w p 1 _ _ hp
  have hl : bs.length ≤ 16777216 := by omega
  have hP := Lib.hid hp
  have hN := Lib.hid hne
  clear hp hne
  go_enter Try.func25, Try.ntmps25
  go_wp2_with fail
  go_quiet (fail)
  obtain ⟨i0, hi, hz0, hz1, hz2⟩ := info_parts info_u8
  have hR' : Row (w.drewN nq) 5 1 (.slice ao bs.length cap) r bs.length (u8s bs) := hR
  go_wp2_with (at_builtin; refine wpList_app_string _ rfl (.tmp 26) (.tmp 27) _ _ rfl 5 i0 Try.underlying67 Try.underlying9 hi hz0 hz1 hz2 _ r _ _ rfl hR' s rfl (by omega) ?_; intro v' w1 r' hR1 hr1 hg1; obtain ⟨ao', cap', rfl⟩ := hR1.form; have hp1 := (hg1.block p (lt_of_heap hP.out) (fun e => hN.out e.symm)).trans hP.out; have hc1' := cell_of_row w1 p 1 _ _ _ hp1; have hf1' := frozen_of_row w1 p 1 _ _ hp1; have hP1 := Lib.hid hp1; clear hp1)
  go_ret
  have hlt := lt_of_heap hP.out
  have hr2 : r' ≠ some p := by
    rcases hr1 with rfl | rfl
    · exact hN.out
    · intro e
      injection e with e
      have : w.heap.size = p := e
      omega
  have hch : Chg (fun k => k = p) w1 (w1.setCell ⟨p, 1, none⟩ (.slice ao' (bs.length + s.size) cap')) := (Chg.refl _ _).setCell _ _ (fun _ => rfl)
  refine ⟨rfl, r', ⟨_, heap_setCell_same w1 p 1 _ _ _ hP1.out, ?_, hr2⟩, ?_, ?_⟩
  · have := hR1.keeps hch (fun k hk e => hr2 (by rw [hk, e]))
    rw [List.length_append, ← size_list]
    rw [show u8s (bs ++ s.data.toList) = u8s bs ++ strCells s by simp [u8s, strCells]]
    exact this
  · rcases hr1 with rfl | rfl
    · exact .inl rfl
    · exact .inr ⟨_, rfl, Nat.le_refl _⟩
  · have h1 : Chg (fun k => k = p ∨ r = some k) w w1 := (Chg.refl _ w).grown (b := w) (c := w1) (row := r) ⟨hg1.os, hg1.tape, hg1.output, hg1.size, hg1.block⟩ (fun k _ h => .inr h)
    exact h1.setCell _ _ (fun _ => .inl rfl)
set_option maxHeartbeats 400000 in
theorem raw_no (p : Nat) (r : Option Nat) (most : Int) (bs : List UInt8) (s : ByteArray) (w : World) (hW : Wr w p r most bs) (hm0 : 0 ≤ most) (hm : most ≤ 16777216) (hl : bs.length ≤ 16777216) (hs : s.size ≤ maxLen) (hfit : most - bs.length < (s.size : Int)) :
    Calls Try.prog 25 #[.pointer (some ⟨p, 0, none⟩), .string s] w fun e w' => e = .returned (.int .i64 40) ∧ Below w.heap.size w w' := by
  obtain ⟨v, hp, hR, hne⟩ := hW
  obtain ⟨ao, cap, rfl⟩ := hR.form
  have hc0 : w.cell? ⟨p, 0, none⟩ = some (.int .i64 most) := by rw [cell_of_row w p 0 _ _ _ hp]; rfl
  have hc1 : w.cell? ⟨p, 1, none⟩ = some (.slice ao bs.length cap) := by rw [cell_of_row w p 1 _ _ _ hp]; rfl
  unfold maxLen at hs
  clear hp hne hR
  go_enter Try.func25, Try.ntmps25
  go_wp2_with fail
  go_quiet (fail)
  go_wp2_with fail
  go_ret
  exact ⟨rfl, ⟨rfl, rfl, rfl, Nat.le_refl _, fun _ _ => rfl⟩⟩
set_option maxHeartbeats 400000 in
theorem len_ok (p : Nat) (r : Option Nat) (most : Int) (bs : List UInt8) (w : World) (hW : Wr w p r most bs) (hl : bs.length ≤ 16777216) :
    Calls Try.prog 27 #[.pointer (some ⟨p, 0, none⟩)] w fun e w' => e = .returned (.int .i64 bs.length) ∧ w = w' := by
  obtain ⟨v, hp, hR, hne⟩ := hW
  obtain ⟨ao, cap, rfl⟩ := hR.form
  have hc1 : w.cell? ⟨p, 1, none⟩ = some (.slice ao bs.length cap) := by rw [cell_of_row w p 1 _ _ _ hp]; rfl
  clear hp hne hR
  go_enter Try.func27, Try.ntmps27
  go_wp2
  go_ret
  exact ⟨rfl, rfl⟩
/-- string(b), b a row of bytes that is held alone. -/
theorem conv_row (w : World) (v : Value) (r : Option Nat) (bs : List UInt8) (h : Row w 5 1 v r bs.length (u8s bs)) :
    (convert 67 9 v).run Try.prog w = .ok (.string (strB bs)) w := by
  rcases h.shape with ⟨rfl, rfl, hn⟩ | ⟨g, cap, rfl, rfl, hc, hm⟩
  · have : bs = [] := List.eq_nil_of_length_eq_zero hn
    subst this
    exact run_convert_bytes_nil w 67 5 Try.underlying67 Try.underlying5 0 0 9 Try.underlying9
  · have holds := h.1.cells (g := g) rfl
    have := run_convert_bytes_arg (P := Try.prog) w 67 5 Try.underlying67 Try.underlying5 g 0 bs.length cap (bs.map fun b => (b.toNat : Int)) (by simp)
      (fun i hi => by
        have := holds i (.int .u8 (bs[i].toNat : Int)) (by simp [u8s, List.getElem?_eq_getElem hi])
        have e : (⟨g, 0, none⟩ : Addr).add i = ⟨g, 0 + i, none⟩ := by unfold Addr.add; split <;> simp_all
        rw [e] at this
        rw [this]
        simp [List.getElem?_eq_getElem hi]) 9 Try.underlying9
    rw [this, show strOfNums (bs.map fun b => (b.toNat : Int)) = strB bs by
      simp only [strOfNums, strB, List.map_map]
      congr 2
      calc bs.map _ = bs.map id := List.map_congr_left (fun b _ => by simp)
        _ = bs := List.map_id _]
set_option maxHeartbeats 400000 in
theorem text_ok (p : Nat) (r : Option Nat) (most : Int) (bs : List UInt8) (w : World) (hW : Wr w p r most bs) :
    Calls Try.prog 17 #[.pointer (some ⟨p, 0, none⟩)] w fun e w' => e = .returned (.string (strB bs)) ∧ w = w' := by
  obtain ⟨v, hp, hR, hne⟩ := hW
  have hc1 : w.cell? ⟨p, 1, none⟩ = some v := by rw [cell_of_row w p 1 _ _ _ hp]; rfl
  have hcv := conv_row w v r bs hR
  clear hp hne hR
  go_enter Try.func17, Try.ntmps17
  go_wp2
  go_ret
  exact ⟨rfl, rfl⟩
/-- What Raw and all that is written by it does: the answer, the bytes behind. -/
def rawE (most : Int) (bs s : List UInt8) : Int := if (s.length : Int) ≤ most - bs.length then 0 else 40
def rawB (most : Int) (bs s : List UInt8) : List UInt8 := if (s.length : Int) ≤ most - bs.length then bs ++ s else bs
def RawPost (p : Nat) (r : Option Nat) (most : Int) (bs s : List UInt8) (w : World) (e : Ending) (w' : World) : Prop :=
  e = .returned (.int .i64 (rawE most bs s)) ∧ ∃ r', Wr w' p r' most (rawB most bs s) ∧ (r' = r ∨ ∃ k, r' = some k ∧ w.heap.size ≤ k) ∧ Chg (fun k => k = p ∨ r = some k) w w'
theorem raw_any (p : Nat) (r : Option Nat) (most : Int) (bs : List UInt8) (s : ByteArray) (w : World) (hW : Wr w p r most bs) (hm0 : 0 ≤ most) (hm : most ≤ 16777216) (hl : bs.length ≤ 16777216) (hs : s.size ≤ maxLen) :
    Calls Try.prog 25 #[.pointer (some ⟨p, 0, none⟩), .string s] w (RawPost p r most bs s.data.toList w) := by
  by_cases h : (s.data.toList.length : Int) ≤ most - bs.length
  · refine (raw_ok p r most bs s w hW hm (by rw [size_list]; exact h)).mono ?_
    rintro e w' ⟨rfl, h2⟩
    refine ⟨by rw [rawE, if_pos h], ?_⟩
    rw [rawB, if_pos h]
    exact h2
  · refine (raw_no p r most bs s w hW hm0 hm hl hs (by rw [size_list]; omega)).mono ?_
    rintro e w' ⟨rfl, h2⟩
    refine ⟨by rw [rawE, if_neg h], r, ?_, .inl rfl, (Chg.of_below h2).mono (fun _ _ h => h.elim)⟩
    rw [rawB, if_neg h]
    exact hW.keeps (Chg.of_below h2) (fun h => h) (fun _ _ h => h)
/-- What a caller sees who has made new blocks ahead of Raw. -/
theorem RawPost.after {p : Nat} {r : Option Nat} {most : Int} {bs s : List UInt8} {w w1 : World} {e : Ending} {w' : World} (hb : Below w.heap.size w w1) (h : RawPost p r most bs s w1 e w') : RawPost p r most bs s w e w' := by
  obtain ⟨h1, r', h2, h3, h4⟩ := h
  refine ⟨h1, r', h2, h3.imp id (fun ⟨k, hk, hl⟩ => ⟨k, hk, Nat.le_trans hb.size hl⟩), ?_⟩
  exact (Chg.of_below hb).mono (fun _ _ h => h.elim) |>.trans h4 (fun _ _ h => h)
theorem conv_one (W : World) (b : Nat) (x : Int) (hc : W.cell? ⟨b, 0, none⟩ = some (.int .u8 x)) :
    (convert 67 9 (.slice (some ⟨b, 0, none⟩) 1 1)).run Try.prog W = .ok (.string (strOfNums [x])) W := by
  refine run_convert_bytes_arg _ 67 5 Try.underlying67 Try.underlying5 _ _ _ 1 [x] rfl ?_ _ Try.underlying9
  intro i hi
  obtain rfl : i = 0 := by simp at hi; omega
  exact hc
set_option maxHeartbeats 400000 in
theorem byte_any (p : Nat) (r : Option Nat) (most : Int) (bs : List UInt8) (x : Int) (w : World) (hW : Wr w p r most bs) (hm0 : 0 ≤ most) (hm : most ≤ 16777216) (hl : bs.length ≤ 16777216) :
    Calls Try.prog 21 #[.pointer (some ⟨p, 0, none⟩), .int .u8 x] w (RawPost p r most bs [UInt8.ofNat x.toNat] w) := by
  have hcv := conv_one
  have hH := Lib.hid hW
  clear hW
  go_enter Try.func21, Try.ntmps21
  go_wp2_with fail
  have hb : Below w.heap.size w (w.alloc (.cells #[.int .u8 x] 5)) := (Below.refl _ _).alloc (Nat.le_refl _) _
  refine (raw_any p r most bs (strOfNums [x]) _ (hH.out.keeps (Chg.of_below hb) (fun h => h) (fun _ _ h => h)) hm0 hm hl (by simp [strOfNums, ByteArray.size, maxLen])).mono ?_
  rintro e w' ⟨rfl, h2⟩
  go_wp2_with fail
  go_ret
  exact RawPost.after hb ⟨rfl, h2⟩
set_option maxHeartbeats 400000 in
theorem num_any (p : Nat) (r : Option Nat) (most : Int) (bs : List UInt8) (n : Int) (w : World) (hW : Wr w p r most bs) (hm0 : 0 ≤ most) (hm : most ≤ 16777216) (hl : bs.length ≤ 16777216) (h0 : 0 ≤ n) (h1 : n < 18446744073709551616) :
    Calls Try.prog 14 #[.pointer (some ⟨p, 0, none⟩), .int .u64 n] w (RawPost p r most bs (putB n.toNat) w) := by
  have hH := Lib.hid hW
  clear hW
  go_enter Try.func14, Try.ntmps14
  go_wp2_with fail
  refine (put_at n _ rfl h0 h1 _).mono ?_
  rintro e w1 ⟨rfl, hb⟩
  go_wp2_with fail
  refine (raw_any p r most bs (strB (putB n.toNat)) _ (hH.out.keeps (Chg.of_below hb) (fun h => h) (fun _ _ h => h)) hm0 hm hl ?hs).mono ?_
  case hs =>
    have := (putB_len n.toNat).2
    rw [size_list]
    unfold maxLen
    show (putB n.toNat).length ≤ _
    omega
  rintro e w' ⟨rfl, h2⟩
  go_wp2_with fail
  go_ret
  exact RawPost.after hb ⟨rfl, h2⟩
set_option maxHeartbeats 400000 in
theorem int_any (p : Nat) (r : Option Nat) (most : Int) (bs : List UInt8) (x : Int) (w : World) (hW : Wr w p r most bs) (hm0 : 0 ≤ most) (hm : most ≤ 16777216) (hl : bs.length ≤ 16777216) (h0 : -9223372036854775808 ≤ x) (h1 : x ≤ 9223372036854775807) :
    Calls Try.prog 16 #[.pointer (some ⟨p, 0, none⟩), .int .i64 x] w (RawPost p r most bs (putB (zigI x).toNat) w) := by
  have hz := zig_bd x h0 h1
  have hH := Lib.hid hW
  clear hW
  go_enter Try.func16, Try.ntmps16
  go_wp2_with fail
  refine (zig_at x h0 h1 _).mono ?_
  rintro e w' ⟨rfl, rfl⟩
  go_wp2_with fail
  refine (num_any p r most bs (zigI x) _ hH.out hm0 hm hl hz.1 hz.2).mono ?_
  rintro e w' ⟨rfl, h2⟩
  go_wp2_with fail
  go_ret
  exact ⟨rfl, h2⟩
end Go.Proofs.Ytbdgmpjaibejnaa
