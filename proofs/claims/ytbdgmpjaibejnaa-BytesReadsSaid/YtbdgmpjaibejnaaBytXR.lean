/- The document's reader (seesawref02): what each method returns, and what becomes of memory. -/
import Derived.Test.YtbdgmpjaibejnaaBytX
namespace Go.Proofs.Ytbdgmpjaibejnaa
open Go.RowKit Go.Lib
set_option linter.unusedVariables false
theorem XRd.cells {w : World} {q : Nat} {s : ByteArray} {a : Nat} {e : Int} (h : XRd w q s a e) :
    w.cell? ⟨q, 0, none⟩ = some (.string s) ∧ w.cell? ⟨q, 1, none⟩ = some (.int .i64 a) ∧ w.cell? ⟨q, 2, none⟩ = some (.int .i64 e) ∧ w.frozen? ⟨q, 1, none⟩ = false ∧ w.frozen? ⟨q, 2, none⟩ = false := by
  obtain ⟨hh, _, _⟩ := h
  exact ⟨by rw [cell_of_row w q 0 _ _ _ hh]; rfl, by rw [cell_of_row w q 1 _ _ _ hh]; rfl, by rw [cell_of_row w q 2 _ _ _ hh]; rfl, frozen_of_row w q 1 _ _ hh, frozen_of_row w q 2 _ _ hh⟩
theorem XRd.setE {w w1 : World} {q : Nat} {s : ByteArray} {a : Nat} {e : Int} (h : XRd w q s a e) (e' : Int) : XRd (w.setCell ⟨q, 2, none⟩ (.int .i64 e')) q s a e' :=
  ⟨heap_setCell_same w q 2 _ _ _ h.head, h.le, h.size⟩
theorem XRd.setAt {w w1 : World} {q : Nat} {s : ByteArray} {a : Nat} {e : Int} (h : XRd w q s a e) (a' : Nat) (ha : a' ≤ s.size) : XRd (w.setCell ⟨q, 1, none⟩ (.int .i64 a')) q s a' e :=
  ⟨heap_setCell_same w q 1 _ _ _ h.head, ha, h.size⟩
theorem chgE (q : Nat) (n : Nat) (k : Nat) (v : Value) (w : World) : Chg (fun k => k = q) w ((w.drewN n).setCell ⟨q, k, none⟩ v) :=
  ((⟨rfl, rfl, rfl, Nat.le_refl _, fun _ _ _ => rfl⟩ : Chg (fun k => k = q) w (w.drewN n))).setCell ⟨q, k, none⟩ v (fun _ => rfl)
theorem chgE0 (q : Nat) (k : Nat) (v : Value) (w : World) : Chg (fun k => k = q) w (w.setCell ⟨q, k, none⟩ v) :=
  (Chg.refl (fun k => k = q) w).setCell ⟨q, k, none⟩ v (fun _ => rfl)
theorem chgN (q : Nat) (n : Nat) (w : World) : Chg (fun k => k = q) w (w.drewN n) := ⟨rfl, rfl, rfl, Nat.le_refl _, fun _ _ _ => rfl⟩
set_option maxHeartbeats 400000 in
theorem xnewReader_ok (s : ByteArray) (h1 : s.size ≤ 16777216) (w : World) :
    Calls Try.prog 34 #[.string s] w fun e w' => e = .returned (.tuple #[.pointer (some ⟨w.heap.size, 0, none⟩), .int .i64 0]) ∧ w' = w.alloc (.cells #[.string s, .int .i64 0, .int .i64 0] 66) := by
  go_enter Try.func34, Try.ntmps34
  go_wp2
  go_ret2
  exact ⟨rfl, rfl⟩
theorem XRd.new (s : ByteArray) (h1 : s.size ≤ 16777216) (w : World) : XRd (w.alloc (.cells #[.string s, .int .i64 0, .int .i64 0] 66)) w.heap.size s 0 0 :=
  ⟨heap_alloc_new w _, Nat.zero_le _, h1⟩
set_option maxHeartbeats 400000 in
theorem xwrong_at (q : Nat) (s : ByteArray) (a : Nat) (e f : Int) (w : World) (hR : XRd w q s a e) :
    Calls Try.prog 59 #[.pointer (some ⟨q, 0, none⟩), .int .i64 f] w fun r w' => r = .returned (.int .i64 f) ∧ w' = w.setCell ⟨q, 2, none⟩ (.int .i64 f) := by
  obtain ⟨c0, c1, c2, f1, f2⟩ := hR.cells
  clear hR
  go_enter Try.func59, Try.ntmps59
  go_wp2
  go_ret
  exact ⟨rfl, rfl⟩
set_option maxHeartbeats 800000 in
theorem xraw_rd (q : Nat) (s : ByteArray) (a : Nat) (e : Int) (n : Int) (w : World) (hR : XRd w q s a e) (v : List UInt8) (err : Int) (a' : Nat) (e' : Int) (h : rd [] e a (rawW n (s.data.toList.drop a)) = (v, err, a', e')) :
    Calls Try.prog 38 #[.pointer (some ⟨q, 0, none⟩), .int .i64 n] w (XPost q s w (.string (strB v)) err a' e') := by
  obtain ⟨c0, c1, c2, f1, f2⟩ := hR.cells
  have HR := Lib.hid hR
  have hle := hR.le
  have hss := hR.size
  clear hR
  unfold rd at h
  by_cases he : e = 0
  · rw [if_neg (by simpa using he)] at h
    subst he
    have hlen : ((s.data.toList.drop a).length : Int) = (s.size : Int) - a := by rw [List.length_drop, ← size_list s]; omega
    by_cases h1 : n < 0
    · rw [show rawW n (s.data.toList.drop a) = ([], 0, 1) from by unfold rawW; rw [if_pos h1]] at h
      simp at h
      obtain ⟨rfl, rfl, rfl, rfl⟩ := h
      clear hlen
      go_enter Try.func38, Try.ntmps38
      go_wp2_with fail
      refine (xwrong_at q s a 0 1 w HR.out).mono ?_
      rintro x w' ⟨rfl, rfl⟩
      go_wp2_with fail
      go_ret2
      exact ⟨rfl, HR.out.setE (w1 := w) _, chgE0 q 2 _ w⟩
    · by_cases h2 : (s.size : Int) - a < n
      · rw [show rawW n (s.data.toList.drop a) = ([], 0, 8) from by unfold rawW; rw [if_neg h1, if_pos (by omega)]] at h
        simp at h
        obtain ⟨rfl, rfl, rfl, rfl⟩ := h
        clear hlen
        go_enter Try.func38, Try.ntmps38
        go_wp2_with fail
        go_quiet (fail)
        go_wp2_with fail
        refine (xwrong_at q s a 0 8 _ (HR.out.drewN nq)).mono ?_
        rintro x w' ⟨rfl, rfl⟩
        go_wp2_with fail
        go_ret2
        exact ⟨rfl, (HR.out.drewN nq).setE (w1 := w) _, chgE q nq 2 _ w⟩
      · rw [show rawW n (s.data.toList.drop a) = ((s.data.toList.drop a).take n.toNat, n.toNat, 0) from by unfold rawW; rw [if_neg h1, if_neg (by omega)]] at h
        simp at h
        have H := Lib.hid h
        clear hlen h
        go_enter Try.func38, Try.ntmps38
        go_wp2_with fail
        go_quiet (fail)
        obtain ⟨nq1, hnq1⟩ : ∃ m, nq = m := ⟨_, rfl⟩
        rw [hnq1]
        clear hnq1 nq
        go_wp2_with fail
        go_quiet (fail)
        go_wp2_with fail
        go_ret2
        obtain ⟨hv, hh0, ha', hh1⟩ := H.out
        have hn : (a : Int) + n = ((a + n.toNat : Nat) : Int) := by omega
        have hx : s.extract a ((a : Int) + n).toNat = strB v := by
          rw [← hv, ← strB_list (s.extract a _), ByteArray.data_extract, Array.toList_extract]
          congr 1
          rw [List.extract_eq_take_drop]
          congr 1
          omega
        subst ha' hh0 hh1
        refine ⟨?_, ?_, chgE q (nq1 + nq) 1 _ w⟩
        · show Ending.returned (.tuple #[.string (s.extract a ((a : Int) + n).toNat), .int .i64 0]) = _
          rw [hx]
        · rw [hn]
          exact (HR.out.drewN (nq1 + nq)).setAt (w1 := w) _ (by omega)
  · rw [if_pos (by simpa using he)] at h
    simp only [Prod.mk.injEq] at h
    obtain ⟨rfl, rfl, rfl, rfl⟩ := h
    have hb1 : (e == 0) = false := by simpa using he
    clear he
    go_enter Try.func38, Try.ntmps38
    go_wp2_with fail
    go_quiet (fail)
    go_wp2_with fail
    go_ret2
    exact ⟨rfl, HR.out.drewN nq, chgN q nq w⟩
set_option maxHeartbeats 800000 in
theorem xbyte_rd (q : Nat) (s : ByteArray) (a : Nat) (e : Int) (w : World) (hR : XRd w q s a e) (v : Int) (err : Int) (a' : Nat) (e' : Int) (h : rd 0 e a (byteW (s.data.toList.drop a)) = (v, err, a', e')) :
    Calls Try.prog 35 #[.pointer (some ⟨q, 0, none⟩)] w (XPost q s w (.int .u8 v) err a' e') := by
  have hr : ∃ l : List UInt8, rd [] e a (rawW 1 (s.data.toList.drop a)) = (l, err, a', e') ∧ (err = 0 → ∃ b : UInt8, l = [b] ∧ v = (b.toNat : Int)) ∧ (err ≠ 0 → v = 0) := by
    unfold rd at h ⊢
    by_cases he : e = 0
    · rw [if_neg (by simpa using he)] at h ⊢
      cases hl : s.data.toList.drop a with
      | nil =>
        rw [hl] at h
        simp [byteW] at h
        obtain ⟨rfl, rfl, rfl, rfl⟩ := h
        exact ⟨[], by simp [rawW], by simp, by simp⟩
      | cons b r =>
        rw [hl] at h
        simp [byteW] at h
        obtain ⟨rfl, rfl, rfl, rfl⟩ := h
        refine ⟨[b], ?_, fun _ => ⟨b, rfl, rfl⟩, by simp⟩
        have hh : ¬ (((b :: r).length : Int) < 1) := by simp; omega
        simp only [rawW, hh, if_false]
        simp
    · rw [if_pos (by simpa using he)] at h ⊢
      simp only [Prod.mk.injEq] at h
      obtain ⟨rfl, rfl, rfl, rfl⟩ := h
      exact ⟨[], rfl, fun h => absurd h he, fun _ => rfl⟩
  obtain ⟨l, hl, hl0, hl1⟩ := hr
  have hK := Lib.hid (xraw_rd q s a e 1 w hR l err a' e' hl)
  clear h hl hR
  by_cases he : err = 0
  · obtain ⟨b, rfl, rfl⟩ := hl0 he
    subst he
    have hx : 0 < (strB [b]).size := by rw [strB_size]; exact Nat.zero_lt_one
    clear hl0 hl1
    go_enter Try.func35, Try.ntmps35
    go_wp2_with fail
    refine hK.out.mono ?_
    rintro x w' ⟨rfl, h2⟩
    go_wp2_with fail
    go_ret2
    exact ⟨rfl, h2⟩
  · have hv := hl1 he
    subst hv
    have hb1 : (err == 0) = false := by simpa using he
    clear hl0 hl1 he
    go_enter Try.func35, Try.ntmps35
    go_wp2_with fail
    refine hK.out.mono ?_
    rintro x w' ⟨rfl, h2⟩
    go_wp2_with fail
    go_ret2
    exact ⟨rfl, h2⟩
set_option maxHeartbeats 800000 in
theorem xnum_rd (q : Nat) (s : ByteArray) (a : Nat) (e : Int) (most : Nat) (w : World) (hR : XRd w q s a e) (v : Nat) (err : Int) (a' : Nat) (e' : Int) (h : rd 0 e a (numW most (s.data.toList.drop a)) = (v, err, a', e')) :
    Calls Try.prog 36 #[.pointer (some ⟨q, 0, none⟩), .int .u64 (most : Int)] w (XPost q s w (.int .u64 (v : Int)) err a' e') := by
  obtain ⟨c0, c1, c2, f1, f2⟩ := hR.cells
  have HR := Lib.hid hR
  have hle := hR.le
  have hss := hR.size
  have hbnd := Lib.hid (numW_size most (s.data.toList.drop a))
  have hlen := Lib.hid (show ((s.data.toList.drop a).length : Int) = (s.size : Int) - a by rw [List.length_drop, ← size_list s]; omega)
  clear hR
  unfold rd at h
  by_cases he : e = 0
  · rw [if_neg (by simpa using he)] at h
    subst he
    obtain ⟨⟨g1, g2, g3⟩, hg⟩ : ∃ p, getB (s.data.toList.drop a) = p := ⟨_, rfl⟩
    have hG : Hid (getB (s.extract a s.size).data.toList = (g1, g2, g3)) := Lib.hid (by rw [extract_list]; exact hg)
    have hes := extract_size s a hss
    have hW : numW most (s.data.toList.drop a) = if g3 = 0 ∧ most < g1 then (g1, g2, 20) else (g1, g2, g3) := by unfold numW; rw [hg]
    by_cases h3 : g3 = 0
    · subst h3
      by_cases hm : most < g1
      · rw [if_pos ⟨rfl, hm⟩] at hW
        rw [hW] at h
        simp at h
        obtain ⟨rfl, rfl, rfl, rfl⟩ := h
        clear hW hg
        go_enter Try.func36, Try.ntmps36
        go_wp2_with fail
        go_quiet ((go_at_call 58; exact Calls.quiet_of_same ((refget_at _ _ _ _ hG.out hes _).mono (fun _ _ h => ⟨h.1, h.2.symm⟩))))
        go_wp2_with fail
        refine (xwrong_at q s a 0 20 _ (HR.out.drewN nq)).mono ?_
        rintro x w' ⟨rfl, rfl⟩
        go_wp2_with fail
        go_ret2
        exact ⟨rfl, (HR.out.drewN nq).setE (w1 := w) _, chgE q nq 2 _ w⟩
      · rw [if_neg (fun h => hm h.2)] at hW
        have hb2 := hbnd.out _ _ _ hW rfl
        rw [hW] at h
        simp at h
        obtain ⟨rfl, rfl, rfl, rfl⟩ := h
        have hsz : a + g2 ≤ s.size := by have := hb2.2.1; have := hlen.out; omega
        clear hW hg hb2
        go_enter Try.func36, Try.ntmps36
        go_wp2_with fail
        go_quiet ((go_at_call 58; exact Calls.quiet_of_same ((refget_at _ _ _ _ hG.out hes _).mono (fun _ _ h => ⟨h.1, h.2.symm⟩))))
        go_wp2_with fail
        go_ret2
        refine ⟨rfl, ?_, chgE q nq 1 _ w⟩
        exact (HR.out.drewN nq).setAt (w1 := w) (a + g2) hsz
    · rw [if_neg (fun h => h3 h.1)] at hW
      rw [hW] at h
      simp [h3] at h
      obtain ⟨rfl, rfl, rfl, rfl⟩ := h
      have hb3 : ((g3 : Int) == 0) = false := by simpa using h3
      clear hW hg
      go_enter Try.func36, Try.ntmps36
      go_wp2_with fail
      go_quiet ((go_at_call 58; exact Calls.quiet_of_same ((refget_at _ _ _ _ hG.out hes _).mono (fun _ _ h => ⟨h.1, h.2.symm⟩))))
      go_wp2_with fail
      refine (xwrong_at q s a 0 g3 _ (HR.out.drewN nq)).mono ?_
      rintro x w' ⟨rfl, rfl⟩
      go_wp2_with fail
      go_ret2
      exact ⟨rfl, (HR.out.drewN nq).setE (w1 := w) _, chgE q nq 2 _ w⟩
  · rw [if_pos (by simpa using he)] at h
    simp only [Prod.mk.injEq] at h
    obtain ⟨rfl, rfl, rfl, rfl⟩ := h
    have hb1 : (e == 0) = false := by simpa using he
    clear he
    go_enter Try.func36, Try.ntmps36
    go_wp2_with fail
    go_quiet (fail)
    go_wp2_with fail
    go_ret2
    exact ⟨rfl, HR.out.drewN nq, chgN q nq w⟩
set_option maxHeartbeats 800000 in
theorem xint_rd (q : Nat) (s : ByteArray) (a : Nat) (e : Int) (w : World) (hR : XRd w q s a e) (v : Nat) (err : Int) (a' : Nat) (e' : Int) (h : rd 0 e a (numW 18446744073709551615 (s.data.toList.drop a)) = (v, err, a', e')) :
    Calls Try.prog 37 #[.pointer (some ⟨q, 0, none⟩)] w (XPost q s w (.int .i64 (zagI v)) err a' e') := by
  have hv : v < 18446744073709551616 ∧ (err ≠ 0 → v = 0) := by
    unfold rd at h
    split at h
    · simp only [Prod.mk.injEq] at h; omega
    · obtain ⟨⟨x, size, er⟩, hx⟩ : ∃ p, numW 18446744073709551615 (s.data.toList.drop a) = p := ⟨_, rfl⟩
      rw [hx] at h
      split at h
      · rename_i hz
        have := numW_size _ _ _ _ _ hx hz
        simp only [Prod.mk.injEq] at h
        omega
      · simp only [Prod.mk.injEq] at h; omega
  have hK := Lib.hid (xnum_rd q s a e 18446744073709551615 w hR v err a' e' h)
  have hz := Lib.hid (fun W => refzag_at (v : Int) (by omega) (by omega) W)
  obtain ⟨hv1, hv2⟩ := hv
  clear h hR hv1
  by_cases he : err = 0
  · subst he
    clear hv2
    go_enter Try.func37, Try.ntmps37
    go_wp2_with fail
    refine hK.out.mono ?_
    rintro r w' ⟨rfl, h2⟩
    go_wp2_with fail
    refine (hz.out _).mono ?_
    rintro r w'' ⟨rfl, rfl⟩
    go_wp2_with fail
    go_ret2
    exact ⟨rfl, h2⟩
  · have hv0 := hv2 he
    subst hv0
    have hb1 : (err == 0) = false := by simpa using he
    clear hv2 he hz
    go_enter Try.func37, Try.ntmps37
    go_wp2_with fail
    refine hK.out.mono ?_
    rintro r w' ⟨rfl, h2⟩
    go_wp2_with fail
    go_ret2
    exact ⟨rfl, h2⟩
set_option maxHeartbeats 400000 in
theorem xleft_rd (q : Nat) (s : ByteArray) (a : Nat) (e : Int) (w : World) (hR : XRd w q s a e) :
    Calls Try.prog 43 #[.pointer (some ⟨q, 0, none⟩)] w fun r w' => r = .returned (.int .i64 ((s.size : Int) - a)) ∧ ∃ n, w' = w.drewN n := by
  obtain ⟨c0, c1, c2, f1, f2⟩ := hR.cells
  have hle := hR.le
  have hss := hR.size
  clear hR
  go_enter Try.func43, Try.ntmps43
  go_wp2_with fail
  go_quiet (fail)
  go_wp2
  go_ret
  exact ⟨rfl, _, rfl⟩
set_option maxHeartbeats 400000 in
theorem xwrong_rd (q : Nat) (s : ByteArray) (a : Nat) (e : Int) (w : World) (hR : XRd w q s a e) (p err : Int) (h : (if e = 0 then ((0 : Int), (0 : Int)) else ((a : Int), e)) = (p, err)) :
    Calls Try.prog 42 #[.pointer (some ⟨q, 0, none⟩)] w fun r w' => r = .returned (.tuple #[.int .i64 p, .int .i64 err]) ∧ ∃ n, w' = w.drewN n := by
  obtain ⟨c0, c1, c2, f1, f2⟩ := hR.cells
  clear hR
  by_cases he : e = 0
  · rw [if_pos he] at h
    simp only [Prod.mk.injEq] at h
    obtain ⟨rfl, rfl⟩ := h
    subst he
    go_enter Try.func42, Try.ntmps42
    go_wp2
    go_ret2
    exact ⟨rfl, 0, rfl⟩
  · rw [if_neg he] at h
    simp only [Prod.mk.injEq] at h
    obtain ⟨rfl, rfl⟩ := h
    have hb1 : (e == 0) = false := by simpa using he
    clear he
    go_enter Try.func42, Try.ntmps42
    go_wp2_with fail
    go_quiet (fail)
    go_wp2
    go_ret2
    exact ⟨rfl, _, rfl⟩
set_option maxHeartbeats 800000 in
theorem xfail_rd (q : Nat) (s : ByteArray) (a : Nat) (e place f : Int) (w : World) (hR : XRd w q s a e) (err : Int) (a' : Nat) (e' : Int) (h : failR e a place f = (err, a', e')) :
    Calls Try.prog 40 #[.pointer (some ⟨q, 0, none⟩), .int .i64 place, .int .i64 f] w (XEPost q s w err a' e') := by
  obtain ⟨c0, c1, c2, f1, f2⟩ := hR.cells
  have HR := Lib.hid hR
  have hle := hR.le
  have hss := hR.size
  clear hR
  unfold failR at h
  by_cases he : e = 0
  · rw [if_neg (by simpa using he)] at h
    subst he
    by_cases hb : place < 0 ∨ (a : Int) < place ∨ f = 0
    · rw [if_pos hb] at h
      simp only [Prod.mk.injEq] at h
      obtain ⟨rfl, rfl, rfl⟩ := h
      by_cases h1 : place < 0
      · clear hb
        go_enter Try.func40, Try.ntmps40
        go_wp2_with fail
        go_ret
        exact ⟨rfl, HR.out, Chg.refl _ _⟩
      · by_cases h2 : (a : Int) < place
        · clear hb
          go_enter Try.func40, Try.ntmps40
          go_wp2_with fail
          go_ret
          exact ⟨rfl, HR.out, Chg.refl _ _⟩
        · have h3 : f = 0 := by omega
          subst h3
          clear hb
          go_enter Try.func40, Try.ntmps40
          go_wp2_with fail
          go_ret
          exact ⟨rfl, HR.out, Chg.refl _ _⟩
    · rw [if_neg hb] at h
      simp only [Prod.mk.injEq] at h
      obtain ⟨rfl, rfl, rfl⟩ := h
      have h1 : 0 ≤ place := by omega
      have h2 : place ≤ a := by omega
      have h3 : (f == 0) = false := by simp; omega
      clear hb
      obtain ⟨pn, rfl⟩ : ∃ n : Nat, place = n := ⟨place.toNat, by omega⟩
      have HR2 := Lib.hid (HR.out.setAt (w1 := w) pn (by omega))
      go_enter Try.func40, Try.ntmps40
      go_wp2_with fail
      refine (xwrong_at q s pn 0 f _ HR2.out).mono ?_
      rintro x w' ⟨rfl, rfl⟩
      go_wp2_with fail
      go_ret
      exact ⟨rfl, HR2.out.setE (w1 := w) _, (chgE0 q 1 _ w).setCell ⟨q, 2, none⟩ _ (fun _ => rfl)⟩
  · rw [if_pos (by simpa using he)] at h
    simp only [Prod.mk.injEq] at h
    obtain ⟨rfl, rfl, rfl⟩ := h
    have hb1 : (e == 0) = false := by simpa using he
    clear he
    go_enter Try.func40, Try.ntmps40
    go_wp2_with fail
    go_ret
    exact ⟨rfl, HR.out, Chg.refl _ _⟩
set_option maxHeartbeats 800000 in
theorem xend_rd (q : Nat) (s : ByteArray) (a : Nat) (e : Int) (w : World) (hR : XRd w q s a e) (v : Bool) (err : Int) (a' : Nat) (e' : Int) (h : rd false e a (endW (s.data.toList.drop a)) = (v, err, a', e')) :
    Calls Try.prog 41 #[.pointer (some ⟨q, 0, none⟩)] w (XEPost q s w err a' e') := by
  obtain ⟨c0, c1, c2, f1, f2⟩ := hR.cells
  have HR := Lib.hid hR
  have hle := hR.le
  have hss := hR.size
  have hlen : ((s.data.toList.drop a).length : Int) = (s.size : Int) - a := by rw [List.length_drop, ← size_list s]; omega
  clear hR
  unfold rd at h
  by_cases he : e = 0
  · rw [if_neg (by simpa using he)] at h
    subst he
    cases hl : s.data.toList.drop a with
    | nil =>
      rw [hl] at h hlen
      simp [endW] at h
      obtain ⟨rfl, rfl, rfl, rfl⟩ := h
      have h0 : ¬ (0 < (s.size : Int) - a) := by simp at hlen; omega
      clear hlen hl
      go_enter Try.func41, Try.ntmps41
      go_wp2_with fail
      refine (xleft_rd q s a 0 w HR.out).mono ?_
      rintro x w' ⟨rfl, n1, rfl⟩
      go_wp2_with fail
      go_ret
      exact ⟨rfl, HR.out.drewN n1, chgN q n1 w⟩
    | cons b r =>
      rw [hl] at h hlen
      simp [endW] at h
      obtain ⟨rfl, rfl, rfl, rfl⟩ := h
      have h0 : 0 < (s.size : Int) - a := by simp at hlen; omega
      clear hlen hl
      go_enter Try.func41, Try.ntmps41
      go_wp2_with fail
      refine (xleft_rd q s a 0 w HR.out).mono ?_
      rintro x w' ⟨rfl, n1, rfl⟩
      go_wp2_with fail
      refine (xwrong_at q s a 0 10 _ (HR.out.drewN n1)).mono ?_
      rintro x w' ⟨rfl, rfl⟩
      go_wp2_with fail
      go_ret
      exact ⟨rfl, (HR.out.drewN n1).setE (w1 := w) _, chgE q n1 2 _ w⟩
  · rw [if_pos (by simpa using he)] at h
    simp only [Prod.mk.injEq] at h
    obtain ⟨rfl, rfl, rfl, rfl⟩ := h
    have hb1 : (e == 0) = false := by simpa using he
    clear he hlen
    go_enter Try.func41, Try.ntmps41
    go_wp2_with fail
    go_ret
    exact ⟨rfl, HR.out, Chg.refl _ _⟩
end Go.Proofs.Ytbdgmpjaibejnaa
