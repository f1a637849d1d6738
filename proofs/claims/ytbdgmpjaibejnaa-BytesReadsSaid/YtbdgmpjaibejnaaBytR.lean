/- The reader: what each method returns, and what becomes of memory. -/
import Derived.Test.YtbdgmpjaibejnaaBytW
namespace Go.Proofs.Ytbdgmpjaibejnaa
open Go.RowKit Go.Lib
set_option linter.unusedVariables false
/-- At q lies a reader of s, at a place, with what was wrong. -/
structure Rd (w : World) (q : Nat) (s : ByteArray) (at_ : Nat) (e : Int) : Prop where
  head : w.heap[q]? = some (.cells #[.string s, .int .i64 at_, .int .i64 e] 69 (0, 0))
  le : at_ ≤ s.size
  size : s.size ≤ 16777216
theorem Rd.keeps {w w' : World} {q : Nat} {s : ByteArray} {a : Nat} {e : Int} {S : Nat → Prop} (h : Rd w q s a e) (hc : Chg S w w') (hq : ¬ S q) : Rd w' q s a e := ⟨hc.keeps h.head hq, h.le, h.size⟩
/-- What reading leaves. -/
def RPost (q : Nat) (s : ByteArray) (w : World) (v : Value) (err : Int) (at' : Nat) (e' : Int) (e : Ending) (w' : World) : Prop :=
  e = .returned (.tuple #[v, .int .i64 err]) ∧ Rd w' q s at' e' ∧ Chg (fun k => k = q) w w'
theorem RPost.after {q : Nat} {s : ByteArray} {w w1 : World} {v : Value} {err : Int} {at' : Nat} {e' : Int} {e : Ending} {w' : World} (hb : Below w.heap.size w w1) (h : RPost q s w1 v err at' e' e w') : RPost q s w v err at' e' e w' :=
  ⟨h.1, h.2.1, (Chg.of_below hb).mono (fun _ _ h => h.elim) |>.trans h.2.2 (fun _ _ h => h)⟩
/-- What stands there, as a number that is at most 'most'. -/
def numW (most : Nat) (l : List UInt8) : Nat × Nat × Nat := if (getB l).2.2 = 0 ∧ most < (getB l).1 then ((getB l).1, (getB l).2.1, 20) else getB l
set_option maxHeartbeats 400000 in
theorem num1_any (t : ByteArray) (b : Nat) (most : Nat) (w : World) (hs : t.size ≤ maxLen) (hc : w.cell? ⟨b, 0, none⟩ = some (.int .u64 (most : Int))) :
    Calls Try.prog 45 #[.string t, .pointer (some ⟨b, 0, none⟩)] w fun e w' => e = .returned (.tuple #[.int .u64 (numW most t.data.toList).1, .int .i64 (numW most t.data.toList).2.1, .int .i64 (numW most t.data.toList).2.2]) ∧ w' = w := by
  obtain ⟨⟨g1, g2, g3⟩, hg⟩ : ∃ p, getB t.data.toList = p := ⟨_, rfl⟩
  have hG := Lib.hid hg
  unfold numW
  rw [hg]
  clear hg
  by_cases h3 : g3 = 0
  · subst h3
    by_cases hm : most < g1
    · simp only [hm, and_self, if_true]
      go_enter Try.func45, Try.ntmps45
      go_wp2_with fail
      refine (get_at t _ _ _ hG.out hs _).mono ?_
      rintro e w' ⟨rfl, rfl⟩
      go_wp2_with fail
      go_ret3
      exact ⟨rfl, rfl⟩
    · simp only [hm, and_false, if_false]
      go_enter Try.func45, Try.ntmps45
      go_wp2_with fail
      refine (get_at t _ _ _ hG.out hs _).mono ?_
      rintro e w' ⟨rfl, rfl⟩
      go_wp2_with fail
      go_ret3
      exact ⟨rfl, rfl⟩
  · have hb : ((g3 : Int) == 0) = false := by simpa using h3
    simp only [h3, false_and, if_false]
    clear h3
    go_enter Try.func45, Try.ntmps45
    go_wp2_with fail
    refine (get_at t _ _ _ hG.out hs _).mono ?_
    rintro e w' ⟨rfl, rfl⟩
    go_wp2_with fail
    go_ret3
    exact ⟨rfl, rfl⟩
theorem num1_at (t : ByteArray) (b : Nat) (most x size err : Nat) (w : World) (h : numW most t.data.toList = (x, size, err)) (hs : t.size ≤ maxLen) (hc : w.cell? ⟨b, 0, none⟩ = some (.int .u64 (most : Int))) :
    Calls Try.prog 45 #[.string t, .pointer (some ⟨b, 0, none⟩)] w fun e w' => e = .returned (.tuple #[.int .u64 x, .int .i64 size, .int .i64 err]) ∧ w' = w := by
  have := num1_any t b most w hs hc
  rw [h] at this
  exact this
theorem extract_list (s : ByteArray) (a : Nat) : (s.extract a s.size).data.toList = s.data.toList.drop a := by
  rw [ByteArray.data_extract, Array.toList_extract]
  simp only [List.extract_eq_take_drop]
  exact List.take_of_length_le (by rw [List.length_drop, ← size_list]; omega)
theorem extract_size (s : ByteArray) (a : Nat) (h : s.size ≤ 16777216) : (s.extract a s.size).size ≤ maxLen := by
  rw [size_list, extract_list, List.length_drop, ← size_list]; unfold maxLen; omega
/-- What Byte tells of what stands there. -/
def ByteW (t : ByteArray) (x : Int) (size err : Nat) : Prop := (t.size = 0 ∧ x = 0 ∧ size = 0 ∧ err = 8) ∨ (∃ h : 0 < t.size, x = t[0].toNat ∧ size = 1 ∧ err = 0)
/-- What End tells of what stands there. -/
def EndW (t : ByteArray) (x : Bool) (err : Nat) : Prop := (t.size = 0 ∧ x = true ∧ err = 0) ∨ (0 < t.size ∧ x = false ∧ err = 10)
set_option maxHeartbeats 400000 in
theorem byte1_at (t : ByteArray) (x : Int) (size err : Nat) (w : World) (h : ByteW t x size err) (hs : t.size ≤ maxLen) :
    Calls Try.prog 53 #[.string t] w fun e w' => e = .returned (.tuple #[.int .u8 x, .int .i64 size, .int .i64 err]) ∧ w' = w := by
  unfold maxLen at hs
  rcases h with ⟨h0, rfl, rfl, rfl⟩ | ⟨h0, rfl, rfl, rfl⟩
  · have he : t = ⟨#[]⟩ := ByteArray.ext (Array.eq_empty_of_size_eq_zero h0)
    subst he
    clear h0 hs
    go_enter Try.func53, Try.ntmps53
    go_wp2
    go_ret3
    exact ⟨rfl, rfl⟩
  · have he : t.toList.isEmpty = false := by
      rw [Go.ByteArray.toList_eq, List.isEmpty_eq_false_iff]
      intro h
      rw [size_list, h] at h0
      exact absurd h0 (by decide)
    go_enter Try.func53, Try.ntmps53
    go_wp2
    go_ret3
    exact ⟨rfl, rfl⟩
/-- What Raw of n tells of what stands there. -/
def rawW (n : Int) (l : List UInt8) : List UInt8 × Nat × Nat := if n < 0 then ([], 0, 1) else if (l.length : Int) < n then ([], 0, 8) else (l.take n.toNat, n.toNat, 0)
set_option maxHeartbeats 400000 in
theorem raw1_at (t : ByteArray) (b : Nat) (n : Int) (l : List UInt8) (size err : Nat) (w : World) (h : rawW n t.data.toList = (l, size, err)) (hs : t.size ≤ maxLen) (hc : w.cell? ⟨b, 0, none⟩ = some (.int .i64 n)) :
    Calls Try.prog 55 #[.string t, .pointer (some ⟨b, 0, none⟩)] w fun e w' => e = .returned (.tuple #[.string (strB l), .int .i64 size, .int .i64 err]) ∧ ∃ k, w' = w.drewN k := by
  unfold maxLen at hs
  unfold rawW at h
  by_cases h0 : n < 0
  · rw [if_pos h0] at h
    simp only [Prod.mk.injEq] at h
    obtain ⟨rfl, rfl, rfl⟩ := h
    go_enter Try.func55, Try.ntmps55
    go_wp2
    go_ret3
    exact ⟨rfl, 0, rfl⟩
  · rw [if_neg h0] at h
    by_cases h1 : (t.size : Int) < n
    · rw [if_pos (by rw [← size_list]; exact h1)] at h
      simp only [Prod.mk.injEq] at h
      obtain ⟨rfl, rfl, rfl⟩ := h
      go_enter Try.func55, Try.ntmps55
      go_wp2
      go_ret3
      exact ⟨rfl, 0, rfl⟩
    · rw [if_neg (by rw [← size_list]; exact h1)] at h
      simp only [Prod.mk.injEq] at h
      obtain ⟨rfl, rfl, rfl⟩ := h
      obtain ⟨k, rfl⟩ := Int.eq_ofNat_of_zero_le (by omega : 0 ≤ n)
      go_enter Try.func55, Try.ntmps55
      go_wp2_with fail
      go_quiet (fail)
      go_wp2
      go_ret3
      refine ⟨?_, _, rfl⟩
      have e1 : t.extract 0 k = strB (List.take k t.data.toList) := by
        apply ByteArray.ext
        apply Array.toList_inj.1
        rw [ByteArray.data_extract, Array.toList_extract]
        simp [strB]
      simp only [Int.toNat_natCast]
      rw [← e1]
      rfl
set_option maxHeartbeats 400000 in
theorem end1_at (t : ByteArray) (x : Bool) (err : Nat) (w : World) (h : EndW t x err) (hs : t.size ≤ maxLen) :
    Calls Try.prog 57 #[.string t] w fun e w' => e = .returned (.tuple #[.bool x, .int .i64 (0 : Nat), .int .i64 err]) ∧ w' = w := by
  unfold maxLen at hs
  rcases h with ⟨h0, rfl, rfl⟩ | ⟨h0, rfl, rfl⟩
  · have he : t = ⟨#[]⟩ := ByteArray.ext (Array.eq_empty_of_size_eq_zero h0)
    subst he
    clear h0 hs
    go_enter Try.func57, Try.ntmps57
    go_wp2
    go_ret3
    exact ⟨rfl, rfl⟩
  · have he : t.toList.isEmpty = false := by
      rw [Go.ByteArray.toList_eq, List.isEmpty_eq_false_iff]
      intro h
      rw [size_list, h] at h0
      exact absurd h0 (by decide)
    have he2 : (!t.toList.isEmpty) = true := by rw [he]; rfl
    go_enter Try.func57, Try.ntmps57
    go_wp2
    go_ret3
    exact ⟨rfl, rfl⟩
set_option maxHeartbeats 400000 in
theorem read64_was (q : Nat) (s : ByteArray) (a : Nat) (e : Int) (c : Array Value) (w : World) (hR : Rd w q s a e) (he : e ≠ 0) :
    Calls Try.prog 44 #[.pointer (some ⟨q, 0, none⟩), .func (.func 45) #[] c] w (RPost q s w (.int .u64 0) e a e) := by
  obtain ⟨hh, hle, hss⟩ := hR
  have hc0 : w.cell? ⟨q, 0, none⟩ = some (.string s) := by rw [cell_of_row w q 0 _ _ _ hh]; rfl
  have hc1 : w.cell? ⟨q, 1, none⟩ = some (.int .i64 a) := by rw [cell_of_row w q 1 _ _ _ hh]; rfl
  have hc2 : w.cell? ⟨q, 2, none⟩ = some (.int .i64 e) := by rw [cell_of_row w q 2 _ _ _ hh]; rfl
  have hf1 := frozen_of_row w q 1 _ _ hh
  have hf2 := frozen_of_row w q 2 _ _ hh
  have hH := Lib.hid hh
  have hb1 : (e == 0) = false := by simpa using he
  have hb2 : (e != 0) = true := by simpa using he
  clear hh he
  go_enter Try.func44, Try.ntmps44
  go_wp2_with fail
  go_quiet (fail)
  go_wp2_with fail
  go_ret2
  exact ⟨rfl, ⟨hH.out, hle, hss⟩, ⟨rfl, rfl, rfl, Nat.le_refl _, fun _ _ _ => rfl⟩⟩
set_option maxHeartbeats 400000 in
theorem read64_ok (q : Nat) (s : ByteArray) (a : Nat) (b : Nat) (x size most : Nat) (w : World) (hR : Rd w q s a 0) (hb : w.cell? ⟨b, 0, none⟩ = some (.int .u64 (most : Int))) (h : numW most (s.data.toList.drop a) = (x, size, 0)) (hsz : a + size ≤ s.size) :
    Calls Try.prog 44 #[.pointer (some ⟨q, 0, none⟩), .func (.func 45) #[] #[.pointer (some ⟨b, 0, none⟩)]] w (RPost q s w (.int .u64 x) 0 (a + size) 0) := by
  obtain ⟨hh, hle, hss⟩ := hR
  have hc0 : w.cell? ⟨q, 0, none⟩ = some (.string s) := by rw [cell_of_row w q 0 _ _ _ hh]; rfl
  have hc1 : w.cell? ⟨q, 1, none⟩ = some (.int .i64 a) := by rw [cell_of_row w q 1 _ _ _ hh]; rfl
  have hc2 : w.cell? ⟨q, 2, none⟩ = some (.int .i64 0) := by rw [cell_of_row w q 2 _ _ _ hh]; rfl
  have hf1 := frozen_of_row w q 1 _ _ hh
  have hf2 := frozen_of_row w q 2 _ _ hh
  have hH := Lib.hid hh
  have hX := Lib.hid h
  clear hh h
  go_enter Try.func44, Try.ntmps44
  go_wp2_with fail
  go_quiet ((go_at_call 45; exact Calls.quiet_of_same (num1_at _ _ most x size 0 _ (by rw [extract_list]; exact hX.out) (extract_size s a hss) hb)))
  go_wp2_with fail
  go_ret2
  refine ⟨rfl, ⟨?_, hsz, hss⟩, ((⟨rfl, rfl, rfl, Nat.le_refl _, fun _ _ _ => rfl⟩ : Chg (fun k => k = q) w (w.drewN nq))).setCell ⟨q, 1, none⟩ _ (fun _ => rfl)⟩
  exact heap_setCell_same _ q 1 _ _ _ hH.out
set_option maxHeartbeats 400000 in
theorem read64_no (q : Nat) (s : ByteArray) (a : Nat) (b : Nat) (x size err most : Nat) (w : World) (hR : Rd w q s a 0) (hb : w.cell? ⟨b, 0, none⟩ = some (.int .u64 (most : Int))) (h : numW most (s.data.toList.drop a) = (x, size, err)) (herr : err ≠ 0) :
    Calls Try.prog 44 #[.pointer (some ⟨q, 0, none⟩), .func (.func 45) #[] #[.pointer (some ⟨b, 0, none⟩)]] w (RPost q s w (.int .u64 0) err a err) := by
  obtain ⟨hh, hle, hss⟩ := hR
  have hc0 : w.cell? ⟨q, 0, none⟩ = some (.string s) := by rw [cell_of_row w q 0 _ _ _ hh]; rfl
  have hc1 : w.cell? ⟨q, 1, none⟩ = some (.int .i64 a) := by rw [cell_of_row w q 1 _ _ _ hh]; rfl
  have hc2 : w.cell? ⟨q, 2, none⟩ = some (.int .i64 0) := by rw [cell_of_row w q 2 _ _ _ hh]; rfl
  have hf1 := frozen_of_row w q 1 _ _ hh
  have hf2 := frozen_of_row w q 2 _ _ hh
  have hH := Lib.hid hh
  have hb1 : ((err : Int) == 0) = false := by simpa using herr
  have hb2 : ((err : Int) != 0) = true := by simpa using herr
  have hX := Lib.hid h
  clear hh h herr
  go_enter Try.func44, Try.ntmps44
  go_wp2_with fail
  go_quiet ((go_at_call 45; exact Calls.quiet_of_same (num1_at _ _ most x size err _ (by rw [extract_list]; exact hX.out) (extract_size s a hss) hb)))
  go_wp2_with fail
  go_ret2
  refine ⟨rfl, ⟨?_, hle, hss⟩, ((⟨rfl, rfl, rfl, Nat.le_refl _, fun _ _ _ => rfl⟩ : Chg (fun k => k = q) w (w.drewN nq))).setCell ⟨q, 2, none⟩ _ (fun _ => rfl)⟩
  exact heap_setCell_same _ q 2 _ _ _ hH.out
set_option maxHeartbeats 400000 in
theorem read8_was (q : Nat) (s : ByteArray) (a : Nat) (e : Int) (c : Array Value) (w : World) (hR : Rd w q s a e) (he : e ≠ 0) :
    Calls Try.prog 52 #[.pointer (some ⟨q, 0, none⟩), .func (.func 53) #[] c] w (RPost q s w (.int .u8 0) e a e) := by
  obtain ⟨hh, hle, hss⟩ := hR
  have hc0 : w.cell? ⟨q, 0, none⟩ = some (.string s) := by rw [cell_of_row w q 0 _ _ _ hh]; rfl
  have hc1 : w.cell? ⟨q, 1, none⟩ = some (.int .i64 a) := by rw [cell_of_row w q 1 _ _ _ hh]; rfl
  have hc2 : w.cell? ⟨q, 2, none⟩ = some (.int .i64 e) := by rw [cell_of_row w q 2 _ _ _ hh]; rfl
  have hf1 := frozen_of_row w q 1 _ _ hh
  have hf2 := frozen_of_row w q 2 _ _ hh
  have hH := Lib.hid hh
  have hb1 : (e == 0) = false := by simpa using he
  have hb2 : (e != 0) = true := by simpa using he
  clear hh he
  go_enter Try.func52, Try.ntmps52
  go_wp2_with fail
  go_quiet (fail)
  go_wp2_with fail
  go_ret2
  exact ⟨rfl, ⟨hH.out, hle, hss⟩, ⟨rfl, rfl, rfl, Nat.le_refl _, fun _ _ _ => rfl⟩⟩
set_option maxHeartbeats 400000 in
theorem read8_ok (q : Nat) (s : ByteArray) (a : Nat) (x : Int) (size : Nat) (w : World) (hR : Rd w q s a 0) (h : ByteW (s.extract a s.size) x size 0) (hsz : a + size ≤ s.size) :
    Calls Try.prog 52 #[.pointer (some ⟨q, 0, none⟩), .func (.func 53) #[] #[]] w (RPost q s w (.int .u8 x) 0 (a + size) 0) := by
  obtain ⟨hh, hle, hss⟩ := hR
  have hc0 : w.cell? ⟨q, 0, none⟩ = some (.string s) := by rw [cell_of_row w q 0 _ _ _ hh]; rfl
  have hc1 : w.cell? ⟨q, 1, none⟩ = some (.int .i64 a) := by rw [cell_of_row w q 1 _ _ _ hh]; rfl
  have hc2 : w.cell? ⟨q, 2, none⟩ = some (.int .i64 0) := by rw [cell_of_row w q 2 _ _ _ hh]; rfl
  have hf1 := frozen_of_row w q 1 _ _ hh
  have hf2 := frozen_of_row w q 2 _ _ hh
  have hH := Lib.hid hh
  have hX := Lib.hid h
  clear hh h
  go_enter Try.func52, Try.ntmps52
  go_wp2_with fail
  go_quiet ((go_at_call 53; exact Calls.quiet_of_same (byte1_at _ x size 0 _ hX.out (extract_size s a hss))))
  go_wp2_with fail
  go_ret2
  refine ⟨rfl, ⟨?_, hsz, hss⟩, ((⟨rfl, rfl, rfl, Nat.le_refl _, fun _ _ _ => rfl⟩ : Chg (fun k => k = q) w (w.drewN nq))).setCell ⟨q, 1, none⟩ _ (fun _ => rfl)⟩
  exact heap_setCell_same _ q 1 _ _ _ hH.out
set_option maxHeartbeats 400000 in
theorem read8_no (q : Nat) (s : ByteArray) (a : Nat) (x : Int) (size err : Nat) (w : World) (hR : Rd w q s a 0) (h : ByteW (s.extract a s.size) x size err) (herr : err ≠ 0) :
    Calls Try.prog 52 #[.pointer (some ⟨q, 0, none⟩), .func (.func 53) #[] #[]] w (RPost q s w (.int .u8 0) err a err) := by
  obtain ⟨hh, hle, hss⟩ := hR
  have hc0 : w.cell? ⟨q, 0, none⟩ = some (.string s) := by rw [cell_of_row w q 0 _ _ _ hh]; rfl
  have hc1 : w.cell? ⟨q, 1, none⟩ = some (.int .i64 a) := by rw [cell_of_row w q 1 _ _ _ hh]; rfl
  have hc2 : w.cell? ⟨q, 2, none⟩ = some (.int .i64 0) := by rw [cell_of_row w q 2 _ _ _ hh]; rfl
  have hf1 := frozen_of_row w q 1 _ _ hh
  have hf2 := frozen_of_row w q 2 _ _ hh
  have hH := Lib.hid hh
  have hb1 : ((err : Int) == 0) = false := by simpa using herr
  have hb2 : ((err : Int) != 0) = true := by simpa using herr
  have hX := Lib.hid h
  clear hh h herr
  go_enter Try.func52, Try.ntmps52
  go_wp2_with fail
  go_quiet ((go_at_call 53; exact Calls.quiet_of_same (byte1_at _ x size err _ hX.out (extract_size s a hss))))
  go_wp2_with fail
  go_ret2
  refine ⟨rfl, ⟨?_, hle, hss⟩, ((⟨rfl, rfl, rfl, Nat.le_refl _, fun _ _ _ => rfl⟩ : Chg (fun k => k = q) w (w.drewN nq))).setCell ⟨q, 2, none⟩ _ (fun _ => rfl)⟩
  exact heap_setCell_same _ q 2 _ _ _ hH.out
set_option maxHeartbeats 400000 in
theorem readS_was (q : Nat) (s : ByteArray) (a : Nat) (e : Int) (c : Array Value) (w : World) (hR : Rd w q s a e) (he : e ≠ 0) :
    Calls Try.prog 54 #[.pointer (some ⟨q, 0, none⟩), .func (.func 55) #[] c] w (RPost q s w (.string ⟨#[]⟩) e a e) := by
  obtain ⟨hh, hle, hss⟩ := hR
  have hc0 : w.cell? ⟨q, 0, none⟩ = some (.string s) := by rw [cell_of_row w q 0 _ _ _ hh]; rfl
  have hc1 : w.cell? ⟨q, 1, none⟩ = some (.int .i64 a) := by rw [cell_of_row w q 1 _ _ _ hh]; rfl
  have hc2 : w.cell? ⟨q, 2, none⟩ = some (.int .i64 e) := by rw [cell_of_row w q 2 _ _ _ hh]; rfl
  have hf1 := frozen_of_row w q 1 _ _ hh
  have hf2 := frozen_of_row w q 2 _ _ hh
  have hH := Lib.hid hh
  have hb1 : (e == 0) = false := by simpa using he
  have hb2 : (e != 0) = true := by simpa using he
  clear hh he
  go_enter Try.func54, Try.ntmps54
  go_wp2_with fail
  go_quiet (fail)
  go_wp2_with fail
  go_ret2
  exact ⟨rfl, ⟨hH.out, hle, hss⟩, ⟨rfl, rfl, rfl, Nat.le_refl _, fun _ _ _ => rfl⟩⟩
set_option maxHeartbeats 400000 in
theorem readS_ok (q : Nat) (s : ByteArray) (a : Nat) (b : Nat) (n : Int) (l : List UInt8) (size : Nat) (w : World) (hR : Rd w q s a 0) (hb : w.cell? ⟨b, 0, none⟩ = some (.int .i64 n)) (h : rawW n (s.data.toList.drop a) = (l, size, 0)) (hsz : a + size ≤ s.size) :
    Calls Try.prog 54 #[.pointer (some ⟨q, 0, none⟩), .func (.func 55) #[] #[.pointer (some ⟨b, 0, none⟩)]] w (RPost q s w (.string (strB l)) 0 (a + size) 0) := by
  obtain ⟨hh, hle, hss⟩ := hR
  have hc0 : w.cell? ⟨q, 0, none⟩ = some (.string s) := by rw [cell_of_row w q 0 _ _ _ hh]; rfl
  have hc1 : w.cell? ⟨q, 1, none⟩ = some (.int .i64 a) := by rw [cell_of_row w q 1 _ _ _ hh]; rfl
  have hc2 : w.cell? ⟨q, 2, none⟩ = some (.int .i64 0) := by rw [cell_of_row w q 2 _ _ _ hh]; rfl
  have hf1 := frozen_of_row w q 1 _ _ hh
  have hf2 := frozen_of_row w q 2 _ _ hh
  have hH := Lib.hid hh
  have hX := Lib.hid h
  clear hh h
  go_enter Try.func54, Try.ntmps54
  go_wp2_with fail
  go_quiet ((go_at_call 55; exact Calls.quiet_of (raw1_at _ _ n l size 0 _ (by rw [extract_list]; exact hX.out) (extract_size s a hss) hb)))
  go_wp2_with fail
  go_ret2
  refine ⟨rfl, ⟨?_, hsz, hss⟩, ((⟨rfl, rfl, rfl, Nat.le_refl _, fun _ _ _ => rfl⟩ : Chg (fun k => k = q) w (w.drewN nq))).setCell ⟨q, 1, none⟩ _ (fun _ => rfl)⟩
  exact heap_setCell_same _ q 1 _ _ _ hH.out
set_option maxHeartbeats 400000 in
theorem readS_no (q : Nat) (s : ByteArray) (a : Nat) (b : Nat) (n : Int) (l : List UInt8) (size err : Nat) (w : World) (hR : Rd w q s a 0) (hb : w.cell? ⟨b, 0, none⟩ = some (.int .i64 n)) (h : rawW n (s.data.toList.drop a) = (l, size, err)) (herr : err ≠ 0) :
    Calls Try.prog 54 #[.pointer (some ⟨q, 0, none⟩), .func (.func 55) #[] #[.pointer (some ⟨b, 0, none⟩)]] w (RPost q s w (.string ⟨#[]⟩) err a err) := by
  obtain ⟨hh, hle, hss⟩ := hR
  have hc0 : w.cell? ⟨q, 0, none⟩ = some (.string s) := by rw [cell_of_row w q 0 _ _ _ hh]; rfl
  have hc1 : w.cell? ⟨q, 1, none⟩ = some (.int .i64 a) := by rw [cell_of_row w q 1 _ _ _ hh]; rfl
  have hc2 : w.cell? ⟨q, 2, none⟩ = some (.int .i64 0) := by rw [cell_of_row w q 2 _ _ _ hh]; rfl
  have hf1 := frozen_of_row w q 1 _ _ hh
  have hf2 := frozen_of_row w q 2 _ _ hh
  have hH := Lib.hid hh
  have hb1 : ((err : Int) == 0) = false := by simpa using herr
  have hb2 : ((err : Int) != 0) = true := by simpa using herr
  have hX := Lib.hid h
  clear hh h herr
  go_enter Try.func54, Try.ntmps54
  go_wp2_with fail
  go_quiet ((go_at_call 55; exact Calls.quiet_of (raw1_at _ _ n l size err _ (by rw [extract_list]; exact hX.out) (extract_size s a hss) hb)))
  go_wp2_with fail
  go_ret2
  refine ⟨rfl, ⟨?_, hle, hss⟩, ((⟨rfl, rfl, rfl, Nat.le_refl _, fun _ _ _ => rfl⟩ : Chg (fun k => k = q) w (w.drewN nq))).setCell ⟨q, 2, none⟩ _ (fun _ => rfl)⟩
  exact heap_setCell_same _ q 2 _ _ _ hH.out
set_option maxHeartbeats 400000 in
theorem readB_was (q : Nat) (s : ByteArray) (a : Nat) (e : Int) (c : Array Value) (w : World) (hR : Rd w q s a e) (he : e ≠ 0) :
    Calls Try.prog 56 #[.pointer (some ⟨q, 0, none⟩), .func (.func 57) #[] c] w (RPost q s w (.bool false) e a e) := by
  obtain ⟨hh, hle, hss⟩ := hR
  have hc0 : w.cell? ⟨q, 0, none⟩ = some (.string s) := by rw [cell_of_row w q 0 _ _ _ hh]; rfl
  have hc1 : w.cell? ⟨q, 1, none⟩ = some (.int .i64 a) := by rw [cell_of_row w q 1 _ _ _ hh]; rfl
  have hc2 : w.cell? ⟨q, 2, none⟩ = some (.int .i64 e) := by rw [cell_of_row w q 2 _ _ _ hh]; rfl
  have hf1 := frozen_of_row w q 1 _ _ hh
  have hf2 := frozen_of_row w q 2 _ _ hh
  have hH := Lib.hid hh
  have hb1 : (e == 0) = false := by simpa using he
  have hb2 : (e != 0) = true := by simpa using he
  clear hh he
  go_enter Try.func56, Try.ntmps56
  go_wp2_with fail
  go_quiet (fail)
  go_wp2_with fail
  go_ret2
  exact ⟨rfl, ⟨hH.out, hle, hss⟩, ⟨rfl, rfl, rfl, Nat.le_refl _, fun _ _ _ => rfl⟩⟩
set_option maxHeartbeats 400000 in
theorem readB_ok (q : Nat) (s : ByteArray) (a : Nat) (x : Bool) (w : World) (hR : Rd w q s a 0) (h : EndW (s.extract a s.size) x 0) (hsz : a + 0 ≤ s.size) :
    Calls Try.prog 56 #[.pointer (some ⟨q, 0, none⟩), .func (.func 57) #[] #[]] w (RPost q s w (.bool x) 0 (a + 0) 0) := by
  obtain ⟨hh, hle, hss⟩ := hR
  have hc0 : w.cell? ⟨q, 0, none⟩ = some (.string s) := by rw [cell_of_row w q 0 _ _ _ hh]; rfl
  have hc1 : w.cell? ⟨q, 1, none⟩ = some (.int .i64 a) := by rw [cell_of_row w q 1 _ _ _ hh]; rfl
  have hc2 : w.cell? ⟨q, 2, none⟩ = some (.int .i64 0) := by rw [cell_of_row w q 2 _ _ _ hh]; rfl
  have hf1 := frozen_of_row w q 1 _ _ hh
  have hf2 := frozen_of_row w q 2 _ _ hh
  have hH := Lib.hid hh
  have hX := Lib.hid h
  clear hh h
  go_enter Try.func56, Try.ntmps56
  go_wp2_with fail
  go_quiet ((go_at_call 57; exact Calls.quiet_of_same (end1_at _ x 0 _ hX.out (extract_size s a hss))))
  go_wp2_with fail
  go_ret2
  refine ⟨rfl, ⟨?_, hsz, hss⟩, ((⟨rfl, rfl, rfl, Nat.le_refl _, fun _ _ _ => rfl⟩ : Chg (fun k => k = q) w (w.drewN nq))).setCell ⟨q, 1, none⟩ _ (fun _ => rfl)⟩
  exact heap_setCell_same _ q 1 _ _ _ hH.out
set_option maxHeartbeats 400000 in
theorem readB_no (q : Nat) (s : ByteArray) (a : Nat) (x : Bool) (err : Nat) (w : World) (hR : Rd w q s a 0) (h : EndW (s.extract a s.size) x err) (herr : err ≠ 0) :
    Calls Try.prog 56 #[.pointer (some ⟨q, 0, none⟩), .func (.func 57) #[] #[]] w (RPost q s w (.bool false) err a err) := by
  obtain ⟨hh, hle, hss⟩ := hR
  have hc0 : w.cell? ⟨q, 0, none⟩ = some (.string s) := by rw [cell_of_row w q 0 _ _ _ hh]; rfl
  have hc1 : w.cell? ⟨q, 1, none⟩ = some (.int .i64 a) := by rw [cell_of_row w q 1 _ _ _ hh]; rfl
  have hc2 : w.cell? ⟨q, 2, none⟩ = some (.int .i64 0) := by rw [cell_of_row w q 2 _ _ _ hh]; rfl
  have hf1 := frozen_of_row w q 1 _ _ hh
  have hf2 := frozen_of_row w q 2 _ _ hh
  have hH := Lib.hid hh
  have hb1 : ((err : Int) == 0) = false := by simpa using herr
  have hb2 : ((err : Int) != 0) = true := by simpa using herr
  have hX := Lib.hid h
  clear hh h herr
  go_enter Try.func56, Try.ntmps56
  go_wp2_with fail
  go_quiet ((go_at_call 57; exact Calls.quiet_of_same (end1_at _ x err _ hX.out (extract_size s a hss))))
  go_wp2_with fail
  go_ret2
  refine ⟨rfl, ⟨?_, hle, hss⟩, ((⟨rfl, rfl, rfl, Nat.le_refl _, fun _ _ _ => rfl⟩ : Chg (fun k => k = q) w (w.drewN nq))).setCell ⟨q, 2, none⟩ _ (fun _ => rfl)⟩
  exact heap_setCell_same _ q 2 _ _ _ hH.out
end Go.Proofs.Ytbdgmpjaibejnaa
