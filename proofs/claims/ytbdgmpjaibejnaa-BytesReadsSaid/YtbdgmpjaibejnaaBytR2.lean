/- The reader's methods. -/
import Derived.Test.YtbdgmpjaibejnaaBytR
namespace Go.Proofs.Ytbdgmpjaibejnaa
open Go.RowKit Go.Lib
set_option linter.unusedVariables false
/-- What reading comes to: what it is, the error, the place behind, what is wrong behind. -/
def rd {α : Type} (zero : α) (e : Int) (a : Nat) (W : α × Nat × Nat) : α × Int × Nat × Int :=
  if e ≠ 0 then (zero, e, a, e) else if W.2.2 = 0 then (W.1, 0, a + W.2.1, 0) else (zero, W.2.2, a, W.2.2)
theorem numW_size (most : Nat) (l : List UInt8) (x size err : Nat) (h : numW most l = (x, size, err)) (he : err = 0) : 1 ≤ size ∧ size ≤ l.length ∧ x < 18446744073709551616 ∧ putB x = l.take size := by
  unfold numW at h
  subst he
  split at h
  · simp at h
  · rcases getB_back l x size 0 h with ⟨_, h2, h3, h4, h5, h6⟩ | ⟨_, _, h4⟩
    · exact ⟨h4, h5, h2, h6⟩
    · omega
set_option maxHeartbeats 400000 in
theorem newReader_ok (s : ByteArray) (h1 : s.size ≤ 16777216) (w : World) :
    Calls Try.prog 11 #[.string s] w fun e w' => e = .returned (.tuple #[.pointer (some ⟨w.heap.size, 0, none⟩), .int .i64 0]) ∧ w' = w.alloc (.cells #[.string s, .int .i64 0, .int .i64 0] 69) := by
  go_enter Try.func11, Try.ntmps11
  go_wp2
  go_ret2
  exact ⟨rfl, rfl⟩
theorem Rd.new (s : ByteArray) (h1 : s.size ≤ 16777216) (w : World) : Rd (w.alloc (.cells #[.string s, .int .i64 0, .int .i64 0] 69)) w.heap.size s 0 0 :=
  ⟨heap_alloc_new w _, Nat.zero_le _, h1⟩
theorem Wr.new (most : Int) (w : World) : Wr (w.alloc (.cells #[.int .i64 most, .slice none 0 0] 71)) w.heap.size none most [] :=
  ⟨_, heap_alloc_new w _, Row.nil _ _ _, by simp⟩
set_option maxHeartbeats 400000 in
theorem num_rd (q : Nat) (s : ByteArray) (a : Nat) (e : Int) (most : Nat) (w : World) (hR : Rd w q s a e) (v : Nat) (err : Int) (a' : Nat) (e' : Int) (h : rd 0 e a (numW most (s.data.toList.drop a)) = (v, err, a', e')) :
    Calls Try.prog 13 #[.pointer (some ⟨q, 0, none⟩), .int .u64 (most : Int)] w (RPost q s w (.int .u64 (v : Int)) err a' e') := by
  have hb : Below w.heap.size w (w.alloc (.cells #[.int .u64 (most : Int)] 30)) := (Below.refl _ _).alloc (Nat.le_refl _) _
  have hR1 : Rd (w.alloc (.cells #[.int .u64 (most : Int)] 30)) q s a e := hR.keeps (Chg.of_below hb) (fun h => h)
  have hne : w.heap.size ≠ q := by have := lt_of_heap hR.head; omega
  have hbc : (w.alloc (.cells #[.int .u64 (most : Int)] 30)).cell? ⟨w.heap.size, 0, none⟩ = some (.int .u64 (most : Int)) := by rw [cell_of_row _ _ 0 _ _ _ (heap_alloc_new w _)]; rfl
  have key : Calls Try.prog 44 #[.pointer (some ⟨q, 0, none⟩), .func (.func 45) #[] #[.pointer (some ⟨w.heap.size, 0, none⟩)]] (w.alloc (.cells #[.int .u64 (most : Int)] 30)) (RPost q s (w.alloc (.cells #[.int .u64 (most : Int)] 30)) (.int .u64 (v : Int)) err a' e') := by
    unfold rd at h
    by_cases he : e ≠ 0
    · rw [if_pos he] at h
      simp only [Prod.mk.injEq] at h
      obtain ⟨rfl, rfl, rfl, rfl⟩ := h
      exact read64_was q s a e _ _ hR1 he
    · rw [if_neg he] at h
      obtain rfl : e = 0 := by simpa using he
      obtain ⟨⟨x, size, er⟩, hx⟩ : ∃ p, numW most (s.data.toList.drop a) = p := ⟨_, rfl⟩
      rw [hx] at h
      by_cases hz : er = 0
      · rw [if_pos hz] at h
        simp only [Prod.mk.injEq] at h
        obtain ⟨rfl, rfl, rfl, rfl⟩ := h
        subst hz
        have := numW_size most _ _ _ _ hx rfl
        rw [List.length_drop, ← size_list] at this
        have hle := hR.le
        exact read64_ok q s a _ x size most _ hR1 hbc hx (by omega)
      · rw [if_neg hz] at h
        simp only [Prod.mk.injEq] at h
        obtain ⟨rfl, rfl, rfl, rfl⟩ := h
        exact read64_no q s a _ x size er most _ hR1 hbc hx hz
  have hK := Lib.hid key
  clear key h hR1 hbc
  go_enter Try.func13, Try.ntmps13
  go_wp2_with fail
  refine hK.out.mono ?_
  rintro r w' ⟨rfl, h2⟩
  go_wp2_with fail
  go_ret2
  exact RPost.after hb ⟨rfl, h2⟩
def byteW : List UInt8 → Int × Nat × Nat
  | [] => (0, 0, 8)
  | b :: _ => (b.toNat, 1, 0)
def endW : List UInt8 → Bool × Nat × Nat
  | [] => (true, 0, 0)
  | _ :: _ => (false, 0, 10)
theorem byteW_of (s : ByteArray) (a : Nat) (x : Int) (size err : Nat) (h : byteW (s.data.toList.drop a) = (x, size, err)) : ByteW (s.extract a s.size) x size err := by
  have e := extract_list s a
  have hz := size_list (s.extract a s.size)
  rw [e] at hz
  unfold ByteW
  cases hl : s.data.toList.drop a with
  | nil =>
    rw [hl] at h hz
    simp only [byteW, Prod.mk.injEq] at h
    exact .inl ⟨hz, h.1.symm, h.2.1.symm, h.2.2.symm⟩
  | cons b r =>
    rw [hl] at h hz e
    simp only [byteW, Prod.mk.injEq] at h
    have hpos : 0 < (s.extract a s.size).size := by rw [hz]; simp
    refine .inr ⟨hpos, ?_, h.2.1.symm, h.2.2.symm⟩
    rw [← h.1]
    have : (s.extract a s.size)[0] = b := by
      have h0 : (s.extract a s.size).data.toList[0]? = some b := by rw [e]; rfl
      rw [Array.getElem?_toList] at h0
      obtain ⟨_, h1⟩ := Array.getElem?_eq_some_iff.1 h0
      exact h1
    rw [this]
theorem endW_of (s : ByteArray) (a : Nat) (x : Bool) (size err : Nat) (h : endW (s.data.toList.drop a) = (x, size, err)) : EndW (s.extract a s.size) x err ∧ size = 0 := by
  have e := extract_list s a
  have hz := size_list (s.extract a s.size)
  rw [e] at hz
  unfold EndW
  cases hl : s.data.toList.drop a with
  | nil =>
    rw [hl] at h hz
    simp only [endW, Prod.mk.injEq] at h
    exact ⟨.inl ⟨hz, h.1.symm, h.2.2.symm⟩, h.2.1.symm⟩
  | cons b r =>
    rw [hl] at h hz
    simp only [endW, Prod.mk.injEq] at h
    exact ⟨.inr ⟨by rw [hz]; simp, h.1.symm, h.2.2.symm⟩, h.2.1.symm⟩
set_option maxHeartbeats 400000 in
theorem byte_rd (q : Nat) (s : ByteArray) (a : Nat) (e : Int) (w : World) (hR : Rd w q s a e) (v : Int) (err : Int) (a' : Nat) (e' : Int) (h : rd 0 e a (byteW (s.data.toList.drop a)) = (v, err, a', e')) :
    Calls Try.prog 29 #[.pointer (some ⟨q, 0, none⟩)] w (RPost q s w (.int .u8 v) err a' e') := by
  have key : Calls Try.prog 52 #[.pointer (some ⟨q, 0, none⟩), .func (.func 53) #[] #[]] w (RPost q s w (.int .u8 v) err a' e') := by
    unfold rd at h
    by_cases he : e ≠ 0
    · rw [if_pos he] at h
      simp only [Prod.mk.injEq] at h
      obtain ⟨rfl, rfl, rfl, rfl⟩ := h
      exact read8_was q s a e _ _ hR he
    · rw [if_neg he] at h
      obtain rfl : e = 0 := by simpa using he
      obtain ⟨⟨x, size, er⟩, hx⟩ : ∃ p, byteW (s.data.toList.drop a) = p := ⟨_, rfl⟩
      rw [hx] at h
      have hB := byteW_of s a x size er hx
      by_cases hz : er = 0
      · rw [if_pos hz] at h
        simp only [Prod.mk.injEq] at h
        obtain ⟨rfl, rfl, rfl, rfl⟩ := h
        subst hz
        have hsz : a + size ≤ s.size := by
          have hl := extract_list s a
          have h2 := size_list (s.extract a s.size)
          rw [hl, List.length_drop, ← size_list] at h2
          rcases hB with ⟨_, _, _, h8⟩ | ⟨h0, _, h1, _⟩
          · exact absurd h8 (by decide)
          · omega
        exact read8_ok q s a x size _ hR hB hsz
      · rw [if_neg hz] at h
        simp only [Prod.mk.injEq] at h
        obtain ⟨rfl, rfl, rfl, rfl⟩ := h
        exact read8_no q s a x size er _ hR hB hz
  have hK := Lib.hid key
  clear key h
  go_enter Try.func29, Try.ntmps29
  go_wp2_with fail
  refine hK.out.mono ?_
  rintro r w' ⟨rfl, h2⟩
  go_wp2_with fail
  go_ret2
  exact ⟨rfl, h2⟩
set_option maxHeartbeats 400000 in
theorem raw_rd (q : Nat) (s : ByteArray) (a : Nat) (e : Int) (n : Int) (w : World) (hR : Rd w q s a e) (v : List UInt8) (err : Int) (a' : Nat) (e' : Int) (h : rd [] e a (rawW n (s.data.toList.drop a)) = (v, err, a', e')) :
    Calls Try.prog 30 #[.pointer (some ⟨q, 0, none⟩), .int .i64 n] w (RPost q s w (.string (strB v)) err a' e') := by
  have hb : Below w.heap.size w (w.alloc (.cells #[.int .i64 n] 3)) := (Below.refl _ _).alloc (Nat.le_refl _) _
  have hR1 : Rd (w.alloc (.cells #[.int .i64 n] 3)) q s a e := hR.keeps (Chg.of_below hb) (fun h => h)
  have hbc : (w.alloc (.cells #[.int .i64 n] 3)).cell? ⟨w.heap.size, 0, none⟩ = some (.int .i64 n) := by rw [cell_of_row _ _ 0 _ _ _ (heap_alloc_new w _)]; rfl
  have key : Calls Try.prog 54 #[.pointer (some ⟨q, 0, none⟩), .func (.func 55) #[] #[.pointer (some ⟨w.heap.size, 0, none⟩)]] (w.alloc (.cells #[.int .i64 n] 3)) (RPost q s (w.alloc (.cells #[.int .i64 n] 3)) (.string (strB v)) err a' e') := by
    unfold rd at h
    by_cases he : e ≠ 0
    · rw [if_pos he] at h
      simp only [Prod.mk.injEq] at h
      obtain ⟨rfl, rfl, rfl, rfl⟩ := h
      exact readS_was q s a e _ _ hR1 he
    · rw [if_neg he] at h
      obtain rfl : e = 0 := by simpa using he
      obtain ⟨⟨x, size, er⟩, hx⟩ : ∃ p, rawW n (s.data.toList.drop a) = p := ⟨_, rfl⟩
      rw [hx] at h
      by_cases hz : er = 0
      · rw [if_pos hz] at h
        simp only [Prod.mk.injEq] at h
        obtain ⟨rfl, rfl, rfl, rfl⟩ := h
        subst hz
        have hsz : a + size ≤ s.size := by
          have hle := hR.le
          unfold rawW at hx
          split at hx
          · simp at hx
          · split at hx
            · simp at hx
            · rename_i h1 h2
              simp only [Prod.mk.injEq] at hx
              rw [List.length_drop, ← size_list] at h2
              omega
        exact readS_ok q s a _ n x size _ hR1 hbc hx hsz
      · rw [if_neg hz] at h
        simp only [Prod.mk.injEq] at h
        obtain ⟨rfl, rfl, rfl, rfl⟩ := h
        exact readS_no q s a _ n x size er _ hR1 hbc hx hz
  have hK := Lib.hid key
  clear key h hR1 hbc
  go_enter Try.func30, Try.ntmps30
  go_wp2_with fail
  refine hK.out.mono ?_
  rintro r w' ⟨rfl, h2⟩
  go_wp2_with fail
  go_ret2
  exact RPost.after hb ⟨rfl, h2⟩
/-- What the calls that tell an error alone leave. -/
def EPost (q : Nat) (s : ByteArray) (w : World) (err : Int) (at' : Nat) (e' : Int) (e : Ending) (w' : World) : Prop :=
  e = .returned (.int .i64 err) ∧ Rd w' q s at' e' ∧ Chg (fun k => k = q) w w'
set_option maxHeartbeats 400000 in
theorem end_rd (q : Nat) (s : ByteArray) (a : Nat) (e : Int) (w : World) (hR : Rd w q s a e) (v : Bool) (err : Int) (a' : Nat) (e' : Int) (h : rd false e a (endW (s.data.toList.drop a)) = (v, err, a', e')) :
    Calls Try.prog 31 #[.pointer (some ⟨q, 0, none⟩)] w (EPost q s w err a' e') := by
  have key : Calls Try.prog 56 #[.pointer (some ⟨q, 0, none⟩), .func (.func 57) #[] #[]] w (RPost q s w (.bool v) err a' e') := by
    unfold rd at h
    by_cases he : e ≠ 0
    · rw [if_pos he] at h
      simp only [Prod.mk.injEq] at h
      obtain ⟨rfl, rfl, rfl, rfl⟩ := h
      exact readB_was q s a e _ _ hR he
    · rw [if_neg he] at h
      obtain rfl : e = 0 := by simpa using he
      obtain ⟨⟨x, size, er⟩, hx⟩ : ∃ p, endW (s.data.toList.drop a) = p := ⟨_, rfl⟩
      rw [hx] at h
      obtain ⟨hB, rfl⟩ := endW_of s a x size er hx
      by_cases hz : er = 0
      · rw [if_pos hz] at h
        simp only [Prod.mk.injEq] at h
        obtain ⟨rfl, rfl, rfl, rfl⟩ := h
        subst hz
        exact readB_ok q s a x _ hR hB hR.le
      · rw [if_neg hz] at h
        simp only [Prod.mk.injEq] at h
        obtain ⟨rfl, rfl, rfl, rfl⟩ := h
        exact readB_no q s a x er _ hR hB hz
  have hK := Lib.hid key
  clear key h
  go_enter Try.func31, Try.ntmps31
  go_wp2_with fail
  refine hK.out.mono ?_
  rintro r w' ⟨rfl, h2⟩
  go_wp2_with fail
  go_ret
  exact ⟨rfl, h2⟩
theorem max64 : (18446744073709551615 : Int) = ((18446744073709551615 : Nat) : Int) := rfl
set_option maxHeartbeats 400000 in
theorem int_rd (q : Nat) (s : ByteArray) (a : Nat) (e : Int) (w : World) (hR : Rd w q s a e) (v : Nat) (err : Int) (a' : Nat) (e' : Int) (h : rd 0 e a (numW 18446744073709551615 (s.data.toList.drop a)) = (v, err, a', e')) :
    Calls Try.prog 15 #[.pointer (some ⟨q, 0, none⟩)] w (RPost q s w (.int .i64 (zagI v)) err a' e') := by
  have hv : v < 18446744073709551616 := by
    unfold rd at h
    split at h
    · simp only [Prod.mk.injEq] at h; omega
    · obtain ⟨⟨x, size, er⟩, hx⟩ : ∃ p, numW 18446744073709551615 (s.data.toList.drop a) = p := ⟨_, rfl⟩
      rw [hx] at h
      split at h
      · rename_i hz
        have := numW_size _ _ _ _ _ hx hz
        simp only [Prod.mk.injEq] at h
        omega
      · simp only [Prod.mk.injEq] at h; omega
  have hK := Lib.hid (num_rd q s a e 18446744073709551615 w hR v err a' e' h)
  have hz := Lib.hid (fun W => zag_at (v : Int) (by omega) (by omega) W)
  clear h hv
  go_enter Try.func15, Try.ntmps15
  go_wp2_with fail
  refine hK.out.mono ?_
  rintro r w' ⟨rfl, h2⟩
  go_wp2_with fail
  refine (hz.out _).mono ?_
  rintro r w'' ⟨rfl, rfl⟩
  go_wp2_with fail
  go_ret2
  exact ⟨rfl, h2⟩
set_option maxHeartbeats 400000 in
theorem at_rd (q : Nat) (s : ByteArray) (a : Nat) (e : Int) (w : World) (hR : Rd w q s a e) :
    Calls Try.prog 18 #[.pointer (some ⟨q, 0, none⟩)] w fun r w' => r = .returned (.int .i64 a) ∧ w = w' := by
  obtain ⟨hh, hle, hss⟩ := hR
  have hc1 : w.cell? ⟨q, 1, none⟩ = some (.int .i64 a) := by rw [cell_of_row w q 1 _ _ _ hh]; rfl
  clear hh
  go_enter Try.func18, Try.ntmps18
  go_wp2
  go_ret
  exact ⟨rfl, rfl⟩
set_option maxHeartbeats 400000 in
theorem left_rd (q : Nat) (s : ByteArray) (a : Nat) (e : Int) (w : World) (hR : Rd w q s a e) :
    Calls Try.prog 32 #[.pointer (some ⟨q, 0, none⟩)] w fun r w' => r = .returned (.int .i64 ((s.size : Int) - a)) ∧ ∃ n, w' = w.drewN n := by
  obtain ⟨hh, hle, hss⟩ := hR
  have hc0 : w.cell? ⟨q, 0, none⟩ = some (.string s) := by rw [cell_of_row w q 0 _ _ _ hh]; rfl
  have hc1 : w.cell? ⟨q, 1, none⟩ = some (.int .i64 a) := by rw [cell_of_row w q 1 _ _ _ hh]; rfl
  clear hh
  go_enter Try.func32, Try.ntmps32
  go_wp2_with fail
  go_quiet (fail)
  go_wp2
  go_ret
  exact ⟨rfl, _, rfl⟩
set_option maxHeartbeats 400000 in
theorem wrong_rd (q : Nat) (s : ByteArray) (a : Nat) (e : Int) (w : World) (hR : Rd w q s a e) (p err : Int) (h : (if e = 0 then ((0 : Int), (0 : Int)) else ((a : Int), e)) = (p, err)) :
    Calls Try.prog 33 #[.pointer (some ⟨q, 0, none⟩)] w fun r w' => r = .returned (.tuple #[.int .i64 p, .int .i64 err]) ∧ ∃ n, w' = w.drewN n := by
  obtain ⟨hh, hle, hss⟩ := hR
  have hc1 : w.cell? ⟨q, 1, none⟩ = some (.int .i64 a) := by rw [cell_of_row w q 1 _ _ _ hh]; rfl
  have hc2 : w.cell? ⟨q, 2, none⟩ = some (.int .i64 e) := by rw [cell_of_row w q 2 _ _ _ hh]; rfl
  clear hh
  by_cases he : e = 0
  · rw [if_pos he] at h
    simp only [Prod.mk.injEq] at h
    obtain ⟨rfl, rfl⟩ := h
    subst he
    go_enter Try.func33, Try.ntmps33
    go_wp2
    go_ret2
    exact ⟨rfl, 0, rfl⟩
  · rw [if_neg he] at h
    simp only [Prod.mk.injEq] at h
    obtain ⟨rfl, rfl⟩ := h
    have hb1 : (e == 0) = false := by simpa using he
    clear he
    go_enter Try.func33, Try.ntmps33
    go_wp2_with fail
    go_quiet (fail)
    go_wp2
    go_ret2
    exact ⟨rfl, _, rfl⟩
/-- What Fail comes to. -/
def failR (e : Int) (a : Nat) (place f : Int) : Int × Nat × Int :=
  if e ≠ 0 then (e, a, e) else if place < 0 ∨ (a : Int) < place ∨ f = 0 then (1, a, e) else (f, place.toNat, f)
set_option maxHeartbeats 400000 in
theorem fail_rd (q : Nat) (s : ByteArray) (a : Nat) (e place f : Int) (w : World) (hR : Rd w q s a e) (err : Int) (a' : Nat) (e' : Int) (h : failR e a place f = (err, a', e')) :
    Calls Try.prog 39 #[.pointer (some ⟨q, 0, none⟩), .int .i64 place, .int .i64 f] w (EPost q s w err a' e') := by
  obtain ⟨hh, hle, hss⟩ := hR
  have hc1 : w.cell? ⟨q, 1, none⟩ = some (.int .i64 a) := by rw [cell_of_row w q 1 _ _ _ hh]; rfl
  have hc2 : w.cell? ⟨q, 2, none⟩ = some (.int .i64 e) := by rw [cell_of_row w q 2 _ _ _ hh]; rfl
  have hf1 := frozen_of_row w q 1 _ _ hh
  have hf2 := frozen_of_row w q 2 _ _ hh
  have hH := Lib.hid hh
  clear hh
  unfold failR at h
  by_cases he : e = 0
  · rw [if_neg (by simpa using he)] at h
    subst he
    by_cases hb : place < 0 ∨ (a : Int) < place ∨ f = 0
    · rw [if_pos hb] at h
      simp only [Prod.mk.injEq] at h
      obtain ⟨rfl, rfl, rfl⟩ := h
      by_cases h1 : place < 0
      · clear hb
        go_enter Try.func39, Try.ntmps39
        go_wp2
        go_ret
        exact ⟨rfl, ⟨hH.out, hle, hss⟩, Chg.refl _ _⟩
      · by_cases h2 : (a : Int) < place
        · clear hb
          go_enter Try.func39, Try.ntmps39
          go_wp2
          go_ret
          exact ⟨rfl, ⟨hH.out, hle, hss⟩, Chg.refl _ _⟩
        · have h3 : (f == 0) = true := by simp; omega
          clear hb
          go_enter Try.func39, Try.ntmps39
          go_wp2
          go_ret
          exact ⟨rfl, ⟨hH.out, hle, hss⟩, Chg.refl _ _⟩
    · rw [if_neg hb] at h
      simp only [Prod.mk.injEq] at h
      obtain ⟨rfl, rfl, rfl⟩ := h
      have h1 : 0 ≤ place := by omega
      have h2 : place ≤ a := by omega
      have h3 : (f == 0) = false := by simp; omega
      clear hb
      go_enter Try.func39, Try.ntmps39
      go_wp2
      go_ret
      obtain ⟨k, rfl⟩ := Int.eq_ofNat_of_zero_le h1
      have hka : k ≤ s.size := by omega
      refine ⟨rfl, ⟨?_, hka, hss⟩, ((Chg.refl (fun k => k = q) w).setCell ⟨q, 1, none⟩ _ (fun _ => rfl)).setCell ⟨q, 2, none⟩ _ (fun _ => rfl)⟩
      exact heap_setCell_same _ q 2 _ _ _ (heap_setCell_same _ q 1 _ _ _ hH.out)
  · rw [if_pos he] at h
    simp only [Prod.mk.injEq] at h
    obtain ⟨rfl, rfl, rfl⟩ := h
    have hb1 : (e == 0) = false := by simpa using he
    have hb2 : (e != 0) = true := by simpa using he
    clear he
    go_enter Try.func39, Try.ntmps39
    go_wp2
    go_ret
    exact ⟨rfl, ⟨hH.out, hle, hss⟩, Chg.refl _ _⟩
end Go.Proofs.Ytbdgmpjaibejnaa
