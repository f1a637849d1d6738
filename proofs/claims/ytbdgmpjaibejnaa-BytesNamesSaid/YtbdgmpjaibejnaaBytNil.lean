/- The methods of nobody (nil), and the refusals of NewReader, for the closed law BytesNames. -/
import Derived.Test.YtbdgmpjaibejnaaBytL
namespace Go.Proofs.Ytbdgmpjaibejnaa
open Go.RowKit Go.Lib
set_option linter.unusedVariables false
set_option maxHeartbeats 400000 in
theorem byteR_nil (w : World) : Calls Try.prog 29 #[.pointer none] w fun e w' => e = .returned (.tuple #[.int .u8 0, .int .i64 2]) ∧ w = w' := by
  go_enter Try.func29, Try.ntmps29
  go_wp2
  go_ret2
  exact ⟨rfl, rfl⟩
set_option maxHeartbeats 400000 in
theorem numR_nil (m : Int) (w : World) : Calls Try.prog 13 #[.pointer none, .int .u64 m] w fun e w' => e = .returned (.tuple #[.int .u64 0, .int .i64 2]) ∧ Below w.heap.size w w' := by
  go_enter Try.func13, Try.ntmps13
  go_wp2
  go_ret2
  exact ⟨rfl, (Below.refl _ _).alloc (Nat.le_refl _) _⟩
set_option maxHeartbeats 400000 in
theorem intR_nil (w : World) : Calls Try.prog 15 #[.pointer none] w fun e w' => e = .returned (.tuple #[.int .i64 0, .int .i64 2]) ∧ Below w.heap.size w w' := by
  go_enter Try.func15, Try.ntmps15
  go_wp2_with fail
  refine (numR_nil _ _).mono ?_
  rintro e w1 ⟨rfl, b1⟩
  go_wp2_with fail
  refine (zag_at 0 (by decide) (by decide) _).mono ?_
  rintro e w' ⟨rfl, rfl⟩
  rw [show zagI 0 = 0 from rfl]
  go_wp2_with fail
  go_ret2
  exact ⟨rfl, b1⟩
set_option maxHeartbeats 400000 in
theorem rawR_nil (n : Int) (w : World) : Calls Try.prog 30 #[.pointer none, .int .i64 n] w fun e w' => e = .returned (.tuple #[.string ⟨#[]⟩, .int .i64 2]) ∧ Below w.heap.size w w' := by
  go_enter Try.func30, Try.ntmps30
  go_wp2
  go_ret2
  exact ⟨rfl, (Below.refl _ _).alloc (Nat.le_refl _) _⟩
set_option maxHeartbeats 400000 in
theorem endR_nil (w : World) : Calls Try.prog 31 #[.pointer none] w fun e w' => e = .returned (.int .i64 2) ∧ w = w' := by
  go_enter Try.func31, Try.ntmps31
  go_wp2
  go_ret
  exact ⟨rfl, rfl⟩
set_option maxHeartbeats 400000 in
theorem atR_nil (w : World) : Calls Try.prog 18 #[.pointer none] w fun e w' => e = .returned (.int .i64 0) ∧ w = w' := by
  go_enter Try.func18, Try.ntmps18
  go_wp2
  go_ret
  exact ⟨rfl, rfl⟩
set_option maxHeartbeats 400000 in
theorem leftR_nil (w : World) : Calls Try.prog 32 #[.pointer none] w fun e w' => e = .returned (.int .i64 0) ∧ w = w' := by
  go_enter Try.func32, Try.ntmps32
  go_wp2
  go_ret
  exact ⟨rfl, rfl⟩
set_option maxHeartbeats 400000 in
theorem wrongR_nil (w : World) : Calls Try.prog 33 #[.pointer none] w fun e w' => e = .returned (.tuple #[.int .i64 0, .int .i64 2]) ∧ w = w' := by
  go_enter Try.func33, Try.ntmps33
  go_wp2
  go_ret2
  exact ⟨rfl, rfl⟩
set_option maxHeartbeats 400000 in
theorem failR_nil (p f : Int) (w : World) : Calls Try.prog 39 #[.pointer none, .int .i64 p, .int .i64 f] w fun e w' => e = .returned (.int .i64 2) ∧ w = w' := by
  go_enter Try.func39, Try.ntmps39
  go_wp2
  go_ret
  exact ⟨rfl, rfl⟩
set_option maxHeartbeats 400000 in
theorem byteW_nil (x : Int) (w : World) : Calls Try.prog 21 #[.pointer none, .int .u8 x] w fun e w' => e = .returned (.int .i64 2) ∧ Below w.heap.size w w' := by
  have hcv := conv_one
  go_enter Try.func21, Try.ntmps21
  go_wp2_with fail
  refine (raw_nil _ _).mono ?_
  rintro e w' ⟨rfl, rfl⟩
  go_wp2_with fail
  go_ret
  exact ⟨rfl, (Below.refl _ _).alloc (Nat.le_refl _) _⟩
set_option maxHeartbeats 400000 in
theorem numW_nil (n : Int) (h0 : 0 ≤ n) (h1 : n < 18446744073709551616) (w : World) : Calls Try.prog 14 #[.pointer none, .int .u64 n] w fun e w' => e = .returned (.int .i64 2) ∧ Below w.heap.size w w' := by
  go_enter Try.func14, Try.ntmps14
  go_wp2_with fail
  refine (put_at n _ rfl h0 h1 _).mono ?_
  rintro e w1 ⟨rfl, hb⟩
  go_wp2_with fail
  refine (raw_nil _ _).mono ?_
  rintro e w' ⟨rfl, rfl⟩
  go_wp2_with fail
  go_ret
  exact ⟨rfl, hb⟩
set_option maxHeartbeats 400000 in
theorem intW_nil (w : World) : Calls Try.prog 16 #[.pointer none, .int .i64 1] w fun e w' => e = .returned (.int .i64 2) ∧ Below w.heap.size w w' := by
  go_enter Try.func16, Try.ntmps16
  go_wp2_with fail
  refine (zig_at 1 (by decide) (by decide) _).mono ?_
  rintro e w' ⟨rfl, rfl⟩
  go_wp2_with fail
  refine (numW_nil (zigI 1) (by decide) (by decide) _).mono ?_
  rintro e w1 ⟨rfl, hb⟩
  go_wp2_with fail
  go_ret
  exact ⟨rfl, hb⟩
set_option maxHeartbeats 400000 in
theorem lenW_nil (w : World) : Calls Try.prog 27 #[.pointer none] w fun e w' => e = .returned (.int .i64 0) ∧ w = w' := by
  go_enter Try.func27, Try.ntmps27
  go_wp2
  go_ret
  exact ⟨rfl, rfl⟩
set_option maxHeartbeats 400000 in
theorem textW_nil (w : World) : Calls Try.prog 17 #[.pointer none] w fun e w' => e = .returned (.string ⟨#[]⟩) ∧ w = w' := by
  go_enter Try.func17, Try.ntmps17
  go_wp2
  go_ret
  exact ⟨rfl, rfl⟩
set_option maxHeartbeats 400000 in
theorem newReader_no (s : ByteArray) (h1 : 16777216 < s.size) (hs : s.size ≤ 100000000) (w : World) :
    Calls Try.prog 11 #[.string s] w fun e w' => e = .returned (.tuple #[.pointer none, .int .i64 40]) ∧ w = w' := by
  go_enter Try.func11, Try.ntmps11
  go_wp2
  go_ret2
  exact ⟨rfl, rfl⟩
/-- make([]byte, n): a row of zeros that is held alone. -/
theorem zeros_cells (n : Nat) : (madeCells (Value.int .u8 0).cells (n * 1)).toList = u8s (List.replicate n 0) := by
  have h : ∀ l : List Nat, l.map (fun i => (Value.int .u8 0).cells[i % (Value.int .u8 0).cells.size]!) = List.replicate l.length (.int .u8 0) := by
    intro l
    induction l with
    | nil => rfl
    | cons a l ih =>
      rw [List.map_cons, ih, List.length_cons, List.replicate_succ]
      have : (Value.int .u8 0).cells.size = 1 := rfl
      rw [this, Nat.mod_one]
      rfl
  rw [Nat.mul_one, madeCells, Array.toList_map, h, u8s, List.map_replicate]
  simp
theorem run_zeros (n : Nat) (hn : n ≤ 140737488355328) (w : World) :
    ∃ v w1, (Instr.makeSlice 67 (.int .i64 (n : Int)) (.int .i64 (n : Int))).run Try.prog w = .ok v w1 ∧ (convert 67 9 v).run Try.prog w1 = .ok (.string (strB (List.replicate n 0))) w1 ∧ Below w.heap.size w w1 := by
  obtain ⟨i0, hi, hz0, hz1, hz2⟩ := info_parts info_u8
  obtain ⟨w1, hr, ho, hg⟩ := run_make_full (P := Try.prog) w 0 67 5 i0 (.int .u8 0) 1 Try.underlying67 hi hz0 hz1 .i64 .i64 n (by rw [hz2]; omega) (by unfold maxLen; omega) (Nat.zero_le _)
  rw [zeros_cells] at ho
  refine ⟨_, w1, hr, ?_, ⟨hg.os, hg.tape, hg.output, hg.size, fun k hk => hg.block k hk (by simp)⟩⟩
  refine conv_row w1 _ (some w.heap.size) (List.replicate n 0) ⟨?_, rfl⟩
  rw [List.length_replicate]
  exact ho
/-- So many zeros, as a text. -/
def bigS : ByteArray := strB (List.replicate 16777217 0)
theorem bigS_size : bigS.size = 16777217 := by
  show (List.replicate 16777217 (0 : UInt8)).length = 16777217
  rw [List.length_replicate]
theorem bigS_tail : (bigS.extract 1 bigS.size).size ≤ 16777216 := by
  rw [ByteArray.size_extract, bigS_size]
  decide
theorem run_big (w : World) :
    ∃ v w1, (Instr.makeSlice 67 (.int .i64 16777217) (.int .i64 16777217)).run Try.prog w = .ok v w1 ∧ (convert 67 9 v).run Try.prog w1 = .ok (.string bigS) w1 ∧ Below w.heap.size w w1 :=
  run_zeros 16777217 (by decide) w
end Go.Proofs.Ytbdgmpjaibejnaa
