/- The walks of the numbers' functions, continued: Zig and Zag, and Put and Get in the forms that callers use. -/
import Derived.Test.YtbdgmpjaibejnaaVarW
import Derived.WalkSmall
import Derived.OpenShut
namespace Go.Proofs.Ytbdgmpjaibejnaa
open Go.RowKit
theorem u64_bounds {n : Int} (h : (Lit.int .u64 n).wf = true) : 0 ≤ n ∧ n < 18446744073709551616 := by
  have := bounds_u64 h; omega
theorem size_list (t : ByteArray) : t.size = t.data.toList.length := Array.length_toList.symm
theorem append_list (a b : ByteArray) : (a ++ b).data.toList = a.data.toList ++ b.data.toList := by
  rw [ByteArray.data_append, Array.toList_append]
theorem drop_last (t : ByteArray) : (t.extract 0 (t.size - 1)).data.toList = t.data.toList.dropLast := by
  rw [ByteArray.data_extract, Array.toList_extract, List.dropLast_eq_take, size_list]
  simp
theorem eqS (a b : ByteArray) (h : a.data.toList = b.data.toList) : (a.toList == b.toList) = true := by
  have : a = b := ByteArray.ext (Array.toList_inj.1 h)
  rw [this]; simp
theorem bchain {w w1 w2 : World} (h : Below w.heap.size w w1) (k : Below w1.heap.size w1 w2) : Below w.heap.size w w2 := h.trans (k.mono h.size)
/-- Put, of a number that is typed as an integer. -/
theorem put_at (a : Int) (s : ByteArray) (h : strB (putB a.toNat) = s) (h0 : 0 ≤ a) (h1 : a < 18446744073709551616) (w : World) :
    Calls Try.prog 47 #[.int .u64 a] w fun e w' => e = .returned (.string s) ∧ Below w.heap.size w w' := by
  have := put_any a.toNat (by omega) w
  rw [h, Int.toNat_of_nonneg h0] at this
  exact this
theorem get_at (s : ByteArray) (n size e : Nat) (h : getB s.data.toList = (n, size, e)) (hs : s.size ≤ maxLen) (w : World) :
    Calls Try.prog 46 #[.string s] w fun r w' => r = .returned (.tuple #[.int .u64 n, .int .i64 size, .int .i64 e]) ∧ w = w' := by
  have := get_any s w hs
  rw [h] at this
  exact this
theorem xor_ones (a : Nat) (h : a < 18446744073709551616) : a ^^^ 18446744073709551615 = 18446744073709551615 - a := by
  have h1 : (BitVec.ofNat 64 a ^^^ BitVec.allOnes 64).toNat = a ^^^ 18446744073709551615 := by
    rw [BitVec.toNat_xor, BitVec.toNat_ofNat, BitVec.toNat_allOnes, Nat.mod_eq_of_lt (by omega)]
  rw [← h1, BitVec.xor_allOnes, BitVec.toNat_not, BitVec.toNat_ofNat, Nat.mod_eq_of_lt (by omega)]
theorem zig_val (x : Int) (h0 : -9223372036854775808 ≤ x) (h1 : x ≤ 9223372036854775807) :
    bits .xor .u64 (IntKind.u64.wrap (IntKind.u64.wrap x * 2)) (IntKind.u64.wrap (x / 9223372036854775808)) = zigI x := by
  simp only [IntKind.wrap_u64, zigI]
  by_cases hx : x < 0
  · rw [if_pos hx]
    have e1 : (x % 18446744073709551616 * 2) % 18446744073709551616 = (((2 * x + 18446744073709551616).toNat : Nat) : Int) := by omega
    have e2 : (x / 9223372036854775808) % 18446744073709551616 = ((18446744073709551615 : Nat) : Int) := by omega
    rw [e1, e2, bits_xor_u64_nat _ _ (by omega) (by omega), xor_ones _ (by omega)]
    omega
  · rw [if_neg hx]
    have e1 : (x % 18446744073709551616 * 2) % 18446744073709551616 = (((2 * x).toNat : Nat) : Int) := by omega
    have e2 : (x / 9223372036854775808) % 18446744073709551616 = ((0 : Nat) : Int) := by omega
    rw [e1, e2, bits_xor_u64_nat _ _ (by omega) (by omega), Nat.xor_zero]
    omega
theorem wrap_i64 (n : Int) (h0 : 0 ≤ n) (h1 : n < 18446744073709551616) : IntKind.i64.wrap n = if n < 9223372036854775808 then n else n - 18446744073709551616 := by
  have e : n % 2 ^ 64 = n := by omega
  simp only [IntKind.wrap, IntKind.bits, IntKind.signed, e]
  by_cases h : n < 9223372036854775808
  · rw [if_pos h, if_neg (by simp; omega)]
  · rw [if_neg h, if_pos (by simp; omega)]; rfl
theorem ofInt_nat (a : Nat) (h : a < 18446744073709551616) : (BitVec.ofInt 64 (a : Int)).toNat = a := by
  rw [BitVec.ofInt_natCast, BitVec.toNat_ofNat]; exact Nat.mod_eq_of_lt (by omega)
theorem zag_val (n : Int) (h0 : 0 ≤ n) (h1 : n < 18446744073709551616) :
    bits .xor .i64 (n / 2) (wrap64 (-wrap64 (bits .and .u64 n 1))) = zagI n := by
  rw [and_one_u64 _ h0 (by omega)]
  have eh : n / 2 = (((n / 2).toNat : Nat) : Int) := by omega
  unfold zagI
  by_cases h : n % 2 = 0
  · rw [if_pos h, h]
    have e0 : wrap64 (-wrap64 0) = 0 := by decide +kernel
    rw [e0, eh]
    show IntKind.i64.wrap ((BitVec.ofInt 64 _ ^^^ BitVec.ofInt 64 0).toNat : Int) = _
    rw [BitVec.toNat_xor, ofInt_nat _ (by omega)]
    have e1 : (BitVec.ofInt 64 0).toNat = 0 := by decide
    rw [e1, Nat.xor_zero, wrap_i64 _ (by omega) (by omega), if_pos (by omega)]
  · rw [if_neg h, show n % 2 = 1 by omega]
    have e0 : wrap64 (-wrap64 1) = -1 := by decide +kernel
    rw [e0, eh]
    show IntKind.i64.wrap ((BitVec.ofInt 64 _ ^^^ BitVec.ofInt 64 (-1)).toNat : Int) = _
    rw [BitVec.toNat_xor, ofInt_nat _ (by omega)]
    have e1 : (BitVec.ofInt 64 (-1)).toNat = 18446744073709551615 := by decide
    rw [e1, xor_ones _ (by omega), wrap_i64 _ (by omega) (by omega), if_neg (by omega)]
    omega
set_option maxHeartbeats 400000 in
theorem zig_at (x : Int) (h0 : -9223372036854775808 ≤ x) (h1 : x ≤ 9223372036854775807) (w : World) :
    Calls Try.prog 49 #[.int .i64 x] w fun e w' => e = .returned (.int .u64 (zigI x)) ∧ w = w' := by
  go_enter Try.func49, Try.ntmps49
  go_wp2
  go_ret
  exact ⟨congrArg (fun k => Ending.returned (.int .u64 k)) (zig_val x h0 h1), rfl⟩
set_option maxHeartbeats 400000 in
theorem zag_at (n : Int) (h0 : 0 ≤ n) (h1 : n < 18446744073709551616) (w : World) :
    Calls Try.prog 48 #[.int .u64 n] w fun e w' => e = .returned (.int .i64 (zagI n)) ∧ w = w' := by
  go_enter Try.func48, Try.ntmps48
  go_wp2
  go_ret
  exact ⟨congrArg (fun k => Ending.returned (.int .i64 k)) (zag_val n h0 h1), rfl⟩
end Go.Proofs.Ytbdgmpjaibejnaa
