/- The walks of the numbers' functions: what each of them returns, for every input. -/
import Derived.Test.YtbdgmpjaibejnaaChecked
import Derived.Test.YtbdgmpjaibejnaaVarP
import Derived.WalkKit
import Derived.WalkLawsBesides
import Derived.WalkSpells
import Derived.Laws.BytesArg
import Derived.Laws.Bits64
import Derived.Lib.Hide
namespace Go.Proofs.Ytbdgmpjaibejnaa
open Go.RowKit
/-- A string by its bytes. -/
def strB (l : List UInt8) : ByteArray := ⟨l.toArray⟩
def blk (l : List Int) : Array Value := (l.map (Value.int .u8) ++ List.replicate (10 - l.length) (Value.int .u8 0)).toArray
theorem blk_get (l : List Int) (h : l.length < 10) : (blk l)[l.length]? = some (Value.int .u8 0) := by
  simp only [blk, List.getElem?_toArray]
  rw [List.getElem?_append_right (by simp)]
  simp only [List.length_map, Nat.sub_self]
  rw [List.getElem?_replicate, if_pos (by omega)]
theorem blk_size (l : List Int) (h : l.length ≤ 10) : (blk l).size = 10 := by
  simp [blk]; omega
theorem blk_set (l : List Int) (v : Int) (h : l.length < 10) : (blk l).setIfInBounds l.length (Value.int .u8 v) = blk (l ++ [v]) := by
  obtain ⟨d, hd⟩ : ∃ d, 10 - l.length = d + 1 := ⟨9 - l.length, by omega⟩
  have hd' : 10 - (l.length + 1) = d := by omega
  simp [blk, hd, hd', List.replicate_succ]
theorem blk_get' (l : List Int) (v : Int) : (blk (l ++ [v]))[l.length]? = some (Value.int .u8 v) := by
  simp only [blk, List.getElem?_toArray]
  rw [List.getElem?_append_left (by simp)]
  simp
theorem blk_set' (l : List Int) (v v' : Int) : (blk (l ++ [v])).setIfInBounds l.length (Value.int .u8 v') = blk (l ++ [v']) := by
  simp [blk]
theorem blk_cell (l : List Int) (w : World) (i : Nat) (hi : i < l.length) :
    (w.alloc (.cells (blk l) 86)).cell? ⟨w.heap.size, i, none⟩ = some (.int .u8 (l.getD i 0)) := by
  have h1 : (blk l)[i]? = some (.int .u8 (l.getD i 0)) := by
    simp only [blk, List.getElem?_toArray]
    rw [List.getElem?_append_left (by simpa using hi)]
    simp [List.getElem?_map, List.getElem?_eq_getElem hi]
  simp [h1, go_sem]
theorem sl_blk (b : Nat) (n : Nat) (i : Int) (hi : i = n) (h : n ≤ 10) (W : World) : (Instr.sliceAt 86 (.pointer (some ⟨b, 0, none⟩)) none (some (.int .i64 i)) none).run Try.prog W = .ok (.slice (some ⟨b, 0, none⟩) n 10) W := by
  subst hi
  have hal : Try.prog.arrayLen 86 = 10 := by kernel_rfl
  rw [run_sliceAt_array_h _ 86 ⟨b, 0, none⟩ (by kernel_rfl) .i64 n (by omega) (by omega)]
  have hs : (sizeOf (Try.prog.elem 86)).run Try.prog W = .ok 1 W := by kernel_rfl
  rw [hs, hal]
  simp [slicedAt, Result.andThen, Addr.add]
theorem or128 (x : Nat) (h : x < 256) : bits .or .u8 (x : Int) 128 = ((x % 128 + 128 : Nat) : Int) := by
  have : ∀ y : Fin 256, bits .or .u8 ((y.val : Nat) : Int) 128 = ((y.val % 128 + 128 : Nat) : Int) := by decide +kernel
  exact this ⟨x, h⟩
theorem not128 (x : Nat) (h : x < 256) : bits .andNot .u8 (x : Int) 128 = ((x % 128 : Nat) : Int) := by
  have : ∀ y : Fin 256, bits .andNot .u8 ((y.val : Nat) : Int) 128 = ((y.val % 128 : Nat) : Int) := by decide +kernel
  exact this ⟨x, h⟩
theorem conv_blk (w : World) (l : List Int) (n c : Nat) (hn : n = l.length) :
    (convert 67 9 (.slice (some ⟨w.heap.size, 0, none⟩) n c)).run Try.prog (w.alloc (.cells (blk l) 86)) = .ok (.string (strOfNums l)) (w.alloc (.cells (blk l) 86)) := by
  subst hn
  refine run_convert_bytes_arg _ 67 5 Try.underlying67 Try.underlying5 _ _ _ c l rfl ?_ _ Try.underlying9
  intro i hi
  simpa using blk_cell l w i hi
def PutInv (n m : Nat) (l : List Int) : Prop :=
  l.length < 10 ∧ m < 2 ^ (64 - 7 * l.length) ∧ (∀ x ∈ l, 0 ≤ x ∧ x < 256) ∧ putB n = l.map (fun x => UInt8.ofNat x.toNat) ++ putL (10 - l.length) m
theorem or_mod (m : Nat) : bits .or .u8 ((m : Int) % 256) 128 = ((m % 128 + 128 : Nat) : Int) := by
  have := or128 (m % 256) (by omega)
  rw [show (m % 256) % 128 = m % 128 by omega] at this
  rw [← this]; rfl
theorem ge128 (m : Nat) (h : ((m : Int) / 128 == 0) = false) : 128 ≤ m := by simp at h; omega
theorem put_fin (n m : Nat) (l : List Int) (h : ((m : Int) / 128 == 0) = true) (H : PutInv n m l) :
    Value.string (strOfNums (l ++ [bits .andNot .u8 (bits .or .u8 ((m : Int) % 256) 128) 128])) = .string (strB (putB n)) := by
  obtain ⟨h0, h1, h2, h3⟩ := H
  have hm : m < 128 := by simp at h; omega
  rw [or_mod, not128 _ (by omega), h3]
  obtain ⟨f, hf⟩ : ∃ f, 10 - l.length = f + 1 := ⟨9 - l.length, by omega⟩
  rw [hf, putL, if_pos hm, show (m % 128 + 128) % 128 = m by omega]
  simp [strOfNums, strB]
theorem put_len (n m : Nat) (l : List Int) (h : ((m : Int) / 128 == 0) = false) (H : PutInv n m l) : (l ++ [bits .or .u8 ((m : Int) % 256) 128]).length < 10 := by
  obtain ⟨h0, h1, h2, h3⟩ := H
  have := ge128 m h
  by_cases h9 : l.length = 9
  · rw [h9] at h1; omega
  · simp; omega
theorem put_step (n m : Nat) (l : List Int) (h : ((m : Int) / 128 == 0) = false) (H : PutInv n m l) : PutInv n (m / 128) (l ++ [bits .or .u8 ((m : Int) % 256) 128]) := by
  have hlen := put_len n m l h H
  obtain ⟨h0, h1, h2, h3⟩ := H
  have hm := ge128 m h
  refine ⟨hlen, ?_, ?_, ?_⟩
  · simp only [List.length_append, List.length_singleton] at hlen ⊢
    rw [show 64 - 7 * l.length = (64 - 7 * (l.length + 1)) + 7 by omega, Nat.pow_add] at h1
    exact Nat.div_lt_of_lt_mul (by rw [Nat.mul_comm]; exact h1)
  · intro x hx
    rcases List.mem_append.1 hx with hx | hx
    · exact h2 x hx
    · rw [List.mem_singleton.1 hx, or_mod]; omega
  · rw [h3]
    simp only [List.length_append, List.length_singleton] at hlen ⊢
    obtain ⟨f, hf⟩ : ∃ f, 10 - l.length = f + 1 := ⟨9 - l.length, by omega⟩
    rw [hf, show 10 - (l.length + 1) = f by omega, putL, if_neg (by omega), or_mod, List.map_append, List.map_singleton, Int.toNat_natCast, List.append_assoc]
    rfl
set_option maxHeartbeats 400000 in
theorem put_any (n : Nat) (h1 : n < 18446744073709551616) (w : World) :
    Calls Try.prog 47 #[.int .u64 n] w fun e w' => e = .returned (.string (strB (putB n))) ∧ Below w.heap.size w w' := by
  go_enter Try.func47, Try.ntmps47
  go_wp2; go_step3; go_wp2; go_step3; go_wp2
  go_loopw [0, 4] (fun a b wr => ∃ (l : List Int) (m : Nat), l.length < 10 ∧ m < 18446744073709551616 ∧ a = .int .u64 m ∧ b = .int .i64 l.length ∧ wr = w.alloc (.cells (blk l) 86) ∧ Hid (PutInv n m l)) (fun _ b _ => 10 - (intOf b).toNat)
  case atStart => exact ⟨[], n, by simp, h1, rfl, rfl, rfl, ⟨by simp, by simpa using h1, by simp, rfl⟩⟩
  case round =>
    obtain ⟨l, m, hl, hm, rfl, rfl, rfl, H⟩ := hrel
    have hg := blk_get l hl
    have hs := blk_size l (by omega)
    have hst' := fun v v' => blk_set' l v v'
    have hg' := fun v => blk_get' l v
    have hst := fun v => blk_set l v hl
    have hsl := fun W => sl_blk w.heap.size (l.length + 1) (l.length + 1) rfl (by omega) W
    have hcv := fun v => conv_blk w (l ++ [v]) (l.length + 1) 10 (by simp)
    go_wp2
    · rw [Exit.noGoto_ret]
      go_ret
      exact ⟨congrArg Ending.returned (put_fin n m l ‹_› H.out), (Below.refl _ _).alloc (Nat.le_refl _) _⟩
    · go_roundw
      case rel => exact ⟨l ++ [bits .or .u8 ((m : Int) % 256) 128], m / 128, put_len n m l ‹_› H.out, by omega, by simp, by simp, rfl, put_step n m l ‹_› H.out⟩
      case measure => simp [intOf]; omega
theorem bits_or_u64 (a b : Nat) (ha : a < 18446744073709551616) (hb : b < 18446744073709551616) :
    bits .or .u64 (a : Int) (b : Int) = ((a ||| b : Nat) : Int) := by
  have hx : a ||| b < 2 ^ 64 := Nat.or_lt_two_pow (by omega) (by omega)
  have h1 : (BitVec.ofInt 64 (a : Int)).toNat = a := by
    rw [BitVec.ofInt_natCast, BitVec.toNat_ofNat]; exact Nat.mod_eq_of_lt (by omega)
  have h2 : (BitVec.ofInt 64 (b : Int)).toNat = b := by
    rw [BitVec.ofInt_natCast, BitVec.toNat_ofNat]; exact Nat.mod_eq_of_lt (by omega)
  show IntKind.u64.wrap ((BitVec.ofInt 64 (a : Int) ||| BitVec.ofInt 64 (b : Int)).toNat : Int) = _
  rw [BitVec.toNat_or, h1, h2, IntKind.wrap_u64]
  omega
theorem u64_wrap (n : Nat) (h : n < 18446744073709551616) : IntKind.u64.wrap (n : Int) = n := by
  rw [IntKind.wrap_u64]
  omega
theorem pow_split (k : Nat) : (128 : Nat) ^ k = 2 ^ (7 * k) := by rw [Nat.pow_mul]
theorem orval (n k c : Nat) (M : Int) (hM : M = ((2 ^ (7 * k) : Nat) : Int)) (hk : k ≤ 9) (hn : n < 128 ^ k) (hc : c < 256) (h9 : k = 9 → c ≤ 1) :
    bits .or .u64 (n : Int) (IntKind.u64.wrap (IntKind.u64.wrap (bits .andNot .u8 (c : Int) 128) * M)) = ((n + c % 128 * 128 ^ k : Nat) : Int) ∧ n + c % 128 * 128 ^ k < 18446744073709551616 ∧ n + c % 128 * 128 ^ k < 128 ^ (k + 1) := by
  have hp : 0 < 128 ^ k := Nat.pow_pos (by omega)
  have h1 : n + c % 128 * 128 ^ k < 128 ^ (k + 1) := by
    have : (c % 128 + 1) * 128 ^ k ≤ 128 * 128 ^ k := Nat.mul_le_mul_right _ (by omega)
    rw [pow_succ']
    have e : (c % 128 + 1) * 128 ^ k = c % 128 * 128 ^ k + 128 ^ k := by rw [Nat.add_mul, Nat.one_mul]
    omega
  have h2 : n + c % 128 * 128 ^ k < 18446744073709551616 := by
    by_cases h : k = 9
    · subst h
      have h3 : c % 128 ≤ 1 := by have := h9 rfl; omega
      have h4 : c % 128 * 128 ^ 9 ≤ 1 * 128 ^ 9 := Nat.mul_le_mul_right _ h3
      have h5 : (128 ^ 9 : Nat) = 9223372036854775808 := by decide
      omega
    · have h5 : 128 ^ (k + 1) ≤ 128 ^ 9 := Nat.pow_le_pow_right (by omega) (by omega)
      have h6 : (128 ^ 9 : Nat) = 9223372036854775808 := by decide
      omega
  refine ⟨?_, h2, h1⟩
  rw [not128 c hc, u64_wrap _ (by omega), hM, ← Int.natCast_mul, ← pow_split, u64_wrap _ (by omega), bits_or_u64 _ _ (by omega) (by omega)]
  congr 1
  rw [pow_split] at hn ⊢
  have := Nat.shiftLeft_add_eq_or_of_lt hn (c % 128)
  rw [Nat.shiftLeft_eq] at this
  rw [Nat.or_comm, ← this, Nat.add_comm]
theorem and128 (c : Nat) (h : c < 256) : (bits .and .u8 (c : Int) 128 != 0) = decide (128 ≤ c) := by
  have : ∀ y : Fin 256, (bits .and .u8 ((y.val : Nat) : Int) 128 != 0) = decide (128 ≤ y.val) := by decide +kernel
  exact this ⟨c, h⟩
/-- After k bytes. -/
def GetInv (l : List UInt8) (k n : Nat) : Prop := getB l = getL (10 - k) k n (l.drop k) ∧ n < 128 ^ k
theorem get_open (l : List UInt8) (k n : Nat) (hk : k < 10) (hl : k < l.length) (H : GetInv l k n) :
    getB l = if k = 9 ∧ 1 < l[k].toNat then (0, 0, 20) else
      if 128 ≤ l[k].toNat then getL (10 - (k + 1)) (k + 1) (n + l[k].toNat % 128 * 128 ^ k) (l.drop (k + 1))
      else if 0 < k ∧ l[k].toNat = 0 then (0, 0, 11) else (n + l[k].toNat * 128 ^ k, k + 1, 0) := by
  rw [H.1, List.drop_eq_getElem_cons hl, show 10 - k = (10 - (k + 1)) + 1 by omega, getL]
theorem get_ret (l : List UInt8) (m size e : Nat) (a b c : Int) (ha : a = m) (hb : b = size) (hc : c = e) (h : getB l = (m, size, e)) :
    Ending.returned (.tuple #[.int .u64 a, .int .i64 b, .int .i64 c]) = .returned (.tuple #[.int .u64 (getB l).1, .int .i64 (getB l).2.1, .int .i64 (getB l).2.2]) := by
  rw [h, ha, hb, hc]
set_option maxHeartbeats 400000 in
theorem get_any (s : ByteArray) (w : World) (hs : s.size ≤ maxLen) :
    Calls Try.prog 46 #[.string s] w fun e w' => e = .returned (.tuple #[.int .u64 (getB s.data.toList).1, .int .i64 (getB s.data.toList).2.1, .int .i64 (getB s.data.toList).2.2]) ∧ w = w' := by
  unfold maxLen at hs
  go_enter Try.func46, Try.ntmps46
  go_wp2
  go_loop [2, 6] (fun a b => ∃ (k n : Nat), k ≤ 10 ∧ k ≤ s.size ∧ n < 18446744073709551616 ∧ a = .int .u64 n ∧ b = .int .i64 k ∧ Hid (GetInv s.data.toList k n)) (fun _ b => 10 - (intOf b).toNat)
  case atStart => exact ⟨0, 0, by omega, by omega, by omega, rfl, rfl, rfl, by decide⟩
  case round =>
    obtain ⟨k, n, hk, hks, hn, rfl, rfl, H⟩ := hrel
    by_cases h10 : k < 10
    · by_cases hz : k < s.size
      · have hb := s[k].toNat_lt
        have hne : ((k : Int) == (s.size : Int)) = false := by simp; omega
        have ho := Lib.hid (get_open s.data.toList k n h10 (by simpa using hz) H.out)
        have hv9 := Lib.hid (fun (h9 : k = 9) (h : s[k].toNat ≤ 1) => orval n k s[k].toNat 9223372036854775808 (by rw [h9]; decide) (by omega) H.out.2 hb (fun _ => h))
        have hv := Lib.hid (fun (h9 : k ≠ 9) => orval n k s[k].toNat (2 ^ (7 * k)) (by simp) (by omega) H.out.2 hb (fun h => absurd h h9))
        have ha := and128 s[k].toNat hb
        have eb : s.data.toList[k]'(by simpa using hz) = s[k] := by simp; rfl
        by_cases h128 : 128 ≤ s[k].toNat
        · rw [decide_eq_true h128] at ha
          by_cases h9 : k = 9
          · subst h9
            have hr := Lib.hid (ho.out.trans (if_pos ⟨rfl, by rw [eb]; omega⟩))
            go_wp2
            go_ret3
            exact ⟨get_ret _ 0 0 20 _ _ _ rfl rfl rfl hr.out, rfl⟩
          · obtain ⟨v1, v2, v3⟩ := hv.out h9
            have hV := Lib.hid v1
            clear v1
            go_wp2
            go_round
            case rel => exact ⟨k + 1, n + s[k].toNat % 128 * 128 ^ k, by omega, by omega, v2, by rw [hV.out], by go_num, ho.out.trans (by rw [eb, if_neg (by omega), if_pos h128]), v3⟩
            case measure => simp [intOf]; omega
        · rw [decide_eq_false h128] at ha
          by_cases h19 : k = 9 ∧ 1 < s[k].toNat
          · have hr := Lib.hid (ho.out.trans (if_pos (by rw [eb]; exact h19)))
            obtain ⟨rfl, h1⟩ := h19
            go_wp2
            go_ret3
            exact ⟨get_ret _ 0 0 20 _ _ _ rfl rfl rfl hr.out, rfl⟩
          · have ho' := ho.out
            rw [eb, if_neg h19, if_neg h128] at ho'
            by_cases h0 : 0 < k ∧ s[k].toNat = 0
            · rw [if_pos h0] at ho'
              have hr := Lib.hid ho'
              clear ho'
              obtain ⟨hk0, h0⟩ := h0
              by_cases h9 : k = 9
              · subst h9
                go_wp2
                go_ret3
                exact ⟨get_ret _ 0 0 11 _ _ _ rfl rfl rfl hr.out, rfl⟩
              · go_wp2
                go_ret3
                exact ⟨get_ret _ 0 0 11 _ _ _ rfl rfl rfl hr.out, rfl⟩
            · rw [if_neg h0] at ho'
              have hr := Lib.hid ho'
              clear ho'
              have em : s[k].toNat % 128 = s[k].toNat := Nat.mod_eq_of_lt (by omega)
              by_cases h9 : k = 9
              · have hV := Lib.hid (hv9.out h9 (by omega)).1
                rw [em] at hV
                clear em
                subst h9
                have h1 : s[9].toNat ≤ 1 := by omega
                have h2 : 1 ≤ s[9].toNat := by omega
                clear h19 h0
                go_wp2
                go_ret3
                exact ⟨get_ret _ _ 10 0 _ _ _ hV.out rfl rfl hr.out, rfl⟩
              · have hV := Lib.hid (hv.out h9).1
                rw [em] at hV
                clear em h19
                by_cases hk0 : k ≤ 0
                · clear h0
                  go_wp2
                  go_ret3
                  exact ⟨get_ret _ _ (k + 1) 0 _ _ _ hV.out (by omega) rfl hr.out, rfl⟩
                · have h1 : 1 ≤ s[k].toNat := by omega
                  clear h0
                  go_wp2
                  go_ret3
                  exact ⟨get_ret _ _ (k + 1) 0 _ _ _ hV.out (by omega) rfl hr.out, rfl⟩
      · have hkz : k = s.size := by omega
        have hr := Lib.hid (show getB s.data.toList = (0, 0, 8) by
          rw [H.out.1, List.drop_eq_nil_of_le (by simp; omega), show 10 - k = (10 - (k + 1)) + 1 by omega, getL])
        have hne : ((k : Int) == (s.size : Int)) = true := by simp; omega
        clear hkz hz
        go_wp2
        go_ret3
        exact ⟨get_ret _ 0 0 8 _ _ _ rfl rfl rfl hr.out, rfl⟩
    · have hkz : k = 10 := by omega
      have hr := Lib.hid (show getB s.data.toList = (0, 0, 20) by
        rw [H.out.1, hkz, getL])
      clear hkz
      go_wp2
      go_ret3
      exact ⟨get_ret _ 0 0 20 _ _ _ rfl rfl rfl hr.out, rfl⟩
end Go.Proofs.Ytbdgmpjaibejnaa
