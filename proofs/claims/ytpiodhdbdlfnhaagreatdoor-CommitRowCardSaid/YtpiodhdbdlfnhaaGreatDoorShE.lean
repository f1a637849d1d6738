/- event: the parts of an event; an event with what its kind has alone; which events may be. event: an event with what its kind has alone (bare). event: which events may be. -/
import Derived.Test.YtpiodhdbdlfnhaaGreatDoorBits
import Derived.Test.YtpiodhdbdlfnhaaGreatDoorAll
import Derived.Test.YtpiodhdbdlfnhaaGreatDoorExch
import Derived.Test.YtpiodhdbdlfnhaaGreatDoorRetC
namespace Go.Proofs.YtpiodhdbdlfnhaaGreatDoor
open Go.RowKit Go.Lib
set_option linter.unusedVariables false
set_option linter.unusedSimpArgs false
set_option maxHeartbeats 4000000
def whC (e : EvS) : Tm := fun i => match i with
  | 0 => .int .u8 e.kind | 1 => .int .i64 e.thread | 2 => .int .i64 0 | 3 => .int .i64 e.at_ | 4 => .int .i64 e.v | 5 => .int .i64 e.x | 6 => .int .u8 e.why | _ => undef
abbrev whR (b : Nat) (e : EvS) : Res := blk b 7 (whC e) 128
def getV (j : Nat) (e : EvS) : Int := match j with | 2 => 0 | 3 => e.at_ | 4 => e.v | 5 => e.x | _ => e.why
def putV (j : Nat) (z : Int) (e : EvS) : EvS := match j with | 2 => e | 3 => { e with at_ := z } | 4 => { e with v := z } | 5 => { e with x := z } | _ => { e with why := z }
def foldV (j : Nat) (zs : List Int) (e : EvS) : EvS := zs.foldl (fun e z => putV j z e) e
def okV (j : Nat) (z : Int) : Prop := (j = 2 → z = 0) ∧ (j = 6 → 0 ≤ z ∧ z ≤ 255)
theorem foldV_succ {j : Nat} {zs : List Int} {k : Nat} (e : EvS) (h : k < zs.length) : foldV j (zs.take (k + 1)) e = putV j (zs.getD k 0) (foldV j (zs.take k) e) := by
  unfold foldV
  rw [List.take_add_one, List.foldl_append, List.getElem?_eq_getElem h, List.getD_eq_getElem?_getD, List.getElem?_eq_getElem h]
  rfl
theorem foldV_why {j : Nat} {zs : List Int} {e : EvS} (h : 0 ≤ e.why ∧ e.why ≤ 255) (hz : ∀ z ∈ zs, 0 ≤ z ∧ z ≤ 255) : 0 ≤ (foldV 6 zs e).why ∧ (foldV 6 zs e).why ≤ 255 := by
  unfold foldV
  induction zs generalizing e with
  | nil => exact h
  | cons z r ih => exact ih (e := putV 6 z e) (hz z (by simp)) (fun y hy => hz y (by simp [hy]))
theorem u8_in {z : Int} (h : 0 ≤ z ∧ z ≤ 255) : IntKind.u8.wrap z = z := by
  unfold IntKind.wrap
  simp [IntKind.bits, IntKind.signed]
  omega
theorem getD_mem0 {zs : List Int} {k : Nat} (h : k < zs.length) : zs.getD k 0 ∈ zs := by
  rw [List.getD_eq_getElem?_getD, List.getElem?_eq_getElem h]; exact List.getElem_mem h
section
variable {S0 : Nat → Prop} {ww w0 : World} {L : List Res} {b : Nat} {e : EvS} {a : Option Addr} {cap : Nat} {zs : List Int}
theorem upd2 (e : EvS) (z : Int) (h : okV 2 z) : upd (whC e) (0 + 2) (.int .i64 z) = whC (putV 2 z e) := by
  funext i
  match i with
  | 0 => rfl
  | 1 => rfl
  | 2 => show Value.int .i64 z = .int .i64 0; rw [h.1 rfl]
  | 3 => rfl
  | 4 => rfl
  | 5 => rfl
  | 6 => rfl
  | k + 7 => rfl
theorem part2 (hS : Sat S0 ww w0 (whR b e :: slL a cap 1 encI 0 zs :: L)) (hz : ∀ z ∈ zs, okV 2 z) :
    Calls Tryz.prog 138 #[.pointer (some ⟨b, 0, none⟩), .slice a zs.length cap] w0 fun r w' => r = .returned (.int .i64 (getV 2 (foldV 2 zs e))) ∧ Sat S0 ww w' (whR b (foldV 2 zs e) :: slL a cap 1 encI 0 zs :: L) := by
  have S := hS
  have hm : zs.length ≤ 9223372036854775807 := SlOk.small (show SlOk w0 a zs.length cap 1 _ from S.second)
  refine enter1 Tryz.func138 rfl Tryz.ntmps138 rfl Tryz.results138 ?_
  repeat' (first | refine assign_i_l S rfl rfl ?_ | refine nilL ?_ | refine run_seq ?_ | refine run_region ?_ | refine move_i_l S rfl rfl ?_ | refine move_s_l S rfl rfl ?_ | refine len_l S rfl rfl ?_ | refine run_block ?_ | refine thenQ_n ?_)
  refine run_while [6, 10, 11, 12, 13, 14, 15, 16, 17, 18] (fun (k : Nat) t => upd t 9 (.int .i64 k)) (fun k w' => k ≤ zs.length ∧ Sat S0 ww w' (whR b (foldV 2 (zs.take k) e) :: slL a cap 1 encI 0 zs :: L)) (fun k => zs.length - k) 0 ?_ ?_ ?_
  · (repeat (first | exact agree_refl | refine agree_r rfl ?_ | refine agree_l rfl ?_ | refine agree_hv rfl ?_))
  · exact ⟨Nat.zero_le _, S⟩
  · rintro k j w ⟨hk, S⟩
    repeat' (first | refine fieldAddr_l S rfl rfl rfl ?_ | refine assign_i_l S rfl rfl ?_ | refine nilL ?_ | refine run_seq ?_ | refine run_skip ?_ | refine run_region ?_ | refine move_i_l S rfl rfl ?_ | refine load_i_l S rfl rfl rfl rfl ?_ | refine loadE_i_l S rfl (by first | omega | decide | (simp; done) | (simp; omega)) rfl rfl rfl ?_ | refine move_p_l S rfl rfl ?_ | refine nilCheck_l S rfl rfl ?_ | (refine lss_l S rfl rfl rfl ?_ ?_ <;> intro hcmp <;> try (exfalso; first | omega | exact hcmp (by decide) | exact absurd hcmp (by decide))) | refine indexAddr_l S rfl rfl (idx_cast _) (by first | omega | decide | (simp; done) | (simp; omega)) rfl ?_ | (refine store_i S rfl rfl rfl ?_; clear S; intro w S) | refine add_l S rfl rfl (wrap_in (by omega)) rfl ?_ | refine run_block ?_ | refine run_ret ?_ | refine run_exit ?_ | refine run_cond_true rfl ?_ | refine run_cond_false rfl ?_ | refine thenQ_n ?_ | refine thenQ_e ?_ | refine blockQ_n ?_ | refine blockQ_s rfl ?_ | refine ret1_i rfl ?_)
    · rw [upd2 _ _ (hz _ (getD_mem0 (by omega))), ← foldV_succ _ (by omega)] at S
      refine ⟨k + 1, ?_, ⟨by omega, S⟩, by omega⟩
      (repeat (first | exact agree_refl | refine agree_r rfl ?_ | refine agree_l rfl ?_ | refine agree_hv rfl ?_))
    · have e1 : zs.take k = zs := List.take_of_length_le (by omega)
      rw [e1] at S
      exact ⟨by first | rfl | (rw [e1]; rfl), S⟩
theorem upd3 (e : EvS) (z : Int) (h : okV 3 z) : upd (whC e) (0 + 3) (.int .i64 z) = whC (putV 3 z e) := by
  funext i
  match i with
  | 0 => rfl
  | 1 => rfl
  | 2 => rfl
  | 3 => rfl
  | 4 => rfl
  | 5 => rfl
  | 6 => rfl
  | k + 7 => rfl
theorem part3 (hS : Sat S0 ww w0 (whR b e :: slL a cap 1 encI 0 zs :: L)) (hz : ∀ z ∈ zs, okV 3 z) :
    Calls Tryz.prog 135 #[.pointer (some ⟨b, 0, none⟩), .slice a zs.length cap] w0 fun r w' => r = .returned (.int .i64 (getV 3 (foldV 3 zs e))) ∧ Sat S0 ww w' (whR b (foldV 3 zs e) :: slL a cap 1 encI 0 zs :: L) := by
  have S := hS
  have hm : zs.length ≤ 9223372036854775807 := SlOk.small (show SlOk w0 a zs.length cap 1 _ from S.second)
  refine enter1 Tryz.func135 rfl Tryz.ntmps135 rfl Tryz.results135 ?_
  repeat' (first | refine assign_i_l S rfl rfl ?_ | refine nilL ?_ | refine run_seq ?_ | refine run_region ?_ | refine move_i_l S rfl rfl ?_ | refine move_s_l S rfl rfl ?_ | refine len_l S rfl rfl ?_ | refine run_block ?_ | refine thenQ_n ?_)
  refine run_while [6, 10, 11, 12, 13, 14, 15, 16, 17, 18] (fun (k : Nat) t => upd t 9 (.int .i64 k)) (fun k w' => k ≤ zs.length ∧ Sat S0 ww w' (whR b (foldV 3 (zs.take k) e) :: slL a cap 1 encI 0 zs :: L)) (fun k => zs.length - k) 0 ?_ ?_ ?_
  · (repeat (first | exact agree_refl | refine agree_r rfl ?_ | refine agree_l rfl ?_ | refine agree_hv rfl ?_))
  · exact ⟨Nat.zero_le _, S⟩
  · rintro k j w ⟨hk, S⟩
    repeat' (first | refine fieldAddr_l S rfl rfl rfl ?_ | refine assign_i_l S rfl rfl ?_ | refine nilL ?_ | refine run_seq ?_ | refine run_skip ?_ | refine run_region ?_ | refine move_i_l S rfl rfl ?_ | refine load_i_l S rfl rfl rfl rfl ?_ | refine loadE_i_l S rfl (by first | omega | decide | (simp; done) | (simp; omega)) rfl rfl rfl ?_ | refine move_p_l S rfl rfl ?_ | refine nilCheck_l S rfl rfl ?_ | (refine lss_l S rfl rfl rfl ?_ ?_ <;> intro hcmp <;> try (exfalso; first | omega | exact hcmp (by decide) | exact absurd hcmp (by decide))) | refine indexAddr_l S rfl rfl (idx_cast _) (by first | omega | decide | (simp; done) | (simp; omega)) rfl ?_ | (refine store_i S rfl rfl rfl ?_; clear S; intro w S) | refine add_l S rfl rfl (wrap_in (by omega)) rfl ?_ | refine run_block ?_ | refine run_ret ?_ | refine run_exit ?_ | refine run_cond_true rfl ?_ | refine run_cond_false rfl ?_ | refine thenQ_n ?_ | refine thenQ_e ?_ | refine blockQ_n ?_ | refine blockQ_s rfl ?_ | refine ret1_i rfl ?_)
    · rw [upd3 _ _ (hz _ (getD_mem0 (by omega))), ← foldV_succ _ (by omega)] at S
      refine ⟨k + 1, ?_, ⟨by omega, S⟩, by omega⟩
      (repeat (first | exact agree_refl | refine agree_r rfl ?_ | refine agree_l rfl ?_ | refine agree_hv rfl ?_))
    · have e1 : zs.take k = zs := List.take_of_length_le (by omega)
      rw [e1] at S
      exact ⟨by first | rfl | (rw [e1]; rfl), S⟩
theorem upd4 (e : EvS) (z : Int) (h : okV 4 z) : upd (whC e) (0 + 4) (.int .i64 z) = whC (putV 4 z e) := by
  funext i
  match i with
  | 0 => rfl
  | 1 => rfl
  | 2 => rfl
  | 3 => rfl
  | 4 => rfl
  | 5 => rfl
  | 6 => rfl
  | k + 7 => rfl
theorem part4 (hS : Sat S0 ww w0 (whR b e :: slL a cap 1 encI 0 zs :: L)) (hz : ∀ z ∈ zs, okV 4 z) :
    Calls Tryz.prog 139 #[.pointer (some ⟨b, 0, none⟩), .slice a zs.length cap] w0 fun r w' => r = .returned (.int .i64 (getV 4 (foldV 4 zs e))) ∧ Sat S0 ww w' (whR b (foldV 4 zs e) :: slL a cap 1 encI 0 zs :: L) := by
  have S := hS
  have hm : zs.length ≤ 9223372036854775807 := SlOk.small (show SlOk w0 a zs.length cap 1 _ from S.second)
  refine enter1 Tryz.func139 rfl Tryz.ntmps139 rfl Tryz.results139 ?_
  repeat' (first | refine assign_i_l S rfl rfl ?_ | refine nilL ?_ | refine run_seq ?_ | refine run_region ?_ | refine move_i_l S rfl rfl ?_ | refine move_s_l S rfl rfl ?_ | refine len_l S rfl rfl ?_ | refine run_block ?_ | refine thenQ_n ?_)
  refine run_while [6, 10, 11, 12, 13, 14, 15, 16, 17, 18] (fun (k : Nat) t => upd t 9 (.int .i64 k)) (fun k w' => k ≤ zs.length ∧ Sat S0 ww w' (whR b (foldV 4 (zs.take k) e) :: slL a cap 1 encI 0 zs :: L)) (fun k => zs.length - k) 0 ?_ ?_ ?_
  · (repeat (first | exact agree_refl | refine agree_r rfl ?_ | refine agree_l rfl ?_ | refine agree_hv rfl ?_))
  · exact ⟨Nat.zero_le _, S⟩
  · rintro k j w ⟨hk, S⟩
    repeat' (first | refine fieldAddr_l S rfl rfl rfl ?_ | refine assign_i_l S rfl rfl ?_ | refine nilL ?_ | refine run_seq ?_ | refine run_skip ?_ | refine run_region ?_ | refine move_i_l S rfl rfl ?_ | refine load_i_l S rfl rfl rfl rfl ?_ | refine loadE_i_l S rfl (by first | omega | decide | (simp; done) | (simp; omega)) rfl rfl rfl ?_ | refine move_p_l S rfl rfl ?_ | refine nilCheck_l S rfl rfl ?_ | (refine lss_l S rfl rfl rfl ?_ ?_ <;> intro hcmp <;> try (exfalso; first | omega | exact hcmp (by decide) | exact absurd hcmp (by decide))) | refine indexAddr_l S rfl rfl (idx_cast _) (by first | omega | decide | (simp; done) | (simp; omega)) rfl ?_ | (refine store_i S rfl rfl rfl ?_; clear S; intro w S) | refine add_l S rfl rfl (wrap_in (by omega)) rfl ?_ | refine run_block ?_ | refine run_ret ?_ | refine run_exit ?_ | refine run_cond_true rfl ?_ | refine run_cond_false rfl ?_ | refine thenQ_n ?_ | refine thenQ_e ?_ | refine blockQ_n ?_ | refine blockQ_s rfl ?_ | refine ret1_i rfl ?_)
    · rw [upd4 _ _ (hz _ (getD_mem0 (by omega))), ← foldV_succ _ (by omega)] at S
      refine ⟨k + 1, ?_, ⟨by omega, S⟩, by omega⟩
      (repeat (first | exact agree_refl | refine agree_r rfl ?_ | refine agree_l rfl ?_ | refine agree_hv rfl ?_))
    · have e1 : zs.take k = zs := List.take_of_length_le (by omega)
      rw [e1] at S
      exact ⟨by first | rfl | (rw [e1]; rfl), S⟩
theorem upd5 (e : EvS) (z : Int) (h : okV 5 z) : upd (whC e) (0 + 5) (.int .i64 z) = whC (putV 5 z e) := by
  funext i
  match i with
  | 0 => rfl
  | 1 => rfl
  | 2 => rfl
  | 3 => rfl
  | 4 => rfl
  | 5 => rfl
  | 6 => rfl
  | k + 7 => rfl
theorem part5 (hS : Sat S0 ww w0 (whR b e :: slL a cap 1 encI 0 zs :: L)) (hz : ∀ z ∈ zs, okV 5 z) :
    Calls Tryz.prog 140 #[.pointer (some ⟨b, 0, none⟩), .slice a zs.length cap] w0 fun r w' => r = .returned (.int .i64 (getV 5 (foldV 5 zs e))) ∧ Sat S0 ww w' (whR b (foldV 5 zs e) :: slL a cap 1 encI 0 zs :: L) := by
  have S := hS
  have hm : zs.length ≤ 9223372036854775807 := SlOk.small (show SlOk w0 a zs.length cap 1 _ from S.second)
  refine enter1 Tryz.func140 rfl Tryz.ntmps140 rfl Tryz.results140 ?_
  repeat' (first | refine assign_i_l S rfl rfl ?_ | refine nilL ?_ | refine run_seq ?_ | refine run_region ?_ | refine move_i_l S rfl rfl ?_ | refine move_s_l S rfl rfl ?_ | refine len_l S rfl rfl ?_ | refine run_block ?_ | refine thenQ_n ?_)
  refine run_while [6, 10, 11, 12, 13, 14, 15, 16, 17, 18] (fun (k : Nat) t => upd t 9 (.int .i64 k)) (fun k w' => k ≤ zs.length ∧ Sat S0 ww w' (whR b (foldV 5 (zs.take k) e) :: slL a cap 1 encI 0 zs :: L)) (fun k => zs.length - k) 0 ?_ ?_ ?_
  · (repeat (first | exact agree_refl | refine agree_r rfl ?_ | refine agree_l rfl ?_ | refine agree_hv rfl ?_))
  · exact ⟨Nat.zero_le _, S⟩
  · rintro k j w ⟨hk, S⟩
    repeat' (first | refine fieldAddr_l S rfl rfl rfl ?_ | refine assign_i_l S rfl rfl ?_ | refine nilL ?_ | refine run_seq ?_ | refine run_skip ?_ | refine run_region ?_ | refine move_i_l S rfl rfl ?_ | refine load_i_l S rfl rfl rfl rfl ?_ | refine loadE_i_l S rfl (by first | omega | decide | (simp; done) | (simp; omega)) rfl rfl rfl ?_ | refine move_p_l S rfl rfl ?_ | refine nilCheck_l S rfl rfl ?_ | (refine lss_l S rfl rfl rfl ?_ ?_ <;> intro hcmp <;> try (exfalso; first | omega | exact hcmp (by decide) | exact absurd hcmp (by decide))) | refine indexAddr_l S rfl rfl (idx_cast _) (by first | omega | decide | (simp; done) | (simp; omega)) rfl ?_ | (refine store_i S rfl rfl rfl ?_; clear S; intro w S) | refine add_l S rfl rfl (wrap_in (by omega)) rfl ?_ | refine run_block ?_ | refine run_ret ?_ | refine run_exit ?_ | refine run_cond_true rfl ?_ | refine run_cond_false rfl ?_ | refine thenQ_n ?_ | refine thenQ_e ?_ | refine blockQ_n ?_ | refine blockQ_s rfl ?_ | refine ret1_i rfl ?_)
    · rw [upd5 _ _ (hz _ (getD_mem0 (by omega))), ← foldV_succ _ (by omega)] at S
      refine ⟨k + 1, ?_, ⟨by omega, S⟩, by omega⟩
      (repeat (first | exact agree_refl | refine agree_r rfl ?_ | refine agree_l rfl ?_ | refine agree_hv rfl ?_))
    · have e1 : zs.take k = zs := List.take_of_length_le (by omega)
      rw [e1] at S
      exact ⟨by first | rfl | (rw [e1]; rfl), S⟩
theorem upd6 (e : EvS) (z : Int) (h : okV 6 z) : upd (whC e) (0 + 6) (.int .u8 z) = whC (putV 6 z e) := by
  funext i
  match i with
  | 0 => rfl
  | 1 => rfl
  | 2 => rfl
  | 3 => rfl
  | 4 => rfl
  | 5 => rfl
  | 6 => rfl
  | k + 7 => rfl
theorem part6 (hS : Sat S0 ww w0 (whR b e :: slL a cap 1 encI 0 zs :: L)) (hz : ∀ z ∈ zs, okV 6 z) (hw : 0 ≤ e.why ∧ e.why ≤ 255) :
    Calls Tryz.prog 141 #[.pointer (some ⟨b, 0, none⟩), .slice a zs.length cap] w0 fun r w' => r = .returned (.int .i64 (getV 6 (foldV 6 zs e))) ∧ Sat S0 ww w' (whR b (foldV 6 zs e) :: slL a cap 1 encI 0 zs :: L) := by
  have S := hS
  have hm : zs.length ≤ 9223372036854775807 := SlOk.small (show SlOk w0 a zs.length cap 1 _ from S.second)
  refine enter1 Tryz.func141 rfl Tryz.ntmps141 rfl Tryz.results141 ?_
  repeat' (first | refine assign_i_l S rfl rfl ?_ | refine nilL ?_ | refine run_seq ?_ | refine run_region ?_ | refine move_i_l S rfl rfl ?_ | refine move_s_l S rfl rfl ?_ | refine len_l S rfl rfl ?_ | refine run_block ?_ | refine thenQ_n ?_)
  refine run_while [6, 10, 11, 12, 13, 14, 15, 16, 17, 18, 19] (fun (k : Nat) t => upd t 9 (.int .i64 k)) (fun k w' => k ≤ zs.length ∧ Sat S0 ww w' (whR b (foldV 6 (zs.take k) e) :: slL a cap 1 encI 0 zs :: L)) (fun k => zs.length - k) 0 ?_ ?_ ?_
  · (repeat (first | exact agree_refl | refine agree_r rfl ?_ | refine agree_l rfl ?_ | refine agree_hv rfl ?_))
  · exact ⟨Nat.zero_le _, S⟩
  · rintro k j w ⟨hk, S⟩
    by_cases hkl : k < zs.length
    · have hzk := (hz _ (getD_mem0 hkl)).2 rfl
      repeat' (first | refine fieldAddr_l S rfl rfl rfl ?_ | refine assign_i_l S rfl rfl ?_ | refine nilL ?_ | refine run_seq ?_ | refine run_skip ?_ | refine run_region ?_ | refine move_i_l S rfl rfl ?_ | refine loadE_i_l S rfl (by first | omega | decide | (simp; done) | (simp; omega)) rfl rfl rfl ?_ | refine move_p_l S rfl rfl ?_ | refine convert_l S rfl rfl rfl ?_ | refine nilCheck_l S rfl rfl ?_ | (refine lss_l S rfl rfl rfl ?_ ?_ <;> intro hcmp <;> try (exfalso; first | omega | exact hcmp (by decide) | exact absurd hcmp (by decide))) | refine indexAddr_l S rfl rfl (idx_cast _) (by first | omega | decide | (simp; done) | (simp; omega)) rfl ?_ | (refine store_i S rfl rfl rfl ?_; clear S; intro w S) | refine add_l S rfl rfl (wrap_in (by omega)) rfl ?_ | refine run_block ?_ | refine run_cond_true rfl ?_ | refine thenQ_n ?_ | refine blockQ_n ?_)
      have hwz : IntKind.u8.wrap (zs.getD k 0) = zs.getD k 0 := u8_in hzk
      rw [hwz] at S
      rw [upd6 _ _ (hz _ (getD_mem0 (by omega))), ← foldV_succ _ (by omega)] at S
      refine ⟨k + 1, ?_, ⟨by omega, S⟩, by omega⟩
      (repeat (first | exact agree_refl | refine agree_r rfl ?_ | refine agree_l rfl ?_ | refine agree_hv rfl ?_))
    · have e1 : zs.take k = zs := List.take_of_length_le (by omega)
      rw [e1] at S
      have hfw := foldV_why (zs := zs) (j := 6) hw (fun z h => (hz z h).2 rfl)
      repeat' (first | refine fieldAddr_l S rfl rfl rfl ?_ | refine assign_i_l S rfl rfl ?_ | refine nilL ?_ | refine run_seq ?_ | refine run_region ?_ | refine load_i_l S rfl rfl rfl rfl ?_ | refine move_p_l S rfl rfl ?_ | refine convert_l S rfl (wrap_in (by omega)) rfl ?_ | refine nilCheck_l S rfl rfl ?_ | (refine lss_l S rfl rfl rfl ?_ ?_ <;> intro hcmp <;> try (exfalso; first | omega | exact hcmp (by decide) | exact absurd hcmp (by decide))) | refine run_ret ?_ | refine run_exit ?_ | refine run_cond_false rfl ?_ | refine thenQ_n ?_ | refine thenQ_e ?_ | refine blockQ_s rfl ?_ | refine ret1_i rfl ?_)
      exact ⟨rfl, S⟩
end
end Go.Proofs.YtpiodhdbdlfnhaaGreatDoor
namespace Go.Proofs.YtpiodhdbdlfnhaaGreatDoor
open Go.RowKit Go.Lib
set_option linter.unusedVariables false
set_option linter.unusedSimpArgs false
set_option maxHeartbeats 4000000
/-- The parts that a kind has, and their functions. -/
def partsK (k : Nat) : List Nat := match k with
  | 1 => [2, 4] | 2 => [3, 4] | 3 => [3, 5] | 4 => [3] | 5 => [4] | 6 => [3] | 7 => [4] | 8 => [3, 5] | 9 => [3] | 10 => [6, 3] | 11 => [3] | _ => []
def fnV (j : Nat) : Nat := match j with
  | 2 => 138 | 3 => 135 | 4 => 139 | 5 => 140 | _ => 141
def encF (j : Nat) : Nat → Value := fun _ => .func (.func (fnV j)) #[] #[]
def kC (nm : Nat → Value) (aF : Nat → Option Addr) (cF : Nat → Nat) : Nat → Nat → Value := fun i j => match j with | 0 => nm i | _ => .slice (aF i) (partsK i).length (cF i)
abbrev kR (nm : Nat → Value) (aF : Nat → Option Addr) (cF : Nat → Nat) : Res := slR (some ⟨0, 0, none⟩) 14 14 2 (kC nm aF cF)
abbrev fR (aF : Nat → Option Addr) (cF : Nat → Nat) (i : Nat) : Res := slL (aF i) (cF i) 1 encF 0 (partsK i)
/-- The table of kinds. -/
def gR (nm : Nat → Value) (aF : Nat → Option Addr) (cF : Nat → Nat) : Res where
  foot k := (kR nm aF cF).foot k ∨ ∃ i, i < 14 ∧ (fR aF cF i).foot k
  ro := true
  holds w := (kR nm aF cF).holds w ∧ ∀ i, i < 14 → (fR aF cF i).holds w
  lt w k h e := by
    rcases e with e | ⟨i, hi, e⟩
    · exact (kR nm aF cF).lt w k h.1 e
    · exact (fR aF cF i).lt w k (h.2 i hi) e
  loc w w' h e := ⟨(kR nm aF cF).loc w w' h.1 (fun k hk => e k (.inl hk)), fun i hi => (fR aF cF i).loc w w' (h.2 i hi) (fun k hk => e k (.inr ⟨i, hi, hk⟩))⟩
theorem Sat.weak {S : Nat → Prop} {w₀ w : World} {L : List Res} {r r' : Res} (h : Sat S w₀ w (r :: L)) (hr : r'.holds w) (hf : ∀ k, r'.foot k → r.foot k) (hro : r.ro = false) (hro' : r'.ro = true) : Sat S w₀ w (r' :: L) := by
  have hs := List.pairwise_cons.1 h.sep
  refine ⟨h.chg, fun x hx => ?_, .cons (fun x hx => ?_) hs.2, fun x hx => ?_⟩
  · rcases List.mem_cons.1 hx with rfl | hx
    · exact hr
    · exact h.all x (List.mem_cons_of_mem _ hx)
  · rcases hs.1 x hx with ⟨a, _⟩ | a
    · rw [hro] at a; cases a
    · exact .inr fun k h1 h2 => a k (hf k h1) h2
  · rcases List.mem_cons.1 hx with rfl | hx
    · intro e; rw [hro'] at e; cases e
    · exact h.own x (List.mem_cons_of_mem _ hx)
theorem Sat.nilS {S : Nat → Prop} {w₀ w : World} {L : List Res} (h : Sat S w₀ w L) : Sat S w₀ w (slL none 0 1 encI 0 [] :: L) :=
  h.push ⟨Nat.one_pos, Nat.le_refl _, Nat.zero_le _, fun _ => rfl, .inl rfl⟩ (fun x hx => .inr fun k h1 _ => h1.1 rfl) (fun e => by cases e)
def bare0 (e : EvS) : EvS := ⟨e.kind, e.thread, 0, 0, 0, 0⟩
def bareL (e : EvS) (l : List Nat) : EvS := l.foldl (fun c j => putV j (getV j e) c) (bare0 e)
def bareS (e : EvS) : EvS := bareL e (partsK e.kind.toNat)
theorem bareL_succ {l : List Nat} {k : Nat} (e : EvS) (h : k < l.length) : bareL e (l.take (k + 1)) = putV (l.getD k 0) (getV (l.getD k 0) e) (bareL e (l.take k)) := by
  unfold bareL
  rw [List.take_add_one, List.foldl_append, List.getElem?_eq_getElem h, List.getD_eq_getElem?_getD, List.getElem?_eq_getElem h]
  rfl
theorem parts_in : ∀ k, ∀ j ∈ partsK k, 2 ≤ j ∧ j ≤ 6 := by
  intro k j hj
  unfold partsK at hj
  split at hj <;> simp at hj <;> omega
section
variable {S0 : Nat → Prop} {ww w0 : World} {L : List Res} {b : Nat} {e : EvS} {a : Option Addr} {cap : Nat} {zs : List Int}
theorem part_any {j : Nat} (hj : 2 ≤ j ∧ j ≤ 6) (hS : Sat S0 ww w0 (whR b e :: slL a cap 1 encI 0 zs :: L)) (hz : ∀ z ∈ zs, okV j z) (hw : 0 ≤ e.why ∧ e.why ≤ 255) :
    Calls Tryz.prog (fnV j) #[.pointer (some ⟨b, 0, none⟩), .slice a zs.length cap] w0 fun r w' => r = .returned (.int .i64 (getV j (foldV j zs e))) ∧ Sat S0 ww w' (whR b (foldV j zs e) :: slL a cap 1 encI 0 zs :: L) := by
  have h : j = 2 ∨ j = 3 ∨ j = 4 ∨ j = 5 ∨ j = 6 := by omega
  rcases h with rfl | rfl | rfl | rfl | rfl
  · exact part2 hS hz
  · exact part3 hS hz
  · exact part4 hS hz
  · exact part5 hS hz
  · exact part6 hS hz hw
end
theorem mem_getD {l : List Nat} {k : Nat} (h : k < l.length) : l.getD k 0 ∈ l := by
  rw [List.getD_eq_getElem?_getD, List.getElem?_eq_getElem h]; exact List.getElem_mem h
theorem fnOk_any {j : Nat} (hj : 2 ≤ j ∧ j ≤ 6) : FnOk Tryz.prog (fnV j) := by
  have h : j = 2 ∨ j = 3 ∨ j = 4 ∨ j = 5 ∨ j = 6 := by omega
  rcases h with rfl | rfl | rfl | rfl | rfl
  · exact (inferInstance : FnOk Tryz.prog 138)
  · exact (inferInstance : FnOk Tryz.prog 135)
  · exact (inferInstance : FnOk Tryz.prog 139)
  · exact (inferInstance : FnOk Tryz.prog 140)
  · exact (inferInstance : FnOk Tryz.prog 141)
theorem bareL_why {e : EvS} (hw : 0 ≤ e.why ∧ e.why ≤ 255) (l : List Nat) (hl : ∀ j ∈ l, 2 ≤ j ∧ j ≤ 6) : 0 ≤ (bareL e l).why ∧ (bareL e l).why ≤ 255 := by
  have : ∀ (l : List Nat) (c : EvS), (∀ j ∈ l, 2 ≤ j ∧ j ≤ 6) → (0 ≤ c.why ∧ c.why ≤ 255) → 0 ≤ (l.foldl (fun c j => putV j (getV j e) c) c).why ∧ (l.foldl (fun c j => putV j (getV j e) c) c).why ≤ 255 := by
    intro l
    induction l with
    | nil => intro c _ h; exact h
    | cons j r ih =>
      intro c hl h
      refine ih _ (fun x hx => hl x (List.mem_cons_of_mem _ hx)) ?_
      have hj := hl j (List.mem_cons_self ..)
      have h2 : j = 2 ∨ j = 3 ∨ j = 4 ∨ j = 5 ∨ j = 6 := by omega
      rcases h2 with rfl | rfl | rfl | rfl | rfl
      · exact h
      · exact h
      · exact h
      · exact h
      · exact hw
  exact this l _ hl ⟨Int.le_refl _, by show (0 : Int) ≤ 255; omega⟩
theorem bare_at {nm : Nat → Value} {aF : Nat → Option Addr} {cF : Nat → Nat} {w0 : World} (hK : (gR nm aF cF).holds w0) (e : EvS) (hk : 1 ≤ e.kind ∧ e.kind ≤ 13) (hw : 0 ≤ e.why ∧ e.why ≤ 255) :
    Calls Tryz.prog 53 #[evA e] w0 fun r w' => r = .returned (evA (bareS e)) ∧ Below w0.heap.size w0 w' := by
  have hkn : e.kind.toNat < 14 := by omega
  have S : Sat (fun _ => False) w0 w0 [kR nm aF cF, fR aF cF e.kind.toNat] := ((Sat.start _ _).ro (r := fR aF cF e.kind.toNat) (hK.2 _ hkn) rfl rfl).ro (r := kR nm aF cF) hK.1 rfl rfl
  have hm : (partsK e.kind.toNat).length ≤ 9223372036854775807 := SlOk.small (hK.2 _ hkn)
  refine enterC Tryz.func53 rfl Tryz.ntmps53 rfl Tryz.results53 ?_
  repeat' (first | refine nilL ?_ | refine run_seq ?_ | refine run_region ?_ | (refine box_a S rfl rfl rfl ?_; clear S; intro b w S) | (refine allocZ_l S rfl rfl ?_; clear S; intro b w S) | refine thenQ_n ?_)
  rename_i be w1
  replace S : Sat (fun _ => False) w0 w [blk b 7 (fun i => ([.int .u8 0, .int .i64 0, .int .i64 0, .int .i64 0, .int .i64 0, .int .i64 0, .int .u8 0] : List Value).getD i undef) 39, evR be e, kR nm aF cF, fR aF cF e.kind.toNat] := S
  obtain ⟨b1, rfl⟩ : ∃ x, x = b := ⟨b, rfl⟩
  refine run_any_at (L' := [evR be e]) (f := 12) [7, 8, 9, 10, 11, 12, 13, 14, 15, 16] (fun (s : Nat × Nat) t => upd (upd t 3 (.pointer (some ⟨s.1, 0, none⟩))) 4 (.pointer (some ⟨s.2, 0, none⟩))) (fun s w' => Sat (fun _ => False) w0 w' [whR s.1 e, whR s.2 (bare0 e), blk b1 7 (fun i => ([.int .u8 0, .int .i64 0, .int .i64 0, .int .i64 0, .int .i64 0, .int .i64 0, .int .u8 0] : List Value).getD i undef) 39, evR be e, kR nm aF cF, fR aF cF e.kind.toNat]) S mixed rfl ?_ ?_
  · clear S
    intro w S1
    have S : Sat _ _ w [evR be e] := S1.sub
    (refine any_pure (i := 0) rfl (by kernel_rfl) S ?_; (first | refine loadN_x rfl rfl rfl ?_ | refine loadEN_x rfl (by first | omega | decide | (simp; done) | (simp; omega)) rfl rfl ?_))
    (refine any_pure (i := 1) rfl (by kernel_rfl) S ?_; (apply build7_x; (· repeat (first | exact mapN | apply mapC_i rfl | apply mapC_b rfl | apply mapC_p rfl | apply mapC_s rfl | apply mapC_e rfl | apply mapC_a rfl | apply mapC_o rfl)); (· rfl); (· rfl)))
    (refine any_pure (i := 3) rfl (by kernel_rfl) S ?_; (first | refine fieldAddr_x rfl rfl rfl ?_ | refine fieldAddrE_x rfl (by first | omega | decide | (simp; done) | (simp; omega)) rfl rfl ?_))
    (refine any_pure (i := 4) rfl (by kernel_rfl) S ?_; (first | refine load_i_x rfl rfl rfl rfl ?_ | refine load_o_x rfl rfl rfl rfl ?_ | refine loadE_i_x rfl (by first | omega | decide | (simp; done) | (simp; omega)) rfl rfl rfl ?_ | refine loadE_i_x rfl (by omega) rfl (by simp only [gset_at]; rfl) rfl ?_ | refine loadE_o_x rfl (by first | omega | decide | (simp; done) | (simp; omega)) rfl rfl rfl ?_))
    (refine any_pure (i := 5) rfl (by kernel_rfl) S ?_; (first | refine fieldAddr_x rfl rfl rfl ?_ | refine fieldAddrE_x rfl (by first | omega | decide | (simp; done) | (simp; omega)) rfl rfl ?_))
    (refine any_pure (i := 6) rfl (by kernel_rfl) S ?_; (first | refine load_i_x rfl rfl rfl rfl ?_ | refine load_o_x rfl rfl rfl rfl ?_ | refine loadE_i_x rfl (by first | omega | decide | (simp; done) | (simp; omega)) rfl rfl rfl ?_ | refine loadE_i_x rfl (by omega) rfl (by simp only [gset_at]; rfl) rfl ?_ | refine loadE_o_x rfl (by first | omega | decide | (simp; done) | (simp; omega)) rfl rfl rfl ?_))
    (refine any_pure (i := 7) rfl (by kernel_rfl) S ?_; (apply build7_x; (· repeat (first | exact mapN | apply mapC_i rfl | apply mapC_b rfl | apply mapC_p rfl | apply mapC_s rfl | apply mapC_e rfl | apply mapC_a rfl | apply mapC_o rfl)); (· rfl); (· rfl)))
    (refine any_pure (i := 8) rfl (by kernel_rfl) S ?_; (apply build7_x; (· repeat (first | exact mapN | apply mapC_i rfl | apply mapC_b rfl | apply mapC_p rfl | apply mapC_s rfl | apply mapC_e rfl | apply mapC_a rfl | apply mapC_o rfl)); (· rfl); (· rfl)))
    refine any_all (l := [2, 9]) (by kernel_rfl) (by decide) ?_
    intro i hi
    simp only [List.mem_cons, List.not_mem_nil, or_false] at hi
    rcases hi with rfl | rfl
    · (refine ⟨_, rfl, ?_⟩; replace S := S1; clear S1; (refine box_a S rfl rfl rfl ?_; clear S; intro b w S); refine nilL ?_; refine ⟨S.sub, ?_⟩; have S1 := S; replace S : Sat _ _ _ [evR be e] := S1.sub)
      (refine any_pure (i := 10) rfl (by kernel_rfl) S ?_; (first | refine assign_p_x rfl rfl ?_ | refine assign_e_x rfl rfl ?_ | refine assign_o_x rfl rfl ?_))
      (refine any_step (i := 9) rfl (by kernel_rfl) ?_; replace S := S1; clear S1; (refine box_a S rfl rfl rfl ?_; clear S; intro b w S); refine nilL ?_; refine ⟨S.sub, ?_⟩; have S1 := S; replace S : Sat _ _ _ [evR be e] := S1.sub)
      (refine any_pure (i := 11) rfl (by kernel_rfl) S ?_; (first | refine assign_p_x rfl rfl ?_ | refine assign_e_x rfl rfl ?_ | refine assign_o_x rfl rfl ?_))
      refine any_end (by kernel_rfl) ?_
      (first | (refine ⟨(_, _), ?_, ((S1.turn1 (r' := whR _ (bare0 e)) S1.got1 rfl (fun k e => e)).sw.turn1 (r' := whR _ e) S1.second rfl (fun k e => e))⟩; (repeat (first | exact agree_refl | refine agree_r rfl ?_ | refine agree_l rfl ?_ | refine agree_hv rfl ?_))) | (refine ⟨(_, _), ?_, ((S1.turn1 (r' := whR _ e) S1.got1 rfl (fun k e => e)).sw.turn1 (r' := whR _ (bare0 e)) S1.second rfl (fun k e => e)).sw⟩; (repeat (first | exact agree_refl | refine agree_r rfl ?_ | refine agree_l rfl ?_ | refine agree_hv rfl ?_))))
    · (refine ⟨_, rfl, ?_⟩; replace S := S1; clear S1; (refine box_a S rfl rfl rfl ?_; clear S; intro b w S); refine nilL ?_; refine ⟨S.sub, ?_⟩; have S1 := S; replace S : Sat _ _ _ [evR be e] := S1.sub)
      (refine any_step (i := 2) rfl (by kernel_rfl) ?_; replace S := S1; clear S1; (refine box_a S rfl rfl rfl ?_; clear S; intro b w S); refine nilL ?_; refine ⟨S.sub, ?_⟩; have S1 := S; replace S : Sat _ _ _ [evR be e] := S1.sub)
      (refine any_pure (i := 10) rfl (by kernel_rfl) S ?_; (first | refine assign_p_x rfl rfl ?_ | refine assign_e_x rfl rfl ?_ | refine assign_o_x rfl rfl ?_))
      (refine any_pure (i := 11) rfl (by kernel_rfl) S ?_; (first | refine assign_p_x rfl rfl ?_ | refine assign_e_x rfl rfl ?_ | refine assign_o_x rfl rfl ?_))
      refine any_end (by kernel_rfl) ?_
      (first | (refine ⟨(_, _), ?_, ((S1.turn1 (r' := whR _ (bare0 e)) S1.got1 rfl (fun k e => e)).sw.turn1 (r' := whR _ e) S1.second rfl (fun k e => e))⟩; (repeat (first | exact agree_refl | refine agree_r rfl ?_ | refine agree_l rfl ?_ | refine agree_hv rfl ?_))) | (refine ⟨(_, _), ?_, ((S1.turn1 (r' := whR _ e) S1.got1 rfl (fun k e => e)).sw.turn1 (r' := whR _ (bare0 e)) S1.second rfl (fun k e => e)).sw⟩; (repeat (first | exact agree_refl | refine agree_r rfl ?_ | refine agree_l rfl ?_ | refine agree_hv rfl ?_))))
  clear S
  rintro ⟨bf, bt⟩ j w S
  replace S : Sat (fun _ => False) w0 w [whR bf e, whR bt (bare0 e), blk b1 7 (fun i => ([.int .u8 0, .int .i64 0, .int .i64 0, .int .i64 0, .int .i64 0, .int .i64 0, .int .u8 0] : List Value).getD i undef) 39, evR be e, kR nm aF cF, fR aF cF e.kind.toNat] := S
  dsimp only
  repeat' (first | refine fieldAddr_l S rfl rfl rfl ?_ | refine fieldAddrE_l S rfl (by first | omega | decide | (simp; done) | (simp; omega)) rfl rfl ?_ | refine nilL ?_ | refine run_seq ?_ | refine run_region ?_ | refine move_i_l S rfl rfl ?_ | refine load_i_l S rfl rfl rfl rfl ?_ | refine indexG_l S rfl rfl (idx_eq _) (by omega) rfl ?_ | refine len_l S rfl rfl ?_ | refine loadE_o_l S rfl (by first | omega | decide | (simp; done) | (simp; omega)) rfl rfl rfl ?_ | refine run_block ?_ | refine thenQ_n ?_)
  refine run_while [6, 24, 25, 26, 27, 28, 29, 30, 31, 32, 33, 34] (fun (k : Nat) t => upd t 23 (.int .i64 k)) (fun k w' => k ≤ (partsK e.kind.toNat).length ∧ Sat (fun _ => False) w0 w' [whR bf e, whR bt (bareL e ((partsK e.kind.toNat).take k)), blk b1 7 (fun i => ([.int .u8 0, .int .i64 0, .int .i64 0, .int .i64 0, .int .i64 0, .int .i64 0, .int .u8 0] : List Value).getD i undef) 39, evR be e, kR nm aF cF, fR aF cF e.kind.toNat]) (fun k => (partsK e.kind.toNat).length - k) 0 ?_ ?_ ?_
  · (repeat (first | exact agree_refl | refine agree_r rfl ?_ | refine agree_l rfl ?_ | refine agree_hv rfl ?_))
  · exact ⟨Nat.zero_le _, S⟩
  · clear S
    rintro k j w ⟨hk, S⟩
    repeat' (first | refine fieldAddr_l S rfl rfl rfl ?_ | refine move_p_l S rfl rfl ?_ | refine nilL ?_ | refine run_seq ?_ | refine run_skip ?_ | refine run_region ?_ | (refine lss_l S rfl rfl rfl ?_ ?_ <;> intro hcmp <;> try (exfalso; first | omega | exact hcmp (by decide) | exact absurd hcmp (by decide))) | refine indexAddr_l S rfl rfl (idx_cast _) (by first | omega | decide | (simp; done) | (simp; omega)) rfl ?_ | refine nilCheck_l S rfl rfl ?_ | refine loadN_l S rfl rfl rfl ?_ | (refine storeN_l S rfl rfl ⟨rfl, rfl⟩ rfl ?_; clear S; intro w S) | refine move_o_l S rfl rfl ?_ | refine loadE_o_l S rfl (by first | omega | decide | (simp; done) | (simp; omega)) rfl rfl rfl ?_ | refine assign_o_l S rfl rfl ?_ | refine run_block ?_ | refine run_ret ?_ | refine run_exit ?_ | refine run_cond_true rfl ?_ | refine run_cond_false rfl ?_ | refine thenQ_n ?_ | refine thenQ_e ?_ | refine blockQ_s rfl ?_ | refine retC_l S rfl ?_)
    · have hkl : k < (partsK e.kind.toNat).length := by omega
      have hjk := parts_in e.kind.toNat _ (mem_getD hkl)
      obtain ⟨jk, hjke⟩ : ∃ jk, (partsK e.kind.toNat).getD k 0 = jk := ⟨_, rfl⟩
      rw [hjke] at hjk
      haveI := fnOk_any hjk
      have hfn : ∀ v : Nat, encF ((partsK e.kind.toNat).getD k 0) v = .func (.func (fnV jk)) #[] #[] := fun v => by unfold encF; rw [hjke]
      refine callV (f := fnV jk) (l1 := []) (l2 := []) (l := [.pointer (some ⟨bf, 0, none⟩), .slice none 0 0]) (hfn 0) (part_any (zs := []) hjk S.nilS.sw (by simp) hw) rfl rfl ?_
      clear S
      rintro r w ⟨rfl, S⟩
      replace S := S.sw.tl
      refine ⟨_, rfl, ?_⟩
      repeat' (first | (refine buildSlice_l S rfl rfl rfl rfl rfl ?_; clear S; intro b w S))
      replace S : Sat (fun _ => False) w0 w [row (some ⟨b, 0, none⟩) 1 1 2 1 (fun i _ => [Value.int .i64 (getV jk e)].getD i undef), whR bf e, whR bt (bareL e ((partsK e.kind.toNat).take k)), blk b1 7 (fun i => ([.int .u8 0, .int .i64 0, .int .i64 0, .int .i64 0, .int .i64 0, .int .i64 0, .int .u8 0] : List Value).getD i undef) 39, evR be e, kR nm aF cF, fR aF cF e.kind.toNat] := S
      have hsl : SlOk w (some ⟨b, 0, none⟩) 1 1 1 (gL encI 0 [getV jk e]) := (RowOk.sl S.got1).congr fun i hi j hj => by
        obtain rfl : i = 0 := by omega
        rfl
      have S2 := (S.weak (r' := slL (some ⟨b, 0, none⟩) 1 1 encI 0 [getV jk e]) hsl (fun k hk => hk.2) rfl rfl).perm (List.Perm.symm (List.perm_middle (a := whR bt (bareL e ((partsK e.kind.toNat).take k))) (l₁ := [slL (some ⟨b, 0, none⟩) 1 1 encI 0 [getV jk e], whR bf e])))
      have hok : okV jk (getV jk e) := ⟨fun h => by subst h; rfl, fun h => by subst h; exact hw⟩
      refine callV (f := fnV jk) (l1 := []) (l2 := []) (l := [.pointer (some ⟨bt, 0, none⟩), .slice (some ⟨b, 0, none⟩) 1 1]) (hfn 0) (part_any (zs := [getV jk e]) hjk S2 (fun z hz => by rw [List.mem_singleton.1 hz]; exact hok) (bareL_why hw _ (fun x hx => parts_in _ x (List.mem_of_mem_take hx)))) rfl rfl ?_
      clear S S2 hsl
      rintro r w ⟨rfl, S⟩
      have hb2 : foldV jk [getV jk e] (bareL e ((partsK e.kind.toNat).take k)) = bareL e ((partsK e.kind.toNat).take (k + 1)) := by
        rw [bareL_succ e hkl, hjke]; rfl
      rw [hb2] at S
      replace S := S.sw.tl.sw
      refine ⟨_, rfl, ?_⟩
      repeat' (first | refine nilL ?_ | refine run_region ?_ | refine move_i_l S rfl rfl ?_ | refine add_l S rfl rfl (wrap_in (by omega)) rfl ?_ | refine thenQ_n ?_ | refine blockQ_n ?_)
      refine ⟨k + 1, ?_, ⟨by omega, S⟩, by omega⟩
      (repeat (first | exact agree_refl | refine agree_r rfl ?_ | refine agree_l rfl ?_ | refine agree_hv rfl ?_))
    · have e1 : (partsK e.kind.toNat).take k = partsK e.kind.toNat := List.take_of_length_le (by omega)
      refine ⟨?_, S.chg.below⟩
      rw [e1]
      rfl
end Go.Proofs.YtpiodhdbdlfnhaaGreatDoor
namespace Go.Proofs.YtpiodhdbdlfnhaaGreatDoor
open Go.RowKit Go.Lib
set_option linter.unusedVariables false
set_option linter.unusedSimpArgs false
set_option maxHeartbeats 4000000
section
variable {S : Nat → Prop} {w₀ : World} {L : List Res}
variable {P : Program} {ops : Array Oper} {n : Nat} {rest : List Oper} {t : Tm} {w : World} {K : Tm → World → Prop} {KQ : Tm → Prop} {d : Nat} {ty : TypeId} {pos : String} {af : Array Edge} {x y : Operand} {T T' : TypeId} {ks : List IntKind} [hT : TyEqI P T ks] (l1 l2 : List Int)
include hT
theorem eqEI_x (hx : ev t x = aggV (List.zipWith (fun k a => Value.int k a) ks l1)) (hy : ev t y = aggV (List.zipWith (fun k a => Value.int k a) ks l2)) (h1 : l1.length = ks.length) (h2 : l2.length = ks.length) (hd : Nat.blt d n = true) (kk : KQ (upd t d (.bool (decide (l1 = l2))))) :
    QX P ops n S w₀ L ⟨some d, .binOp .eql T x y T', ty, pos, af, none⟩ t KQ := valX rfl rfl hd (fun w hS => aggI_run (ks := ks) false hx hy h1 h2) kk
end
def evLs (e : EvS) : List Int := [e.kind, e.thread, 0, e.at_, e.v, e.x, e.why]
def evKs : List IntKind := [.u8, .i64, .i64, .i64, .i64, .i64, .u8]
theorem evEqs (e : EvS) : decide (evLs e = evLs e) = true := by simp
instance : TyEqI Tryz.prog 39 evKs := (inferInstance : TyEqI Tryz.prog 39 [.u8, .i64, .i64, .i64, .i64, .i64, .u8])
/-- An event may be (over six threads). -/
structure MayP (e : EvS) (nv ns : Int) : Prop where
  vars : 1 ≤ nv ∧ nv ≤ 32
  stripes : 1 ≤ ns ∧ ns ≤ nv
  kind : 1 ≤ e.kind ∧ e.kind ≤ 13
  thread : 0 ≤ e.thread ∧ e.thread ≤ 5
  v : (if e.kind = 5 then 1 else 0) ≤ e.v ∧ e.v ≤ 1099511627776
  at_ : 0 ≤ e.at_ ∧ e.at_ ≤ (if e.kind = 3 ∨ e.kind = 8 then nv else if e.kind = 10 ∧ e.why = 6 then 1 else ns) - 1
  why : e.kind = 10 → 1 ≤ e.why ∧ e.why ≤ 6
  whyB : 0 ≤ e.why ∧ e.why ≤ 255
  bare : bareS e = e
theorem within_yes {n lo hi : Int} {w0 : World} (h : lo ≤ n ∧ n ≤ hi) : Calls Tryz.prog 51 #[.int .i64 n, .int .i64 lo, .int .i64 hi] w0 fun r w' => r = .returned (.bool true) ∧ Below w0.heap.size w0 w' := by
  have S := Sat.start (fun _ => False) w0
  refine enter1 Tryz.func51 rfl Tryz.ntmps51 rfl Tryz.results51 ?_
  repeat' (first | refine move_i_l S rfl rfl ?_ | refine assign_b_l S rfl rfl ?_ | (refine geq_l S rfl rfl rfl ?_ ?_ <;> intro hcmp <;> try (exfalso; first | omega | exact hcmp (by decide) | exact absurd hcmp (by decide))) | refine nilL ?_ | refine run_seq ?_ | refine run_region ?_ | refine onL rfl rfl ?_ | refine move_b_l S rfl rfl ?_ | (refine leq_l S rfl rfl rfl ?_ ?_ <;> intro hcmp <;> try (exfalso; first | omega | exact hcmp (by decide) | exact absurd hcmp (by decide))) | refine pick_tb_l S rfl rfl rfl ?_ | refine run_ret ?_ | refine thenQ_n ?_ | refine ret1_b rfl ?_)
  exact ⟨rfl, S.chg.below⟩
theorem known_yes {k : Int} {w0 : World} (h : 1 ≤ k ∧ k ≤ 13) : Calls Tryz.prog 52 #[.int .u8 k] w0 fun r w' => r = .returned (.bool true) ∧ Below w0.heap.size w0 w' := by
  have S := Sat.start (fun _ => False) w0
  refine enter1 Tryz.func52 rfl Tryz.ntmps52 rfl Tryz.results52 ?_
  repeat' (first | refine assign_b_l S rfl rfl ?_ | refine move_i_l S rfl rfl ?_ | (refine geq_l S rfl rfl rfl ?_ ?_ <;> intro hcmp <;> try (exfalso; first | omega | exact hcmp (by decide) | exact absurd hcmp (by decide))) | refine nilL ?_ | refine run_seq ?_ | refine run_region ?_ | refine onL rfl rfl ?_ | refine move_b_l S rfl rfl ?_ | (refine leq_l S rfl rfl rfl ?_ ?_ <;> intro hcmp <;> try (exfalso; first | omega | exact hcmp (by decide) | exact absurd hcmp (by decide))) | refine pick_tb_l S rfl rfl rfl ?_ | refine run_ret ?_ | refine thenQ_n ?_ | refine ret1_b rfl ?_)
  exact ⟨rfl, S.chg.below⟩
theorem may_at {nm : Nat → Value} {aF : Nat → Option Addr} {cF : Nat → Nat} {w0 : World} (hK : (gR nm aF cF).holds w0) (e : EvS) (nt vars stripes : Int) (hn : nt = 6) (hM : MayP e vars stripes) :
    Calls Tryz.prog 25 #[evA e, .int .i64 nt, .int .i64 vars, .int .i64 stripes] w0 fun r w' => r = .returned (.bool true) ∧ Below w0.heap.size w0 w' := by
  obtain ⟨m1, m2, m3, m4, m5, m6, m7, m8, m9⟩ := hM
  subst hn
  have S := Sat.reads (r := gR nm aF cF) hK
  refine enter1 Tryz.func25 rfl Tryz.ntmps25 rfl Tryz.results25 ?_
  repeat' (first | refine assign_b_l S rfl rfl ?_ | refine move_i_l S rfl rfl ?_ | refine nilL ?_ | refine run_seq ?_ | refine run_region ?_ | (refine box_a S rfl rfl rfl ?_; clear S; intro b w S) | refine move_o_l S rfl rfl ?_ | refine assign_o_l S rfl rfl ?_ | refine thenQ_n ?_)
  replace S : Sat (fun _ => False) w0 _ [evR b e, roR (gR nm aF cF)] := S
  refine callV (f := 51) (l1 := []) (l2 := []) (l := [.int .i64 _, .int .i64 _, .int .i64 _]) rfl (within_yes (by omega)) rfl rfl ?_
  rintro r w ⟨rfl, hb⟩
  replace S := S.below hb
  clear hb
  refine ⟨_, rfl, ?_⟩
  repeat' (first | refine move_i_l S rfl rfl ?_ | refine onL rfl rfl ?_ | refine not_l S rfl rfl ?_ | refine move_b_l S rfl rfl ?_ | refine move_o_l S rfl rfl ?_)
  refine callV (f := 51) (l1 := []) (l2 := []) (l := [.int .i64 _, .int .i64 _, .int .i64 _]) rfl (within_yes (by omega)) rfl rfl ?_
  rintro r w ⟨rfl, hb⟩
  replace S := S.below hb
  clear hb
  refine ⟨_, rfl, ?_⟩
  repeat' (first | refine move_i_l S rfl rfl ?_ | refine onL rfl rfl ?_ | refine not_l S rfl rfl ?_ | refine move_b_l S rfl rfl ?_ | refine pick_fb_l S rfl rfl rfl ?_ | refine move_o_l S rfl rfl ?_)
  refine callV (f := 51) (l1 := []) (l2 := []) (l := [.int .i64 _, .int .i64 _, .int .i64 _]) rfl (within_yes (by omega)) rfl rfl ?_
  rintro r w ⟨rfl, hb⟩
  replace S := S.below hb
  clear hb
  refine ⟨_, rfl, ?_⟩
  repeat' (first | refine fieldAddr_l S rfl rfl rfl ?_ | refine onL rfl rfl ?_ | refine load_i_l S rfl rfl rfl rfl ?_ | refine not_l S rfl rfl ?_ | refine move_b_l S rfl rfl ?_ | refine pick_fb_l S rfl rfl rfl ?_)
  (refine callL (known_yes m3) rfl rfl ?_; rintro e w ⟨rfl, hb⟩; replace S := S.below hb; clear hb; refine ⟨_, rfl, ?_⟩)
  repeat' (first | refine assign_b_l S rfl rfl ?_ | refine move_i_l S rfl rfl ?_ | refine fieldAddr_l S rfl rfl rfl ?_ | refine nilL ?_ | refine run_seq ?_ | refine run_skip ?_ | refine run_region ?_ | refine onL rfl rfl ?_ | refine load_i_l S rfl rfl rfl rfl ?_ | refine assign_i_l S rfl rfl ?_ | (refine eql_l S rfl rfl rfl ?_ ?_ <;> intro hcmp <;> try (exfalso; first | omega | exact hcmp (by decide) | exact absurd hcmp (by decide))) | refine not_l S rfl rfl ?_ | refine move_b_l S rfl rfl ?_ | refine pick_fb_l S rfl rfl rfl ?_ | (refine lss_l S rfl rfl rfl ?_ ?_ <;> intro hcmp <;> try (exfalso; first | omega | exact hcmp (by decide) | exact absurd hcmp (by decide))) | (refine gtr_l S rfl rfl rfl ?_ ?_ <;> intro hcmp <;> try (exfalso; first | omega | exact hcmp (by decide) | exact absurd hcmp (by decide))) | refine run_block ?_ | refine run_cond_true rfl ?_ | refine run_cond_false rfl ?_ | refine thenQ_n ?_ | refine blockQ_n ?_)
  · skip
    split at m5 <;> split at m6 <;> try (exfalso; omega)
    all_goals try (split at m6 <;> try (exfalso; omega))
    refine run_any S (L' := [evR b e, roR (gR nm aF cF)]) (f := 34) mixed rfl ?_
    clear S
    intro w S1
    have S : Sat _ _ w [evR b e, roR (gR nm aF cF)] := S1.sub
    all_goals (refine any_pure (i := 0) rfl (by kernel_rfl) S ?_; refine move_o_x rfl rfl ?_)
    all_goals (refine any_pure (i := 1) rfl (by kernel_rfl) S ?_; (refine fieldAddr_x rfl rfl rfl ?_))
    all_goals (refine any_pure (i := 2) rfl (by kernel_rfl) S ?_; (refine load_i_x rfl rfl rfl rfl ?_))
    all_goals (refine any_pure (i := 3) rfl (by kernel_rfl) S ?_; refine move_i_x rfl rfl ?_)
    all_goals (refine any_pure (i := 4) rfl (by kernel_rfl) S ?_; (refine sub_x rfl rfl (wrap_in (by omega)) rfl ?_))
    all_goals refine any_step (i := 5) rfl (by kernel_rfl) ?_
    all_goals replace S := S1
    refine callV (f := 51) (l1 := []) (l2 := []) (l := [.int .i64 _, .int .i64 _, .int .i64 _]) rfl (within_yes (by omega)) rfl rfl ?_
    rintro r w ⟨rfl, hb⟩
    replace S := S.below hb
    clear hb
    refine ⟨_, rfl, ?_⟩
    all_goals try refine nilL ?_
    all_goals refine ⟨S.sub, ?_⟩
    all_goals (have S1 := S; replace S : Sat _ _ _ [evR b e, roR (gR nm aF cF)] := S1.sub)
    all_goals (refine any_pure (i := 6) rfl (by kernel_rfl) S ?_; refine move_b_x rfl rfl ?_)
    all_goals (refine any_pure (i := 7) rfl (by kernel_rfl) S ?_; (refine onX rfl rfl ?_; refine move_o_x rfl rfl ?_))
    all_goals (refine any_pure (i := 8) rfl (by kernel_rfl) S ?_; (refine onX rfl rfl ?_; (refine fieldAddr_x rfl rfl rfl ?_)))
    all_goals (refine any_pure (i := 9) rfl (by kernel_rfl) S ?_; (refine onX rfl rfl ?_; (refine load_i_x rfl rfl rfl rfl ?_)))
    all_goals refine any_step (i := 10) rfl (by kernel_rfl) ?_
    all_goals refine onL rfl rfl ?_
    all_goals replace S := S1
    refine callV (f := 51) (l1 := []) (l2 := []) (l := [.int .i64 _, .int .i64 _, .int .i64 _]) rfl (within_yes (by omega)) rfl rfl ?_
    rintro r w ⟨rfl, hb⟩
    replace S := S.below hb
    clear hb
    refine ⟨_, rfl, ?_⟩
    all_goals try refine nilL ?_
    all_goals refine ⟨S.sub, ?_⟩
    all_goals (have S1 := S; replace S : Sat _ _ _ [evR b e, roR (gR nm aF cF)] := S1.sub)
    all_goals (refine any_pure (i := 11) rfl (by kernel_rfl) S ?_; (refine pick_tb_x rfl rfl rfl ?_))
    all_goals (refine any_pure (i := 12) rfl (by kernel_rfl) S ?_; refine move_b_x rfl rfl ?_)
    all_goals (refine any_pure (i := 13) rfl (by kernel_rfl) S ?_; (refine onX rfl rfl ?_; refine move_o_x rfl rfl ?_))
    all_goals (refine any_pure (i := 14) rfl (by kernel_rfl) S ?_; (refine onX rfl rfl ?_; (refine fieldAddr_x rfl rfl rfl ?_)))
    all_goals (refine any_pure (i := 15) rfl (by kernel_rfl) S ?_; (refine onX rfl rfl ?_; (refine load_i_x rfl rfl rfl rfl ?_)))
    all_goals (refine any_pure (i := 16) rfl (by kernel_rfl) S ?_; (refine onX rfl rfl ?_; refine move_i_x rfl rfl ?_))
    all_goals refine any_step (i := 17) rfl (by kernel_rfl) ?_
    all_goals refine onL rfl rfl ?_
    all_goals replace S := S1
    refine callV (f := 51) (l1 := []) (l2 := []) (l := [.int .i64 _, .int .i64 _, .int .i64 _]) rfl (within_yes (by omega)) rfl rfl ?_
    rintro r w ⟨rfl, hb⟩
    replace S := S.below hb
    clear hb
    refine ⟨_, rfl, ?_⟩
    all_goals try refine nilL ?_
    all_goals refine ⟨S.sub, ?_⟩
    all_goals (have S1 := S; replace S : Sat _ _ _ [evR b e, roR (gR nm aF cF)] := S1.sub)
    all_goals (refine any_pure (i := 18) rfl (by kernel_rfl) S ?_; (refine pick_tb_x rfl rfl rfl ?_))
    all_goals (refine any_pure (i := 19) rfl (by kernel_rfl) S ?_; refine move_b_x rfl rfl ?_)
    all_goals (refine any_pure (i := 20) rfl (by kernel_rfl) S ?_; (refine onX rfl rfl ?_; refine move_o_x rfl rfl ?_))
    all_goals (refine any_pure (i := 21) rfl (by kernel_rfl) S ?_; (refine onX rfl rfl ?_; (refine fieldAddr_x rfl rfl rfl ?_)))
    all_goals (refine any_pure (i := 22) rfl (by kernel_rfl) S ?_; (refine onX rfl rfl ?_; (refine load_i_x rfl rfl rfl rfl ?_)))
    all_goals (refine any_pure (i := 23) rfl (by kernel_rfl) S ?_; (refine onX rfl rfl ?_; refine move_i_x rfl rfl ?_))
    all_goals (refine any_pure (i := 24) rfl (by kernel_rfl) S ?_; (refine onX rfl rfl ?_; (refine sub_x rfl rfl (wrap_in (by omega)) rfl ?_)))
    all_goals refine any_step (i := 25) rfl (by kernel_rfl) ?_
    all_goals refine onL rfl rfl ?_
    all_goals replace S := S1
    refine callV (f := 51) (l1 := []) (l2 := []) (l := [.int .i64 _, .int .i64 _, .int .i64 _]) rfl (within_yes (by omega)) rfl rfl ?_
    rintro r w ⟨rfl, hb⟩
    replace S := S.below hb
    clear hb
    refine ⟨_, rfl, ?_⟩
    all_goals try refine nilL ?_
    all_goals refine ⟨S.sub, ?_⟩
    all_goals (have S1 := S; replace S : Sat _ _ _ [evR b e, roR (gR nm aF cF)] := S1.sub)
    all_goals (refine any_pure (i := 26) rfl (by kernel_rfl) S ?_; (refine pick_tb_x rfl rfl rfl ?_))
    all_goals (refine any_pure (i := 27) rfl (by kernel_rfl) S ?_; refine move_b_x rfl rfl ?_)
    all_goals (refine any_pure (i := 28) rfl (by kernel_rfl) S ?_; (refine onX rfl rfl ?_; (refine loadN_x rfl rfl rfl ?_)))
    all_goals (refine any_pure (i := 29) rfl (by kernel_rfl) S ?_; (refine onX rfl rfl ?_; (refine loadN_x rfl rfl rfl ?_)))
    all_goals refine any_step (i := 30) rfl (by kernel_rfl) ?_
    all_goals refine onL rfl rfl ?_
    all_goals replace S := S1
    (refine callL (bare_at (show (gR nm aF cF).holds _ from S.all (roR (gR nm aF cF)) (by simp)) e m3 m8) rfl rfl ?_; rintro e w ⟨rfl, hb⟩; replace S := S.below hb; clear hb; refine ⟨_, rfl, ?_⟩)
    rw [m9]
    all_goals try refine nilL ?_
    all_goals refine ⟨S.sub, ?_⟩
    all_goals (have S1 := S; replace S : Sat _ _ _ [evR b e, roR (gR nm aF cF)] := S1.sub)
    all_goals (refine any_pure (i := 31) rfl (by kernel_rfl) S ?_; (refine onX rfl rfl ?_; (refine eqEI_x (ks := evKs) (evLs e) (evLs e) rfl rfl rfl rfl rfl ?_; rw [evEqs])))
    all_goals (refine any_pure (i := 32) rfl (by kernel_rfl) S ?_; (refine pick_tb_x rfl rfl rfl ?_))
    all_goals (refine any_pure (i := 33) rfl (by kernel_rfl) S ?_; refine assign_b_x rfl rfl ?_)
    all_goals refine any_end (by kernel_rfl) ?_
    all_goals replace S := S1
    repeat' (first | refine run_ret ?_ | refine thenQ_n ?_ | refine ret1_b rfl ?_)
    exact ⟨rfl, S.chg.below⟩
  · skip
    split at m5 <;> split at m6 <;> try (exfalso; omega)
    all_goals try (split at m6 <;> try (exfalso; omega))
    refine run_any S (L' := [evR b e, roR (gR nm aF cF)]) (f := 34) mixed rfl ?_
    clear S
    intro w S1
    have S : Sat _ _ w [evR b e, roR (gR nm aF cF)] := S1.sub
    all_goals (refine any_pure (i := 0) rfl (by kernel_rfl) S ?_; refine move_o_x rfl rfl ?_)
    all_goals (refine any_pure (i := 1) rfl (by kernel_rfl) S ?_; (refine fieldAddr_x rfl rfl rfl ?_))
    all_goals (refine any_pure (i := 2) rfl (by kernel_rfl) S ?_; (refine load_i_x rfl rfl rfl rfl ?_))
    all_goals (refine any_pure (i := 3) rfl (by kernel_rfl) S ?_; refine move_i_x rfl rfl ?_)
    all_goals (refine any_pure (i := 4) rfl (by kernel_rfl) S ?_; (refine sub_x rfl rfl (wrap_in (by omega)) rfl ?_))
    all_goals refine any_step (i := 5) rfl (by kernel_rfl) ?_
    all_goals replace S := S1
    refine callV (f := 51) (l1 := []) (l2 := []) (l := [.int .i64 _, .int .i64 _, .int .i64 _]) rfl (within_yes (by omega)) rfl rfl ?_
    rintro r w ⟨rfl, hb⟩
    replace S := S.below hb
    clear hb
    refine ⟨_, rfl, ?_⟩
    all_goals try refine nilL ?_
    all_goals refine ⟨S.sub, ?_⟩
    all_goals (have S1 := S; replace S : Sat _ _ _ [evR b e, roR (gR nm aF cF)] := S1.sub)
    all_goals (refine any_pure (i := 6) rfl (by kernel_rfl) S ?_; refine move_b_x rfl rfl ?_)
    all_goals (refine any_pure (i := 7) rfl (by kernel_rfl) S ?_; (refine onX rfl rfl ?_; refine move_o_x rfl rfl ?_))
    all_goals (refine any_pure (i := 8) rfl (by kernel_rfl) S ?_; (refine onX rfl rfl ?_; (refine fieldAddr_x rfl rfl rfl ?_)))
    all_goals (refine any_pure (i := 9) rfl (by kernel_rfl) S ?_; (refine onX rfl rfl ?_; (refine load_i_x rfl rfl rfl rfl ?_)))
    all_goals refine any_step (i := 10) rfl (by kernel_rfl) ?_
    all_goals refine onL rfl rfl ?_
    all_goals replace S := S1
    refine callV (f := 51) (l1 := []) (l2 := []) (l := [.int .i64 _, .int .i64 _, .int .i64 _]) rfl (within_yes (by omega)) rfl rfl ?_
    rintro r w ⟨rfl, hb⟩
    replace S := S.below hb
    clear hb
    refine ⟨_, rfl, ?_⟩
    all_goals try refine nilL ?_
    all_goals refine ⟨S.sub, ?_⟩
    all_goals (have S1 := S; replace S : Sat _ _ _ [evR b e, roR (gR nm aF cF)] := S1.sub)
    all_goals (refine any_pure (i := 11) rfl (by kernel_rfl) S ?_; (refine pick_tb_x rfl rfl rfl ?_))
    all_goals (refine any_pure (i := 12) rfl (by kernel_rfl) S ?_; refine move_b_x rfl rfl ?_)
    all_goals (refine any_pure (i := 13) rfl (by kernel_rfl) S ?_; (refine onX rfl rfl ?_; refine move_o_x rfl rfl ?_))
    all_goals (refine any_pure (i := 14) rfl (by kernel_rfl) S ?_; (refine onX rfl rfl ?_; (refine fieldAddr_x rfl rfl rfl ?_)))
    all_goals (refine any_pure (i := 15) rfl (by kernel_rfl) S ?_; (refine onX rfl rfl ?_; (refine load_i_x rfl rfl rfl rfl ?_)))
    all_goals (refine any_pure (i := 16) rfl (by kernel_rfl) S ?_; (refine onX rfl rfl ?_; refine move_i_x rfl rfl ?_))
    all_goals refine any_step (i := 17) rfl (by kernel_rfl) ?_
    all_goals refine onL rfl rfl ?_
    all_goals replace S := S1
    refine callV (f := 51) (l1 := []) (l2 := []) (l := [.int .i64 _, .int .i64 _, .int .i64 _]) rfl (within_yes (by omega)) rfl rfl ?_
    rintro r w ⟨rfl, hb⟩
    replace S := S.below hb
    clear hb
    refine ⟨_, rfl, ?_⟩
    all_goals try refine nilL ?_
    all_goals refine ⟨S.sub, ?_⟩
    all_goals (have S1 := S; replace S : Sat _ _ _ [evR b e, roR (gR nm aF cF)] := S1.sub)
    all_goals (refine any_pure (i := 18) rfl (by kernel_rfl) S ?_; (refine pick_tb_x rfl rfl rfl ?_))
    all_goals (refine any_pure (i := 19) rfl (by kernel_rfl) S ?_; refine move_b_x rfl rfl ?_)
    all_goals (refine any_pure (i := 20) rfl (by kernel_rfl) S ?_; (refine onX rfl rfl ?_; refine move_o_x rfl rfl ?_))
    all_goals (refine any_pure (i := 21) rfl (by kernel_rfl) S ?_; (refine onX rfl rfl ?_; (refine fieldAddr_x rfl rfl rfl ?_)))
    all_goals (refine any_pure (i := 22) rfl (by kernel_rfl) S ?_; (refine onX rfl rfl ?_; (refine load_i_x rfl rfl rfl rfl ?_)))
    all_goals (refine any_pure (i := 23) rfl (by kernel_rfl) S ?_; (refine onX rfl rfl ?_; refine move_i_x rfl rfl ?_))
    all_goals (refine any_pure (i := 24) rfl (by kernel_rfl) S ?_; (refine onX rfl rfl ?_; (refine sub_x rfl rfl (wrap_in (by omega)) rfl ?_)))
    all_goals refine any_step (i := 25) rfl (by kernel_rfl) ?_
    all_goals refine onL rfl rfl ?_
    all_goals replace S := S1
    refine callV (f := 51) (l1 := []) (l2 := []) (l := [.int .i64 _, .int .i64 _, .int .i64 _]) rfl (within_yes (by omega)) rfl rfl ?_
    rintro r w ⟨rfl, hb⟩
    replace S := S.below hb
    clear hb
    refine ⟨_, rfl, ?_⟩
    all_goals try refine nilL ?_
    all_goals refine ⟨S.sub, ?_⟩
    all_goals (have S1 := S; replace S : Sat _ _ _ [evR b e, roR (gR nm aF cF)] := S1.sub)
    all_goals (refine any_pure (i := 26) rfl (by kernel_rfl) S ?_; (refine pick_tb_x rfl rfl rfl ?_))
    all_goals (refine any_pure (i := 27) rfl (by kernel_rfl) S ?_; refine move_b_x rfl rfl ?_)
    all_goals (refine any_pure (i := 28) rfl (by kernel_rfl) S ?_; (refine onX rfl rfl ?_; (refine loadN_x rfl rfl rfl ?_)))
    all_goals (refine any_pure (i := 29) rfl (by kernel_rfl) S ?_; (refine onX rfl rfl ?_; (refine loadN_x rfl rfl rfl ?_)))
    all_goals refine any_step (i := 30) rfl (by kernel_rfl) ?_
    all_goals refine onL rfl rfl ?_
    all_goals replace S := S1
    (refine callL (bare_at (show (gR nm aF cF).holds _ from S.all (roR (gR nm aF cF)) (by simp)) e m3 m8) rfl rfl ?_; rintro e w ⟨rfl, hb⟩; replace S := S.below hb; clear hb; refine ⟨_, rfl, ?_⟩)
    rw [m9]
    all_goals try refine nilL ?_
    all_goals refine ⟨S.sub, ?_⟩
    all_goals (have S1 := S; replace S : Sat _ _ _ [evR b e, roR (gR nm aF cF)] := S1.sub)
    all_goals (refine any_pure (i := 31) rfl (by kernel_rfl) S ?_; (refine onX rfl rfl ?_; (refine eqEI_x (ks := evKs) (evLs e) (evLs e) rfl rfl rfl rfl rfl ?_; rw [evEqs])))
    all_goals (refine any_pure (i := 32) rfl (by kernel_rfl) S ?_; (refine pick_tb_x rfl rfl rfl ?_))
    all_goals (refine any_pure (i := 33) rfl (by kernel_rfl) S ?_; refine assign_b_x rfl rfl ?_)
    all_goals refine any_end (by kernel_rfl) ?_
    all_goals replace S := S1
    repeat' (first | refine run_ret ?_ | refine thenQ_n ?_ | refine ret1_b rfl ?_)
    exact ⟨rfl, S.chg.below⟩
  · skip
    split at m5 <;> split at m6 <;> try (exfalso; omega)
    all_goals try (split at m6 <;> try (exfalso; omega))
    refine run_any S (L' := [evR b e, roR (gR nm aF cF)]) (f := 34) mixed rfl ?_
    clear S
    intro w S1
    have S : Sat _ _ w [evR b e, roR (gR nm aF cF)] := S1.sub
    all_goals (refine any_pure (i := 0) rfl (by kernel_rfl) S ?_; refine move_o_x rfl rfl ?_)
    all_goals (refine any_pure (i := 1) rfl (by kernel_rfl) S ?_; (refine fieldAddr_x rfl rfl rfl ?_))
    all_goals (refine any_pure (i := 2) rfl (by kernel_rfl) S ?_; (refine load_i_x rfl rfl rfl rfl ?_))
    all_goals (refine any_pure (i := 3) rfl (by kernel_rfl) S ?_; refine move_i_x rfl rfl ?_)
    all_goals (refine any_pure (i := 4) rfl (by kernel_rfl) S ?_; (refine sub_x rfl rfl (wrap_in (by omega)) rfl ?_))
    all_goals refine any_step (i := 5) rfl (by kernel_rfl) ?_
    all_goals replace S := S1
    refine callV (f := 51) (l1 := []) (l2 := []) (l := [.int .i64 _, .int .i64 _, .int .i64 _]) rfl (within_yes (by omega)) rfl rfl ?_
    rintro r w ⟨rfl, hb⟩
    replace S := S.below hb
    clear hb
    refine ⟨_, rfl, ?_⟩
    all_goals try refine nilL ?_
    all_goals refine ⟨S.sub, ?_⟩
    all_goals (have S1 := S; replace S : Sat _ _ _ [evR b e, roR (gR nm aF cF)] := S1.sub)
    all_goals (refine any_pure (i := 6) rfl (by kernel_rfl) S ?_; refine move_b_x rfl rfl ?_)
    all_goals (refine any_pure (i := 7) rfl (by kernel_rfl) S ?_; (refine onX rfl rfl ?_; refine move_o_x rfl rfl ?_))
    all_goals (refine any_pure (i := 8) rfl (by kernel_rfl) S ?_; (refine onX rfl rfl ?_; (refine fieldAddr_x rfl rfl rfl ?_)))
    all_goals (refine any_pure (i := 9) rfl (by kernel_rfl) S ?_; (refine onX rfl rfl ?_; (refine load_i_x rfl rfl rfl rfl ?_)))
    all_goals refine any_step (i := 10) rfl (by kernel_rfl) ?_
    all_goals refine onL rfl rfl ?_
    all_goals replace S := S1
    refine callV (f := 51) (l1 := []) (l2 := []) (l := [.int .i64 _, .int .i64 _, .int .i64 _]) rfl (within_yes (by omega)) rfl rfl ?_
    rintro r w ⟨rfl, hb⟩
    replace S := S.below hb
    clear hb
    refine ⟨_, rfl, ?_⟩
    all_goals try refine nilL ?_
    all_goals refine ⟨S.sub, ?_⟩
    all_goals (have S1 := S; replace S : Sat _ _ _ [evR b e, roR (gR nm aF cF)] := S1.sub)
    all_goals (refine any_pure (i := 11) rfl (by kernel_rfl) S ?_; (refine pick_tb_x rfl rfl rfl ?_))
    all_goals (refine any_pure (i := 12) rfl (by kernel_rfl) S ?_; refine move_b_x rfl rfl ?_)
    all_goals (refine any_pure (i := 13) rfl (by kernel_rfl) S ?_; (refine onX rfl rfl ?_; refine move_o_x rfl rfl ?_))
    all_goals (refine any_pure (i := 14) rfl (by kernel_rfl) S ?_; (refine onX rfl rfl ?_; (refine fieldAddr_x rfl rfl rfl ?_)))
    all_goals (refine any_pure (i := 15) rfl (by kernel_rfl) S ?_; (refine onX rfl rfl ?_; (refine load_i_x rfl rfl rfl rfl ?_)))
    all_goals (refine any_pure (i := 16) rfl (by kernel_rfl) S ?_; (refine onX rfl rfl ?_; refine move_i_x rfl rfl ?_))
    all_goals refine any_step (i := 17) rfl (by kernel_rfl) ?_
    all_goals refine onL rfl rfl ?_
    all_goals replace S := S1
    refine callV (f := 51) (l1 := []) (l2 := []) (l := [.int .i64 _, .int .i64 _, .int .i64 _]) rfl (within_yes (by omega)) rfl rfl ?_
    rintro r w ⟨rfl, hb⟩
    replace S := S.below hb
    clear hb
    refine ⟨_, rfl, ?_⟩
    all_goals try refine nilL ?_
    all_goals refine ⟨S.sub, ?_⟩
    all_goals (have S1 := S; replace S : Sat _ _ _ [evR b e, roR (gR nm aF cF)] := S1.sub)
    all_goals (refine any_pure (i := 18) rfl (by kernel_rfl) S ?_; (refine pick_tb_x rfl rfl rfl ?_))
    all_goals (refine any_pure (i := 19) rfl (by kernel_rfl) S ?_; refine move_b_x rfl rfl ?_)
    all_goals (refine any_pure (i := 20) rfl (by kernel_rfl) S ?_; (refine onX rfl rfl ?_; refine move_o_x rfl rfl ?_))
    all_goals (refine any_pure (i := 21) rfl (by kernel_rfl) S ?_; (refine onX rfl rfl ?_; (refine fieldAddr_x rfl rfl rfl ?_)))
    all_goals (refine any_pure (i := 22) rfl (by kernel_rfl) S ?_; (refine onX rfl rfl ?_; (refine load_i_x rfl rfl rfl rfl ?_)))
    all_goals (refine any_pure (i := 23) rfl (by kernel_rfl) S ?_; (refine onX rfl rfl ?_; refine move_i_x rfl rfl ?_))
    all_goals (refine any_pure (i := 24) rfl (by kernel_rfl) S ?_; (refine onX rfl rfl ?_; (refine sub_x rfl rfl (wrap_in (by omega)) rfl ?_)))
    all_goals refine any_step (i := 25) rfl (by kernel_rfl) ?_
    all_goals refine onL rfl rfl ?_
    all_goals replace S := S1
    refine callV (f := 51) (l1 := []) (l2 := []) (l := [.int .i64 _, .int .i64 _, .int .i64 _]) rfl (within_yes (by omega)) rfl rfl ?_
    rintro r w ⟨rfl, hb⟩
    replace S := S.below hb
    clear hb
    refine ⟨_, rfl, ?_⟩
    all_goals try refine nilL ?_
    all_goals refine ⟨S.sub, ?_⟩
    all_goals (have S1 := S; replace S : Sat _ _ _ [evR b e, roR (gR nm aF cF)] := S1.sub)
    all_goals (refine any_pure (i := 26) rfl (by kernel_rfl) S ?_; (refine pick_tb_x rfl rfl rfl ?_))
    all_goals (refine any_pure (i := 27) rfl (by kernel_rfl) S ?_; refine move_b_x rfl rfl ?_)
    all_goals (refine any_pure (i := 28) rfl (by kernel_rfl) S ?_; (refine onX rfl rfl ?_; (refine loadN_x rfl rfl rfl ?_)))
    all_goals (refine any_pure (i := 29) rfl (by kernel_rfl) S ?_; (refine onX rfl rfl ?_; (refine loadN_x rfl rfl rfl ?_)))
    all_goals refine any_step (i := 30) rfl (by kernel_rfl) ?_
    all_goals refine onL rfl rfl ?_
    all_goals replace S := S1
    (refine callL (bare_at (show (gR nm aF cF).holds _ from S.all (roR (gR nm aF cF)) (by simp)) e m3 m8) rfl rfl ?_; rintro e w ⟨rfl, hb⟩; replace S := S.below hb; clear hb; refine ⟨_, rfl, ?_⟩)
    rw [m9]
    all_goals try refine nilL ?_
    all_goals refine ⟨S.sub, ?_⟩
    all_goals (have S1 := S; replace S : Sat _ _ _ [evR b e, roR (gR nm aF cF)] := S1.sub)
    all_goals (refine any_pure (i := 31) rfl (by kernel_rfl) S ?_; (refine onX rfl rfl ?_; (refine eqEI_x (ks := evKs) (evLs e) (evLs e) rfl rfl rfl rfl rfl ?_; rw [evEqs])))
    all_goals (refine any_pure (i := 32) rfl (by kernel_rfl) S ?_; (refine pick_tb_x rfl rfl rfl ?_))
    all_goals (refine any_pure (i := 33) rfl (by kernel_rfl) S ?_; refine assign_b_x rfl rfl ?_)
    all_goals refine any_end (by kernel_rfl) ?_
    all_goals replace S := S1
    repeat' (first | refine run_ret ?_ | refine thenQ_n ?_ | refine ret1_b rfl ?_)
    exact ⟨rfl, S.chg.below⟩
  · skip
    split at m5 <;> split at m6 <;> try (exfalso; omega)
    all_goals try (split at m6 <;> try (exfalso; omega))
    refine run_any S (L' := [evR b e, roR (gR nm aF cF)]) (f := 34) mixed rfl ?_
    clear S
    intro w S1
    have S : Sat _ _ w [evR b e, roR (gR nm aF cF)] := S1.sub
    all_goals (refine any_pure (i := 0) rfl (by kernel_rfl) S ?_; refine move_o_x rfl rfl ?_)
    all_goals (refine any_pure (i := 1) rfl (by kernel_rfl) S ?_; (refine fieldAddr_x rfl rfl rfl ?_))
    all_goals (refine any_pure (i := 2) rfl (by kernel_rfl) S ?_; (refine load_i_x rfl rfl rfl rfl ?_))
    all_goals (refine any_pure (i := 3) rfl (by kernel_rfl) S ?_; refine move_i_x rfl rfl ?_)
    all_goals (refine any_pure (i := 4) rfl (by kernel_rfl) S ?_; (refine sub_x rfl rfl (wrap_in (by omega)) rfl ?_))
    all_goals refine any_step (i := 5) rfl (by kernel_rfl) ?_
    all_goals replace S := S1
    refine callV (f := 51) (l1 := []) (l2 := []) (l := [.int .i64 _, .int .i64 _, .int .i64 _]) rfl (within_yes (by omega)) rfl rfl ?_
    rintro r w ⟨rfl, hb⟩
    replace S := S.below hb
    clear hb
    refine ⟨_, rfl, ?_⟩
    all_goals try refine nilL ?_
    all_goals refine ⟨S.sub, ?_⟩
    all_goals (have S1 := S; replace S : Sat _ _ _ [evR b e, roR (gR nm aF cF)] := S1.sub)
    all_goals (refine any_pure (i := 6) rfl (by kernel_rfl) S ?_; refine move_b_x rfl rfl ?_)
    all_goals (refine any_pure (i := 7) rfl (by kernel_rfl) S ?_; (refine onX rfl rfl ?_; refine move_o_x rfl rfl ?_))
    all_goals (refine any_pure (i := 8) rfl (by kernel_rfl) S ?_; (refine onX rfl rfl ?_; (refine fieldAddr_x rfl rfl rfl ?_)))
    all_goals (refine any_pure (i := 9) rfl (by kernel_rfl) S ?_; (refine onX rfl rfl ?_; (refine load_i_x rfl rfl rfl rfl ?_)))
    all_goals refine any_step (i := 10) rfl (by kernel_rfl) ?_
    all_goals refine onL rfl rfl ?_
    all_goals replace S := S1
    refine callV (f := 51) (l1 := []) (l2 := []) (l := [.int .i64 _, .int .i64 _, .int .i64 _]) rfl (within_yes (by omega)) rfl rfl ?_
    rintro r w ⟨rfl, hb⟩
    replace S := S.below hb
    clear hb
    refine ⟨_, rfl, ?_⟩
    all_goals try refine nilL ?_
    all_goals refine ⟨S.sub, ?_⟩
    all_goals (have S1 := S; replace S : Sat _ _ _ [evR b e, roR (gR nm aF cF)] := S1.sub)
    all_goals (refine any_pure (i := 11) rfl (by kernel_rfl) S ?_; (refine pick_tb_x rfl rfl rfl ?_))
    all_goals (refine any_pure (i := 12) rfl (by kernel_rfl) S ?_; refine move_b_x rfl rfl ?_)
    all_goals (refine any_pure (i := 13) rfl (by kernel_rfl) S ?_; (refine onX rfl rfl ?_; refine move_o_x rfl rfl ?_))
    all_goals (refine any_pure (i := 14) rfl (by kernel_rfl) S ?_; (refine onX rfl rfl ?_; (refine fieldAddr_x rfl rfl rfl ?_)))
    all_goals (refine any_pure (i := 15) rfl (by kernel_rfl) S ?_; (refine onX rfl rfl ?_; (refine load_i_x rfl rfl rfl rfl ?_)))
    all_goals (refine any_pure (i := 16) rfl (by kernel_rfl) S ?_; (refine onX rfl rfl ?_; refine move_i_x rfl rfl ?_))
    all_goals refine any_step (i := 17) rfl (by kernel_rfl) ?_
    all_goals refine onL rfl rfl ?_
    all_goals replace S := S1
    refine callV (f := 51) (l1 := []) (l2 := []) (l := [.int .i64 _, .int .i64 _, .int .i64 _]) rfl (within_yes (by omega)) rfl rfl ?_
    rintro r w ⟨rfl, hb⟩
    replace S := S.below hb
    clear hb
    refine ⟨_, rfl, ?_⟩
    all_goals try refine nilL ?_
    all_goals refine ⟨S.sub, ?_⟩
    all_goals (have S1 := S; replace S : Sat _ _ _ [evR b e, roR (gR nm aF cF)] := S1.sub)
    all_goals (refine any_pure (i := 18) rfl (by kernel_rfl) S ?_; (refine pick_tb_x rfl rfl rfl ?_))
    all_goals (refine any_pure (i := 19) rfl (by kernel_rfl) S ?_; refine move_b_x rfl rfl ?_)
    all_goals (refine any_pure (i := 20) rfl (by kernel_rfl) S ?_; (refine onX rfl rfl ?_; refine move_o_x rfl rfl ?_))
    all_goals (refine any_pure (i := 21) rfl (by kernel_rfl) S ?_; (refine onX rfl rfl ?_; (refine fieldAddr_x rfl rfl rfl ?_)))
    all_goals (refine any_pure (i := 22) rfl (by kernel_rfl) S ?_; (refine onX rfl rfl ?_; (refine load_i_x rfl rfl rfl rfl ?_)))
    all_goals (refine any_pure (i := 23) rfl (by kernel_rfl) S ?_; (refine onX rfl rfl ?_; refine move_i_x rfl rfl ?_))
    all_goals (refine any_pure (i := 24) rfl (by kernel_rfl) S ?_; (refine onX rfl rfl ?_; (refine sub_x rfl rfl (wrap_in (by omega)) rfl ?_)))
    all_goals refine any_step (i := 25) rfl (by kernel_rfl) ?_
    all_goals refine onL rfl rfl ?_
    all_goals replace S := S1
    refine callV (f := 51) (l1 := []) (l2 := []) (l := [.int .i64 _, .int .i64 _, .int .i64 _]) rfl (within_yes (by omega)) rfl rfl ?_
    rintro r w ⟨rfl, hb⟩
    replace S := S.below hb
    clear hb
    refine ⟨_, rfl, ?_⟩
    all_goals try refine nilL ?_
    all_goals refine ⟨S.sub, ?_⟩
    all_goals (have S1 := S; replace S : Sat _ _ _ [evR b e, roR (gR nm aF cF)] := S1.sub)
    all_goals (refine any_pure (i := 26) rfl (by kernel_rfl) S ?_; (refine pick_tb_x rfl rfl rfl ?_))
    all_goals (refine any_pure (i := 27) rfl (by kernel_rfl) S ?_; refine move_b_x rfl rfl ?_)
    all_goals (refine any_pure (i := 28) rfl (by kernel_rfl) S ?_; (refine onX rfl rfl ?_; (refine loadN_x rfl rfl rfl ?_)))
    all_goals (refine any_pure (i := 29) rfl (by kernel_rfl) S ?_; (refine onX rfl rfl ?_; (refine loadN_x rfl rfl rfl ?_)))
    all_goals refine any_step (i := 30) rfl (by kernel_rfl) ?_
    all_goals refine onL rfl rfl ?_
    all_goals replace S := S1
    (refine callL (bare_at (show (gR nm aF cF).holds _ from S.all (roR (gR nm aF cF)) (by simp)) e m3 m8) rfl rfl ?_; rintro e w ⟨rfl, hb⟩; replace S := S.below hb; clear hb; refine ⟨_, rfl, ?_⟩)
    rw [m9]
    all_goals try refine nilL ?_
    all_goals refine ⟨S.sub, ?_⟩
    all_goals (have S1 := S; replace S : Sat _ _ _ [evR b e, roR (gR nm aF cF)] := S1.sub)
    all_goals (refine any_pure (i := 31) rfl (by kernel_rfl) S ?_; (refine onX rfl rfl ?_; (refine eqEI_x (ks := evKs) (evLs e) (evLs e) rfl rfl rfl rfl rfl ?_; rw [evEqs])))
    all_goals (refine any_pure (i := 32) rfl (by kernel_rfl) S ?_; (refine pick_tb_x rfl rfl rfl ?_))
    all_goals (refine any_pure (i := 33) rfl (by kernel_rfl) S ?_; refine assign_b_x rfl rfl ?_)
    all_goals refine any_end (by kernel_rfl) ?_
    all_goals replace S := S1
    repeat' (first | refine run_ret ?_ | refine thenQ_n ?_ | refine ret1_b rfl ?_)
    exact ⟨rfl, S.chg.below⟩
  · skip
    split at m5 <;> split at m6 <;> try (exfalso; omega)
    all_goals try (split at m6 <;> try (exfalso; omega))
    refine run_any S (L' := [evR b e, roR (gR nm aF cF)]) (f := 34) mixed rfl ?_
    clear S
    intro w S1
    have S : Sat _ _ w [evR b e, roR (gR nm aF cF)] := S1.sub
    all_goals (refine any_pure (i := 0) rfl (by kernel_rfl) S ?_; refine move_o_x rfl rfl ?_)
    all_goals (refine any_pure (i := 1) rfl (by kernel_rfl) S ?_; (refine fieldAddr_x rfl rfl rfl ?_))
    all_goals (refine any_pure (i := 2) rfl (by kernel_rfl) S ?_; (refine load_i_x rfl rfl rfl rfl ?_))
    all_goals (refine any_pure (i := 3) rfl (by kernel_rfl) S ?_; refine move_i_x rfl rfl ?_)
    all_goals (refine any_pure (i := 4) rfl (by kernel_rfl) S ?_; (refine sub_x rfl rfl (wrap_in (by omega)) rfl ?_))
    all_goals refine any_step (i := 5) rfl (by kernel_rfl) ?_
    all_goals replace S := S1
    refine callV (f := 51) (l1 := []) (l2 := []) (l := [.int .i64 _, .int .i64 _, .int .i64 _]) rfl (within_yes (by omega)) rfl rfl ?_
    rintro r w ⟨rfl, hb⟩
    replace S := S.below hb
    clear hb
    refine ⟨_, rfl, ?_⟩
    all_goals try refine nilL ?_
    all_goals refine ⟨S.sub, ?_⟩
    all_goals (have S1 := S; replace S : Sat _ _ _ [evR b e, roR (gR nm aF cF)] := S1.sub)
    all_goals (refine any_pure (i := 6) rfl (by kernel_rfl) S ?_; refine move_b_x rfl rfl ?_)
    all_goals (refine any_pure (i := 7) rfl (by kernel_rfl) S ?_; (refine onX rfl rfl ?_; refine move_o_x rfl rfl ?_))
    all_goals (refine any_pure (i := 8) rfl (by kernel_rfl) S ?_; (refine onX rfl rfl ?_; (refine fieldAddr_x rfl rfl rfl ?_)))
    all_goals (refine any_pure (i := 9) rfl (by kernel_rfl) S ?_; (refine onX rfl rfl ?_; (refine load_i_x rfl rfl rfl rfl ?_)))
    all_goals refine any_step (i := 10) rfl (by kernel_rfl) ?_
    all_goals refine onL rfl rfl ?_
    all_goals replace S := S1
    refine callV (f := 51) (l1 := []) (l2 := []) (l := [.int .i64 _, .int .i64 _, .int .i64 _]) rfl (within_yes (by omega)) rfl rfl ?_
    rintro r w ⟨rfl, hb⟩
    replace S := S.below hb
    clear hb
    refine ⟨_, rfl, ?_⟩
    all_goals try refine nilL ?_
    all_goals refine ⟨S.sub, ?_⟩
    all_goals (have S1 := S; replace S : Sat _ _ _ [evR b e, roR (gR nm aF cF)] := S1.sub)
    all_goals (refine any_pure (i := 11) rfl (by kernel_rfl) S ?_; (refine pick_tb_x rfl rfl rfl ?_))
    all_goals (refine any_pure (i := 12) rfl (by kernel_rfl) S ?_; refine move_b_x rfl rfl ?_)
    all_goals (refine any_pure (i := 13) rfl (by kernel_rfl) S ?_; (refine onX rfl rfl ?_; refine move_o_x rfl rfl ?_))
    all_goals (refine any_pure (i := 14) rfl (by kernel_rfl) S ?_; (refine onX rfl rfl ?_; (refine fieldAddr_x rfl rfl rfl ?_)))
    all_goals (refine any_pure (i := 15) rfl (by kernel_rfl) S ?_; (refine onX rfl rfl ?_; (refine load_i_x rfl rfl rfl rfl ?_)))
    all_goals (refine any_pure (i := 16) rfl (by kernel_rfl) S ?_; (refine onX rfl rfl ?_; refine move_i_x rfl rfl ?_))
    all_goals refine any_step (i := 17) rfl (by kernel_rfl) ?_
    all_goals refine onL rfl rfl ?_
    all_goals replace S := S1
    refine callV (f := 51) (l1 := []) (l2 := []) (l := [.int .i64 _, .int .i64 _, .int .i64 _]) rfl (within_yes (by omega)) rfl rfl ?_
    rintro r w ⟨rfl, hb⟩
    replace S := S.below hb
    clear hb
    refine ⟨_, rfl, ?_⟩
    all_goals try refine nilL ?_
    all_goals refine ⟨S.sub, ?_⟩
    all_goals (have S1 := S; replace S : Sat _ _ _ [evR b e, roR (gR nm aF cF)] := S1.sub)
    all_goals (refine any_pure (i := 18) rfl (by kernel_rfl) S ?_; (refine pick_tb_x rfl rfl rfl ?_))
    all_goals (refine any_pure (i := 19) rfl (by kernel_rfl) S ?_; refine move_b_x rfl rfl ?_)
    all_goals (refine any_pure (i := 20) rfl (by kernel_rfl) S ?_; (refine onX rfl rfl ?_; refine move_o_x rfl rfl ?_))
    all_goals (refine any_pure (i := 21) rfl (by kernel_rfl) S ?_; (refine onX rfl rfl ?_; (refine fieldAddr_x rfl rfl rfl ?_)))
    all_goals (refine any_pure (i := 22) rfl (by kernel_rfl) S ?_; (refine onX rfl rfl ?_; (refine load_i_x rfl rfl rfl rfl ?_)))
    all_goals (refine any_pure (i := 23) rfl (by kernel_rfl) S ?_; (refine onX rfl rfl ?_; refine move_i_x rfl rfl ?_))
    all_goals (refine any_pure (i := 24) rfl (by kernel_rfl) S ?_; (refine onX rfl rfl ?_; (refine sub_x rfl rfl (wrap_in (by omega)) rfl ?_)))
    all_goals refine any_step (i := 25) rfl (by kernel_rfl) ?_
    all_goals refine onL rfl rfl ?_
    all_goals replace S := S1
    refine callV (f := 51) (l1 := []) (l2 := []) (l := [.int .i64 _, .int .i64 _, .int .i64 _]) rfl (within_yes (by omega)) rfl rfl ?_
    rintro r w ⟨rfl, hb⟩
    replace S := S.below hb
    clear hb
    refine ⟨_, rfl, ?_⟩
    all_goals try refine nilL ?_
    all_goals refine ⟨S.sub, ?_⟩
    all_goals (have S1 := S; replace S : Sat _ _ _ [evR b e, roR (gR nm aF cF)] := S1.sub)
    all_goals (refine any_pure (i := 26) rfl (by kernel_rfl) S ?_; (refine pick_tb_x rfl rfl rfl ?_))
    all_goals (refine any_pure (i := 27) rfl (by kernel_rfl) S ?_; refine move_b_x rfl rfl ?_)
    all_goals (refine any_pure (i := 28) rfl (by kernel_rfl) S ?_; (refine onX rfl rfl ?_; (refine loadN_x rfl rfl rfl ?_)))
    all_goals (refine any_pure (i := 29) rfl (by kernel_rfl) S ?_; (refine onX rfl rfl ?_; (refine loadN_x rfl rfl rfl ?_)))
    all_goals refine any_step (i := 30) rfl (by kernel_rfl) ?_
    all_goals refine onL rfl rfl ?_
    all_goals replace S := S1
    (refine callL (bare_at (show (gR nm aF cF).holds _ from S.all (roR (gR nm aF cF)) (by simp)) e m3 m8) rfl rfl ?_; rintro e w ⟨rfl, hb⟩; replace S := S.below hb; clear hb; refine ⟨_, rfl, ?_⟩)
    rw [m9]
    all_goals try refine nilL ?_
    all_goals refine ⟨S.sub, ?_⟩
    all_goals (have S1 := S; replace S : Sat _ _ _ [evR b e, roR (gR nm aF cF)] := S1.sub)
    all_goals (refine any_pure (i := 31) rfl (by kernel_rfl) S ?_; (refine onX rfl rfl ?_; (refine eqEI_x (ks := evKs) (evLs e) (evLs e) rfl rfl rfl rfl rfl ?_; rw [evEqs])))
    all_goals (refine any_pure (i := 32) rfl (by kernel_rfl) S ?_; (refine pick_tb_x rfl rfl rfl ?_))
    all_goals (refine any_pure (i := 33) rfl (by kernel_rfl) S ?_; refine assign_b_x rfl rfl ?_)
    all_goals refine any_end (by kernel_rfl) ?_
    all_goals replace S := S1
    repeat' (first | refine run_ret ?_ | refine thenQ_n ?_ | refine ret1_b rfl ?_)
    exact ⟨rfl, S.chg.below⟩
  · skip
    split at m5 <;> split at m6 <;> try (exfalso; omega)
    all_goals try (split at m6 <;> try (exfalso; omega))
    refine run_any S (L' := [evR b e, roR (gR nm aF cF)]) (f := 34) mixed rfl ?_
    clear S
    intro w S1
    have S : Sat _ _ w [evR b e, roR (gR nm aF cF)] := S1.sub
    all_goals (refine any_pure (i := 0) rfl (by kernel_rfl) S ?_; refine move_o_x rfl rfl ?_)
    all_goals (refine any_pure (i := 1) rfl (by kernel_rfl) S ?_; (refine fieldAddr_x rfl rfl rfl ?_))
    all_goals (refine any_pure (i := 2) rfl (by kernel_rfl) S ?_; (refine load_i_x rfl rfl rfl rfl ?_))
    all_goals (refine any_pure (i := 3) rfl (by kernel_rfl) S ?_; refine move_i_x rfl rfl ?_)
    all_goals (refine any_pure (i := 4) rfl (by kernel_rfl) S ?_; (refine sub_x rfl rfl (wrap_in (by omega)) rfl ?_))
    all_goals refine any_step (i := 5) rfl (by kernel_rfl) ?_
    all_goals replace S := S1
    refine callV (f := 51) (l1 := []) (l2 := []) (l := [.int .i64 _, .int .i64 _, .int .i64 _]) rfl (within_yes (by omega)) rfl rfl ?_
    rintro r w ⟨rfl, hb⟩
    replace S := S.below hb
    clear hb
    refine ⟨_, rfl, ?_⟩
    all_goals try refine nilL ?_
    all_goals refine ⟨S.sub, ?_⟩
    all_goals (have S1 := S; replace S : Sat _ _ _ [evR b e, roR (gR nm aF cF)] := S1.sub)
    all_goals (refine any_pure (i := 6) rfl (by kernel_rfl) S ?_; refine move_b_x rfl rfl ?_)
    all_goals (refine any_pure (i := 7) rfl (by kernel_rfl) S ?_; (refine onX rfl rfl ?_; refine move_o_x rfl rfl ?_))
    all_goals (refine any_pure (i := 8) rfl (by kernel_rfl) S ?_; (refine onX rfl rfl ?_; (refine fieldAddr_x rfl rfl rfl ?_)))
    all_goals (refine any_pure (i := 9) rfl (by kernel_rfl) S ?_; (refine onX rfl rfl ?_; (refine load_i_x rfl rfl rfl rfl ?_)))
    all_goals refine any_step (i := 10) rfl (by kernel_rfl) ?_
    all_goals refine onL rfl rfl ?_
    all_goals replace S := S1
    refine callV (f := 51) (l1 := []) (l2 := []) (l := [.int .i64 _, .int .i64 _, .int .i64 _]) rfl (within_yes (by omega)) rfl rfl ?_
    rintro r w ⟨rfl, hb⟩
    replace S := S.below hb
    clear hb
    refine ⟨_, rfl, ?_⟩
    all_goals try refine nilL ?_
    all_goals refine ⟨S.sub, ?_⟩
    all_goals (have S1 := S; replace S : Sat _ _ _ [evR b e, roR (gR nm aF cF)] := S1.sub)
    all_goals (refine any_pure (i := 11) rfl (by kernel_rfl) S ?_; (refine pick_tb_x rfl rfl rfl ?_))
    all_goals (refine any_pure (i := 12) rfl (by kernel_rfl) S ?_; refine move_b_x rfl rfl ?_)
    all_goals (refine any_pure (i := 13) rfl (by kernel_rfl) S ?_; (refine onX rfl rfl ?_; refine move_o_x rfl rfl ?_))
    all_goals (refine any_pure (i := 14) rfl (by kernel_rfl) S ?_; (refine onX rfl rfl ?_; (refine fieldAddr_x rfl rfl rfl ?_)))
    all_goals (refine any_pure (i := 15) rfl (by kernel_rfl) S ?_; (refine onX rfl rfl ?_; (refine load_i_x rfl rfl rfl rfl ?_)))
    all_goals (refine any_pure (i := 16) rfl (by kernel_rfl) S ?_; (refine onX rfl rfl ?_; refine move_i_x rfl rfl ?_))
    all_goals refine any_step (i := 17) rfl (by kernel_rfl) ?_
    all_goals refine onL rfl rfl ?_
    all_goals replace S := S1
    refine callV (f := 51) (l1 := []) (l2 := []) (l := [.int .i64 _, .int .i64 _, .int .i64 _]) rfl (within_yes (by omega)) rfl rfl ?_
    rintro r w ⟨rfl, hb⟩
    replace S := S.below hb
    clear hb
    refine ⟨_, rfl, ?_⟩
    all_goals try refine nilL ?_
    all_goals refine ⟨S.sub, ?_⟩
    all_goals (have S1 := S; replace S : Sat _ _ _ [evR b e, roR (gR nm aF cF)] := S1.sub)
    all_goals (refine any_pure (i := 18) rfl (by kernel_rfl) S ?_; (refine pick_tb_x rfl rfl rfl ?_))
    all_goals (refine any_pure (i := 19) rfl (by kernel_rfl) S ?_; refine move_b_x rfl rfl ?_)
    all_goals (refine any_pure (i := 20) rfl (by kernel_rfl) S ?_; (refine onX rfl rfl ?_; refine move_o_x rfl rfl ?_))
    all_goals (refine any_pure (i := 21) rfl (by kernel_rfl) S ?_; (refine onX rfl rfl ?_; (refine fieldAddr_x rfl rfl rfl ?_)))
    all_goals (refine any_pure (i := 22) rfl (by kernel_rfl) S ?_; (refine onX rfl rfl ?_; (refine load_i_x rfl rfl rfl rfl ?_)))
    all_goals (refine any_pure (i := 23) rfl (by kernel_rfl) S ?_; (refine onX rfl rfl ?_; refine move_i_x rfl rfl ?_))
    all_goals (refine any_pure (i := 24) rfl (by kernel_rfl) S ?_; (refine onX rfl rfl ?_; (refine sub_x rfl rfl (wrap_in (by omega)) rfl ?_)))
    all_goals refine any_step (i := 25) rfl (by kernel_rfl) ?_
    all_goals refine onL rfl rfl ?_
    all_goals replace S := S1
    refine callV (f := 51) (l1 := []) (l2 := []) (l := [.int .i64 _, .int .i64 _, .int .i64 _]) rfl (within_yes (by omega)) rfl rfl ?_
    rintro r w ⟨rfl, hb⟩
    replace S := S.below hb
    clear hb
    refine ⟨_, rfl, ?_⟩
    all_goals try refine nilL ?_
    all_goals refine ⟨S.sub, ?_⟩
    all_goals (have S1 := S; replace S : Sat _ _ _ [evR b e, roR (gR nm aF cF)] := S1.sub)
    all_goals (refine any_pure (i := 26) rfl (by kernel_rfl) S ?_; (refine pick_tb_x rfl rfl rfl ?_))
    all_goals (refine any_pure (i := 27) rfl (by kernel_rfl) S ?_; refine move_b_x rfl rfl ?_)
    all_goals (refine any_pure (i := 28) rfl (by kernel_rfl) S ?_; (refine onX rfl rfl ?_; (refine loadN_x rfl rfl rfl ?_)))
    all_goals (refine any_pure (i := 29) rfl (by kernel_rfl) S ?_; (refine onX rfl rfl ?_; (refine loadN_x rfl rfl rfl ?_)))
    all_goals refine any_step (i := 30) rfl (by kernel_rfl) ?_
    all_goals refine onL rfl rfl ?_
    all_goals replace S := S1
    (refine callL (bare_at (show (gR nm aF cF).holds _ from S.all (roR (gR nm aF cF)) (by simp)) e m3 m8) rfl rfl ?_; rintro e w ⟨rfl, hb⟩; replace S := S.below hb; clear hb; refine ⟨_, rfl, ?_⟩)
    rw [m9]
    all_goals try refine nilL ?_
    all_goals refine ⟨S.sub, ?_⟩
    all_goals (have S1 := S; replace S : Sat _ _ _ [evR b e, roR (gR nm aF cF)] := S1.sub)
    all_goals (refine any_pure (i := 31) rfl (by kernel_rfl) S ?_; (refine onX rfl rfl ?_; (refine eqEI_x (ks := evKs) (evLs e) (evLs e) rfl rfl rfl rfl rfl ?_; rw [evEqs])))
    all_goals (refine any_pure (i := 32) rfl (by kernel_rfl) S ?_; (refine pick_tb_x rfl rfl rfl ?_))
    all_goals (refine any_pure (i := 33) rfl (by kernel_rfl) S ?_; refine assign_b_x rfl rfl ?_)
    all_goals refine any_end (by kernel_rfl) ?_
    all_goals replace S := S1
    repeat' (first | refine run_ret ?_ | refine thenQ_n ?_ | refine ret1_b rfl ?_)
    exact ⟨rfl, S.chg.below⟩
end Go.Proofs.YtpiodhdbdlfnhaaGreatDoor
