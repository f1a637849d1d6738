/- math/bits.Mul at one and a small number. heap: copies; a new one. -/
import Derived.Test.YtpiodhdbdlfnhaaGreatDoorProg
import Derived.WalkKit
import Derived.Lib.Hide
import Derived.Test.YtpiodhdbdlfnhaaGreatDoorHpB
namespace Go.Proofs.YtpiodhdbdlfnhaaGreatDoor
open Go.RowKit Go.Lib
set_option linter.unusedVariables false
set_option maxHeartbeats 2000000 in
theorem mul64_one (y : Int) (h0 : 0 ≤ y) (h1 : y ≤ 32) (w : World) : Calls Tryz.prog 76 #[.int .u64 1, .int .u64 y] w fun e w' => e = .returned (.tuple #[.int .u64 0, .int .u64 y]) ∧ w = w' := by
  have e1 : bits BinOp.and IntKind.u64 1 4294967295 = 1 := by decide +kernel
  have e0 : bits BinOp.and IntKind.u64 0 4294967295 = 0 := by decide +kernel
  have e2 : bits BinOp.and IntKind.u64 y 4294967295 = y := by
    have H : ∀ n : Fin 33, bits BinOp.and IntKind.u64 (n.val : Int) 4294967295 = (n.val : Int) := by decide +kernel
    have := H ⟨y.toNat, by omega⟩
    simpa [Int.toNat_of_nonneg h0] using this
  have d0 : y / 4294967296 = 0 := by omega
  have hw : IntKind.u64.wrap y = y := by rw [IntKind.wrap_u64]; omega
  go_enter Tryz.func76, Tryz.ntmps76
  go_wp2
  go_ret2
  exact ⟨by simp, rfl⟩
theorem mul_one (y : Int) (h0 : 0 ≤ y) (h1 : y ≤ 32) (w : World) : Calls Tryz.prog 50 #[.int .u64 1, .int .u64 y] w fun e w' => e = .returned (.tuple #[.int .u64 0, .int .u64 y]) ∧ w = w' := by
  have M := Lib.hid (mul64_one y h0 h1)
  go_enter Tryz.func50, Tryz.ntmps50
  go_wp2_with fail
  refine (M.out _).mono ?_
  rintro e w' ⟨rfl, rfl⟩
  go_wp2_with fail
  go_ret2
  exact ⟨rfl, rfl⟩
end Go.Proofs.YtpiodhdbdlfnhaaGreatDoor
namespace Go.Proofs.YtpiodhdbdlfnhaaGreatDoor
open Go.RowKit Go.Lib
set_option linter.unusedVariables false
theorem clone64_at (a : Option Addr) (cap : Nat) (zs : List Int) (hb : zs.length ≤ 1000000) (w0 : World) (h : SlOk w0 a zs.length cap 1 (gL encI 0 zs)) :
    Calls Tryz.prog 23 #[.slice a zs.length cap] w0 fun e w' => ∃ v, e = .returned v ∧ NewRow w0 w' 2 1 encI 0 zs v ∧ Below w0.heap.size w0 w' := by
  have S := Sat.reads (r := slL a cap 1 encI 0 zs) h
  refine enter1 Tryz.func23 rfl Tryz.ntmps23 rfl Tryz.results23 ?_
  repeat' (first | refine assign_s_l S rfl rfl ?_ | refine move_s_l S rfl rfl ?_ | (refine eqlS_l S rfl rfl rfl ?_ ?_ <;> intro hcmp <;> try (exfalso; simp at hcmp; done)) | refine nilL ?_ | refine run_seq ?_ | refine run_skip ?_ | refine run_region ?_ | (refine buildSliceN_l S (vs := []) rfl rfl rfl rfl rfl rfl ?_; clear S; intro b w S) | (refine append_l S rfl rfl (by omega) rfl ?_; clear S; intro a' cap' w S) | (refine append0_l S rfl rfl (by omega) rfl ?_; clear S; intro a' cap' w S) | (refine append1_i S rfl rfl rfl (by omega) rfl ?_; clear S; intro a' cap' w S) | (refine append2_i S rfl rfl rfl rfl (by omega) rfl ?_; clear S; intro a' cap' w S) | (refine appendPre_i S rfl rfl (by omega) (by omega) rfl ?_; clear S; intro a' cap' w S) | (refine appendSuf_i S rfl rfl (by omega) (by omega) rfl ?_; clear S; intro a' cap' w S) | refine run_block ?_ | refine run_ret ?_ | refine run_exit ?_ | refine run_cond_true rfl ?_ | refine run_cond_false rfl ?_ | refine thenQ_n ?_ | refine thenQ_r ?_ | refine thenQ_e ?_ | refine blockQ_n ?_ | refine blockQ_r ?_ | refine blockQ_s rfl ?_ | refine blockQ_o rfl ?_ | refine ret1_i rfl ?_ | refine ret1_b rfl ?_ | refine ret1_p rfl ?_ | refine ret1_s rfl ?_ | refine ret1_e rfl ?_ | refine ret1_a rfl ?_ | refine ret1_o rfl ?_ | refine ret1n_i rfl ?_ | refine ret1n_b rfl ?_ | refine ret1n_p rfl ?_ | refine ret1n_s rfl ?_ | refine ret1n_o rfl ?_)
  · have hz : zs = [] := List.eq_nil_of_length_eq_zero (by have := h.2.1; have := h.2.2.2.1 hcmp; omega)
    subst hz
    exact ⟨_, rfl, NewRow.nil (by decide), S.chg.below⟩
  · exact ⟨_, rfl, S.newRow, S.chg.below⟩
theorem repeat_at (z : Int × Int) (k : Nat) (h1 : 1 ≤ k) (h2 : k ≤ 32) (b0 : Nat) (w0 : World) (h : SlOk w0 (some ⟨b0, 0, none⟩) 1 1 2 (gL encP (0, 0) [z])) :
    Calls Tryz.prog 22 #[.slice (some ⟨b0, 0, none⟩) 1 1, .int .i64 k] w0 fun e w' => ∃ v, e = .returned v ∧ NewRow w0 w' 64 2 encP (0, 0) (List.replicate k z) v ∧ Below w0.heap.size w0 w' := by
  have S := Sat.reads (r := slL (some ⟨b0, 0, none⟩) 1 2 encP (0, 0) [z]) h
  refine enter1 Tryz.func22 rfl Tryz.ntmps22 rfl Tryz.results22 ?_
  repeat' (first | refine move_i_l S rfl rfl ?_ | refine move_s_l S rfl rfl ?_ | refine assign_s_l S rfl rfl ?_ | refine nilL ?_ | refine run_seq ?_ | refine run_skip ?_ | refine run_region ?_ | refine onL rfl rfl ?_ | refine offL rfl rfl rfl rfl ?_ | refine offL0 rfl rfl rfl ?_ | refine offLU rfl rfl rfl ?_ | refine convert_l S rfl (wrap_in (by omega)) rfl ?_ | refine convert_l S rfl (wrapu_in (by omega)) rfl ?_ | refine convert_l S rfl rfl rfl ?_ | refine assign_i_l S rfl rfl ?_ | (refine lss_l S rfl rfl rfl ?_ ?_ <;> intro hcmp <;> try (exfalso; first | omega | exact hcmp (by decide) | exact absurd hcmp (by decide))) | refine len_l S rfl rfl ?_ | refine extract_i_l S rfl rfl rfl ?_ | (refine gtr_l S rfl rfl rfl ?_ ?_ <;> intro hcmp <;> try (exfalso; first | omega | exact hcmp (by decide) | exact absurd hcmp (by decide))) | refine move_b_l S rfl rfl ?_ | refine pick_tb_l S rfl rfl rfl ?_ | refine pick_fb_l S rfl rfl rfl ?_ | (refine makeSlice_l S rfl rfl rfl (by omega) rfl ?_; clear S; intro b w S) | refine move_o_l S rfl rfl ?_ | refine run_block ?_ | refine run_ret ?_ | refine run_exit ?_ | refine run_cond_true rfl ?_ | refine run_cond_false rfl ?_ | refine thenQ_n ?_ | refine thenQ_r ?_ | refine thenQ_e ?_ | refine blockQ_n ?_ | refine blockQ_r ?_ | refine blockQ_s rfl ?_ | refine blockQ_o rfl ?_ | refine ret1_i rfl ?_ | refine ret1_b rfl ?_ | refine ret1_p rfl ?_ | refine ret1_s rfl ?_ | refine ret1_e rfl ?_ | refine ret1_a rfl ?_ | refine ret1_o rfl ?_ | refine ret1n_i rfl ?_ | refine ret1n_b rfl ?_ | refine ret1n_p rfl ?_ | refine ret1n_s rfl ?_ | refine ret1n_o rfl ?_)
  refine callL (l := [.int .u64 1, .int .u64 k]) (mul_one k (by omega) (by omega) _) rfl rfl ?_
  rintro e w ⟨rfl, rfl⟩
  refine ⟨_, rfl, ?_⟩
  repeat' (first | refine move_i_l S rfl rfl ?_ | refine move_s_l S rfl rfl ?_ | refine assign_s_l S rfl rfl ?_ | refine nilL ?_ | refine run_seq ?_ | refine run_skip ?_ | refine run_region ?_ | refine onL rfl rfl ?_ | refine offL rfl rfl rfl rfl ?_ | refine offL0 rfl rfl rfl ?_ | refine offLU rfl rfl rfl ?_ | refine convert_l S rfl (wrap_in (by omega)) rfl ?_ | refine convert_l S rfl (wrapu_in (by omega)) rfl ?_ | refine convert_l S rfl rfl rfl ?_ | refine assign_i_l S rfl rfl ?_ | (refine lss_l S rfl rfl rfl ?_ ?_ <;> intro hcmp <;> try (exfalso; first | omega | exact hcmp (by decide) | exact absurd hcmp (by decide))) | refine len_l S rfl rfl ?_ | refine extract_i_l S rfl rfl rfl ?_ | (refine gtr_l S rfl rfl rfl ?_ ?_ <;> intro hcmp <;> try (exfalso; first | omega | exact hcmp (by decide) | exact absurd hcmp (by decide))) | refine move_b_l S rfl rfl ?_ | refine pick_tb_l S rfl rfl rfl ?_ | refine pick_fb_l S rfl rfl rfl ?_ | (refine makeSlice_l S rfl rfl rfl (by omega) rfl ?_; clear S; intro b w S) | refine move_o_l S rfl rfl ?_ | refine run_block ?_ | refine run_ret ?_ | refine run_exit ?_ | refine run_cond_true rfl ?_ | refine run_cond_false rfl ?_ | refine thenQ_n ?_ | refine thenQ_r ?_ | refine thenQ_e ?_ | refine blockQ_n ?_ | refine blockQ_r ?_ | refine blockQ_s rfl ?_ | refine blockQ_o rfl ?_ | refine ret1_i rfl ?_ | refine ret1_b rfl ?_ | refine ret1_p rfl ?_ | refine ret1_s rfl ?_ | refine ret1_e rfl ?_ | refine ret1_a rfl ?_ | refine ret1_o rfl ?_ | refine ret1n_i rfl ?_ | refine ret1n_b rfl ?_ | refine ret1n_p rfl ?_ | refine ret1n_s rfl ?_ | refine ret1n_o rfl ?_)
  refine copy_core (a := some ⟨b, 0, none⟩) (len := k) (cap := k) (lo := 0) (m := 1) (sz := 2) S rfl rfl (by rw [subA_zero]) ((S.all (roR (slL (some ⟨b0, 0, none⟩) 1 2 encP (0, 0) [z])) (by simp))) (fun i j _ _ => plainP.one _ _) (by omega) (by rw [show Nat.min 1 k = 1 from Nat.min_eq_left h1]) rfl ?_
  clear S; intro w S
  repeat' (first | refine move_i_l S rfl rfl ?_ | refine move_s_l S rfl rfl ?_ | refine assign_s_l S rfl rfl ?_ | refine nilL ?_ | refine run_seq ?_ | refine run_skip ?_ | refine run_region ?_ | refine onL rfl rfl ?_ | refine offL rfl rfl rfl rfl ?_ | refine offL0 rfl rfl rfl ?_ | refine offLU rfl rfl rfl ?_ | refine convert_l S rfl (wrap_in (by omega)) rfl ?_ | refine convert_l S rfl (wrapu_in (by omega)) rfl ?_ | refine convert_l S rfl rfl rfl ?_ | refine assign_i_l S rfl rfl ?_ | (refine lss_l S rfl rfl rfl ?_ ?_ <;> intro hcmp <;> try (exfalso; first | omega | exact hcmp (by decide) | exact absurd hcmp (by decide))) | refine len_l S rfl rfl ?_ | refine extract_i_l S rfl rfl rfl ?_ | (refine gtr_l S rfl rfl rfl ?_ ?_ <;> intro hcmp <;> try (exfalso; first | omega | exact hcmp (by decide) | exact absurd hcmp (by decide))) | refine move_b_l S rfl rfl ?_ | refine pick_tb_l S rfl rfl rfl ?_ | refine pick_fb_l S rfl rfl rfl ?_ | (refine makeSlice_l S rfl rfl rfl (by omega) rfl ?_; clear S; intro b w S) | refine move_o_l S rfl rfl ?_ | refine run_block ?_ | refine run_ret ?_ | refine run_exit ?_ | refine run_cond_true rfl ?_ | refine run_cond_false rfl ?_ | refine thenQ_n ?_ | refine thenQ_r ?_ | refine thenQ_e ?_ | refine blockQ_n ?_ | refine blockQ_r ?_ | refine blockQ_s rfl ?_ | refine blockQ_o rfl ?_ | refine ret1_i rfl ?_ | refine ret1_b rfl ?_ | refine ret1_p rfl ?_ | refine ret1_s rfl ?_ | refine ret1_e rfl ?_ | refine ret1_a rfl ?_ | refine ret1_o rfl ?_ | refine ret1n_i rfl ?_ | refine ret1n_b rfl ?_ | refine ret1n_p rfl ?_ | refine ret1n_s rfl ?_ | refine ret1n_o rfl ?_)
  refine run_while [34, 35, 36, 37, 38, 39, 40, 41, 42, 43, 44, 45, 46] (fun (m : Nat) t => upd t 8 (.int .i64 m)) (fun m w' => (1 ≤ m ∧ m ≤ k) ∧ ∃ g, (∀ i, i < m → ∀ j, j < 2 → g i j = encP z j) ∧ Sat (fun _ => False) w0 w' [row (some ⟨b, 0, none⟩) k k 64 2 g, roR (slL (some ⟨b0, 0, none⟩) 1 2 encP (0, 0) [z])]) (fun m => k - m) 1 ?_ ?_ ?_
  · (repeat (first | exact agree_refl | refine agree_r rfl ?_ | refine agree_l rfl ?_ | refine agree_hv rfl ?_))
  · refine ⟨⟨Nat.le_refl _, h1⟩, _, fun i hi j hj => ?_, S⟩
    obtain rfl : i = 0 := by omega
    rfl
  · rintro m j w ⟨⟨hm1, hm⟩, g, hg, S⟩
    repeat' (first | refine move_i_l S rfl rfl ?_ | refine move_s_l S rfl rfl ?_ | refine assign_s_l S rfl rfl ?_ | refine nilL ?_ | refine run_seq ?_ | refine run_skip ?_ | refine run_region ?_ | refine onL rfl rfl ?_ | refine offL rfl rfl rfl rfl ?_ | refine offL0 rfl rfl rfl ?_ | refine offLU rfl rfl rfl ?_ | refine convert_l S rfl (wrap_in (by omega)) rfl ?_ | refine convert_l S rfl (wrapu_in (by omega)) rfl ?_ | refine convert_l S rfl rfl rfl ?_ | refine assign_i_l S rfl rfl ?_ | (refine lss_l S rfl rfl rfl ?_ ?_ <;> intro hcmp <;> try (exfalso; first | omega | exact hcmp (by decide) | exact absurd hcmp (by decide))) | refine len_l S rfl rfl ?_ | refine extract_i_l S rfl rfl rfl ?_ | (refine gtr_l S rfl rfl rfl ?_ ?_ <;> intro hcmp <;> try (exfalso; first | omega | exact hcmp (by decide) | exact absurd hcmp (by decide))) | refine move_b_l S rfl rfl ?_ | refine pick_tb_l S rfl rfl rfl ?_ | refine pick_fb_l S rfl rfl rfl ?_ | (refine makeSlice_l S rfl rfl rfl (by omega) rfl ?_; clear S; intro b w S) | refine move_o_l S rfl rfl ?_ | refine run_block ?_ | refine run_ret ?_ | refine run_exit ?_ | refine run_cond_true rfl ?_ | refine run_cond_false rfl ?_ | refine thenQ_n ?_ | refine thenQ_r ?_ | refine thenQ_e ?_ | refine blockQ_n ?_ | refine blockQ_r ?_ | refine blockQ_s rfl ?_ | refine blockQ_o rfl ?_ | refine ret1_i rfl ?_ | refine ret1_b rfl ?_ | refine ret1_p rfl ?_ | refine ret1_s rfl ?_ | refine ret1_e rfl ?_ | refine ret1_a rfl ?_ | refine ret1_o rfl ?_ | refine ret1n_i rfl ?_ | refine ret1n_b rfl ?_ | refine ret1n_p rfl ?_ | refine ret1n_s rfl ?_ | refine ret1n_o rfl ?_)
    · obtain ⟨q, hq⟩ : ∃ q, Nat.min m (k - m) = q := ⟨_, rfl⟩
      have hq2 : (q = m ∧ m ≤ k - m) ∨ (q = k - m ∧ k - m ≤ m) := by rw [← hq]; show (min m (k - m) = m ∧ _) ∨ (min m (k - m) = k - m ∧ _); omega
      refine run_any S (L' := []) (f := 10) mixed rfl ?_
      clear S
      intro w S1
      have S : Sat _ _ w [] := S1.sub
      all_goals (refine any_pure (i := 0) rfl (by kernel_rfl) S ?_; refine move_i_x rfl rfl ?_)
      all_goals (refine any_pure (i := 1) rfl (by kernel_rfl) S ?_; refine move_s_x rfl rfl ?_)
      all_goals (refine any_pure (i := 2) rfl (by kernel_rfl) S ?_; refine move_i_x rfl rfl ?_)
      all_goals (refine any_pure (i := 3) rfl (by kernel_rfl) S ?_; refine sliceSuf_x rfl rfl (by omega) rfl ?_)
      all_goals (refine any_pure (i := 4) rfl (by kernel_rfl) S ?_; refine move_s_x rfl rfl ?_)
      all_goals (refine any_pure (i := 5) rfl (by kernel_rfl) S ?_; refine move_i_x rfl rfl ?_)
      all_goals (refine any_pure (i := 6) rfl (by kernel_rfl) S ?_; refine slicePre_x rfl rfl (by omega) rfl ?_)
      all_goals refine any_step (i := 7) rfl (by kernel_rfl) ?_
      refine copy_core (a := some ⟨b, 0, none⟩) (len := k) (cap := k) (lo := m) (m := q) (sz := 2) S1 rfl rfl rfl (SlOk.pre (RowOk.sl (S1.all (row (some ⟨b, 0, none⟩) k k 64 2 g) (by simp))) hm) (fun i j hi hj => by rw [hg i hi j hj]; exact plainP.one _ _) (by omega) hq rfl ?_
      clear S S1; intro w S
      all_goals try refine nilL ?_
      all_goals refine ⟨S.sub, ?_⟩
      all_goals (have S1 := S; replace S : Sat _ _ _ [] := S1.sub)
      all_goals (refine any_pure (i := 8) rfl (by kernel_rfl) S ?_; (first | refine add_x rfl rfl (wrap_in (by omega)) rfl ?_ | refine add_x rfl rfl rfl rfl ?_))
      all_goals (refine any_pure (i := 9) rfl (by kernel_rfl) S ?_; refine assign_i_x rfl rfl ?_)
      all_goals refine any_end (by kernel_rfl) ?_
      replace S := S1
      repeat' (first | refine move_i_l S rfl rfl ?_ | refine move_s_l S rfl rfl ?_ | refine assign_s_l S rfl rfl ?_ | refine nilL ?_ | refine run_seq ?_ | refine run_skip ?_ | refine run_region ?_ | refine onL rfl rfl ?_ | refine offL rfl rfl rfl rfl ?_ | refine offL0 rfl rfl rfl ?_ | refine offLU rfl rfl rfl ?_ | refine convert_l S rfl (wrap_in (by omega)) rfl ?_ | refine convert_l S rfl (wrapu_in (by omega)) rfl ?_ | refine convert_l S rfl rfl rfl ?_ | refine assign_i_l S rfl rfl ?_ | (refine lss_l S rfl rfl rfl ?_ ?_ <;> intro hcmp <;> try (exfalso; first | omega | exact hcmp (by decide) | exact absurd hcmp (by decide))) | refine len_l S rfl rfl ?_ | refine extract_i_l S rfl rfl rfl ?_ | (refine gtr_l S rfl rfl rfl ?_ ?_ <;> intro hcmp <;> try (exfalso; first | omega | exact hcmp (by decide) | exact absurd hcmp (by decide))) | refine move_b_l S rfl rfl ?_ | refine pick_tb_l S rfl rfl rfl ?_ | refine pick_fb_l S rfl rfl rfl ?_ | (refine makeSlice_l S rfl rfl rfl (by omega) rfl ?_; clear S; intro b w S) | refine move_o_l S rfl rfl ?_ | refine run_block ?_ | refine run_ret ?_ | refine run_exit ?_ | refine run_cond_true rfl ?_ | refine run_cond_false rfl ?_ | refine thenQ_n ?_ | refine thenQ_r ?_ | refine thenQ_e ?_ | refine blockQ_n ?_ | refine blockQ_r ?_ | refine blockQ_s rfl ?_ | refine blockQ_o rfl ?_ | refine ret1_i rfl ?_ | refine ret1_b rfl ?_ | refine ret1_p rfl ?_ | refine ret1_s rfl ?_ | refine ret1_e rfl ?_ | refine ret1_a rfl ?_ | refine ret1_o rfl ?_ | refine ret1n_i rfl ?_ | refine ret1n_b rfl ?_ | refine ret1n_p rfl ?_ | refine ret1n_s rfl ?_ | refine ret1n_o rfl ?_)
      refine ⟨m + q, ?_, ⟨⟨by omega, by omega⟩, _, fun i hi j hj => ?_, S⟩, by omega⟩
      · rw [Int.natCast_add]
        (repeat (first | exact agree_refl | refine agree_r rfl ?_ | refine agree_l rfl ?_ | refine agree_hv rfl ?_))
      · unfold gcopy
        by_cases hlt : i < m
        · rw [if_neg (by omega)]; exact hg i hlt j hj
        · rw [if_pos (by omega)]; exact hg _ (by omega) j hj
    · have S2 := S.reRow (g' := gL encP (0, 0) (List.replicate k z)) (a := some ⟨b, 0, none⟩) (fun i hi j hj => by rw [hg i (by omega) j hj]; simp [gL, hi])
      refine ⟨_, rfl, ⟨some ⟨b, 0, none⟩, k, by rw [List.length_replicate], ?_, ?_⟩, S.chg.below⟩
      · rw [List.length_replicate]; exact S2.all (row (some ⟨b, 0, none⟩) k k 64 2 (gL encP (0, 0) (List.replicate k z))) (by simp)
      · exact fun x hx => Nat.le_of_not_lt fun hlt => S2.own (row (some ⟨b, 0, none⟩) k k 64 2 (gL encP (0, 0) (List.replicate k z))) (List.mem_cons_self ..) rfl x.block ⟨x, hx, rfl⟩ hlt
end Go.Proofs.YtpiodhdbdlfnhaaGreatDoor
