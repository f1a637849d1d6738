/- heap: the same; a copy. -/
import Derived.Test.YtpiodhdbdlfnhaaHpE
namespace Go.Proofs.Ytpiodhdbdlfnhaa
open Go.RowKit Go.Lib
set_option linter.unusedVariables false
theorem list_eq_of_getD' {α : Type} {d : α} {xs ys : List α} (hl : xs.length = ys.length) (h : ∀ i, i < xs.length → xs.getD i d = ys.getD i d) : xs = ys := by
  apply List.ext_getElem? 
  intro i
  by_cases hi : i < xs.length
  · have := h i hi
    rw [List.getD_eq_getElem?_getD, List.getD_eq_getElem?_getD, List.getElem?_eq_getElem hi, List.getElem?_eq_getElem (by omega)] at this
    rw [List.getElem?_eq_getElem hi, List.getElem?_eq_getElem (by omega)]
    exact congrArg some this
  · rw [List.getElem?_eq_none (by omega), List.getElem?_eq_none (by omega)]
theorem equal64_at (a a' : Option Addr) (cap cap' : Nat) (xs ys : List Int) (w0 : World) (h : SlOk w0 a xs.length cap 1 (gL encI 0 xs)) (h' : SlOk w0 a' ys.length cap' 1 (gL encI 0 ys)) :
    Calls Try.prog 62 #[.slice a xs.length cap, .slice a' ys.length cap'] w0 fun e w' => e = .returned (.bool (decide (xs = ys))) ∧ Below w0.heap.size w0 w' := by
  have S : Sat (fun _ => False) w0 w0 [slL a cap 1 encI 0 xs, slL a' cap' 1 encI 0 ys] := ((Sat.start _ _).ro (r := slL a' cap' 1 encI 0 ys) h' rfl rfl).ro (r := slL a cap 1 encI 0 xs) h rfl rfl
  have hm := h.small
  refine enter1 Try.func62 rfl Try.ntmps62 rfl Try.results62 ?_
  repeat' (first | refine assign_b_l S rfl rfl ?_ | refine move_s_l S rfl rfl ?_ | refine len_l S rfl rfl ?_ | refine nilL ?_ | refine run_seq ?_ | refine run_skip ?_ | refine run_region ?_ | refine move_i_l S rfl rfl ?_ | (refine neq_l S rfl rfl rfl ?_ ?_ <;> intro hcmp <;> try (exfalso; first | omega | exact hcmp (by decide) | exact absurd hcmp (by decide))) | (refine lss_l S rfl rfl rfl ?_ ?_ <;> intro hcmp <;> try (exfalso; first | omega | exact hcmp (by decide) | exact absurd hcmp (by decide))) | refine assign_i_l S rfl rfl ?_ | refine add_l S rfl rfl (wrap_in (by omega)) rfl ?_ | refine add_l S rfl rfl rfl rfl ?_ | refine run_block ?_ | refine run_ret ?_ | refine run_exit ?_ | refine run_cond_true rfl ?_ | refine run_cond_false rfl ?_ | refine thenQ_n ?_ | refine thenQ_r ?_ | refine thenQ_e ?_ | refine blockQ_n ?_ | refine blockQ_r ?_ | refine blockQ_s rfl ?_ | refine blockQ_o rfl ?_ | (refine run_draws S mixed ?_ ?_; · kernel_rfl) | (refine nilQ ?_; clear S; intro w S) | refine move_s_q rfl rfl ?_ | refine move_i_q rfl rfl ?_ | refine indexAddr_q rfl rfl (idx_cast _) (by first | omega | decide | (simp; done) | (simp; omega)) rfl ?_ | refine indexAddr_q rfl rfl (idx_eq _) (by first | omega | decide | (simp; done) | (simp; omega)) rfl ?_ | refine load_i_q rfl rfl rfl rfl ?_ | refine loadE_i_q rfl (by first | omega | decide | (simp; done) | (simp; omega)) rfl rfl rfl ?_ | (refine neq_q rfl rfl rfl ?_ ?_ <;> intro hcmp <;> try (exfalso; first | omega | exact hcmp (by decide) | exact absurd hcmp (by decide))) | refine load_o_q rfl rfl rfl rfl ?_ | refine loadE_o_q rfl (by first | omega | decide | (simp; done) | (simp; omega)) rfl rfl rfl ?_ | refine ret1_i rfl ?_ | refine ret1_b rfl ?_ | refine ret1_p rfl ?_ | refine ret1_s rfl ?_ | refine ret1_e rfl ?_ | refine ret1_a rfl ?_ | refine ret1_o rfl ?_ | refine ret1n_i rfl ?_ | refine ret1n_b rfl ?_ | refine ret1n_p rfl ?_ | refine ret1n_s rfl ?_ | refine ret1n_o rfl ?_)
  · exact ⟨by rw [decide_eq_false (fun e => hcmp (by rw [e]))], S.chg.below⟩
  · refine run_while [4, 5, 14, 15, 16, 17, 18, 19, 20, 21, 22, 23, 24, 25] (fun (k : Nat) t => upd t 13 (.int .i64 k)) (fun k w' => k ≤ xs.length ∧ (∀ i, i < k → xs.getD i 0 = ys.getD i 0) ∧ Sat (fun _ => False) w0 w' [slL a cap 1 encI 0 xs, slL a' cap' 1 encI 0 ys]) (fun k => xs.length - k) 0 ?_ ?_ ?_
    · (repeat (first | exact agree_refl | refine agree_r rfl ?_ | refine agree_l rfl ?_ | refine agree_hv rfl ?_))
    · exact ⟨Nat.zero_le _, fun i h => by omega, S⟩
    · rintro k j w ⟨hk, hall, S⟩
      repeat' (first | refine assign_b_l S rfl rfl ?_ | refine move_s_l S rfl rfl ?_ | refine len_l S rfl rfl ?_ | refine nilL ?_ | refine run_seq ?_ | refine run_skip ?_ | refine run_region ?_ | refine move_i_l S rfl rfl ?_ | (refine neq_l S rfl rfl rfl ?_ ?_ <;> intro hcmp <;> try (exfalso; first | omega | exact hcmp (by decide) | exact absurd hcmp (by decide))) | (refine lss_l S rfl rfl rfl ?_ ?_ <;> intro hcmp <;> try (exfalso; first | omega | exact hcmp (by decide) | exact absurd hcmp (by decide))) | refine assign_i_l S rfl rfl ?_ | refine add_l S rfl rfl (wrap_in (by omega)) rfl ?_ | refine add_l S rfl rfl rfl rfl ?_ | refine run_block ?_ | refine run_ret ?_ | refine run_exit ?_ | refine run_cond_true rfl ?_ | refine run_cond_false rfl ?_ | refine thenQ_n ?_ | refine thenQ_r ?_ | refine thenQ_e ?_ | refine blockQ_n ?_ | refine blockQ_r ?_ | refine blockQ_s rfl ?_ | refine blockQ_o rfl ?_ | (refine run_draws S mixed ?_ ?_; · kernel_rfl) | (refine nilQ ?_; clear S; intro w S) | refine move_s_q rfl rfl ?_ | refine move_i_q rfl rfl ?_ | refine indexAddr_q rfl rfl (idx_cast _) (by first | omega | decide | (simp; done) | (simp; omega)) rfl ?_ | refine indexAddr_q rfl rfl (idx_eq _) (by first | omega | decide | (simp; done) | (simp; omega)) rfl ?_ | refine load_i_q rfl rfl rfl rfl ?_ | refine loadE_i_q rfl (by first | omega | decide | (simp; done) | (simp; omega)) rfl rfl rfl ?_ | (refine neq_q rfl rfl rfl ?_ ?_ <;> intro hcmp <;> try (exfalso; first | omega | exact hcmp (by decide) | exact absurd hcmp (by decide))) | refine load_o_q rfl rfl rfl rfl ?_ | refine loadE_o_q rfl (by first | omega | decide | (simp; done) | (simp; omega)) rfl rfl rfl ?_ | refine ret1_i rfl ?_ | refine ret1_b rfl ?_ | refine ret1_p rfl ?_ | refine ret1_s rfl ?_ | refine ret1_e rfl ?_ | refine ret1_a rfl ?_ | refine ret1_o rfl ?_ | refine ret1n_i rfl ?_ | refine ret1n_b rfl ?_ | refine ret1n_p rfl ?_ | refine ret1n_s rfl ?_ | refine ret1n_o rfl ?_)
      · exact ⟨by rw [decide_eq_false (fun e => hcmp (by rw [e]))], S.chg.below⟩
      · refine ⟨k + 1, ?_, ⟨by omega, fun i hi => ?_, S⟩, by omega⟩
        · (repeat (first | exact agree_refl | refine agree_r rfl ?_ | refine agree_l rfl ?_ | refine agree_hv rfl ?_))
        · rcases Nat.lt_or_ge i k with h | h
          · exact hall i h
          · obtain rfl : i = k := by omega
            exact hcmp
      · exact ⟨by rw [decide_eq_true (list_eq_of_getD (by omega) (fun i hi => hall i (by omega)))], S.chg.below⟩
theorem equalLocks_at (a a' : Option Addr) (cap cap' : Nat) (xs ys : List (Int × Int)) (w0 : World) (h : SlOk w0 a xs.length cap 2 (gL encP (0, 0) xs)) (h' : SlOk w0 a' ys.length cap' 2 (gL encP (0, 0) ys)) :
    Calls Try.prog 61 #[.slice a xs.length cap, .slice a' ys.length cap'] w0 fun e w' => e = .returned (.bool (decide (xs = ys))) ∧ Below w0.heap.size w0 w' := by
  have S : Sat (fun _ => False) w0 w0 [slL a cap 2 encP (0, 0) xs, slL a' cap' 2 encP (0, 0) ys] := ((Sat.start _ _).ro (r := slL a' cap' 2 encP (0, 0) ys) h' rfl rfl).ro (r := slL a cap 2 encP (0, 0) xs) h rfl rfl
  have hm := h.small
  refine enter1 Try.func61 rfl Try.ntmps61 rfl Try.results61 ?_
  repeat' (first | refine assign_b_l S rfl rfl ?_ | refine move_s_l S rfl rfl ?_ | refine len_l S rfl rfl ?_ | refine nilL ?_ | refine run_seq ?_ | refine run_skip ?_ | refine run_region ?_ | refine move_i_l S rfl rfl ?_ | (refine neq_l S rfl rfl rfl ?_ ?_ <;> intro hcmp <;> try (exfalso; first | omega | exact hcmp (by decide) | exact absurd hcmp (by decide))) | (refine lss_l S rfl rfl rfl ?_ ?_ <;> intro hcmp <;> try (exfalso; first | omega | exact hcmp (by decide) | exact absurd hcmp (by decide))) | refine assign_i_l S rfl rfl ?_ | refine add_l S rfl rfl (wrap_in (by omega)) rfl ?_ | refine add_l S rfl rfl rfl rfl ?_ | refine run_block ?_ | refine run_ret ?_ | refine run_exit ?_ | refine run_cond_true rfl ?_ | refine run_cond_false rfl ?_ | refine thenQ_n ?_ | refine thenQ_r ?_ | refine thenQ_e ?_ | refine blockQ_n ?_ | refine blockQ_r ?_ | refine blockQ_s rfl ?_ | refine blockQ_o rfl ?_ | (refine run_draws S mixed ?_ ?_; · kernel_rfl) | (refine nilQ ?_; clear S; intro w S) | refine move_s_q rfl rfl ?_ | refine move_i_q rfl rfl ?_ | refine indexAddr_q rfl rfl (idx_cast _) (by first | omega | decide | (simp; done) | (simp; omega)) rfl ?_ | refine indexAddr_q rfl rfl (idx_eq _) (by first | omega | decide | (simp; done) | (simp; omega)) rfl ?_ | refine loadN_q rfl rfl rfl ?_ | refine loadEN_q rfl (by first | omega | decide | (simp; done) | (simp; omega)) rfl rfl ?_ | (refine neqA2_q rfl rfl rfl ?_ ?_ <;> intro hcmp <;> try (exfalso; first | omega | exact hcmp (by decide) | exact absurd hcmp (by decide))) | refine ret1_i rfl ?_ | refine ret1_b rfl ?_ | refine ret1_p rfl ?_ | refine ret1_s rfl ?_ | refine ret1_e rfl ?_ | refine ret1_a rfl ?_ | refine ret1_o rfl ?_ | refine ret1n_i rfl ?_ | refine ret1n_b rfl ?_ | refine ret1n_p rfl ?_ | refine ret1n_s rfl ?_ | refine ret1n_o rfl ?_)
  · exact ⟨by rw [decide_eq_false (fun e => hcmp (by rw [e]))], S.chg.below⟩
  · refine run_while [4, 5, 14, 15, 16, 17, 18, 19, 20, 21, 22, 23, 24, 25] (fun (k : Nat) t => upd t 13 (.int .i64 k)) (fun k w' => k ≤ xs.length ∧ (∀ i, i < k → xs.getD i (0, 0) = ys.getD i (0, 0)) ∧ Sat (fun _ => False) w0 w' [slL a cap 2 encP (0, 0) xs, slL a' cap' 2 encP (0, 0) ys]) (fun k => xs.length - k) 0 ?_ ?_ ?_
    · (repeat (first | exact agree_refl | refine agree_r rfl ?_ | refine agree_l rfl ?_ | refine agree_hv rfl ?_))
    · exact ⟨Nat.zero_le _, fun i h => by omega, S⟩
    · rintro k j w ⟨hk, hall, S⟩
      repeat' (first | refine assign_b_l S rfl rfl ?_ | refine move_s_l S rfl rfl ?_ | refine len_l S rfl rfl ?_ | refine nilL ?_ | refine run_seq ?_ | refine run_skip ?_ | refine run_region ?_ | refine move_i_l S rfl rfl ?_ | (refine neq_l S rfl rfl rfl ?_ ?_ <;> intro hcmp <;> try (exfalso; first | omega | exact hcmp (by decide) | exact absurd hcmp (by decide))) | (refine lss_l S rfl rfl rfl ?_ ?_ <;> intro hcmp <;> try (exfalso; first | omega | exact hcmp (by decide) | exact absurd hcmp (by decide))) | refine assign_i_l S rfl rfl ?_ | refine add_l S rfl rfl (wrap_in (by omega)) rfl ?_ | refine add_l S rfl rfl rfl rfl ?_ | refine run_block ?_ | refine run_ret ?_ | refine run_exit ?_ | refine run_cond_true rfl ?_ | refine run_cond_false rfl ?_ | refine thenQ_n ?_ | refine thenQ_r ?_ | refine thenQ_e ?_ | refine blockQ_n ?_ | refine blockQ_r ?_ | refine blockQ_s rfl ?_ | refine blockQ_o rfl ?_ | (refine run_draws S mixed ?_ ?_; · kernel_rfl) | (refine nilQ ?_; clear S; intro w S) | refine move_s_q rfl rfl ?_ | refine move_i_q rfl rfl ?_ | refine indexAddr_q rfl rfl (idx_cast _) (by first | omega | decide | (simp; done) | (simp; omega)) rfl ?_ | refine indexAddr_q rfl rfl (idx_eq _) (by first | omega | decide | (simp; done) | (simp; omega)) rfl ?_ | refine loadN_q rfl rfl rfl ?_ | refine loadEN_q rfl (by first | omega | decide | (simp; done) | (simp; omega)) rfl rfl ?_ | (refine neqA2_q rfl rfl rfl ?_ ?_ <;> intro hcmp <;> try (exfalso; first | omega | exact hcmp (by decide) | exact absurd hcmp (by decide))) | refine ret1_i rfl ?_ | refine ret1_b rfl ?_ | refine ret1_p rfl ?_ | refine ret1_s rfl ?_ | refine ret1_e rfl ?_ | refine ret1_a rfl ?_ | refine ret1_o rfl ?_ | refine ret1n_i rfl ?_ | refine ret1n_b rfl ?_ | refine ret1n_p rfl ?_ | refine ret1n_s rfl ?_ | refine ret1n_o rfl ?_)
      · refine ⟨k + 1, ?_, ⟨by omega, fun i hi => ?_, S⟩, by omega⟩
        · (repeat (first | exact agree_refl | refine agree_r rfl ?_ | refine agree_l rfl ?_ | refine agree_hv rfl ?_))
        · rcases Nat.lt_or_ge i k with h | h
          · exact hall i h
          · obtain rfl : i = k := by omega
            exact Prod.ext hcmp.1 hcmp.2
      · exact ⟨by rw [decide_eq_false (fun e => hcmp (by rw [e]; exact ⟨rfl, rfl⟩))], S.chg.below⟩
      · exact ⟨by rw [decide_eq_true (list_eq_of_getD' (by omega) (fun i hi => hall i (by omega)))], S.chg.below⟩
section
variable {bh : Nat} {ga va : Option Addr} {gc vc : Nat} {H : HeapS} {w0 : World} (h : (heapR bh ga va gc vc H).holds w0)
include h
theorem copy_at (hn : H.vals.length ≤ 1000000 ∧ H.locks.length ≤ 1000000) : Calls Try.prog 35 #[.pointer (some ⟨bh, 0, none⟩)] w0 fun e w' => ∃ p, e = .returned p ∧ NewHeap w0 w' H p ∧ Below w0.heap.size w0 w' := by
  have S := Sat.reads h
  refine enter1 Try.func35 rfl Try.ntmps35 rfl Try.results35 ?_
  repeat' (first | refine assign_p_l S rfl rfl ?_ | refine assign_e_l S rfl rfl ?_ | refine move_p_l S rfl rfl ?_ | refine nilL ?_ | refine run_seq ?_ | refine run_skip ?_ | refine run_region ?_ | refine move_e_l S rfl rfl ?_ | refine eqlP_l S rfl rfl rfl ?_ | refine eqlE_l S rfl rfl (by omega) rfl ?_ | refine assign_o_l S rfl rfl ?_ | refine move_o_l S rfl rfl ?_ | refine run_block ?_ | refine run_ret ?_ | refine run_exit ?_ | refine run_cond_true rfl ?_ | refine run_cond_false rfl ?_ | refine thenQ_n ?_ | refine thenQ_r ?_ | refine thenQ_e ?_ | refine blockQ_n ?_ | refine blockQ_r ?_ | refine blockQ_s rfl ?_ | refine blockQ_o rfl ?_ | refine ret1_i rfl ?_ | refine ret1_b rfl ?_ | refine ret1_p rfl ?_ | refine ret1_s rfl ?_ | refine ret1_e rfl ?_ | refine ret1_a rfl ?_ | refine ret1_o rfl ?_ | refine ret1n_i rfl ?_ | refine ret1n_b rfl ?_ | refine ret1n_p rfl ?_ | refine ret1n_s rfl ?_ | refine ret1n_o rfl ?_)
  refine run_any S (L' := [roR (heapR bh ga va gc vc H)]) (f := 25) mixed rfl ?_
  clear S
  intro w S1
  have S : Sat _ _ w [roR (heapR bh ga va gc vc H)] := S1.sub
  all_goals (refine any_pure (i := 0) rfl (by kernel_rfl) S ?_; (first | refine move_p_x rfl rfl ?_ | refine move_e_x rfl rfl ?_ | refine move_o_x rfl rfl ?_))
  all_goals (refine any_pure (i := 1) rfl (by kernel_rfl) S ?_; (first | refine nilCheck_x rfl rfl ?_ | refine nilCheckE_x rfl (by first | omega | decide | (simp; done) | (simp; omega)) rfl ?_))
  all_goals (refine any_pure (i := 2) rfl (by kernel_rfl) S ?_; (first | refine fieldAddr_x rfl rfl rfl ?_ | refine fieldAddrE_x rfl (by first | omega | decide | (simp; done) | (simp; omega)) rfl rfl ?_))
  all_goals (refine any_pure (i := 3) rfl (by kernel_rfl) S ?_; (first | refine fieldAddr_x rfl rfl rfl ?_ | refine fieldAddrE_x rfl (by first | omega | decide | (simp; done) | (simp; omega)) rfl rfl ?_))
  all_goals (refine any_pure (i := 4) rfl (by kernel_rfl) S ?_; (first | refine load_s_x rfl rfl rfl rfl ?_ | refine load_o_x rfl rfl rfl rfl ?_ | refine loadE_s_x rfl (by first | omega | decide | (simp; done) | (simp; omega)) rfl rfl rfl ?_ | refine loadE_o_x rfl (by first | omega | decide | (simp; done) | (simp; omega)) rfl rfl rfl ?_))
  all_goals (refine any_pure (i := 6) rfl (by kernel_rfl) S ?_; (first | refine move_p_x rfl rfl ?_ | refine move_e_x rfl rfl ?_ | refine move_o_x rfl rfl ?_))
  all_goals (refine any_pure (i := 7) rfl (by kernel_rfl) S ?_; (first | refine nilCheck_x rfl rfl ?_ | refine nilCheckE_x rfl (by first | omega | decide | (simp; done) | (simp; omega)) rfl ?_))
  all_goals (refine any_pure (i := 8) rfl (by kernel_rfl) S ?_; (first | refine fieldAddr_x rfl rfl rfl ?_ | refine fieldAddrE_x rfl (by first | omega | decide | (simp; done) | (simp; omega)) rfl rfl ?_))
  all_goals (refine any_pure (i := 9) rfl (by kernel_rfl) S ?_; (first | refine fieldAddr_x rfl rfl rfl ?_ | refine fieldAddrE_x rfl (by first | omega | decide | (simp; done) | (simp; omega)) rfl rfl ?_))
  all_goals (refine any_pure (i := 10) rfl (by kernel_rfl) S ?_; (first | refine load_i_x rfl rfl rfl rfl ?_ | refine load_o_x rfl rfl rfl rfl ?_ | refine loadE_i_x rfl (by first | omega | decide | (simp; done) | (simp; omega)) rfl rfl rfl ?_ | refine loadE_o_x rfl (by first | omega | decide | (simp; done) | (simp; omega)) rfl rfl rfl ?_))
  all_goals (refine any_pure (i := 11) rfl (by kernel_rfl) S ?_; (first | refine move_p_x rfl rfl ?_ | refine move_e_x rfl rfl ?_ | refine move_o_x rfl rfl ?_))
  all_goals (refine any_pure (i := 12) rfl (by kernel_rfl) S ?_; (first | refine nilCheck_x rfl rfl ?_ | refine nilCheckE_x rfl (by first | omega | decide | (simp; done) | (simp; omega)) rfl ?_))
  all_goals (refine any_pure (i := 13) rfl (by kernel_rfl) S ?_; (first | refine fieldAddr_x rfl rfl rfl ?_ | refine fieldAddrE_x rfl (by first | omega | decide | (simp; done) | (simp; omega)) rfl rfl ?_))
  all_goals (refine any_pure (i := 14) rfl (by kernel_rfl) S ?_; (first | refine fieldAddr_x rfl rfl rfl ?_ | refine fieldAddrE_x rfl (by first | omega | decide | (simp; done) | (simp; omega)) rfl rfl ?_))
  all_goals (refine any_pure (i := 15) rfl (by kernel_rfl) S ?_; (first | refine load_i_x rfl rfl rfl rfl ?_ | refine load_o_x rfl rfl rfl rfl ?_ | refine loadE_i_x rfl (by first | omega | decide | (simp; done) | (simp; omega)) rfl rfl rfl ?_ | refine loadE_o_x rfl (by first | omega | decide | (simp; done) | (simp; omega)) rfl rfl rfl ?_))
  all_goals (refine any_pure (i := 17) rfl (by kernel_rfl) S ?_; (first | refine move_p_x rfl rfl ?_ | refine move_e_x rfl rfl ?_ | refine move_o_x rfl rfl ?_))
  all_goals (refine any_pure (i := 18) rfl (by kernel_rfl) S ?_; (first | refine nilCheck_x rfl rfl ?_ | refine nilCheckE_x rfl (by first | omega | decide | (simp; done) | (simp; omega)) rfl ?_))
  all_goals (refine any_pure (i := 19) rfl (by kernel_rfl) S ?_; (first | refine fieldAddr_x rfl rfl rfl ?_ | refine fieldAddrE_x rfl (by first | omega | decide | (simp; done) | (simp; omega)) rfl rfl ?_))
  all_goals (refine any_pure (i := 20) rfl (by kernel_rfl) S ?_; (first | refine load_s_x rfl rfl rfl rfl ?_ | refine load_o_x rfl rfl rfl rfl ?_ | refine loadE_s_x rfl (by first | omega | decide | (simp; done) | (simp; omega)) rfl rfl rfl ?_ | refine loadE_o_x rfl (by first | omega | decide | (simp; done) | (simp; omega)) rfl rfl rfl ?_))
  all_goals refine any_step (i := 5) rfl (by kernel_rfl) ?_
  replace S := S1
  refine callL (cloneLocks_at ga gc H.locks hn.2 _ (RowOk.sl S.got.1.2.1)) rfl rfl ?_
  rintro e w' ⟨_, rfl, ⟨ga1, gc1, rfl, hr, hf⟩, hb⟩
  replace S := Sat.freshRow S hb hr hf
  clear S1
  refine ⟨_, rfl, ?_⟩
  all_goals try refine nilL ?_
  all_goals refine ⟨S.sub, ?_⟩
  all_goals (have S1 := S; replace S : Sat _ _ _ [roR (heapR bh ga va gc vc H)] := S1.sub)
  all_goals (refine any_pure (i := 16) rfl (by kernel_rfl) S ?_; (apply build3_x; (· repeat (first | exact mapN | apply mapC_i rfl | apply mapC_b rfl | apply mapC_p rfl | apply mapC_s rfl | apply mapC_e rfl | apply mapC_a rfl | apply mapC_o rfl)); (· rfl); (· rfl)))
  all_goals refine any_step (i := 21) rfl (by kernel_rfl) ?_
  replace S := S1
  refine callL (clone64_at va vc H.vals hn.1 _ (RowOk.sl S.got2.1.2.2)) rfl rfl ?_
  rintro e w' ⟨_, rfl, ⟨va1, vc1, rfl, hr, hf⟩, hb⟩
  replace S := Sat.freshRow S hb hr hf
  clear S1
  refine ⟨_, rfl, ?_⟩
  all_goals try refine nilL ?_
  all_goals refine ⟨S.sub, ?_⟩
  all_goals (have S1 := S; replace S : Sat _ _ _ [roR (heapR bh ga va gc vc H)] := S1.sub)
  all_goals (refine any_pure (i := 22) rfl (by kernel_rfl) S ?_; (apply build4_x; (· repeat (first | exact mapN | apply mapC_i rfl | apply mapC_b rfl | apply mapC_p rfl | apply mapC_s rfl | apply mapC_e rfl | apply mapC_a rfl | apply mapC_o rfl)); (· rfl); (· rfl)))
  all_goals (refine any_step (i := 23) rfl (by kernel_rfl) ?_; replace S := S1; clear S1; (refine box_a S rfl rfl rfl ?_; clear S; intro b w S); refine nilL ?_; refine ⟨S.sub, ?_⟩; have S1 := S; replace S : Sat _ _ _ [roR (heapR bh ga va gc vc H)] := S1.sub)
  all_goals (refine any_pure (i := 24) rfl (by kernel_rfl) S ?_; (first | refine assign_p_x rfl rfl ?_ | refine assign_e_x rfl rfl ?_ | refine assign_o_x rfl rfl ?_))
  all_goals refine any_end (by kernel_rfl) ?_
  replace S := S1
  repeat' (first | refine assign_p_l S rfl rfl ?_ | refine assign_e_l S rfl rfl ?_ | refine move_p_l S rfl rfl ?_ | refine nilL ?_ | refine run_seq ?_ | refine run_skip ?_ | refine run_region ?_ | refine move_e_l S rfl rfl ?_ | refine eqlP_l S rfl rfl rfl ?_ | refine eqlE_l S rfl rfl (by omega) rfl ?_ | refine assign_o_l S rfl rfl ?_ | refine move_o_l S rfl rfl ?_ | refine run_block ?_ | refine run_ret ?_ | refine run_exit ?_ | refine run_cond_true rfl ?_ | refine run_cond_false rfl ?_ | refine thenQ_n ?_ | refine thenQ_r ?_ | refine thenQ_e ?_ | refine blockQ_n ?_ | refine blockQ_r ?_ | refine blockQ_s rfl ?_ | refine blockQ_o rfl ?_ | refine ret1_i rfl ?_ | refine ret1_b rfl ?_ | refine ret1_p rfl ?_ | refine ret1_s rfl ?_ | refine ret1_e rfl ?_ | refine ret1_a rfl ?_ | refine ret1_o rfl ?_ | refine ret1n_i rfl ?_ | refine ret1n_b rfl ?_ | refine ret1n_p rfl ?_ | refine ret1n_s rfl ?_ | refine ret1n_o rfl ?_)
  have S2 : Sat (fun _ => False) w0 w (blk b 4 (heapC ga1 va1 gc1 vc1 H) 81 :: rowL va1 vc1 2 1 encI 0 H.vals :: rowL ga1 gc1 76 2 encP (0, 0) H.locks :: _) := S.turn1 (r' := blk b 4 (heapC ga1 va1 gc1 vc1 H) 81) S.got1 rfl (fun k e => e)
  have S3 : Sat (fun _ => False) w0 w (heapL b ga1 va1 gc1 vc1 H) := Sat.perm (S2.sub (L' := [blk b 4 (heapC ga1 va1 gc1 vc1 H) 81, rowL va1 vc1 2 1 encI 0 H.vals, rowL ga1 gc1 76 2 encP (0, 0) H.locks])) (List.Perm.cons _ (List.Perm.swap _ _ _))
  refine ⟨_, rfl, ⟨b, ga1, va1, gc1, vc1, rfl, heap_shut S3, fun q hq => Nat.le_of_not_lt fun hlt => ?_⟩, S.chg.below⟩
  rcases hq with hq | hq | hq
  · exact S3.own _ (List.mem_cons_self ..) rfl q hq hlt
  · exact S3.own (locksR ga1 gc1 H.locks) (by simp) rfl q hq hlt
  · exact S3.own (valsR va1 vc1 H.vals) (by simp) rfl q hq hlt
theorem same_at {b2 : Nat} {ga2 va2 : Option Addr} {gc2 vc2 : Nat} {H2 : HeapS} (h2 : (heapR b2 ga2 va2 gc2 vc2 H2).holds w0) : Calls Try.prog 36 #[.pointer (some ⟨bh, 0, none⟩), .pointer (some ⟨b2, 0, none⟩)] w0 fun e w' => (∃ r : Bool, e = .returned (.bool r) ∧ (r = true ↔ H.clock = H2.clock ∧ H.limit = H2.limit ∧ H.locks = H2.locks ∧ H.vals = H2.vals)) ∧ Below w0.heap.size w0 w' := by
  have S := Sat.reads2 h h2
  refine enter1 Try.func36 rfl Try.ntmps36 rfl Try.results36 ?_
  repeat' (first | refine move_p_l S rfl rfl ?_ | refine move_e_l S rfl rfl ?_ | refine eqlP_l S rfl rfl rfl ?_ | refine nilL ?_ | refine run_seq ?_ | refine run_skip ?_ | refine run_region ?_ | refine onL rfl rfl ?_ | refine offL rfl rfl rfl rfl ?_ | refine offL0 rfl rfl rfl ?_ | refine offLU rfl rfl rfl ?_ | refine eqlE_l S rfl rfl (by omega) rfl ?_ | refine assign_b_l S rfl rfl ?_ | refine move_b_l S rfl rfl ?_ | refine pick_tb_l S rfl rfl rfl ?_ | refine pick_fb_l S rfl rfl rfl ?_ | refine move_o_l S rfl rfl ?_ | refine run_block ?_ | refine run_ret ?_ | refine run_exit ?_ | refine run_cond_true rfl ?_ | refine run_cond_false rfl ?_ | refine thenQ_n ?_ | refine thenQ_r ?_ | refine thenQ_e ?_ | refine blockQ_n ?_ | refine blockQ_r ?_ | refine blockQ_s rfl ?_ | refine blockQ_o rfl ?_ | refine ret1_i rfl ?_ | refine ret1_b rfl ?_ | refine ret1_p rfl ?_ | refine ret1_s rfl ?_ | refine ret1_e rfl ?_ | refine ret1_a rfl ?_ | refine ret1_o rfl ?_ | refine ret1n_i rfl ?_ | refine ret1n_b rfl ?_ | refine ret1n_p rfl ?_ | refine ret1n_s rfl ?_ | refine ret1n_o rfl ?_)
  refine run_any S (L' := [roR (heapR bh ga va gc vc H), roR (heapR b2 ga2 va2 gc2 vc2 H2)]) (f := 49) mixed rfl ?_
  clear S
  intro w S1
  have S : Sat _ _ w [roR (heapR bh ga va gc vc H), roR (heapR b2 ga2 va2 gc2 vc2 H2)] := S1.sub
  all_goals (refine any_pure (i := 0) rfl (by kernel_rfl) S ?_; (first | refine move_p_x rfl rfl ?_ | refine move_e_x rfl rfl ?_ | refine move_o_x rfl rfl ?_))
  all_goals (refine any_pure (i := 1) rfl (by kernel_rfl) S ?_; (first | refine nilCheck_x rfl rfl ?_ | refine nilCheckE_x rfl (by first | omega | decide | (simp; done) | (simp; omega)) rfl ?_))
  all_goals (refine any_pure (i := 2) rfl (by kernel_rfl) S ?_; (first | refine fieldAddr_x rfl rfl rfl ?_ | refine fieldAddrE_x rfl (by first | omega | decide | (simp; done) | (simp; omega)) rfl rfl ?_))
  all_goals (refine any_pure (i := 3) rfl (by kernel_rfl) S ?_; (first | refine fieldAddr_x rfl rfl rfl ?_ | refine fieldAddrE_x rfl (by first | omega | decide | (simp; done) | (simp; omega)) rfl rfl ?_))
  all_goals (refine any_pure (i := 4) rfl (by kernel_rfl) S ?_; (first | refine load_i_x rfl rfl rfl rfl ?_ | refine load_o_x rfl rfl rfl rfl ?_ | refine loadE_i_x rfl (by first | omega | decide | (simp; done) | (simp; omega)) rfl rfl rfl ?_ | refine loadE_o_x rfl (by first | omega | decide | (simp; done) | (simp; omega)) rfl rfl rfl ?_))
  all_goals (refine any_pure (i := 5) rfl (by kernel_rfl) S ?_; (first | refine move_p_x rfl rfl ?_ | refine move_e_x rfl rfl ?_ | refine move_o_x rfl rfl ?_))
  all_goals (refine any_pure (i := 6) rfl (by kernel_rfl) S ?_; (first | refine nilCheck_x rfl rfl ?_ | refine nilCheckE_x rfl (by first | omega | decide | (simp; done) | (simp; omega)) rfl ?_))
  all_goals (refine any_pure (i := 7) rfl (by kernel_rfl) S ?_; (first | refine fieldAddr_x rfl rfl rfl ?_ | refine fieldAddrE_x rfl (by first | omega | decide | (simp; done) | (simp; omega)) rfl rfl ?_))
  all_goals (refine any_pure (i := 8) rfl (by kernel_rfl) S ?_; (first | refine fieldAddr_x rfl rfl rfl ?_ | refine fieldAddrE_x rfl (by first | omega | decide | (simp; done) | (simp; omega)) rfl rfl ?_))
  all_goals (refine any_pure (i := 9) rfl (by kernel_rfl) S ?_; (first | refine load_i_x rfl rfl rfl rfl ?_ | refine load_o_x rfl rfl rfl rfl ?_ | refine loadE_i_x rfl (by first | omega | decide | (simp; done) | (simp; omega)) rfl rfl rfl ?_ | refine loadE_o_x rfl (by first | omega | decide | (simp; done) | (simp; omega)) rfl rfl rfl ?_))
  all_goals (refine any_pure (i := 10) rfl (by kernel_rfl) S ?_; (refine eql_x rfl rfl rfl ?_ ?_ <;> intro hcmp <;> try (exfalso; first | omega | exact hcmp (by decide) | exact absurd hcmp (by decide))))
  all_goals (refine any_pure (i := 11) rfl (by kernel_rfl) S ?_; refine move_b_x rfl rfl ?_)
  all_goals (refine any_pure (i := 12) rfl (by kernel_rfl) S ?_; first | (refine onX rfl rfl ?_; (first | refine move_p_x rfl rfl ?_ | refine move_e_x rfl rfl ?_ | refine move_o_x rfl rfl ?_)) | first | refine offX rfl rfl rfl rfl ?_ | refine offXU rfl rfl rfl ?_)
  all_goals (refine any_pure (i := 13) rfl (by kernel_rfl) S ?_; first | (refine onX rfl rfl ?_; (first | refine nilCheck_x rfl rfl ?_ | refine nilCheckE_x rfl (by first | omega | decide | (simp; done) | (simp; omega)) rfl ?_)) | first | refine offX rfl rfl rfl rfl ?_ | refine offXU rfl rfl rfl ?_)
  all_goals (refine any_pure (i := 14) rfl (by kernel_rfl) S ?_; first | (refine onX rfl rfl ?_; (first | refine fieldAddr_x rfl rfl rfl ?_ | refine fieldAddrE_x rfl (by first | omega | decide | (simp; done) | (simp; omega)) rfl rfl ?_)) | first | refine offX rfl rfl rfl rfl ?_ | refine offXU rfl rfl rfl ?_)
  all_goals (refine any_pure (i := 15) rfl (by kernel_rfl) S ?_; first | (refine onX rfl rfl ?_; (first | refine fieldAddr_x rfl rfl rfl ?_ | refine fieldAddrE_x rfl (by first | omega | decide | (simp; done) | (simp; omega)) rfl rfl ?_)) | first | refine offX rfl rfl rfl rfl ?_ | refine offXU rfl rfl rfl ?_)
  all_goals (refine any_pure (i := 16) rfl (by kernel_rfl) S ?_; first | (refine onX rfl rfl ?_; (first | refine load_i_x rfl rfl rfl rfl ?_ | refine load_o_x rfl rfl rfl rfl ?_ | refine loadE_i_x rfl (by first | omega | decide | (simp; done) | (simp; omega)) rfl rfl rfl ?_ | refine loadE_o_x rfl (by first | omega | decide | (simp; done) | (simp; omega)) rfl rfl rfl ?_)) | first | refine offX rfl rfl rfl rfl ?_ | refine offXU rfl rfl rfl ?_)
  all_goals (refine any_pure (i := 17) rfl (by kernel_rfl) S ?_; first | (refine onX rfl rfl ?_; (first | refine move_p_x rfl rfl ?_ | refine move_e_x rfl rfl ?_ | refine move_o_x rfl rfl ?_)) | first | refine offX rfl rfl rfl rfl ?_ | refine offXU rfl rfl rfl ?_)
  all_goals (refine any_pure (i := 18) rfl (by kernel_rfl) S ?_; first | (refine onX rfl rfl ?_; (first | refine nilCheck_x rfl rfl ?_ | refine nilCheckE_x rfl (by first | omega | decide | (simp; done) | (simp; omega)) rfl ?_)) | first | refine offX rfl rfl rfl rfl ?_ | refine offXU rfl rfl rfl ?_)
  all_goals (refine any_pure (i := 19) rfl (by kernel_rfl) S ?_; first | (refine onX rfl rfl ?_; (first | refine fieldAddr_x rfl rfl rfl ?_ | refine fieldAddrE_x rfl (by first | omega | decide | (simp; done) | (simp; omega)) rfl rfl ?_)) | first | refine offX rfl rfl rfl rfl ?_ | refine offXU rfl rfl rfl ?_)
  all_goals (refine any_pure (i := 20) rfl (by kernel_rfl) S ?_; first | (refine onX rfl rfl ?_; (first | refine fieldAddr_x rfl rfl rfl ?_ | refine fieldAddrE_x rfl (by first | omega | decide | (simp; done) | (simp; omega)) rfl rfl ?_)) | first | refine offX rfl rfl rfl rfl ?_ | refine offXU rfl rfl rfl ?_)
  all_goals (refine any_pure (i := 21) rfl (by kernel_rfl) S ?_; first | (refine onX rfl rfl ?_; (first | refine load_i_x rfl rfl rfl rfl ?_ | refine load_o_x rfl rfl rfl rfl ?_ | refine loadE_i_x rfl (by first | omega | decide | (simp; done) | (simp; omega)) rfl rfl rfl ?_ | refine loadE_o_x rfl (by first | omega | decide | (simp; done) | (simp; omega)) rfl rfl rfl ?_)) | first | refine offX rfl rfl rfl rfl ?_ | refine offXU rfl rfl rfl ?_)
  all_goals (refine any_pure (i := 22) rfl (by kernel_rfl) S ?_; first | (refine onX rfl rfl ?_; (refine eql_x rfl rfl rfl ?_ ?_ <;> intro hcmp <;> try (exfalso; first | omega | exact hcmp (by decide) | exact absurd hcmp (by decide)))) | first | refine offX rfl rfl rfl rfl ?_ | refine offXU rfl rfl rfl ?_)
  all_goals (refine any_pure (i := 23) rfl (by kernel_rfl) S ?_; (first | refine pick_tb_x rfl rfl rfl ?_ | refine pick_fb_x rfl rfl rfl ?_))
  all_goals (refine any_pure (i := 24) rfl (by kernel_rfl) S ?_; refine move_b_x rfl rfl ?_)
  all_goals (refine any_pure (i := 25) rfl (by kernel_rfl) S ?_; first | (refine onX rfl rfl ?_; (first | refine move_p_x rfl rfl ?_ | refine move_e_x rfl rfl ?_ | refine move_o_x rfl rfl ?_)) | first | refine offX rfl rfl rfl rfl ?_ | refine offXU rfl rfl rfl ?_)
  all_goals (refine any_pure (i := 26) rfl (by kernel_rfl) S ?_; first | (refine onX rfl rfl ?_; (first | refine nilCheck_x rfl rfl ?_ | refine nilCheckE_x rfl (by first | omega | decide | (simp; done) | (simp; omega)) rfl ?_)) | first | refine offX rfl rfl rfl rfl ?_ | refine offXU rfl rfl rfl ?_)
  all_goals (refine any_pure (i := 27) rfl (by kernel_rfl) S ?_; first | (refine onX rfl rfl ?_; (first | refine fieldAddr_x rfl rfl rfl ?_ | refine fieldAddrE_x rfl (by first | omega | decide | (simp; done) | (simp; omega)) rfl rfl ?_)) | first | refine offX rfl rfl rfl rfl ?_ | refine offXU rfl rfl rfl ?_)
  all_goals (refine any_pure (i := 28) rfl (by kernel_rfl) S ?_; first | (refine onX rfl rfl ?_; (first | refine fieldAddr_x rfl rfl rfl ?_ | refine fieldAddrE_x rfl (by first | omega | decide | (simp; done) | (simp; omega)) rfl rfl ?_)) | first | refine offX rfl rfl rfl rfl ?_ | refine offXU rfl rfl rfl ?_)
  all_goals (refine any_pure (i := 29) rfl (by kernel_rfl) S ?_; first | (refine onX rfl rfl ?_; (first | refine load_s_x rfl rfl rfl rfl ?_ | refine load_o_x rfl rfl rfl rfl ?_ | refine loadE_s_x rfl (by first | omega | decide | (simp; done) | (simp; omega)) rfl rfl rfl ?_ | refine loadE_o_x rfl (by first | omega | decide | (simp; done) | (simp; omega)) rfl rfl rfl ?_)) | first | refine offX rfl rfl rfl rfl ?_ | refine offXU rfl rfl rfl ?_)
  all_goals (refine any_pure (i := 30) rfl (by kernel_rfl) S ?_; first | (refine onX rfl rfl ?_; (first | refine move_p_x rfl rfl ?_ | refine move_e_x rfl rfl ?_ | refine move_o_x rfl rfl ?_)) | first | refine offX rfl rfl rfl rfl ?_ | refine offXU rfl rfl rfl ?_)
  all_goals (refine any_pure (i := 31) rfl (by kernel_rfl) S ?_; first | (refine onX rfl rfl ?_; (first | refine nilCheck_x rfl rfl ?_ | refine nilCheckE_x rfl (by first | omega | decide | (simp; done) | (simp; omega)) rfl ?_)) | first | refine offX rfl rfl rfl rfl ?_ | refine offXU rfl rfl rfl ?_)
  all_goals (refine any_pure (i := 32) rfl (by kernel_rfl) S ?_; first | (refine onX rfl rfl ?_; (first | refine fieldAddr_x rfl rfl rfl ?_ | refine fieldAddrE_x rfl (by first | omega | decide | (simp; done) | (simp; omega)) rfl rfl ?_)) | first | refine offX rfl rfl rfl rfl ?_ | refine offXU rfl rfl rfl ?_)
  all_goals (refine any_pure (i := 33) rfl (by kernel_rfl) S ?_; first | (refine onX rfl rfl ?_; (first | refine fieldAddr_x rfl rfl rfl ?_ | refine fieldAddrE_x rfl (by first | omega | decide | (simp; done) | (simp; omega)) rfl rfl ?_)) | first | refine offX rfl rfl rfl rfl ?_ | refine offXU rfl rfl rfl ?_)
  all_goals (refine any_pure (i := 34) rfl (by kernel_rfl) S ?_; first | (refine onX rfl rfl ?_; (first | refine load_s_x rfl rfl rfl rfl ?_ | refine load_o_x rfl rfl rfl rfl ?_ | refine loadE_s_x rfl (by first | omega | decide | (simp; done) | (simp; omega)) rfl rfl rfl ?_ | refine loadE_o_x rfl (by first | omega | decide | (simp; done) | (simp; omega)) rfl rfl rfl ?_)) | first | refine offX rfl rfl rfl rfl ?_ | refine offXU rfl rfl rfl ?_)
  all_goals refine any_step (i := 35) rfl (by kernel_rfl) ?_
  all_goals first | refine onL rfl rfl ?_ | (first | (refine offL rfl rfl rfl rfl ?_; refine nilL ?_) | (refine offLU rfl rfl rfl ?_; refine nilL ?_) | (refine offL0 rfl rfl rfl ?_; refine nilL ?_); refine ⟨S.sub, ?_⟩)
  all_goals replace S := S1
  (refine callL (equalLocks_at ga ga2 gc gc2 H.locks H2.locks _ (RowOk.sl S.got.1.2.1) (RowOk.sl S.got2.1.2.1)) rfl rfl ?_; rintro e w ⟨rfl, hb⟩; replace S := S.below hb; clear hb; refine ⟨_, rfl, ?_⟩)
  rcases Decidable.em (H.locks = H2.locks) with hL | hL
  focus
    rw [decide_eq_true hL]
  rotate_left
  focus
    rw [decide_eq_false hL]
  rotate_right
  all_goals try refine nilL ?_
  all_goals refine ⟨S.sub, ?_⟩
  all_goals (have S1 := S; replace S : Sat _ _ _ [roR (heapR bh ga va gc vc H), roR (heapR b2 ga2 va2 gc2 vc2 H2)] := S1.sub)
  all_goals (refine any_pure (i := 36) rfl (by kernel_rfl) S ?_; (first | refine pick_tb_x rfl rfl rfl ?_ | refine pick_fb_x rfl rfl rfl ?_))
  all_goals (refine any_pure (i := 37) rfl (by kernel_rfl) S ?_; refine move_b_x rfl rfl ?_)
  all_goals (refine any_pure (i := 38) rfl (by kernel_rfl) S ?_; first | (refine onX rfl rfl ?_; (first | refine move_p_x rfl rfl ?_ | refine move_e_x rfl rfl ?_ | refine move_o_x rfl rfl ?_)) | first | refine offX rfl rfl rfl rfl ?_ | refine offXU rfl rfl rfl ?_)
  all_goals (refine any_pure (i := 39) rfl (by kernel_rfl) S ?_; first | (refine onX rfl rfl ?_; (first | refine nilCheck_x rfl rfl ?_ | refine nilCheckE_x rfl (by first | omega | decide | (simp; done) | (simp; omega)) rfl ?_)) | first | refine offX rfl rfl rfl rfl ?_ | refine offXU rfl rfl rfl ?_)
  all_goals (refine any_pure (i := 40) rfl (by kernel_rfl) S ?_; first | (refine onX rfl rfl ?_; (first | refine fieldAddr_x rfl rfl rfl ?_ | refine fieldAddrE_x rfl (by first | omega | decide | (simp; done) | (simp; omega)) rfl rfl ?_)) | first | refine offX rfl rfl rfl rfl ?_ | refine offXU rfl rfl rfl ?_)
  all_goals (refine any_pure (i := 41) rfl (by kernel_rfl) S ?_; first | (refine onX rfl rfl ?_; (first | refine load_s_x rfl rfl rfl rfl ?_ | refine load_o_x rfl rfl rfl rfl ?_ | refine loadE_s_x rfl (by first | omega | decide | (simp; done) | (simp; omega)) rfl rfl rfl ?_ | refine loadE_o_x rfl (by first | omega | decide | (simp; done) | (simp; omega)) rfl rfl rfl ?_)) | first | refine offX rfl rfl rfl rfl ?_ | refine offXU rfl rfl rfl ?_)
  all_goals (refine any_pure (i := 42) rfl (by kernel_rfl) S ?_; first | (refine onX rfl rfl ?_; (first | refine move_p_x rfl rfl ?_ | refine move_e_x rfl rfl ?_ | refine move_o_x rfl rfl ?_)) | first | refine offX rfl rfl rfl rfl ?_ | refine offXU rfl rfl rfl ?_)
  all_goals (refine any_pure (i := 43) rfl (by kernel_rfl) S ?_; first | (refine onX rfl rfl ?_; (first | refine nilCheck_x rfl rfl ?_ | refine nilCheckE_x rfl (by first | omega | decide | (simp; done) | (simp; omega)) rfl ?_)) | first | refine offX rfl rfl rfl rfl ?_ | refine offXU rfl rfl rfl ?_)
  all_goals (refine any_pure (i := 44) rfl (by kernel_rfl) S ?_; first | (refine onX rfl rfl ?_; (first | refine fieldAddr_x rfl rfl rfl ?_ | refine fieldAddrE_x rfl (by first | omega | decide | (simp; done) | (simp; omega)) rfl rfl ?_)) | first | refine offX rfl rfl rfl rfl ?_ | refine offXU rfl rfl rfl ?_)
  all_goals (refine any_pure (i := 45) rfl (by kernel_rfl) S ?_; first | (refine onX rfl rfl ?_; (first | refine load_s_x rfl rfl rfl rfl ?_ | refine load_o_x rfl rfl rfl rfl ?_ | refine loadE_s_x rfl (by first | omega | decide | (simp; done) | (simp; omega)) rfl rfl rfl ?_ | refine loadE_o_x rfl (by first | omega | decide | (simp; done) | (simp; omega)) rfl rfl rfl ?_)) | first | refine offX rfl rfl rfl rfl ?_ | refine offXU rfl rfl rfl ?_)
  all_goals refine any_step (i := 46) rfl (by kernel_rfl) ?_
  all_goals first | refine onL rfl rfl ?_ | (first | (refine offL rfl rfl rfl rfl ?_; refine nilL ?_) | (refine offLU rfl rfl rfl ?_; refine nilL ?_) | (refine offL0 rfl rfl rfl ?_; refine nilL ?_); refine ⟨S.sub, ?_⟩)
  all_goals replace S := S1
  (refine callL (equal64_at va va2 vc vc2 H.vals H2.vals _ (RowOk.sl S.got.1.2.2) (RowOk.sl S.got2.1.2.2)) rfl rfl ?_; rintro e w ⟨rfl, hb⟩; replace S := S.below hb; clear hb; refine ⟨_, rfl, ?_⟩)
  all_goals try refine nilL ?_
  all_goals refine ⟨S.sub, ?_⟩
  all_goals (have S1 := S; replace S : Sat _ _ _ [roR (heapR bh ga va gc vc H), roR (heapR b2 ga2 va2 gc2 vc2 H2)] := S1.sub)
  all_goals (refine any_pure (i := 47) rfl (by kernel_rfl) S ?_; (first | refine pick_tb_x rfl rfl rfl ?_ | refine pick_fb_x rfl rfl rfl ?_))
  all_goals (refine any_pure (i := 48) rfl (by kernel_rfl) S ?_; refine assign_b_x rfl rfl ?_)
  all_goals refine any_end (by kernel_rfl) ?_
  all_goals replace S := S1
  all_goals (repeat' (first | refine move_p_l S rfl rfl ?_ | refine move_e_l S rfl rfl ?_ | refine eqlP_l S rfl rfl rfl ?_ | refine nilL ?_ | refine run_seq ?_ | refine run_skip ?_ | refine run_region ?_ | refine onL rfl rfl ?_ | refine offL rfl rfl rfl rfl ?_ | refine offL0 rfl rfl rfl ?_ | refine offLU rfl rfl rfl ?_ | refine eqlE_l S rfl rfl (by omega) rfl ?_ | refine assign_b_l S rfl rfl ?_ | refine move_b_l S rfl rfl ?_ | refine pick_tb_l S rfl rfl rfl ?_ | refine pick_fb_l S rfl rfl rfl ?_ | refine move_o_l S rfl rfl ?_ | refine run_block ?_ | refine run_ret ?_ | refine run_exit ?_ | refine run_cond_true rfl ?_ | refine run_cond_false rfl ?_ | refine thenQ_n ?_ | refine thenQ_r ?_ | refine thenQ_e ?_ | refine blockQ_n ?_ | refine blockQ_r ?_ | refine blockQ_s rfl ?_ | refine blockQ_o rfl ?_ | refine ret1_i rfl ?_ | refine ret1_b rfl ?_ | refine ret1_p rfl ?_ | refine ret1_s rfl ?_ | refine ret1_e rfl ?_ | refine ret1_a rfl ?_ | refine ret1_o rfl ?_ | refine ret1n_i rfl ?_ | refine ret1n_b rfl ?_ | refine ret1n_p rfl ?_ | refine ret1n_s rfl ?_ | refine ret1n_o rfl ?_))
  · refine ⟨⟨_, rfl, ?_⟩, S.chg.below⟩
    rw [decide_eq_true_eq]
    exact ⟨fun h => ⟨by assumption, by assumption, hL, h⟩, fun h => h.2.2.2⟩
  all_goals
    refine ⟨⟨_, rfl, ⟨fun h => (by cases h), fun h => ?_⟩⟩, S.chg.below⟩
    obtain ⟨p1, p2, p3, p4⟩ := h
    exfalso
    first | contradiction | omega
end
end Go.Proofs.Ytpiodhdbdlfnhaa
