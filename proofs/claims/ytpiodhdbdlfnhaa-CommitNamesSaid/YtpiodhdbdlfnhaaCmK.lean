/- commit: how many steps there are (plain); kinds, long, count. -/
import Derived.Test.YtpiodhdbdlfnhaaCmH
namespace Go.Proofs.Ytpiodhdbdlfnhaa
open Go.RowKit Go.Lib
set_option linter.unusedVariables false
set_option maxHeartbeats 4000000
def mu (C : CmS) (H : HeapS) : Nat := match C.at_ with
  | 8 => 0
  | 7 => C.owned.length
  | 6 => C.owned.length
  | 5 => (C.writes.length - C.done.toNat) + C.owned.length
  | 4 => 1 + C.writes.length + C.owned.length
  | 3 => ((allI C.st C.hs).length - C.done.toNat) + 1 + C.writes.length + C.owned.length
  | 2 => 2 + (allI C.st C.hs).length + C.writes.length + C.owned.length
  | _ => 2 * ((strL C H).length - C.owned.length) + 2 + (allI C.st C.hs).length + C.writes.length + C.owned.length
theorem mu8 {C : CmS} {H : HeapS} (h : C.at_ = 8) : mu C H = 0 := by unfold mu; rw [h]; rfl
theorem mu7 {C : CmS} {H : HeapS} (h : C.at_ = 6 ∨ C.at_ = 7) : mu C H = C.owned.length := by unfold mu; rcases h with h | h <;> rw [h] <;> rfl
theorem mu5 {C : CmS} {H : HeapS} (h : C.at_ = 5) : mu C H = (C.writes.length - C.done.toNat) + C.owned.length := by unfold mu; rw [h]; rfl
theorem mu4 {C : CmS} {H : HeapS} (h : C.at_ = 4) : mu C H = 1 + C.writes.length + C.owned.length := by unfold mu; rw [h]; rfl
theorem mu3 {C : CmS} {H : HeapS} (h : C.at_ = 3) : mu C H = ((allI C.st C.hs).length - C.done.toNat) + 1 + C.writes.length + C.owned.length := by unfold mu; rw [h]; rfl
theorem mu2 {C : CmS} {H : HeapS} (h : C.at_ = 2) : mu C H = 2 + (allI C.st C.hs).length + C.writes.length + C.owned.length := by unfold mu; rw [h]; rfl
theorem mu1 {C : CmS} {H : HeapS} (h : C.at_ = 1) : mu C H = 2 * ((strL C H).length - C.owned.length) + 2 + (allI C.st C.hs).length + C.writes.length + C.owned.length := by unfold mu; rw [h]; rfl
theorem mu_abort (C : CmS) (H : HeapS) : mu (abortC C) H = C.owned.length := by
  by_cases e : C.owned.length = 0
  · rw [mu8 (by unfold abortC; rw [if_pos e]), e]
  · rw [mu7 (.inr (by unfold abortC; rw [if_neg e]))]; rfl
theorem mu_go {n st : Nat} {limit : Int} {C : CmS} {H : HeapS} (h : InvC C H) (o : OkC n st limit H) (h0 : 0 < st) (h8 : C.at_ ≠ 8) : mu (goC C H) (goH C H) < mu C H := by
  have o' := o.go C
  have e : strL (goC C H) (goH C H) = strL C H := strL_congr (goC_same C H).2.2.2.2 (by rw [o'.vals, o.vals]) (by rw [o'.locks, o.locks])
  have hl : 0 < H.locks.length := by rw [o.locks]; exact h0
  have hat : C.at_ = 1 ∨ C.at_ = 2 ∨ C.at_ = 3 ∨ C.at_ = 4 ∨ C.at_ = 5 ∨ C.at_ = 6 ∨ C.at_ = 7 := by have := h.at1; omega
  rcases hat with hat | hat | hat | hat | hat | hat | hat
  · rw [goC1 hat] at e ⊢
    obtain ⟨g1, g2, g3⟩ := h.lk hat
    rw [mu1 hat]
    unfold lockC at e ⊢
    split
    · rename_i he
      rw [if_pos he] at e
      have hlen : (C.owned ++ [lockS C H]).length = C.owned.length + 1 := by simp
      by_cases hn : C.owned.length + 1 = (strL C H).length
      · rw [if_pos hn] at e ⊢
        rw [mu2 rfl]
        show 2 + (allI C.st C.hs).length + C.writes.length + (C.owned ++ [lockS C H]).length < _
        omega
      · rw [if_neg hn] at e ⊢
        rw [mu1 (C := { C with owned := C.owned ++ [lockS C H] }) (H := goH C H) hat, e]
        show 2 * ((strL C H).length - (C.owned ++ [lockS C H]).length) + 2 + (allI C.st C.hs).length + C.writes.length + (C.owned ++ [lockS C H]).length < _
        omega
    · rw [mu_abort]; omega
  · rw [goC2 hat] at e ⊢
    obtain ⟨g1, g2, g3⟩ := h.bp hat
    rw [mu2 hat]
    unfold bumpC at e ⊢
    split
    · rw [mu_abort]
      show C.owned.length < _
      omega
    · by_cases hk : H.clock + 1 ≠ C.rv + 1 ∧ 0 < (allI C.st C.hs).length
      · rw [if_pos hk, mu3 rfl]
        show ((allI C.st C.hs).length - C.done.toNat) + 1 + C.writes.length + C.owned.length < _
        omega
      · rw [if_neg hk, mu4 rfl]
        show 1 + C.writes.length + C.owned.length < _
        omega
  · rw [goC3 hat] at e ⊢
    obtain ⟨g1, g2, g3⟩ := h.ck hat
    rw [mu3 hat]
    unfold checkC at e ⊢
    split
    · rw [mu_abort]; omega
    · by_cases hk : C.done + 1 = (allI C.st C.hs).length
      · rw [if_pos hk, mu4 rfl]
        show 1 + C.writes.length + C.owned.length < _
        omega
      · rw [if_neg hk, mu3 (C := { C with done := C.done + 1 }) (H := goH C H) hat]
        show ((allI C.st C.hs).length - (C.done + 1).toNat) + 1 + C.writes.length + C.owned.length < _
        omega
  · rw [goC4 hat] at e ⊢
    have g1 := h.cm hat
    rw [mu4 hat]
    unfold commitC at e ⊢
    by_cases hk : C.writes.length = 0
    · rw [if_pos hk, mu8 rfl]; omega
    · rw [if_neg hk, mu5 rfl]
      show (C.writes.length - (0 : Int).toNat) + C.owned.length < _
      omega
  · rw [goC5 hat] at e ⊢
    obtain ⟨g1, g2⟩ := h.so hat
    rw [mu5 hat]
    unfold storeC at e ⊢
    by_cases hk : C.done + 1 = C.writes.length
    · rw [if_pos hk, mu7 (.inl rfl)]
      show C.owned.length < _
      omega
    · rw [if_neg hk, mu5 (C := { C with done := C.done + 1 }) (H := goH C H) hat]
      show (C.writes.length - (C.done + 1).toNat) + C.owned.length < _
      omega
  all_goals
    first | rw [goC6 hat] at e ⊢ | rw [goC7 hat] at e ⊢
    have hne := List.length_pos_iff.2 (h.fr (by omega))
    rw [mu7 (C := C) (by omega)]
    unfold leastC at e ⊢
    by_cases hk : (C.owned.drop 1).length = 0
    · rw [if_pos hk, mu8 rfl]; exact hne
    · rw [if_neg hk, mu7 (C := { C with owned := C.owned.drop 1 }) (H := goH C H) (show C.at_ = 6 ∨ C.at_ = 7 by omega)]
      show (C.owned.drop 1).length < _
      simp; omega
theorem mu_le {C : CmS} {H : HeapS} (h : InvC C H) (hl : 0 < H.locks.length) : mu C H ≤ 180 := by
  have h1 := riseB_len32 h.ws
  have h2 := strL_len (C := C) hl
  have h3 := allI_len C.st C.hs
  have h4 := h.sub.length_le
  have hat : C.at_ = 1 ∨ C.at_ = 2 ∨ C.at_ = 3 ∨ C.at_ = 4 ∨ C.at_ = 5 ∨ C.at_ = 6 ∨ C.at_ = 7 ∨ C.at_ = 8 := by have := h.at1; omega
  rcases hat with hat | hat | hat | hat | hat | hat | hat | hat
  · rw [mu1 hat]; omega
  · rw [mu2 hat]; omega
  · rw [mu3 hat]; omega
  · rw [mu4 hat]; omega
  · rw [mu5 hat]; omega
  · rw [mu7 (.inl hat)]; omega
  · rw [mu7 (.inr hat)]; omega
  · rw [mu8 hat]; omega
/-- What holds at every step of a commit on a heap to which nothing else is done. -/
theorem run_inv {J : CmS → HeapS → Prop} (hj : ∀ C H, J C H → C.at_ ≠ 8 → stepE C H = 0 ∧ J (goC C H) (goH C H) ∧ mu (goC C H) (goH C H) < mu C H) :
    ∀ (m : Nat) (C : CmS) (H : HeapS), J C H → mu C H < m → (runF m C H).2.1 = true ∧ J (runF m C H).2.2.1 (runF m C H).2.2.2 ∧ (runF m C H).2.2.1.at_ = 8
  | 0, _, _, _, h => by omega
  | m + 1, C, H, hJ, h => by
    unfold runF
    by_cases h8 : C.at_ = 8
    · rw [if_pos h8]; exact ⟨rfl, hJ, h8⟩
    · rw [if_neg h8]
      obtain ⟨g1, g2, g3⟩ := hj C H hJ h8
      rw [if_pos g1]
      have e1 : stepC C H = goC C H := by unfold stepC; rw [if_pos g1]
      have e2 : stepH C H = goH C H := by unfold stepH; rw [if_pos g1]
      rw [e1, e2]
      exact run_inv hj m _ _ g2 (by omega)
theorem kinds_at (a aw : Option Addr) (cap cw : Nat) (l : List EvS) (ks : List Int) (w0 : World) (h : SlOk w0 a l.length cap 7 (gL encE evD l)) (hk : SlOk w0 aw ks.length cw 1 (fun i _ => .int .u8 (ks.getD i 0))) :
    Calls Try.prog 22 #[.slice a l.length cap, .slice aw ks.length cw] w0 fun e w' => e = .returned (.bool (decide (l.map (·.kind) = ks))) ∧ Below w0.heap.size w0 w' := by
  have S := Sat.reads2 (r := slL a cap 7 encE evD l) (r' := slR aw ks.length cw 1 (fun i _ => .int .u8 (ks.getD i 0))) h hk
  have hm1 := h.small
  have hm2 := hk.small
  refine enter1 Try.func22 rfl Try.ntmps22 rfl Try.results22 ?_
  repeat' (first | refine assign_b_l S rfl rfl ?_ | refine move_s_l S rfl rfl ?_ | refine len_l S rfl rfl ?_ | refine nilL ?_ | refine run_seq ?_ | refine run_skip ?_ | refine run_region ?_ | refine assign_i_l S rfl rfl ?_ | refine move_i_l S rfl rfl ?_ | (refine neq_l S rfl rfl rfl ?_ ?_ <;> intro hcmp <;> try (exfalso; first | omega | exact hcmp (by decide) | exact absurd hcmp (by decide))) | (refine lss_l S rfl rfl rfl ?_ ?_ <;> intro hcmp <;> try (exfalso; first | omega | exact hcmp (by decide) | exact absurd hcmp (by decide))) | refine add_l S rfl rfl (wrap_in (by omega)) rfl ?_ | refine add_l S rfl rfl rfl rfl ?_ | refine run_block ?_ | refine run_ret ?_ | refine run_exit ?_ | refine run_cond_true rfl ?_ | refine run_cond_false rfl ?_ | refine thenQ_n ?_ | refine thenQ_r ?_ | refine thenQ_e ?_ | refine blockQ_n ?_ | refine blockQ_r ?_ | refine blockQ_s rfl ?_ | refine blockQ_o rfl ?_ | (refine run_draws S mixed ?_ ?_; · kernel_rfl) | (refine nilQ ?_; clear S; intro w S) | refine move_s_q rfl rfl ?_ | refine move_i_q rfl rfl ?_ | refine indexAddr_q rfl rfl (idx_cast _) (by first | omega | decide | (simp; done) | (simp; omega)) rfl ?_ | refine indexAddr_q rfl rfl (idx_eq _) (by first | omega | decide | (simp; done) | (simp; omega)) rfl ?_ | refine fieldAddr_q rfl rfl rfl ?_ | refine fieldAddrE_q rfl (by first | omega | decide | (simp; done) | (simp; omega)) rfl rfl ?_ | refine load_i_q rfl rfl rfl rfl ?_ | refine loadE_i_q rfl (by first | omega | decide | (simp; done) | (simp; omega)) rfl rfl rfl ?_ | (refine neq_q rfl rfl rfl ?_ ?_ <;> intro hcmp <;> try (exfalso; first | omega | exact hcmp (by decide) | exact absurd hcmp (by decide))) | refine load_o_q rfl rfl rfl rfl ?_ | refine loadE_o_q rfl (by first | omega | decide | (simp; done) | (simp; omega)) rfl rfl rfl ?_ | refine ret1_i rfl ?_ | refine ret1_b rfl ?_ | refine ret1_p rfl ?_ | refine ret1_s rfl ?_ | refine ret1_e rfl ?_ | refine ret1_a rfl ?_ | refine ret1_o rfl ?_ | refine ret1n_i rfl ?_ | refine ret1n_b rfl ?_ | refine ret1n_p rfl ?_ | refine ret1n_s rfl ?_ | refine ret1n_o rfl ?_)
  · rw [decide_eq_false (fun e => by have := congrArg List.length e; simp at this; omega)]
    exact ⟨rfl, S.chg.below⟩
  refine run_while [4, 11, 12, 13, 14, 15, 16, 17, 18, 19, 20, 21, 22, 23, 24, 25, 26] (fun (q : Nat) t => upd t 5 (.int .i64 q)) (fun q w' => q ≤ l.length ∧ (∀ i, i < q → (l.getD i evD).kind = ks.getD i 0) ∧ Sat (fun _ => False) w0 w' [roR (slL a cap 7 encE evD l), roR (slR aw ks.length cw 1 (fun i _ => .int .u8 (ks.getD i 0)))]) (fun q => l.length - q) 0 ?_ ?_ ?_
  · (repeat (first | exact agree_refl | refine agree_r rfl ?_ | refine agree_l rfl ?_ | refine agree_hv rfl ?_))
  · exact ⟨Nat.zero_le _, fun i hi => by omega, S⟩
  clear S
  rintro q j w ⟨hq, hn, S⟩
  have hlen : l.length = ks.length := by omega
  by_cases hql : q < l.length
  · repeat' (first | refine assign_b_l S rfl rfl ?_ | refine move_s_l S rfl rfl ?_ | refine len_l S rfl rfl ?_ | refine nilL ?_ | refine run_seq ?_ | refine run_skip ?_ | refine run_region ?_ | refine assign_i_l S rfl rfl ?_ | refine move_i_l S rfl rfl ?_ | (refine neq_l S rfl rfl rfl ?_ ?_ <;> intro hcmp <;> try (exfalso; first | omega | exact hcmp (by decide) | exact absurd hcmp (by decide))) | (refine lss_l S rfl rfl rfl ?_ ?_ <;> intro hcmp <;> try (exfalso; first | omega | exact hcmp (by decide) | exact absurd hcmp (by decide))) | refine add_l S rfl rfl (wrap_in (by omega)) rfl ?_ | refine add_l S rfl rfl rfl rfl ?_ | refine run_block ?_ | refine run_ret ?_ | refine run_exit ?_ | refine run_cond_true rfl ?_ | refine run_cond_false rfl ?_ | refine thenQ_n ?_ | refine thenQ_r ?_ | refine thenQ_e ?_ | refine blockQ_n ?_ | refine blockQ_r ?_ | refine blockQ_s rfl ?_ | refine blockQ_o rfl ?_ | (refine run_draws S mixed ?_ ?_; · kernel_rfl) | (refine nilQ ?_; clear S; intro w S) | refine move_s_q rfl rfl ?_ | refine move_i_q rfl rfl ?_ | refine indexAddr_q rfl rfl (idx_cast _) (by first | omega | decide | (simp; done) | (simp; omega)) rfl ?_ | refine indexAddr_q rfl rfl (idx_eq _) (by first | omega | decide | (simp; done) | (simp; omega)) rfl ?_ | refine fieldAddr_q rfl rfl rfl ?_ | refine fieldAddrE_q rfl (by first | omega | decide | (simp; done) | (simp; omega)) rfl rfl ?_ | refine load_i_q rfl rfl rfl rfl ?_ | refine loadE_i_q rfl (by first | omega | decide | (simp; done) | (simp; omega)) rfl rfl rfl ?_ | (refine neq_q rfl rfl rfl ?_ ?_ <;> intro hcmp <;> try (exfalso; first | omega | exact hcmp (by decide) | exact absurd hcmp (by decide))) | refine load_o_q rfl rfl rfl rfl ?_ | refine loadE_o_q rfl (by first | omega | decide | (simp; done) | (simp; omega)) rfl rfl rfl ?_ | refine ret1_i rfl ?_ | refine ret1_b rfl ?_ | refine ret1_p rfl ?_ | refine ret1_s rfl ?_ | refine ret1_e rfl ?_ | refine ret1_a rfl ?_ | refine ret1_o rfl ?_ | refine ret1n_i rfl ?_ | refine ret1n_b rfl ?_ | refine ret1n_p rfl ?_ | refine ret1n_s rfl ?_ | refine ret1n_o rfl ?_)
    · rw [decide_eq_false (fun e => hcmp (by
        have e2 := congrArg (fun z => z.getD q 0) e
        simp only [List.getD_eq_getElem?_getD, List.getElem?_map, List.getElem?_eq_getElem hql, Option.map_some] at e2
        rw [List.getD_eq_getElem?_getD, List.getD_eq_getElem?_getD, List.getElem?_eq_getElem hql]
        exact e2))]
      exact ⟨rfl, S.chg.below⟩
    · refine ⟨q + 1, ?_, ⟨by omega, fun i hi => ?_, S⟩, by omega⟩
      · rw [Int.natCast_add]
        (repeat (first | exact agree_refl | refine agree_r rfl ?_ | refine agree_l rfl ?_ | refine agree_hv rfl ?_))
      · by_cases e : i = q
        · subst e; exact hcmp
        · exact hn i (by omega)
  · repeat' (first | refine assign_b_l S rfl rfl ?_ | refine move_s_l S rfl rfl ?_ | refine len_l S rfl rfl ?_ | refine nilL ?_ | refine run_seq ?_ | refine run_skip ?_ | refine run_region ?_ | refine assign_i_l S rfl rfl ?_ | refine move_i_l S rfl rfl ?_ | (refine neq_l S rfl rfl rfl ?_ ?_ <;> intro hcmp <;> try (exfalso; first | omega | exact hcmp (by decide) | exact absurd hcmp (by decide))) | (refine lss_l S rfl rfl rfl ?_ ?_ <;> intro hcmp <;> try (exfalso; first | omega | exact hcmp (by decide) | exact absurd hcmp (by decide))) | refine add_l S rfl rfl (wrap_in (by omega)) rfl ?_ | refine add_l S rfl rfl rfl rfl ?_ | refine run_block ?_ | refine run_ret ?_ | refine run_exit ?_ | refine run_cond_true rfl ?_ | refine run_cond_false rfl ?_ | refine thenQ_n ?_ | refine thenQ_r ?_ | refine thenQ_e ?_ | refine blockQ_n ?_ | refine blockQ_r ?_ | refine blockQ_s rfl ?_ | refine blockQ_o rfl ?_ | (refine run_draws S mixed ?_ ?_; · kernel_rfl) | (refine nilQ ?_; clear S; intro w S) | refine move_s_q rfl rfl ?_ | refine move_i_q rfl rfl ?_ | refine indexAddr_q rfl rfl (idx_cast _) (by first | omega | decide | (simp; done) | (simp; omega)) rfl ?_ | refine indexAddr_q rfl rfl (idx_eq _) (by first | omega | decide | (simp; done) | (simp; omega)) rfl ?_ | refine fieldAddr_q rfl rfl rfl ?_ | refine fieldAddrE_q rfl (by first | omega | decide | (simp; done) | (simp; omega)) rfl rfl ?_ | refine load_i_q rfl rfl rfl rfl ?_ | refine loadE_i_q rfl (by first | omega | decide | (simp; done) | (simp; omega)) rfl rfl rfl ?_ | (refine neq_q rfl rfl rfl ?_ ?_ <;> intro hcmp <;> try (exfalso; first | omega | exact hcmp (by decide) | exact absurd hcmp (by decide))) | refine load_o_q rfl rfl rfl rfl ?_ | refine loadE_o_q rfl (by first | omega | decide | (simp; done) | (simp; omega)) rfl rfl rfl ?_ | refine ret1_i rfl ?_ | refine ret1_b rfl ?_ | refine ret1_p rfl ?_ | refine ret1_s rfl ?_ | refine ret1_e rfl ?_ | refine ret1_a rfl ?_ | refine ret1_o rfl ?_ | refine ret1n_i rfl ?_ | refine ret1n_b rfl ?_ | refine ret1n_p rfl ?_ | refine ret1n_s rfl ?_ | refine ret1n_o rfl ?_)
    rw [decide_eq_true (by
      apply List.ext_getElem?
      intro i
      by_cases hi : i < l.length
      · have := hn i (by omega)
        rw [List.getD_eq_getElem?_getD, List.getD_eq_getElem?_getD, List.getElem?_eq_getElem hi, List.getElem?_eq_getElem (by omega)] at this
        rw [List.getElem?_map, List.getElem?_eq_getElem hi, List.getElem?_eq_getElem (by omega)]
        exact congrArg some this
      · rw [List.getElem?_eq_none (by simp; omega), List.getElem?_eq_none (by omega)])]
    exact ⟨rfl, S.chg.below⟩
end Go.Proofs.Ytpiodhdbdlfnhaa
