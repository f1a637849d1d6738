/- ReadsetHas. -/
import Derived.Test.YtpiodhdbdlfnhaaRsLm
namespace Go.Proofs.Ytpiodhdbdlfnhaa
open Go.RowKit Go.Lib
set_option linter.unusedVariables false
theorem foldl_has (n : Int) : ∀ (l : List Int) (hs : List Bool), hs.length = 32 → hasB 32 (l.foldl (addH 32) hs) n = (hasB 32 hs n || decide (n ∈ l ∧ 0 ≤ n ∧ n < 32)) := by
  intro l
  induction l with
  | nil => intro hs _; simp
  | cons x l ih =>
    intro hs hl
    rw [List.foldl_cons, ih _ (by rw [addH_len, hl]), addH_has hl, Bool.or_assoc]
    congr 1
    rw [Bool.eq_iff_iff]
    simp only [Bool.or_eq_true, Bool.and_eq_true, decide_eq_true_eq, List.mem_cons]
    constructor
    · rintro (⟨⟨rfl, h1⟩, h2⟩ | ⟨h0, h1⟩)
      · exact ⟨.inl rfl, h1, h2⟩
      · exact ⟨.inr h0, h1⟩
    · rintro ⟨rfl | h0, h1, h2⟩
      · exact .inl ⟨⟨rfl, h1⟩, h2⟩
      · exact .inr ⟨h0, h1, h2⟩
theorem madeH_has (l : List Int) (n : Int) : hasB 32 (madeH l) n = decide (n ∈ l ∧ 0 ≤ n ∧ n < 32) := by
  have h := foldl_has n l (List.replicate 32 false) (by simp)
  rw [show hasB 32 (List.replicate 32 false) n = false from madeH_nil_has n, Bool.false_or] at h
  exact h
theorem madeH_all {l l' : List Int} (h : ∀ x, x ∈ l ↔ x ∈ l') : allI 32 (madeH l) = allI 32 (madeH l') := by
  unfold allI upto
  congr 2
  funext j
  rw [madeH_has, madeH_has]
  simp only [h]
theorem upto_lt (hs : List Bool) : (upto 32 hs 32).Pairwise (· < ·) := List.Pairwise.filter _ List.pairwise_lt_range
theorem upto_rise {hs : List Bool} {i : Nat} (h1 : 1 ≤ i) (h2 : i < (upto 32 hs 32).length) : (upto 32 hs 32).getD (i - 1) 0 < (upto 32 hs 32).getD i 0 := by
  rw [List.getD_eq_getElem?_getD, List.getD_eq_getElem?_getD, List.getElem?_eq_getElem (by omega), List.getElem?_eq_getElem h2]
  exact List.pairwise_iff_getElem.1 (upto_lt hs) _ _ (by omega) h2 (by omega)
theorem told_has (hs : List Bool) (n : Int) : (upto 32 hs 32).any (fun k => decide ((k : Int) = n)) = hasB 32 hs n := by
  rw [Bool.eq_iff_iff, List.any_eq_true]
  unfold upto
  constructor
  · rintro ⟨x, hx, e⟩
    rw [List.mem_filter] at hx
    have e' : (x : Int) = n := by simpa using e
    rw [← e']; exact hx.2
  · intro h
    have hb : 0 ≤ n ∧ n < 32 := by
      unfold hasB at h
      simp only [Bool.and_eq_true, decide_eq_true_eq] at h
      exact ⟨h.1, h.2.1⟩
    refine ⟨n.toNat, ?_, by simp; omega⟩
    rw [List.mem_filter]
    refine ⟨by rw [List.mem_range]; omega, ?_⟩
    rw [show ((n.toNat : Nat) : Int) = n by omega]
    exact h
theorem drop_mem {z : List Int} {k : Nat} (hk : k < z.length) (n : Int) : (n ∈ z.drop k) ↔ (z.getD k 0 = n ∨ n ∈ z.drop (k + 1)) := by
  rw [List.drop_eq_getElem_cons hk, List.mem_cons, List.getD_eq_getElem?_getD, List.getElem?_eq_getElem hk]
  exact ⟨fun h => h.imp Eq.symm id, fun h => h.imp Eq.symm id⟩
theorem numbers_at (a a' : Option Addr) (cap cap' : Nat) (xs ys : List Int) (w0 : World) (h : SlOk w0 a xs.length cap 1 (gL encI 0 xs)) (h' : SlOk w0 a' ys.length cap' 1 (gL encI 0 ys)) :
    Calls Try.prog 33 #[.slice a xs.length cap, .slice a' ys.length cap'] w0 fun e w' => e = .returned (.bool (decide (xs = ys))) ∧ Below w0.heap.size w0 w' := by
  have S : Sat (fun _ => False) w0 w0 [slL a cap 1 encI 0 xs, slL a' cap' 1 encI 0 ys] := ((Sat.start _ _).ro (r := slL a' cap' 1 encI 0 ys) h' rfl rfl).ro (r := slL a cap 1 encI 0 xs) h rfl rfl
  have hm := h.small
  refine enter1 Try.func33 rfl Try.ntmps33 rfl Try.results33 ?_
  repeat' (first | refine assign_b_l S rfl rfl ?_ | refine move_s_l S rfl rfl ?_ | refine len_l S rfl rfl ?_ | refine nilL ?_ | refine run_seq ?_ | refine run_skip ?_ | refine run_region ?_ | refine assign_i_l S rfl rfl ?_ | refine move_i_l S rfl rfl ?_ | (refine neq_l S rfl rfl rfl ?_ ?_ <;> intro hcmp <;> try (exfalso; first | omega | exact hcmp (by decide) | exact absurd hcmp (by decide))) | (refine lss_l S rfl rfl rfl ?_ ?_ <;> intro hcmp <;> try (exfalso; first | omega | exact hcmp (by decide) | exact absurd hcmp (by decide))) | refine add_l S rfl rfl (wrap_in (by omega)) rfl ?_ | refine add_l S rfl rfl rfl rfl ?_ | refine run_block ?_ | refine run_ret ?_ | refine run_exit ?_ | refine run_cond_true rfl ?_ | refine run_cond_false rfl ?_ | refine thenQ_n ?_ | refine thenQ_r ?_ | refine thenQ_e ?_ | refine blockQ_n ?_ | refine blockQ_r ?_ | refine blockQ_s rfl ?_ | refine blockQ_o rfl ?_ | (refine run_draws S mixed ?_ ?_; · kernel_rfl) | (refine nilQ ?_; clear S; intro w S) | refine move_s_q rfl rfl ?_ | refine move_i_q rfl rfl ?_ | refine indexAddr_q rfl rfl (idx_cast _) (by first | omega | decide | (simp; done) | (simp; omega)) rfl ?_ | refine indexAddr_q rfl rfl (idx_eq _) (by first | omega | decide | (simp; done) | (simp; omega)) rfl ?_ | refine load_i_q rfl rfl rfl rfl ?_ | refine loadE_i_q rfl (by first | omega | decide | (simp; done) | (simp; omega)) rfl rfl rfl ?_ | (refine neq_q rfl rfl rfl ?_ ?_ <;> intro hcmp <;> try (exfalso; first | omega | exact hcmp (by decide) | exact absurd hcmp (by decide))) | refine load_o_q rfl rfl rfl rfl ?_ | refine loadE_o_q rfl (by first | omega | decide | (simp; done) | (simp; omega)) rfl rfl rfl ?_ | refine ret1_i rfl ?_ | refine ret1_b rfl ?_ | refine ret1_p rfl ?_ | refine ret1_s rfl ?_ | refine ret1_e rfl ?_ | refine ret1_a rfl ?_ | refine ret1_o rfl ?_ | refine ret1n_i rfl ?_ | refine ret1n_b rfl ?_ | refine ret1n_p rfl ?_ | refine ret1n_s rfl ?_ | refine ret1n_o rfl ?_)
  · exact ⟨by rw [decide_eq_false (fun e => hcmp (by rw [e]))], S.chg.below⟩
  · refine run_while [4, 11, 12, 13, 14, 15, 16, 17, 18, 19, 20, 21, 22, 23, 24, 25] (fun (k : Nat) t => upd t 5 (.int .i64 k)) (fun k w' => k ≤ xs.length ∧ (∀ i, i < k → xs.getD i 0 = ys.getD i 0) ∧ Sat (fun _ => False) w0 w' [slL a cap 1 encI 0 xs, slL a' cap' 1 encI 0 ys]) (fun k => xs.length - k) 0 ?_ ?_ ?_
    · (repeat (first | exact agree_refl | refine agree_r rfl ?_ | refine agree_l rfl ?_ | refine agree_hv rfl ?_))
    · exact ⟨Nat.zero_le _, fun i h => by omega, S⟩
    · rintro k j w ⟨hk, hall, S⟩
      repeat' (first | refine assign_b_l S rfl rfl ?_ | refine move_s_l S rfl rfl ?_ | refine len_l S rfl rfl ?_ | refine nilL ?_ | refine run_seq ?_ | refine run_skip ?_ | refine run_region ?_ | refine assign_i_l S rfl rfl ?_ | refine move_i_l S rfl rfl ?_ | (refine neq_l S rfl rfl rfl ?_ ?_ <;> intro hcmp <;> try (exfalso; first | omega | exact hcmp (by decide) | exact absurd hcmp (by decide))) | (refine lss_l S rfl rfl rfl ?_ ?_ <;> intro hcmp <;> try (exfalso; first | omega | exact hcmp (by decide) | exact absurd hcmp (by decide))) | refine add_l S rfl rfl (wrap_in (by omega)) rfl ?_ | refine add_l S rfl rfl rfl rfl ?_ | refine run_block ?_ | refine run_ret ?_ | refine run_exit ?_ | refine run_cond_true rfl ?_ | refine run_cond_false rfl ?_ | refine thenQ_n ?_ | refine thenQ_r ?_ | refine thenQ_e ?_ | refine blockQ_n ?_ | refine blockQ_r ?_ | refine blockQ_s rfl ?_ | refine blockQ_o rfl ?_ | (refine run_draws S mixed ?_ ?_; · kernel_rfl) | (refine nilQ ?_; clear S; intro w S) | refine move_s_q rfl rfl ?_ | refine move_i_q rfl rfl ?_ | refine indexAddr_q rfl rfl (idx_cast _) (by first | omega | decide | (simp; done) | (simp; omega)) rfl ?_ | refine indexAddr_q rfl rfl (idx_eq _) (by first | omega | decide | (simp; done) | (simp; omega)) rfl ?_ | refine load_i_q rfl rfl rfl rfl ?_ | refine loadE_i_q rfl (by first | omega | decide | (simp; done) | (simp; omega)) rfl rfl rfl ?_ | (refine neq_q rfl rfl rfl ?_ ?_ <;> intro hcmp <;> try (exfalso; first | omega | exact hcmp (by decide) | exact absurd hcmp (by decide))) | refine load_o_q rfl rfl rfl rfl ?_ | refine loadE_o_q rfl (by first | omega | decide | (simp; done) | (simp; omega)) rfl rfl rfl ?_ | refine ret1_i rfl ?_ | refine ret1_b rfl ?_ | refine ret1_p rfl ?_ | refine ret1_s rfl ?_ | refine ret1_e rfl ?_ | refine ret1_a rfl ?_ | refine ret1_o rfl ?_ | refine ret1n_i rfl ?_ | refine ret1n_b rfl ?_ | refine ret1n_p rfl ?_ | refine ret1n_s rfl ?_ | refine ret1n_o rfl ?_)
      · exact ⟨by rw [decide_eq_false (fun e => hcmp (by rw [e]))], S.chg.below⟩
      · refine ⟨k + 1, ?_, ⟨by omega, fun i hi => ?_, S⟩, by omega⟩
        · (repeat (first | exact agree_refl | refine agree_r rfl ?_ | refine agree_l rfl ?_ | refine agree_hv rfl ?_))
        · rcases Nat.lt_or_ge i k with h | h
          · exact hall i h
          · obtain rfl : i = k := by omega
            exact hcmp
      · exact ⟨by rw [decide_eq_true (list_eq_of_getD (by omega) (fun i hi => hall i (by omega)))], S.chg.below⟩
end Go.Proofs.Ytpiodhdbdlfnhaa
