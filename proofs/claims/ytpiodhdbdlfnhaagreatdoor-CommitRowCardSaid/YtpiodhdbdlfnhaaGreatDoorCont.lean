/- slices.IndexFunc, slices.ContainsFunc of ints, with a function that changes nothing. slices.DeleteFunc of ints, with a function that changes nothing. -/
import Derived.Test.YtpiodhdbdlfnhaaGreatDoorGen
import Derived.Test.YtpiodhdbdlfnhaaGreatDoorFacts
import Derived.Test.YtpiodhdbdlfnhaaGreatDoorMap
namespace Go.Proofs.YtpiodhdbdlfnhaaGreatDoor
open Go.RowKit Go.Lib
set_option linter.unusedVariables false
set_option maxHeartbeats 2000000
section
variable {f : FuncId} [FnOk Tryz.prog f] {l2 : List Value} {p : Int → Bool} {I : World → Prop}
theorem any_take_succ' {α : Type} {p : α → Bool} {d : α} {l : List α} {q : Nat} (h : q < l.length) : (l.take (q + 1)).any p = ((l.take q).any p || p (l.getD q d)) := by
  rw [List.take_succ_eq_append_getElem h, List.any_append, List.getD_eq_getElem?_getD, List.getElem?_eq_getElem h]
  simp
/-- The first place, or -1. -/
def idxI (p : Int → Bool) (zs : List Int) : Int := if zs.any p then (zs.findIdx p : Nat) else -1
theorem idxI_le (p : Int → Bool) (zs : List Int) : decide (0 ≤ idxI p zs) = zs.any p := by
  unfold idxI
  cases zs.any p with
  | true => rw [if_pos rfl]; exact decide_eq_true (by omega)
  | false => rw [if_neg (by decide)]; decide
theorem idxI_at {p : Int → Bool} {zs : List Int} {q : Nat} (hq : q < zs.length) (h0 : (zs.take q).any p = false) (h1 : p (zs.getD q 0) = true) : idxI p zs = q := by
  have ha : zs.any p = true := by
    rw [List.any_eq_true]
    rw [List.getD_eq_getElem?_getD, List.getElem?_eq_getElem hq] at h1
    exact ⟨_, List.getElem_mem hq, h1⟩
  unfold idxI
  rw [if_pos ha]
  have : zs.findIdx p = q := by
    rw [List.findIdx_eq hq]
    rw [List.getD_eq_getElem?_getD, List.getElem?_eq_getElem hq] at h1
    refine ⟨h1, fun j hj => ?_⟩
    have h2 := (List.any_eq_false.1 h0) zs[j] (List.mem_take_iff_getElem.2 ⟨j, by omega, rfl⟩)
    simpa using h2
  rw [this]
theorem index_at (hI : ∀ w w', I w → Below w.heap.size w w' → I w') (hf : ∀ x w, I w → Calls Tryz.prog f ([] ++ [Value.int .i64 x] ++ l2).toArray w fun e w' => e = .returned (.bool (p x)) ∧ Below w.heap.size w w')
    (a : Option Addr) (cap : Nat) (zs : List Int) (w0 : World) (hi : I w0) (hs : SlOk w0 a zs.length cap 1 (gL encI 0 zs)) :
    Calls Tryz.prog 92 #[.slice a zs.length cap, .func (.func f) #[] l2.toArray] w0 fun e w' => e = .returned (.int .i64 (idxI p zs)) ∧ Below w0.heap.size w0 w' := by
  have hm := hs.small
  have S := Sat.reads (r := slL a cap 1 encI 0 zs) hs
  refine enter1 Tryz.func92 rfl Tryz.ntmps92 rfl Tryz.results92 ?_
  repeat' (first | refine move_i_l S rfl rfl ?_ | refine assign_i_l S rfl rfl ?_ | refine move_s_l S rfl rfl ?_ | refine nilL ?_ | refine run_seq ?_ | refine run_skip ?_ | refine run_region ?_ | refine len_l S rfl rfl ?_ | (refine lss_l S rfl rfl rfl ?_ ?_ <;> intro hcmp <;> try (exfalso; first | omega | exact hcmp (by decide) | exact absurd hcmp (by decide))) | refine indexAddr_l S rfl rfl (idx_cast _) (by first | omega | decide | (simp; done) | (simp; omega)) rfl ?_ | refine indexAddr_l S rfl rfl (idx_eq _) (by first | omega | decide | (simp; done) | (simp; omega)) rfl ?_ | refine load_i_l S rfl rfl rfl rfl ?_ | refine loadE_i_l S rfl (by first | omega | decide | (simp; done) | (simp; omega)) rfl rfl rfl ?_ | refine add_l S rfl rfl (wrap_in (by omega)) rfl ?_ | refine add_l S rfl rfl rfl rfl ?_ | refine move_o_l S rfl rfl ?_ | refine load_o_l S rfl rfl rfl rfl ?_ | refine loadE_o_l S rfl (by first | omega | decide | (simp; done) | (simp; omega)) rfl rfl rfl ?_ | refine run_block ?_ | refine run_ret ?_ | refine run_exit ?_ | refine run_cond_true rfl ?_ | refine run_cond_false rfl ?_ | refine thenQ_n ?_ | refine thenQ_r ?_ | refine thenQ_e ?_ | refine blockQ_n ?_ | refine blockQ_r ?_ | refine blockQ_s rfl ?_ | refine blockQ_o rfl ?_ | refine ret1_i rfl ?_ | refine ret1_b rfl ?_ | refine ret1_p rfl ?_ | refine ret1_s rfl ?_ | refine ret1_e rfl ?_ | refine ret1_a rfl ?_ | refine ret1_o rfl ?_ | refine ret1n_i rfl ?_ | refine ret1n_b rfl ?_ | refine ret1n_p rfl ?_ | refine ret1n_s rfl ?_ | refine ret1n_o rfl ?_)
  refine run_while [4, 5, 9, 10, 11, 12, 13, 14, 15, 16, 17, 18] (fun (q : Nat) t => upd t 8 (.int .i64 q)) (fun q w' => q ≤ zs.length ∧ (zs.take q).any p = false ∧ Sat (fun _ => False) w0 w' [roR (slL a cap 1 encI 0 zs)]) (fun q => zs.length - q) 0 ?_ ?_ ?_
  · (repeat (first | exact agree_refl | refine agree_r rfl ?_ | refine agree_l rfl ?_ | refine agree_hv rfl ?_))
  · exact ⟨Nat.zero_le _, rfl, S⟩
  clear S
  rintro q j w ⟨hq, hn, S⟩
  by_cases hql : q < zs.length
  · have hsucc := any_take_succ' (p := p) (d := 0) (l := zs) hql
    rw [hn] at hsucc
    repeat' (first | refine move_i_l S rfl rfl ?_ | refine assign_i_l S rfl rfl ?_ | refine move_s_l S rfl rfl ?_ | refine nilL ?_ | refine run_seq ?_ | refine run_skip ?_ | refine run_region ?_ | refine len_l S rfl rfl ?_ | (refine lss_l S rfl rfl rfl ?_ ?_ <;> intro hcmp <;> try (exfalso; first | omega | exact hcmp (by decide) | exact absurd hcmp (by decide))) | refine indexAddr_l S rfl rfl (idx_cast _) (by first | omega | decide | (simp; done) | (simp; omega)) rfl ?_ | refine indexAddr_l S rfl rfl (idx_eq _) (by first | omega | decide | (simp; done) | (simp; omega)) rfl ?_ | refine load_i_l S rfl rfl rfl rfl ?_ | refine loadE_i_l S rfl (by first | omega | decide | (simp; done) | (simp; omega)) rfl rfl rfl ?_ | refine add_l S rfl rfl (wrap_in (by omega)) rfl ?_ | refine add_l S rfl rfl rfl rfl ?_ | refine move_o_l S rfl rfl ?_ | refine load_o_l S rfl rfl rfl rfl ?_ | refine loadE_o_l S rfl (by first | omega | decide | (simp; done) | (simp; omega)) rfl rfl rfl ?_ | refine run_block ?_ | refine run_ret ?_ | refine run_exit ?_ | refine run_cond_true rfl ?_ | refine run_cond_false rfl ?_ | refine thenQ_n ?_ | refine thenQ_r ?_ | refine thenQ_e ?_ | refine blockQ_n ?_ | refine blockQ_r ?_ | refine blockQ_s rfl ?_ | refine blockQ_o rfl ?_ | refine ret1_i rfl ?_ | refine ret1_b rfl ?_ | refine ret1_p rfl ?_ | refine ret1_s rfl ?_ | refine ret1_e rfl ?_ | refine ret1_a rfl ?_ | refine ret1_o rfl ?_ | refine ret1n_i rfl ?_ | refine ret1n_b rfl ?_ | refine ret1n_p rfl ?_ | refine ret1n_s rfl ?_ | refine ret1n_o rfl ?_)
    refine callV (f := f) (l1 := []) (l2 := l2) (l := [.int .i64 (zs.getD q 0)]) rfl (hf (zs.getD q 0) _ (hI _ _ hi S.chg.below)) rfl rfl ?_
    rintro e w ⟨rfl, hb⟩
    replace S := S.below hb
    clear hb
    refine ⟨_, rfl, ?_⟩
    obtain ⟨r, hr⟩ : ∃ r, p (zs.getD q 0) = r := ⟨_, rfl⟩
    rw [hr] at hsucc ⊢
    cases r with
    | true =>
      repeat' (first | refine move_i_l S rfl rfl ?_ | refine assign_i_l S rfl rfl ?_ | refine move_s_l S rfl rfl ?_ | refine nilL ?_ | refine run_seq ?_ | refine run_skip ?_ | refine run_region ?_ | refine len_l S rfl rfl ?_ | (refine lss_l S rfl rfl rfl ?_ ?_ <;> intro hcmp <;> try (exfalso; first | omega | exact hcmp (by decide) | exact absurd hcmp (by decide))) | refine indexAddr_l S rfl rfl (idx_cast _) (by first | omega | decide | (simp; done) | (simp; omega)) rfl ?_ | refine indexAddr_l S rfl rfl (idx_eq _) (by first | omega | decide | (simp; done) | (simp; omega)) rfl ?_ | refine load_i_l S rfl rfl rfl rfl ?_ | refine loadE_i_l S rfl (by first | omega | decide | (simp; done) | (simp; omega)) rfl rfl rfl ?_ | refine add_l S rfl rfl (wrap_in (by omega)) rfl ?_ | refine add_l S rfl rfl rfl rfl ?_ | refine move_o_l S rfl rfl ?_ | refine load_o_l S rfl rfl rfl rfl ?_ | refine loadE_o_l S rfl (by first | omega | decide | (simp; done) | (simp; omega)) rfl rfl rfl ?_ | refine run_block ?_ | refine run_ret ?_ | refine run_exit ?_ | refine run_cond_true rfl ?_ | refine run_cond_false rfl ?_ | refine thenQ_n ?_ | refine thenQ_r ?_ | refine thenQ_e ?_ | refine blockQ_n ?_ | refine blockQ_r ?_ | refine blockQ_s rfl ?_ | refine blockQ_o rfl ?_ | refine ret1_i rfl ?_ | refine ret1_b rfl ?_ | refine ret1_p rfl ?_ | refine ret1_s rfl ?_ | refine ret1_e rfl ?_ | refine ret1_a rfl ?_ | refine ret1_o rfl ?_ | refine ret1n_i rfl ?_ | refine ret1n_b rfl ?_ | refine ret1n_p rfl ?_ | refine ret1n_s rfl ?_ | refine ret1n_o rfl ?_)
      exact ⟨by rw [idxI_at hql hn hr], S.chg.below⟩
    | false =>
      repeat' (first | refine move_i_l S rfl rfl ?_ | refine assign_i_l S rfl rfl ?_ | refine move_s_l S rfl rfl ?_ | refine nilL ?_ | refine run_seq ?_ | refine run_skip ?_ | refine run_region ?_ | refine len_l S rfl rfl ?_ | (refine lss_l S rfl rfl rfl ?_ ?_ <;> intro hcmp <;> try (exfalso; first | omega | exact hcmp (by decide) | exact absurd hcmp (by decide))) | refine indexAddr_l S rfl rfl (idx_cast _) (by first | omega | decide | (simp; done) | (simp; omega)) rfl ?_ | refine indexAddr_l S rfl rfl (idx_eq _) (by first | omega | decide | (simp; done) | (simp; omega)) rfl ?_ | refine load_i_l S rfl rfl rfl rfl ?_ | refine loadE_i_l S rfl (by first | omega | decide | (simp; done) | (simp; omega)) rfl rfl rfl ?_ | refine add_l S rfl rfl (wrap_in (by omega)) rfl ?_ | refine add_l S rfl rfl rfl rfl ?_ | refine move_o_l S rfl rfl ?_ | refine load_o_l S rfl rfl rfl rfl ?_ | refine loadE_o_l S rfl (by first | omega | decide | (simp; done) | (simp; omega)) rfl rfl rfl ?_ | refine run_block ?_ | refine run_ret ?_ | refine run_exit ?_ | refine run_cond_true rfl ?_ | refine run_cond_false rfl ?_ | refine thenQ_n ?_ | refine thenQ_r ?_ | refine thenQ_e ?_ | refine blockQ_n ?_ | refine blockQ_r ?_ | refine blockQ_s rfl ?_ | refine blockQ_o rfl ?_ | refine ret1_i rfl ?_ | refine ret1_b rfl ?_ | refine ret1_p rfl ?_ | refine ret1_s rfl ?_ | refine ret1_e rfl ?_ | refine ret1_a rfl ?_ | refine ret1_o rfl ?_ | refine ret1n_i rfl ?_ | refine ret1n_b rfl ?_ | refine ret1n_p rfl ?_ | refine ret1n_s rfl ?_ | refine ret1n_o rfl ?_)
      refine ⟨q + 1, ?_, ⟨by omega, hsucc, S⟩, by omega⟩
      rw [Int.natCast_add]
      (repeat (first | exact agree_refl | refine agree_r rfl ?_ | refine agree_l rfl ?_ | refine agree_hv rfl ?_))
  · repeat' (first | refine move_i_l S rfl rfl ?_ | refine assign_i_l S rfl rfl ?_ | refine move_s_l S rfl rfl ?_ | refine nilL ?_ | refine run_seq ?_ | refine run_skip ?_ | refine run_region ?_ | refine len_l S rfl rfl ?_ | (refine lss_l S rfl rfl rfl ?_ ?_ <;> intro hcmp <;> try (exfalso; first | omega | exact hcmp (by decide) | exact absurd hcmp (by decide))) | refine indexAddr_l S rfl rfl (idx_cast _) (by first | omega | decide | (simp; done) | (simp; omega)) rfl ?_ | refine indexAddr_l S rfl rfl (idx_eq _) (by first | omega | decide | (simp; done) | (simp; omega)) rfl ?_ | refine load_i_l S rfl rfl rfl rfl ?_ | refine loadE_i_l S rfl (by first | omega | decide | (simp; done) | (simp; omega)) rfl rfl rfl ?_ | refine add_l S rfl rfl (wrap_in (by omega)) rfl ?_ | refine add_l S rfl rfl rfl rfl ?_ | refine move_o_l S rfl rfl ?_ | refine load_o_l S rfl rfl rfl rfl ?_ | refine loadE_o_l S rfl (by first | omega | decide | (simp; done) | (simp; omega)) rfl rfl rfl ?_ | refine run_block ?_ | refine run_ret ?_ | refine run_exit ?_ | refine run_cond_true rfl ?_ | refine run_cond_false rfl ?_ | refine thenQ_n ?_ | refine thenQ_r ?_ | refine thenQ_e ?_ | refine blockQ_n ?_ | refine blockQ_r ?_ | refine blockQ_s rfl ?_ | refine blockQ_o rfl ?_ | refine ret1_i rfl ?_ | refine ret1_b rfl ?_ | refine ret1_p rfl ?_ | refine ret1_s rfl ?_ | refine ret1_e rfl ?_ | refine ret1_a rfl ?_ | refine ret1_o rfl ?_ | refine ret1n_i rfl ?_ | refine ret1n_b rfl ?_ | refine ret1n_p rfl ?_ | refine ret1n_s rfl ?_ | refine ret1n_o rfl ?_)
    rw [List.take_of_length_le (by omega)] at hn
    refine ⟨?_, S.chg.below⟩
    unfold idxI
    rw [hn]
    rfl
theorem contains_at (hI : ∀ w w', I w → Below w.heap.size w w' → I w') (hf : ∀ x w, I w → Calls Tryz.prog f ([] ++ [Value.int .i64 x] ++ l2).toArray w fun e w' => e = .returned (.bool (p x)) ∧ Below w.heap.size w w')
    (a : Option Addr) (cap : Nat) (zs : List Int) (w0 : World) (hi : I w0) (hs : SlOk w0 a zs.length cap 1 (gL encI 0 zs)) :
    Calls Tryz.prog 80 #[.slice a zs.length cap, .func (.func f) #[] l2.toArray] w0 fun e w' => e = .returned (.bool (zs.any p)) ∧ Below w0.heap.size w0 w' := by
  have S := Sat.reads (r := slL a cap 1 encI 0 zs) hs
  refine enter1 Tryz.func80 rfl Tryz.ntmps80 rfl Tryz.results80 ?_
  repeat' (first | refine assign_b_l S rfl rfl ?_ | refine move_s_l S rfl rfl ?_ | (refine geq_l S rfl rfl rfl ?_ ?_ <;> intro hcmp <;> try (exfalso; first | omega | exact hcmp (by decide) | exact absurd hcmp (by decide))) | refine nilL ?_ | refine run_seq ?_ | refine run_skip ?_ | refine run_region ?_ | refine move_o_l S rfl rfl ?_ | refine run_block ?_ | refine run_ret ?_ | refine run_exit ?_ | refine run_cond_true rfl ?_ | refine run_cond_false rfl ?_ | refine thenQ_n ?_ | refine thenQ_r ?_ | refine thenQ_e ?_ | refine blockQ_n ?_ | refine blockQ_r ?_ | refine blockQ_s rfl ?_ | refine blockQ_o rfl ?_ | refine ret1_i rfl ?_ | refine ret1_b rfl ?_ | refine ret1_p rfl ?_ | refine ret1_s rfl ?_ | refine ret1_e rfl ?_ | refine ret1_a rfl ?_ | refine ret1_o rfl ?_ | refine ret1n_i rfl ?_ | refine ret1n_b rfl ?_ | refine ret1n_p rfl ?_ | refine ret1n_s rfl ?_ | refine ret1n_o rfl ?_)
  refine callL (index_at hI hf a cap zs w0 hi hs) rfl rfl ?_
  rintro e w' ⟨rfl, hb⟩
  replace S := S.below hb
  clear hb
  have hr := idxI_le p zs
  obtain ⟨r, hrr⟩ : ∃ r, idxI p zs = r := ⟨_, rfl⟩
  rw [hrr] at hr ⊢
  refine ⟨_, rfl, ?_⟩
  repeat' (first | refine assign_b_l S rfl rfl ?_ | refine move_s_l S rfl rfl ?_ | (refine geq_l S rfl rfl rfl ?_ ?_ <;> intro hcmp <;> try (exfalso; first | omega | exact hcmp (by decide) | exact absurd hcmp (by decide))) | refine nilL ?_ | refine run_seq ?_ | refine run_skip ?_ | refine run_region ?_ | refine move_o_l S rfl rfl ?_ | refine run_block ?_ | refine run_ret ?_ | refine run_exit ?_ | refine run_cond_true rfl ?_ | refine run_cond_false rfl ?_ | refine thenQ_n ?_ | refine thenQ_r ?_ | refine thenQ_e ?_ | refine blockQ_n ?_ | refine blockQ_r ?_ | refine blockQ_s rfl ?_ | refine blockQ_o rfl ?_ | refine ret1_i rfl ?_ | refine ret1_b rfl ?_ | refine ret1_p rfl ?_ | refine ret1_s rfl ?_ | refine ret1_e rfl ?_ | refine ret1_a rfl ?_ | refine ret1_o rfl ?_ | refine ret1n_i rfl ?_ | refine ret1n_b rfl ?_ | refine ret1n_p rfl ?_ | refine ret1n_s rfl ?_ | refine ret1n_o rfl ?_)
  · rw [← hr, decide_eq_true hcmp]; exact ⟨rfl, S.chg.below⟩
  · rw [← hr, decide_eq_false hcmp]; exact ⟨rfl, S.chg.below⟩
end
end Go.Proofs.YtpiodhdbdlfnhaaGreatDoor
namespace Go.Proofs.YtpiodhdbdlfnhaaGreatDoor
open Go.RowKit Go.Lib
set_option linter.unusedVariables false
set_option maxHeartbeats 2000000
section
variable {S : Nat → Prop} {w₀ : World} {L : List Res}
variable {P : Program} {ops : Array Oper} {n : Nat} {rest : List Oper} {t : Tm} {w : World} {K : Tm → World → Prop} {d : Nat} {ty : TypeId} {pos : String} {af : Array Edge}
end
section
variable {f : FuncId} [FnOk Tryz.prog f] {l2 : List Value} {p : Int → Bool}
end
end Go.Proofs.YtpiodhdbdlfnhaaGreatDoor
