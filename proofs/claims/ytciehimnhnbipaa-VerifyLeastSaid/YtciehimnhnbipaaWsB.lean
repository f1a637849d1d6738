/- slices.IndexFunc, slices.ContainsFunc of pairs, with a function that changes nothing; IndexFunc of slices. -/
import Derived.Test.YtciehimnhnbipaaWsA
namespace Go.Proofs.Ytciehimnhnbipaa
open Go.RowKit Go.Lib
set_option linter.unusedVariables false
set_option maxHeartbeats 2000000
theorem any_take_succG {α : Type} {p : α → Bool} {d : α} {l : List α} {q : Nat} (h : q < l.length) : (l.take (q + 1)).any p = ((l.take q).any p || p (l.getD q d)) := by
  rw [List.take_succ_eq_append_getElem h, List.any_append, List.getD_eq_getElem?_getD, List.getElem?_eq_getElem h]
  simp
theorem getD_mem {α : Type} {d : α} {l : List α} {q : Nat} (h : q < l.length) : l.getD q d ∈ l := by
  rw [List.getD_eq_getElem?_getD, List.getElem?_eq_getElem h]
  exact List.getElem_mem h
/-- The first place, or -1. -/
def idxG {α : Type} (p : α → Bool) (zs : List α) : Int := if zs.any p then (zs.findIdx p : Nat) else -1
theorem idxG_le {α : Type} (p : α → Bool) (zs : List α) : decide (0 ≤ idxG p zs) = zs.any p := by
  unfold idxG
  cases zs.any p with
  | true => rw [if_pos rfl]; exact decide_eq_true (by omega)
  | false => rw [if_neg (by decide)]; decide
theorem idxG_at {α : Type} {d : α} {p : α → Bool} {zs : List α} {q : Nat} (hq : q < zs.length) (h0 : (zs.take q).any p = false) (h1 : p (zs.getD q d) = true) : idxG p zs = q := by
  have ha : zs.any p = true := by
    rw [List.any_eq_true]
    rw [List.getD_eq_getElem?_getD, List.getElem?_eq_getElem hq] at h1
    exact ⟨_, List.getElem_mem hq, h1⟩
  unfold idxG
  rw [if_pos ha]
  have : zs.findIdx p = q := by
    rw [List.findIdx_eq hq]
    rw [List.getD_eq_getElem?_getD, List.getElem?_eq_getElem hq] at h1
    refine ⟨h1, fun j hj => ?_⟩
    have h2 := (List.any_eq_false.1 h0) zs[j] (List.mem_take_iff_getElem.2 ⟨j, by omega, rfl⟩)
    simpa using h2
  rw [this]
section
variable {f : FuncId} [FnOk Try.prog f] {l2 : List Value} {p : Int × Int → Bool} {I : World → Prop} {zs : List (Int × Int)}
theorem indexP_at (hI : ∀ w w', I w → Below w.heap.size w w' → I w') (hf : ∀ x w, x ∈ zs → I w → Calls Try.prog f ([] ++ [prV x] ++ l2).toArray w fun e w' => e = .returned (.bool (p x)) ∧ Below w.heap.size w w')
    (a : Option Addr) (cap : Nat) (w0 : World) (hi : I w0) (hs : SlOk w0 a zs.length cap 2 (gL encPr (0, 0) zs)) :
    Calls Try.prog 54 #[.slice a zs.length cap, .func (.func f) #[] l2.toArray] w0 fun e w' => e = .returned (.int .i64 (idxG p zs)) ∧ Below w0.heap.size w0 w' := by
  have hm := hs.small
  have S := Sat.reads (r := slL a cap 2 encPr (0, 0) zs) hs
  refine enter1 Try.func54 rfl Try.ntmps54 rfl Try.results54 ?_
  repeat' (first | refine move_i_l S rfl rfl ?_ | refine assign_i_l S rfl rfl ?_ | refine move_s_l S rfl rfl ?_ | refine nilL ?_ | refine run_seq ?_ | refine run_region ?_ | refine len_l S rfl rfl ?_ | refine run_block ?_ | refine thenQ_n ?_)
  refine run_while [4, 5, 9, 10, 11, 12, 13, 14, 15, 16, 17, 18] (fun (q : Nat) t => upd t 8 (.int .i64 q)) (fun q w' => q ≤ zs.length ∧ (zs.take q).any p = false ∧ Sat (fun _ => False) w0 w' [roR (slL a cap 2 encPr (0, 0) zs)]) (fun q => zs.length - q) 0 ?_ ?_ ?_
  · (repeat (first | exact agree_refl | refine agree_r rfl ?_ | refine agree_l rfl ?_ | refine agree_hv rfl ?_))
  · exact ⟨Nat.zero_le _, rfl, S⟩
  clear S
  rintro q j w ⟨hq, hn, S⟩
  by_cases hql : q < zs.length
  · have hsucc := any_take_succG (p := p) (d := (0, 0)) (l := zs) hql
    rw [hn] at hsucc
    repeat' (first | refine move_i_l S rfl rfl ?_ | refine assign_i_l S rfl rfl ?_ | refine move_s_l S rfl rfl ?_ | refine nilL ?_ | refine run_seq ?_ | refine run_skip ?_ | refine run_region ?_ | (refine lss_l S rfl rfl rfl ?_ ?_ <;> intro hcmp <;> try (exfalso; first | omega | exact hcmp (by decide) | exact absurd hcmp (by decide))) | refine indexAddr_l S rfl rfl (idx_cast _) (by first | omega | decide | (simp; done) | (simp; omega)) rfl ?_ | refine loadEN_l S rfl (by first | omega | decide | (simp; done) | (simp; omega)) rfl rfl ?_ | refine move_o_l S rfl rfl ?_ | refine run_block ?_ | refine run_cond_true rfl ?_ | refine thenQ_n ?_)
    refine callV (f := f) (l1 := []) (l2 := l2) (l := [prV (zs.getD q (0, 0))]) rfl (hf (zs.getD q (0, 0)) _ (getD_mem hql) (hI _ _ hi S.chg.below)) rfl rfl ?_
    rintro e w ⟨rfl, hb⟩
    replace S := S.below hb
    clear hb
    refine ⟨_, rfl, ?_⟩
    obtain ⟨r, hr⟩ : ∃ r, p (zs.getD q (0, 0)) = r := ⟨_, rfl⟩
    rw [hr] at hsucc ⊢
    cases r with
    | true =>
      repeat' (first | refine move_i_l S rfl rfl ?_ | refine assign_i_l S rfl rfl ?_ | refine nilL ?_ | refine run_seq ?_ | refine run_region ?_ | refine run_ret ?_ | refine run_cond_true rfl ?_ | refine thenQ_n ?_ | refine thenQ_r ?_ | refine blockQ_r ?_ | refine ret1_i rfl ?_)
      exact ⟨by rw [idxG_at hql hn hr], S.chg.below⟩
    | false =>
      repeat' (first | refine move_i_l S rfl rfl ?_ | refine nilL ?_ | refine run_skip ?_ | refine run_region ?_ | refine add_l S rfl rfl (wrap_in (by omega)) rfl ?_ | refine run_cond_false rfl ?_ | refine thenQ_n ?_ | refine blockQ_n ?_)
      refine ⟨q + 1, ?_, ⟨by omega, hsucc, S⟩, by omega⟩
      rw [Int.natCast_add]
      (repeat (first | exact agree_refl | refine agree_r rfl ?_ | refine agree_l rfl ?_ | refine agree_hv rfl ?_))
  · repeat' (first | refine assign_i_l S rfl rfl ?_ | refine nilL ?_ | refine run_seq ?_ | refine run_region ?_ | (refine lss_l S rfl rfl rfl ?_ ?_ <;> intro hcmp <;> try (exfalso; first | omega | exact hcmp (by decide) | exact absurd hcmp (by decide))) | refine run_ret ?_ | refine run_exit ?_ | refine run_cond_false rfl ?_ | refine thenQ_n ?_ | refine thenQ_e ?_ | refine blockQ_s rfl ?_ | refine ret1_i rfl ?_)
    rw [List.take_of_length_le (by omega)] at hn
    refine ⟨?_, S.chg.below⟩
    unfold idxG
    rw [hn]
    rfl
theorem containsP_at (hI : ∀ w w', I w → Below w.heap.size w w' → I w') (hf : ∀ x w, x ∈ zs → I w → Calls Try.prog f ([] ++ [prV x] ++ l2).toArray w fun e w' => e = .returned (.bool (p x)) ∧ Below w.heap.size w w')
    (a : Option Addr) (cap : Nat) (w0 : World) (hi : I w0) (hs : SlOk w0 a zs.length cap 2 (gL encPr (0, 0) zs)) :
    Calls Try.prog 39 #[.slice a zs.length cap, .func (.func f) #[] l2.toArray] w0 fun e w' => e = .returned (.bool (zs.any p)) ∧ Below w0.heap.size w0 w' := by
  have S := Sat.reads (r := slL a cap 2 encPr (0, 0) zs) hs
  refine enter1 Try.func39 rfl Try.ntmps39 rfl Try.results39 ?_
  repeat' (first | refine assign_b_l S rfl rfl ?_ | refine move_s_l S rfl rfl ?_ | refine nilL ?_ | refine run_seq ?_ | refine run_region ?_ | refine move_o_l S rfl rfl ?_ | refine thenQ_n ?_)
  refine callL (indexP_at hI hf a cap w0 hi hs) rfl rfl ?_
  rintro e w' ⟨rfl, hb⟩
  replace S := S.below hb
  clear hb
  have hr := idxG_le p zs
  obtain ⟨r, hrr⟩ : ∃ r, idxG p zs = r := ⟨_, rfl⟩
  rw [hrr] at hr ⊢
  refine ⟨_, rfl, ?_⟩
  repeat' (first | refine assign_b_l S rfl rfl ?_ | (refine geq_l S rfl rfl rfl ?_ ?_ <;> intro hcmp <;> try (exfalso; first | omega | exact hcmp (by decide) | exact absurd hcmp (by decide))) | refine nilL ?_ | refine run_ret ?_ | refine thenQ_n ?_ | refine ret1_b rfl ?_)
  · rw [← hr, decide_eq_true hcmp]; exact ⟨rfl, S.chg.below⟩
  · rw [← hr, decide_eq_false hcmp]; exact ⟨rfl, S.chg.below⟩
end
/-- A slice of numbers, as a value. -/
structure SlX where
  a : Option Addr
  cap : Nat
  zs : List Int
abbrev sxD : SlX := ⟨none, 0, []⟩
abbrev slV (z : SlX) : Value := .slice z.a z.zs.length z.cap
def encSx (z : SlX) : Nat → Value := fun _ => slV z
section
variable {f : FuncId} [FnOk Try.prog f] {l2 : List Value} {p : SlX → Bool} {I : World → Prop} {zs : List SlX}
theorem indexS_at (hI : ∀ w w', I w → Below w.heap.size w w' → I w') (hf : ∀ x w, x ∈ zs → I w → Calls Try.prog f ([] ++ [slV x] ++ l2).toArray w fun e w' => e = .returned (.bool (p x)) ∧ Below w.heap.size w w')
    (a : Option Addr) (cap : Nat) (w0 : World) (hi : I w0) (hs : SlOk w0 a zs.length cap 1 (gL encSx sxD zs)) :
    Calls Try.prog 42 #[.slice a zs.length cap, .func (.func f) #[] l2.toArray] w0 fun e w' => e = .returned (.int .i64 (idxG p zs)) ∧ Below w0.heap.size w0 w' := by
  have hm := hs.small
  have S := Sat.reads (r := slL a cap 1 encSx sxD zs) hs
  refine enter1 Try.func42 rfl Try.ntmps42 rfl Try.results42 ?_
  repeat' (first | refine move_i_l S rfl rfl ?_ | refine assign_i_l S rfl rfl ?_ | refine move_s_l S rfl rfl ?_ | refine nilL ?_ | refine run_seq ?_ | refine run_region ?_ | refine len_l S rfl rfl ?_ | refine run_block ?_ | refine thenQ_n ?_)
  refine run_while [4, 5, 9, 10, 11, 12, 13, 14, 15, 16, 17, 18] (fun (q : Nat) t => upd t 8 (.int .i64 q)) (fun q w' => q ≤ zs.length ∧ (zs.take q).any p = false ∧ Sat (fun _ => False) w0 w' [roR (slL a cap 1 encSx sxD zs)]) (fun q => zs.length - q) 0 ?_ ?_ ?_
  · (repeat (first | exact agree_refl | refine agree_r rfl ?_ | refine agree_l rfl ?_ | refine agree_hv rfl ?_))
  · exact ⟨Nat.zero_le _, rfl, S⟩
  clear S
  rintro q j w ⟨hq, hn, S⟩
  by_cases hql : q < zs.length
  · have hsucc := any_take_succG (p := p) (d := sxD) (l := zs) hql
    rw [hn] at hsucc
    repeat' (first | refine move_i_l S rfl rfl ?_ | refine assign_i_l S rfl rfl ?_ | refine move_s_l S rfl rfl ?_ | refine nilL ?_ | refine run_seq ?_ | refine run_skip ?_ | refine run_region ?_ | (refine lss_l S rfl rfl rfl ?_ ?_ <;> intro hcmp <;> try (exfalso; first | omega | exact hcmp (by decide) | exact absurd hcmp (by decide))) | refine indexAddr_l S rfl rfl (idx_cast _) (by first | omega | decide | (simp; done) | (simp; omega)) rfl ?_ | refine move_o_l S rfl rfl ?_ | refine loadE_o_l S rfl (by first | omega | decide | (simp; done) | (simp; omega)) rfl rfl rfl ?_ | refine run_block ?_ | refine run_cond_true rfl ?_ | refine thenQ_n ?_)
    refine callV (f := f) (l1 := []) (l2 := l2) (l := [slV (zs.getD q sxD)]) rfl (hf (zs.getD q sxD) _ (getD_mem hql) (hI _ _ hi S.chg.below)) rfl rfl ?_
    rintro e w ⟨rfl, hb⟩
    replace S := S.below hb
    clear hb
    refine ⟨_, rfl, ?_⟩
    obtain ⟨r, hr⟩ : ∃ r, p (zs.getD q sxD) = r := ⟨_, rfl⟩
    rw [hr] at hsucc ⊢
    cases r with
    | true =>
      repeat' (first | refine move_i_l S rfl rfl ?_ | refine assign_i_l S rfl rfl ?_ | refine nilL ?_ | refine run_seq ?_ | refine run_region ?_ | refine run_ret ?_ | refine run_cond_true rfl ?_ | refine thenQ_n ?_ | refine thenQ_r ?_ | refine blockQ_r ?_ | refine ret1_i rfl ?_)
      exact ⟨by rw [idxG_at hql hn hr], S.chg.below⟩
    | false =>
      repeat' (first | refine move_i_l S rfl rfl ?_ | refine nilL ?_ | refine run_skip ?_ | refine run_region ?_ | refine add_l S rfl rfl (wrap_in (by omega)) rfl ?_ | refine run_cond_false rfl ?_ | refine thenQ_n ?_ | refine blockQ_n ?_)
      refine ⟨q + 1, ?_, ⟨by omega, hsucc, S⟩, by omega⟩
      rw [Int.natCast_add]
      (repeat (first | exact agree_refl | refine agree_r rfl ?_ | refine agree_l rfl ?_ | refine agree_hv rfl ?_))
  · repeat' (first | refine assign_i_l S rfl rfl ?_ | refine nilL ?_ | refine run_seq ?_ | refine run_region ?_ | (refine lss_l S rfl rfl rfl ?_ ?_ <;> intro hcmp <;> try (exfalso; first | omega | exact hcmp (by decide) | exact absurd hcmp (by decide))) | refine run_ret ?_ | refine run_exit ?_ | refine run_cond_false rfl ?_ | refine thenQ_n ?_ | refine thenQ_e ?_ | refine blockQ_s rfl ?_ | refine ret1_i rfl ?_)
    rw [List.take_of_length_le (by omega)] at hn
    refine ⟨?_, S.chg.below⟩
    unfold idxG
    rw [hn]
    rfl
end
end Go.Proofs.Ytciehimnhnbipaa
