/- commit: the law package's made, Turn.do, run, long. -/
import Derived.Test.YtpiodhdbdlfnhaaGreatDoorCmF
namespace Go.Proofs.YtpiodhdbdlfnhaaGreatDoor
open Go.RowKit Go.Lib
set_option linter.unusedVariables false
set_option maxHeartbeats 4000000
def okM (thread rv : Int) (ws : List (Int × Int)) : Prop := (0 ≤ rv ∧ rv ≤ 1099511627776) ∧ okN thread ws
theorem madeH_succ {zs : List Int} {q : Nat} (h : q < zs.length) : madeH (zs.take (q + 1)) = addH 32 (madeH (zs.take q)) (zs.getD q 0) := by
  rw [List.take_succ_eq_append_getElem h, List.getD_eq_getElem?_getD, List.getElem?_eq_getElem h]
  unfold madeH
  rw [List.foldl_append]
  rfl
theorem made_c (thread rv : Int) (aR aw : Option Addr) (cR cw : Nat) (zs : List Int) (ws : List (Int × Int)) (hn : zs.length ≤ 1000 ∧ ws.length ≤ 1000) (w0 : World) (hR : SlOk w0 aR zs.length cR 1 (gL encI 0 zs)) (hw : SlOk w0 aw ws.length cw 2 (gL encP (0, 0) ws)) :
    Calls Tryz.prog 18 #[.int .i64 thread, .int .i64 rv, .slice aR zs.length cR, .slice aw ws.length cw] w0 fun e w' =>
    ∃ p, e = .returned p ∧ ((okM thread rv ws ∧ NewCm w0 w' (newC thread rv 32 (madeH zs) ws) p) ∨ (¬ okM thread rv ws ∧ p = .pointer none)) ∧ Below w0.heap.size w0 w' := by
  have S := Sat.reads2 (r := slL aR cR 1 encI 0 zs) (r' := slL aw cw 2 encP (0, 0) ws) hR hw
  refine enter1 Tryz.func18 rfl Tryz.ntmps18 rfl Tryz.results18 ?_
  repeat' (first | refine move_i_l S rfl rfl ?_ | refine assign_p_l S rfl rfl ?_ | refine nilL ?_ | refine run_seq ?_ | refine run_region ?_ | refine thenQ_n ?_)
  by_cases hrv : 0 ≤ rv ∧ rv ≤ 1099511627776
  · refine callL (snew_ok rv 32 ⟨hrv.1, hrv.2, by decide, by decide⟩ _) rfl rfl ?_
    rintro e w' ⟨_, rfl, ⟨bs, rfl, g1, g2⟩, hb⟩
    replace S := S.freshSet hb g1 g2
    clear hb g1 g2
    refine ⟨_, rfl, ?_⟩
    repeat' (first | refine move_i_l S rfl rfl ?_ | refine assign_p_l S rfl rfl ?_ | refine nilL ?_ | refine run_seq ?_ | refine run_skip ?_ | refine run_region ?_ | refine assign_i_l S rfl rfl ?_ | refine extract_p_l S rfl rfl rfl ?_ | refine extract_i_l S rfl rfl rfl ?_ | (refine neq_l S rfl rfl rfl ?_ ?_ <;> intro hcmp <;> try (exfalso; first | omega | exact hcmp (by decide) | exact absurd hcmp (by decide))) | refine move_o_l S rfl rfl ?_ | refine run_block ?_ | refine run_cond_false rfl ?_ | refine thenQ_n ?_)
    refine run_while [20, 21, 22, 23, 24, 25, 26, 27, 28, 29, 30, 31] (fun (q : Nat) t => upd t 11 (.int .i64 q)) (fun q w' => q ≤ zs.length ∧ Sat (fun _ => False) w0 w' [setR bs rv 32 (madeH (zs.take q)), roR (slL aR cR 1 encI 0 zs), roR (slL aw cw 2 encP (0, 0) ws)]) (fun q => zs.length - q) 0 ?_ ?_ ?_
    · (repeat (first | exact agree_refl | refine agree_r rfl ?_))
    · exact ⟨Nat.zero_le _, S⟩
    clear S
    rintro q j w ⟨hq, S⟩
    by_cases hql : q < zs.length
    · have hsucc := madeH_succ hql
      repeat' (first | refine move_i_l S rfl rfl ?_ | refine nilL ?_ | refine run_seq ?_ | refine run_skip ?_ | refine run_region ?_ | refine move_s_l S rfl rfl ?_ | refine move_p_l S rfl rfl ?_ | refine len_l S rfl rfl ?_ | (refine lss_l S rfl rfl rfl ?_ ?_ <;> intro hcmp <;> try (exfalso; first | omega | exact hcmp (by decide) | exact absurd hcmp (by decide))) | refine indexAddr_l S rfl rfl (idx_cast _) (by first | omega | decide | (simp; done) | (simp; omega)) rfl ?_ | refine loadE_i_l S rfl (by first | omega | decide | (simp; done) | (simp; omega)) rfl rfl rfl ?_ | refine run_block ?_ | refine run_cond_true rfl ?_ | refine thenQ_n ?_)
      refine callL (add_e S.got1 (zs.getD q 0)) rfl rfl ?_
      rintro e w' ⟨rfl, g1, g2⟩
      replace S := S.addSet g1 g2
      clear g1 g2
      refine ⟨_, rfl, ?_⟩
      repeat' (first | refine move_i_l S rfl rfl ?_ | refine nilL ?_ | refine run_region ?_ | refine assign_i_l S rfl rfl ?_ | refine add_l S rfl rfl (wrap_in (by omega)) rfl ?_ | refine thenQ_n ?_ | refine blockQ_n ?_)
      refine ⟨q + 1, ?_, ⟨by omega, by rw [hsucc]; exact S⟩, by omega⟩
      rw [Int.natCast_add]
      (repeat (first | exact agree_refl | refine agree_r rfl ?_ | refine agree_l rfl ?_ | refine agree_hv rfl ?_))
    · rw [List.take_of_length_le (by omega)] at S
      repeat' (first | refine move_i_l S rfl rfl ?_ | refine nilL ?_ | refine run_seq ?_ | refine run_region ?_ | refine move_s_l S rfl rfl ?_ | refine move_p_l S rfl rfl ?_ | refine len_l S rfl rfl ?_ | (refine lss_l S rfl rfl rfl ?_ ?_ <;> intro hcmp <;> try (exfalso; first | omega | exact hcmp (by decide) | exact absurd hcmp (by decide))) | refine run_exit ?_ | refine run_cond_false rfl ?_ | refine thenQ_n ?_ | refine thenQ_e ?_ | refine blockQ_s rfl ?_)
      refine callL (cnew_at S.got1 (S.all (roR (slL aw cw 2 encP (0, 0) ws)) (by simp)) thread hn.2) rfl rfl ?_
      rintro e w2 ⟨p, n, rfl, hp, hb⟩
      rcases hp with ⟨hok, rfl, b, A, rfl, h1, h2⟩ | ⟨hok, rfl, rfl⟩
      · have hsz := S.chg.size
        replace S := S.fresh (r := cmR b A (newC thread rv 32 (madeH zs) ws)) hb h1 h2
        refine ⟨_, rfl, ?_⟩
        repeat' (first | refine move_i_l S rfl rfl ?_ | refine assign_p_l S rfl rfl ?_ | refine nilL ?_ | refine run_seq ?_ | refine run_skip ?_ | refine run_region ?_ | refine assign_i_l S rfl rfl ?_ | refine move_p_l S rfl rfl ?_ | refine extract_p_l S rfl rfl rfl ?_ | refine extract_i_l S rfl rfl rfl ?_ | (refine neq_l S rfl rfl rfl ?_ ?_ <;> intro hcmp <;> try (exfalso; first | omega | exact hcmp (by decide) | exact absurd hcmp (by decide))) | refine move_o_l S rfl rfl ?_ | refine run_ret ?_ | refine run_cond_false rfl ?_ | refine thenQ_n ?_ | refine ret1_p rfl ?_)
        exact ⟨_, rfl, .inl ⟨⟨hrv, hok⟩, b, A, rfl, S.got1, fun k hk => Nat.le_trans hsz (h2 k hk)⟩, S.chg.below⟩
      · replace S := S.below hb
        refine ⟨_, rfl, ?_⟩
        repeat' (first | refine move_i_l S rfl rfl ?_ | refine assign_p_l S rfl rfl ?_ | refine nilL ?_ | refine run_seq ?_ | refine run_region ?_ | refine assign_i_l S rfl rfl ?_ | refine extract_p_l S rfl rfl rfl ?_ | refine extract_i_l S rfl rfl rfl ?_ | (refine neq_l S rfl rfl rfl ?_ ?_ <;> intro hcmp <;> try (exfalso; first | omega | exact hcmp (by decide) | exact absurd hcmp (by decide))) | refine move_o_l S rfl rfl ?_ | refine run_ret ?_ | refine run_cond_true rfl ?_ | refine thenQ_n ?_ | refine thenQ_r ?_ | refine ret1_p rfl ?_)
        exact ⟨_, rfl, .inr ⟨fun e => hok e.2, rfl⟩, S.chg.below⟩
  · refine callL (snew_no rv 32 (fun e => hrv ⟨e.1, e.2.1⟩) _) rfl rfl ?_
    rintro e w' ⟨rfl, hb⟩
    replace S := S.below hb
    refine ⟨_, rfl, ?_⟩
    repeat' (first | refine move_i_l S rfl rfl ?_ | refine assign_p_l S rfl rfl ?_ | refine nilL ?_ | refine run_seq ?_ | refine run_region ?_ | refine assign_i_l S rfl rfl ?_ | refine extract_p_l S rfl rfl rfl ?_ | refine extract_i_l S rfl rfl rfl ?_ | (refine neq_l S rfl rfl rfl ?_ ?_ <;> intro hcmp <;> try (exfalso; first | omega | exact hcmp (by decide) | exact absurd hcmp (by decide))) | refine move_o_l S rfl rfl ?_ | refine run_ret ?_ | refine run_cond_true rfl ?_ | refine thenQ_n ?_ | refine thenQ_r ?_ | refine ret1_p rfl ?_)
    exact ⟨_, rfl, .inr ⟨fun e => hrv e.1, rfl⟩, S.chg.below⟩
section
variable {bh : Nat} {ga va : Option Addr} {gc vc : Nat} {H : HeapS} {w0 : World} (h : (heapR bh ga va gc vc H).holds w0)
include h
end
end Go.Proofs.YtpiodhdbdlfnhaaGreatDoor
