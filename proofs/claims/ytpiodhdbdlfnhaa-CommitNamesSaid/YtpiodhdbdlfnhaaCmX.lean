/- commit: Owned, Pending; what else the statements call. -/
import Derived.Test.YtpiodhdbdlfnhaaCmP
namespace Go.Proofs.Ytpiodhdbdlfnhaa
open Go.RowKit Go.Lib
set_option linter.unusedVariables false
set_option maxHeartbeats 4000000
section
variable {bc : Nat} {A : CA} {C : CmS} {w0 : World} (h : (cmR bc A C).holds w0)
include h
theorem cowned_at (hn : C.owned.length ≤ 1000000) : Calls Try.prog 19 #[.pointer (some ⟨bc, 0, none⟩)] w0 fun e w' => ∃ v, e = .returned v ∧ NewRow w0 w' 3 1 encI 0 C.owned v ∧ Below w0.heap.size w0 w' := by
  have S := Sat.reads h
  refine enter1 Try.func19 rfl Try.ntmps19 rfl Try.results19 ?_
  repeat' (first | refine assign_s_l S rfl rfl ?_ | refine move_p_l S rfl rfl ?_ | refine move_e_l S rfl rfl ?_ | refine nilL ?_ | refine run_seq ?_ | refine run_skip ?_ | refine run_region ?_ | refine eqlP_l S rfl rfl rfl ?_ | refine eqlE_l S rfl rfl (by omega) rfl ?_ | refine nilCheck_l S rfl rfl ?_ | refine nilCheckE_l S rfl (by first | omega | decide | (simp; done) | (simp; omega)) rfl ?_ | refine fieldAddr_l S rfl rfl rfl ?_ | refine fieldAddrE_l S rfl (by first | omega | decide | (simp; done) | (simp; omega)) rfl rfl ?_ | refine load_s_l S rfl rfl rfl rfl ?_ | refine loadE_s_l S rfl (by first | omega | decide | (simp; done) | (simp; omega)) rfl rfl rfl ?_ | refine move_o_l S rfl rfl ?_ | refine load_o_l S rfl rfl rfl rfl ?_ | refine loadE_o_l S rfl (by first | omega | decide | (simp; done) | (simp; omega)) rfl rfl rfl ?_ | refine run_block ?_ | refine run_ret ?_ | refine run_exit ?_ | refine run_cond_true rfl ?_ | refine run_cond_false rfl ?_ | refine thenQ_n ?_ | refine thenQ_r ?_ | refine thenQ_e ?_ | refine blockQ_n ?_ | refine blockQ_r ?_ | refine blockQ_s rfl ?_ | refine blockQ_o rfl ?_ | refine ret1_i rfl ?_ | refine ret1_b rfl ?_ | refine ret1_p rfl ?_ | refine ret1_s rfl ?_ | refine ret1_e rfl ?_ | refine ret1_a rfl ?_ | refine ret1_o rfl ?_ | refine ret1n_i rfl ?_ | refine ret1n_b rfl ?_ | refine ret1n_p rfl ?_ | refine ret1n_s rfl ?_ | refine ret1n_o rfl ?_)
  refine callL (cloneI_at A.ao A.co C.owned hn w0 h.1.2.2.2) rfl rfl ?_
  rintro e w' ⟨_, rfl, ⟨a', c', rfl, hr⟩, hb⟩
  refine ⟨_, rfl, ?_⟩
  replace S := S.below hb
  repeat' (first | refine assign_s_l S rfl rfl ?_ | refine move_p_l S rfl rfl ?_ | refine move_e_l S rfl rfl ?_ | refine nilL ?_ | refine run_seq ?_ | refine run_skip ?_ | refine run_region ?_ | refine eqlP_l S rfl rfl rfl ?_ | refine eqlE_l S rfl rfl (by omega) rfl ?_ | refine nilCheck_l S rfl rfl ?_ | refine nilCheckE_l S rfl (by first | omega | decide | (simp; done) | (simp; omega)) rfl ?_ | refine fieldAddr_l S rfl rfl rfl ?_ | refine fieldAddrE_l S rfl (by first | omega | decide | (simp; done) | (simp; omega)) rfl rfl ?_ | refine load_s_l S rfl rfl rfl rfl ?_ | refine loadE_s_l S rfl (by first | omega | decide | (simp; done) | (simp; omega)) rfl rfl rfl ?_ | refine move_o_l S rfl rfl ?_ | refine load_o_l S rfl rfl rfl rfl ?_ | refine loadE_o_l S rfl (by first | omega | decide | (simp; done) | (simp; omega)) rfl rfl rfl ?_ | refine run_block ?_ | refine run_ret ?_ | refine run_exit ?_ | refine run_cond_true rfl ?_ | refine run_cond_false rfl ?_ | refine thenQ_n ?_ | refine thenQ_r ?_ | refine thenQ_e ?_ | refine blockQ_n ?_ | refine blockQ_r ?_ | refine blockQ_s rfl ?_ | refine blockQ_o rfl ?_ | refine ret1_i rfl ?_ | refine ret1_b rfl ?_ | refine ret1_p rfl ?_ | refine ret1_s rfl ?_ | refine ret1_e rfl ?_ | refine ret1_a rfl ?_ | refine ret1_o rfl ?_ | refine ret1n_i rfl ?_ | refine ret1n_b rfl ?_ | refine ret1n_p rfl ?_ | refine ret1n_s rfl ?_ | refine ret1n_o rfl ?_)
  exact ⟨_, rfl, ⟨a', c', rfl, hr⟩, S.chg.below⟩
def pendL (C : CmS) : List (Int × Int) := if C.at_ = 5 then C.writes.drop C.done.toNat else []
theorem cpending_no (h5 : C.at_ ≠ 5) : Calls Try.prog 28 #[.pointer (some ⟨bc, 0, none⟩)] w0 fun e w' => e = .returned (.slice none 0 0) ∧ Below w0.heap.size w0 w' := by
  have S := Sat.reads h
  refine enter1 Try.func28 rfl Try.ntmps28 rfl Try.results28 ?_
  repeat' (first | refine assign_s_l S rfl rfl ?_ | refine move_p_l S rfl rfl ?_ | refine move_e_l S rfl rfl ?_ | refine nilL ?_ | refine run_seq ?_ | refine run_skip ?_ | refine run_region ?_ | refine onL rfl rfl ?_ | refine offL rfl rfl rfl rfl ?_ | refine offL0 rfl rfl rfl ?_ | refine offLU rfl rfl rfl ?_ | refine eqlP_l S rfl rfl rfl ?_ | refine eqlE_l S rfl rfl (by omega) rfl ?_ | refine move_b_l S rfl rfl ?_ | refine nilCheck_l S rfl rfl ?_ | refine nilCheckE_l S rfl (by first | omega | decide | (simp; done) | (simp; omega)) rfl ?_ | refine fieldAddr_l S rfl rfl rfl ?_ | refine fieldAddrE_l S rfl (by first | omega | decide | (simp; done) | (simp; omega)) rfl rfl ?_ | refine load_i_l S rfl rfl rfl rfl ?_ | refine loadE_i_l S rfl (by first | omega | decide | (simp; done) | (simp; omega)) rfl rfl rfl ?_ | (refine neq_l S rfl rfl rfl ?_ ?_ <;> intro hcmp <;> try (exfalso; first | omega | exact hcmp (by decide) | exact absurd hcmp (by decide))) | refine pick_tb_l S rfl rfl rfl ?_ | refine pick_fb_l S rfl rfl rfl ?_ | refine move_o_l S rfl rfl ?_ | refine load_o_l S rfl rfl rfl rfl ?_ | refine loadE_o_l S rfl (by first | omega | decide | (simp; done) | (simp; omega)) rfl rfl rfl ?_ | refine run_block ?_ | refine run_ret ?_ | refine run_exit ?_ | refine run_cond_true rfl ?_ | refine run_cond_false rfl ?_ | refine thenQ_n ?_ | refine thenQ_r ?_ | refine thenQ_e ?_ | refine blockQ_n ?_ | refine blockQ_r ?_ | refine blockQ_s rfl ?_ | refine blockQ_o rfl ?_ | refine ret1_i rfl ?_ | refine ret1_b rfl ?_ | refine ret1_p rfl ?_ | refine ret1_s rfl ?_ | refine ret1_e rfl ?_ | refine ret1_a rfl ?_ | refine ret1_o rfl ?_ | refine ret1n_i rfl ?_ | refine ret1n_b rfl ?_ | refine ret1n_p rfl ?_ | refine ret1n_s rfl ?_ | refine ret1n_o rfl ?_)
  exact ⟨rfl, S.chg.below⟩
theorem cpending_yes (h5 : C.at_ = 5) (hd : 0 ≤ C.done ∧ C.done ≤ C.writes.length) (hn : C.writes.length ≤ 1000000) : Calls Try.prog 28 #[.pointer (some ⟨bc, 0, none⟩)] w0 fun e w' => ∃ v, e = .returned v ∧ NewRow w0 w' 49 2 encP (0, 0) (C.writes.drop C.done.toNat) v ∧ Below w0.heap.size w0 w' := by
  obtain ⟨thread, at_, rv, st, hs, ws, owned, wv, dn, cm, fl⟩ := C
  simp only at h5 hd hn
  obtain ⟨d, rfl⟩ : ∃ d : Nat, dn = d := ⟨dn.toNat, by omega⟩
  subst h5
  have hcw := (cm_small h).2.2.2
  have hd3 : (d : Int) ≤ ((⟨thread, 5, rv, st, hs, ws, owned, wv, d, cm, fl⟩ : CmS).writes.length : Int) := hd.2
  have S := Sat.reads h
  refine enter1 Try.func28 rfl Try.ntmps28 rfl Try.results28 ?_
  repeat' (first | refine assign_s_l S rfl rfl ?_ | refine move_p_l S rfl rfl ?_ | refine move_e_l S rfl rfl ?_ | refine nilL ?_ | refine run_seq ?_ | refine run_skip ?_ | refine run_region ?_ | refine onL rfl rfl ?_ | refine offL rfl rfl rfl rfl ?_ | refine offL0 rfl rfl rfl ?_ | refine offLU rfl rfl rfl ?_ | refine eqlP_l S rfl rfl rfl ?_ | refine eqlE_l S rfl rfl (by omega) rfl ?_ | refine move_b_l S rfl rfl ?_ | refine nilCheck_l S rfl rfl ?_ | refine nilCheckE_l S rfl (by first | omega | decide | (simp; done) | (simp; omega)) rfl ?_ | refine fieldAddr_l S rfl rfl rfl ?_ | refine fieldAddrE_l S rfl (by first | omega | decide | (simp; done) | (simp; omega)) rfl rfl ?_ | refine load_i_l S rfl rfl rfl rfl ?_ | refine loadE_i_l S rfl (by first | omega | decide | (simp; done) | (simp; omega)) rfl rfl rfl ?_ | (refine neq_l S rfl rfl rfl ?_ ?_ <;> intro hcmp <;> try (exfalso; first | omega | exact hcmp (by decide) | exact absurd hcmp (by decide))) | refine pick_tb_l S rfl rfl rfl ?_ | refine pick_fb_l S rfl rfl rfl ?_ | refine move_o_l S rfl rfl ?_ | refine load_o_l S rfl rfl rfl rfl ?_ | refine loadE_o_l S rfl (by first | omega | decide | (simp; done) | (simp; omega)) rfl rfl rfl ?_ | refine run_block ?_ | refine run_ret ?_ | refine run_exit ?_ | refine run_cond_true rfl ?_ | refine run_cond_false rfl ?_ | refine thenQ_n ?_ | refine thenQ_r ?_ | refine thenQ_e ?_ | refine blockQ_n ?_ | refine blockQ_r ?_ | refine blockQ_s rfl ?_ | refine blockQ_o rfl ?_ | refine ret1_i rfl ?_ | refine ret1_b rfl ?_ | refine ret1_p rfl ?_ | refine ret1_s rfl ?_ | refine ret1_e rfl ?_ | refine ret1_a rfl ?_ | refine ret1_o rfl ?_ | refine ret1n_i rfl ?_ | refine ret1n_b rfl ?_ | refine ret1n_p rfl ?_ | refine ret1n_s rfl ?_ | refine ret1n_o rfl ?_)
  · exact absurd rfl hcmp
  refine run_any S (L' := [roR (cmR bc A ⟨thread, 5, rv, st, hs, ws, owned, wv, d, cm, fl⟩)]) (f := 11) mixed rfl ?_
  clear S
  intro w S1
  have S : Sat _ _ w [roR (cmR bc A ⟨thread, 5, rv, st, hs, ws, owned, wv, d, cm, fl⟩)] := S1.sub
  all_goals (refine any_pure (i := 0) rfl (by kernel_rfl) S ?_; (first | refine move_p_x rfl rfl ?_ | refine move_e_x rfl rfl ?_ | refine move_o_x rfl rfl ?_))
  all_goals (refine any_pure (i := 1) rfl (by kernel_rfl) S ?_; (first | refine nilCheck_x rfl rfl ?_ | refine nilCheckE_x rfl (by first | omega | decide | (simp; done) | (simp; omega)) rfl ?_))
  all_goals (refine any_pure (i := 2) rfl (by kernel_rfl) S ?_; (first | refine fieldAddr_x rfl rfl rfl ?_ | refine fieldAddrE_x rfl (by first | omega | decide | (simp; done) | (simp; omega)) rfl rfl ?_))
  all_goals (refine any_pure (i := 3) rfl (by kernel_rfl) S ?_; (first | refine load_s_x rfl rfl rfl rfl ?_ | refine load_o_x rfl rfl rfl rfl ?_ | refine loadE_s_x rfl (by first | omega | decide | (simp; done) | (simp; omega)) rfl rfl rfl ?_ | refine loadE_o_x rfl (by first | omega | decide | (simp; done) | (simp; omega)) rfl rfl rfl ?_))
  all_goals (refine any_pure (i := 4) rfl (by kernel_rfl) S ?_; (first | refine move_p_x rfl rfl ?_ | refine move_e_x rfl rfl ?_ | refine move_o_x rfl rfl ?_))
  all_goals (refine any_pure (i := 5) rfl (by kernel_rfl) S ?_; (first | refine nilCheck_x rfl rfl ?_ | refine nilCheckE_x rfl (by first | omega | decide | (simp; done) | (simp; omega)) rfl ?_))
  all_goals (refine any_pure (i := 6) rfl (by kernel_rfl) S ?_; (first | refine fieldAddr_x rfl rfl rfl ?_ | refine fieldAddrE_x rfl (by first | omega | decide | (simp; done) | (simp; omega)) rfl rfl ?_))
  all_goals (refine any_pure (i := 7) rfl (by kernel_rfl) S ?_; (first | refine load_i_x rfl rfl rfl rfl ?_ | refine load_o_x rfl rfl rfl rfl ?_ | refine loadE_i_x rfl (by first | omega | decide | (simp; done) | (simp; omega)) rfl rfl rfl ?_ | refine loadE_o_x rfl (by first | omega | decide | (simp; done) | (simp; omega)) rfl rfl rfl ?_))
  all_goals (refine any_pure (i := 8) rfl (by kernel_rfl) S ?_; refine sliceSuf_x rfl rfl (by omega) rfl ?_)
  all_goals refine any_step (i := 9) rfl (by kernel_rfl) ?_
  all_goals replace S := S1
  have hs0 : SlOk w A.aw ws.length A.cw 2 (gL encP (0, 0) ws) := (S.all (roR (cmR bc A ⟨thread, 5, rv, st, hs, ws, owned, wv, d, cm, fl⟩)) (by simp) : (cmR bc A _).holds w).1.2.2.1
  have hlen : ws.length - d = (ws.drop d).length := by simp
  have hs1 : SlOk w (subA A.aw d A.cw 2) (ws.drop d).length (A.cw - d) 2 (gL encP (0, 0) (ws.drop d)) := by
    rw [← hlen]
    refine SlOk.congr (hs0.sub (lo := d) (n := ws.length - d) (by omega)) (fun i hi j hj => ?_)
    unfold gL
    rw [List.getD_eq_getElem?_getD, List.getD_eq_getElem?_getD, List.getElem?_drop]
  refine callL (cloneP_at (subA A.aw d A.cw 2) (A.cw - d) (ws.drop d) (by rw [← hlen]; omega) _ hs1) (by rw [← hlen]; rfl) rfl ?_
  rintro e w' ⟨_, rfl, ⟨a', c', rfl, hr, hf⟩, hb⟩
  replace S := Sat.freshRow S hb hr hf
  refine ⟨_, rfl, ?_⟩
  all_goals try refine nilL ?_
  all_goals refine ⟨S.sub, ?_⟩
  all_goals (have S1 := S; replace S : Sat _ _ _ [roR (cmR bc A ⟨thread, 5, rv, st, hs, ws, owned, wv, d, cm, fl⟩)] := S1.sub)
  all_goals (refine any_pure (i := 10) rfl (by kernel_rfl) S ?_; refine assign_s_x rfl rfl ?_)
  all_goals refine any_end (by kernel_rfl) ?_
  all_goals replace S := S1
  repeat' (first | refine assign_s_l S rfl rfl ?_ | refine move_p_l S rfl rfl ?_ | refine move_e_l S rfl rfl ?_ | refine nilL ?_ | refine run_seq ?_ | refine run_skip ?_ | refine run_region ?_ | refine onL rfl rfl ?_ | refine offL rfl rfl rfl rfl ?_ | refine offL0 rfl rfl rfl ?_ | refine offLU rfl rfl rfl ?_ | refine eqlP_l S rfl rfl rfl ?_ | refine eqlE_l S rfl rfl (by omega) rfl ?_ | refine move_b_l S rfl rfl ?_ | refine nilCheck_l S rfl rfl ?_ | refine nilCheckE_l S rfl (by first | omega | decide | (simp; done) | (simp; omega)) rfl ?_ | refine fieldAddr_l S rfl rfl rfl ?_ | refine fieldAddrE_l S rfl (by first | omega | decide | (simp; done) | (simp; omega)) rfl rfl ?_ | refine load_i_l S rfl rfl rfl rfl ?_ | refine loadE_i_l S rfl (by first | omega | decide | (simp; done) | (simp; omega)) rfl rfl rfl ?_ | (refine neq_l S rfl rfl rfl ?_ ?_ <;> intro hcmp <;> try (exfalso; first | omega | exact hcmp (by decide) | exact absurd hcmp (by decide))) | refine pick_tb_l S rfl rfl rfl ?_ | refine pick_fb_l S rfl rfl rfl ?_ | refine move_o_l S rfl rfl ?_ | refine load_o_l S rfl rfl rfl rfl ?_ | refine loadE_o_l S rfl (by first | omega | decide | (simp; done) | (simp; omega)) rfl rfl rfl ?_ | refine run_block ?_ | refine run_ret ?_ | refine run_exit ?_ | refine run_cond_true rfl ?_ | refine run_cond_false rfl ?_ | refine thenQ_n ?_ | refine thenQ_r ?_ | refine thenQ_e ?_ | refine blockQ_n ?_ | refine blockQ_r ?_ | refine blockQ_s rfl ?_ | refine blockQ_o rfl ?_ | refine ret1_i rfl ?_ | refine ret1_b rfl ?_ | refine ret1_p rfl ?_ | refine ret1_s rfl ?_ | refine ret1_e rfl ?_ | refine ret1_a rfl ?_ | refine ret1_o rfl ?_ | refine ret1n_i rfl ?_ | refine ret1n_b rfl ?_ | refine ret1n_p rfl ?_ | refine ret1n_s rfl ?_ | refine ret1n_o rfl ?_)
  exact ⟨_, rfl, S.newRow, S.chg.below⟩
end
/-- How many events of one kind there are. -/
def cntK (k : Int) (l : List EvS) : Int := ((l.filter fun e => decide (e.kind = k)).length : Nat)
theorem cntK_succ {k : Int} {l : List EvS} {q : Nat} (h : q < l.length) : cntK k (l.take (q + 1)) = cntK k (l.take q) + if (l.getD q evD).kind = k then 1 else 0 := by
  unfold cntK
  rw [List.take_succ_eq_append_getElem h, List.filter_append, List.length_append, List.getD_eq_getElem?_getD, List.getElem?_eq_getElem h]
  by_cases e : l[q].kind = k
  · simp [e]
  · simp [e]
theorem cntK_cons (k : Int) (e : EvS) (l : List EvS) : cntK k (e :: l) = (if e.kind = k then 1 else 0) + cntK k l := by
  unfold cntK
  by_cases h : e.kind = k
  · simp [h]; omega
  · simp [h]
theorem goEv1 {C : CmS} {H : HeapS} (h : C.at_ = 1) : goEv C H = lockEv C H := by unfold goEv; rw [h]; rfl
theorem goEv2 {C : CmS} {H : HeapS} (h : C.at_ = 2) : goEv C H = bumpEv H := by unfold goEv; rw [h]; rfl
theorem goEv3 {C : CmS} {H : HeapS} (h : C.at_ = 3) : goEv C H = checkEv C H := by unfold goEv; rw [h]; rfl
theorem goEv4 {C : CmS} {H : HeapS} (h : C.at_ = 4) : goEv C H = ⟨7, 0, 0, C.wv, 0, 0⟩ := by unfold goEv; rw [h]; rfl
theorem goEv5 {C : CmS} {H : HeapS} (h : C.at_ = 5) : goEv C H = ⟨8, 0, (C.writes.getD C.done.toNat (0, 0)).1, 0, (C.writes.getD C.done.toNat (0, 0)).2, 0⟩ := by unfold goEv; rw [h]; rfl
theorem goEv6 {C : CmS} {H : HeapS} (h : C.at_ = 6) : goEv C H = ⟨9, 0, C.owned.getD 0 0, 0, 0, 0⟩ := by unfold goEv; rw [h]; rfl
theorem goEv7 {C : CmS} {H : HeapS} (h : C.at_ = 7) : goEv C H = ⟨11, 0, C.owned.getD 0 0, 0, 0, 0⟩ := by unfold goEv; rw [h]; rfl
theorem kind1 {C : CmS} {H : HeapS} (h : C.at_ = 1) : (goEv C H).kind = if ownE H (lockS C H) C.thread = 0 then 4 else 10 := by rw [goEv1 h]; unfold lockEv; split <;> rfl
theorem kind2 {C : CmS} {H : HeapS} (h : C.at_ = 2) : (goEv C H).kind = if H.limit ≤ H.clock then 10 else 5 := by rw [goEv2 h]; unfold bumpEv; split <;> rfl
theorem kind3 {C : CmS} {H : HeapS} (h : C.at_ = 3) : (goEv C H).kind = if checkB C H = true then 10 else 6 := by rw [goEv3 h]; unfold checkEv; split <;> rfl
theorem kind4 {C : CmS} {H : HeapS} (h : C.at_ = 4) : (goEv C H).kind = 7 := by rw [goEv4 h]
theorem kind5 {C : CmS} {H : HeapS} (h : C.at_ = 5) : (goEv C H).kind = 8 := by rw [goEv5 h]
theorem kind6 {C : CmS} {H : HeapS} (h : C.at_ = 6) : (goEv C H).kind = 9 := by rw [goEv6 h]
theorem kind7 {C : CmS} {H : HeapS} (h : C.at_ = 7) : (goEv C H).kind = 11 := by rw [goEv7 h]
end Go.Proofs.Ytpiodhdbdlfnhaa
