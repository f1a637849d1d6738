/- commit: the steps that touch the heap. -/
import Derived.Test.YtpiodhdbdlfnhaaGreatDoorCmA
namespace Go.Proofs.YtpiodhdbdlfnhaaGreatDoor
open Go.RowKit Go.Lib
set_option linter.unusedVariables false
set_option maxHeartbeats 2000000
theorem Sat.tl {S : Nat → Prop} {w₀ w : World} {L : List Res} {x : Res} (h : Sat S w₀ w (x :: L)) : Sat S w₀ w L :=
  ⟨h.chg, fun z hz => h.all z (List.mem_cons_of_mem _ hz), (List.pairwise_cons.1 h.sep).2, fun z hz => h.own z (List.mem_cons_of_mem _ hz)⟩
abbrev two (bc : Nat) (A : CA) (C : CmS) (bh : Nat) (ga va : Option Addr) (gc vc : Nat) (H : HeapS) : Nat → Prop := fun k => (cmR bc A C).foot k ∨ (heapR bh ga va gc vc H).foot k
/-- What a step leaves. -/
def StTo (bc : Nat) (A : CA) (C : CmS) (bh : Nat) (ga va : Option Addr) (gc vc : Nat) (H : HeapS) (C' : CmS) (H' : HeapS) (w w' : World) : Prop :=
  ∃ A', (A'.aw = A.aw ∧ A'.cw = A.cw) ∧ Sat (two bc A C bh ga va gc vc H) w w' [cmR bc A' C', heapR bh ga va gc vc H']
def storeC (C : CmS) : CmS := { C with done := C.done + 1, at_ := if C.done + 1 = C.writes.length then 6 else C.at_ }
def bumpC (C : CmS) (H : HeapS) : CmS := if H.limit ≤ H.clock then abortC { C with full := true } else { C with wv := H.clock + 1, at_ := if H.clock + 1 ≠ C.rv + 1 ∧ 0 < (allI C.st C.hs).length then 3 else 4 }
/-- The stripe that is checked next; is it stale? -/
def checkS (C : CmS) : Int := (allI C.st C.hs).getD C.done.toNat 0
def checkB (C : CmS) (H : HeapS) : Bool := staleB C.rv (ownerV H (checkS C)) (versionV H (checkS C)) C.thread
def checkC (C : CmS) (H : HeapS) : CmS := if checkB C H = true then abortC C else { C with done := C.done + 1, at_ := if C.done + 1 = (allI C.st C.hs).length then 4 else C.at_ }
def checkEv (C : CmS) (H : HeapS) : EvS := if checkB C H = true then ⟨10, 0, checkS C, 0, 0, 5⟩ else ⟨6, 0, checkS C, 0, 0, 0⟩
def bumpEv (H : HeapS) : EvS := if H.limit ≤ H.clock then ⟨10, 0, 0, 0, 0, 6⟩ else ⟨5, 0, 0, H.clock + 1, 0, 0⟩
section
variable {bc : Nat} {A : CA} {C : CmS} {bh : Nat} {ga va : Option Addr} {gc vc : Nat} {H : HeapS} {w0 : World}
/-- The parts of the commit but its block lie where they lay. -/
theorem st_shut {w : World} {C' : CmS} {H' : HeapS} (e1 : C'.rv = C.rv) (e2 : C'.st = C.st) (e3 : C'.hs = C.hs) (e4 : C'.writes = C.writes) (e5 : C'.owned = C.owned) (S : Sat (two bc A C bh ga va gc vc H) w0 w [blk bc 9 (cmC A C') 94, csR A C, wrR A C, owR A C, heapR bh ga va gc vc H']) : StTo bc A C bh ga va gc vc H C' H' w0 w := by
  refine ⟨A, ⟨rfl, rfl⟩, cm_shutL (L := [heapR bh ga va gc vc H']) ?_ (fun x hx => ?_) ?_⟩
  rotate_left
  · have e : x = heapR bh ga va gc vc H' := by simpa using hx
    rw [e]; rfl
  rotate_left
  · show Sat _ _ _ [_, roR (setR A.bs C'.rv C'.st C'.hs), slL A.aw A.cw 2 encP (0, 0) C'.writes, slL A.ao A.co 1 encI 0 C'.owned, _]
    rw [e1, e2, e3, e4, e5]
    exact S
  · intro k hk _
    refine .inl (.inr ?_)
    rcases hk with hk | hk | hk
    · exact .inl hk
    · obtain ⟨g1, g2⟩ := hk
      exact .inr (.inl ⟨by rw [e4] at g1; exact g1, g2⟩)
    · obtain ⟨g1, g2⟩ := hk
      exact .inr (.inr ⟨by rw [e5] at g1; exact g1, g2⟩)
end
section
variable {bc : Nat} {A : CA} {C : CmS} {bh : Nat} {ga va : Option Addr} {gc vc : Nat} {H : HeapS} {w0 : World} (h : Sat (two bc A C bh ga va gc vc H) w0 w0 [cmR bc A C, heapR bh ga va gc vc H])
include h
theorem cfree_at (hn : C.owned ≠ []) : Calls Tryz.prog 70 #[.pointer (some ⟨bc, 0, none⟩), .pointer (some ⟨bh, 0, none⟩)] w0 fun e w' => e = .returned (encEv ⟨9, 0, C.owned.getD 0 0, 0, 0, 0⟩) ∧ StTo bc A C bh ga va gc vc H (leastC C) (freeH H (C.owned.getD 0 0) C.thread C.wv) w0 w' := by
  have S := h
  refine enterC Tryz.func70 rfl Tryz.ntmps70 rfl Tryz.results70 ?_
  repeat' (first | (refine allocZ_l S rfl rfl ?_; clear S; intro b w S) | refine move_p_l S rfl rfl ?_ | refine nilL ?_ | refine run_seq ?_ | refine run_region ?_ | refine thenQ_n ?_)
  refine callL (least_at (S.all (cmR bc A C) (by simp)) hn) rfl rfl ?_
  rintro e w' ⟨rfl, A', gw, g1, g2, g3⟩
  replace S := S.swap (r := cmR bc A C) (r' := cmR bc A' (leastC C)) rfl g2 g1 rfl g3
  clear g1 g2 g3
  refine ⟨_, rfl, ?_⟩
  repeat' (first | refine nilL ?_ | refine run_seq ?_ | refine assign_i_l S rfl rfl ?_ | refine thenQ_n ?_)
  refine run_any S (L' := [cmR bc A' (leastC C)]) (f := 11) mixed rfl ?_
  clear S
  intro w S1
  have S : Sat _ _ w [cmR bc A' (leastC C)] := S1.sub
  all_goals (refine any_pure (i := 0) rfl (by kernel_rfl) S ?_; (refine move_p_x rfl rfl ?_))
  all_goals (refine any_pure (i := 1) rfl (by kernel_rfl) S ?_; refine move_i_x rfl rfl ?_)
  all_goals (refine any_pure (i := 2) rfl (by kernel_rfl) S ?_; (refine move_p_x rfl rfl ?_))
  all_goals (refine any_pure (i := 3) rfl (by kernel_rfl) S ?_; (refine nilCheck_x rfl rfl ?_))
  all_goals (refine any_pure (i := 4) rfl (by kernel_rfl) S ?_; (refine fieldAddr_x rfl rfl rfl ?_))
  all_goals (refine any_pure (i := 5) rfl (by kernel_rfl) S ?_; (refine load_i_x rfl rfl rfl rfl ?_))
  all_goals (refine any_pure (i := 6) rfl (by kernel_rfl) S ?_; (refine move_p_x rfl rfl ?_))
  all_goals (refine any_pure (i := 7) rfl (by kernel_rfl) S ?_; (refine nilCheck_x rfl rfl ?_))
  all_goals (refine any_pure (i := 8) rfl (by kernel_rfl) S ?_; (refine fieldAddr_x rfl rfl rfl ?_))
  all_goals (refine any_pure (i := 9) rfl (by kernel_rfl) S ?_; (refine load_i_x rfl rfl rfl rfl ?_))
  all_goals refine any_step (i := 10) rfl (by kernel_rfl) ?_
  all_goals replace S := S1
  refine callL (free_at (S.all (heapR bh ga va gc vc H) (by simp)) (C.owned.getD 0 0) C.thread C.wv) rfl rfl ?_
  rintro e w' ⟨rfl, hm⟩
  replace S := S.swap (r := heapR bh ga va gc vc H) (r' := heapR bh ga va gc vc (freeH H (C.owned.getD 0 0) C.thread C.wv)) rfl hm.2 hm.1 rfl (fun k e => .inl e)
  clear hm
  refine ⟨_, rfl, ?_⟩
  all_goals try refine nilL ?_
  all_goals refine ⟨S.sub, ?_⟩
  all_goals (have S1 := S; replace S : Sat _ _ _ [cmR bc A' (leastC C)] := S1.sub)
  all_goals refine any_end (by kernel_rfl) ?_
  all_goals replace S := S1
  repeat' (first | refine nilL ?_ | refine run_seq ?_ | refine run_region ?_ | refine move_i_l S rfl rfl ?_ | (apply build7_l S; (· repeat (first | exact mapN | apply mapC_i rfl | apply mapC_b rfl | apply mapC_p rfl | apply mapC_s rfl | apply mapC_e rfl | apply mapC_a rfl | apply mapC_o rfl)); (· rfl); (· rfl)) | (refine storeN_l S rfl rfl ⟨rfl, rfl⟩ rfl ?_; clear S; intro w S) | refine run_ret ?_ | refine thenQ_n ?_ | refine retC_l S rfl ?_)
  exact ⟨rfl, A', gw, S.sub⟩
theorem cundo_at (hn : C.owned ≠ []) : Calls Tryz.prog 71 #[.pointer (some ⟨bc, 0, none⟩), .pointer (some ⟨bh, 0, none⟩)] w0 fun e w' => e = .returned (encEv ⟨11, 0, C.owned.getD 0 0, 0, 0, 0⟩) ∧ StTo bc A C bh ga va gc vc H (leastC C) (letH H (C.owned.getD 0 0) C.thread) w0 w' := by
  have S := h
  refine enterC Tryz.func71 rfl Tryz.ntmps71 rfl Tryz.results71 ?_
  repeat' (first | refine move_p_l S rfl rfl ?_ | refine nilL ?_ | refine run_seq ?_ | refine run_region ?_ | (refine allocZ_l S rfl rfl ?_; clear S; intro b w S) | refine thenQ_n ?_)
  refine callL (least_at (S.all (cmR bc A C) (by simp)) hn) rfl rfl ?_
  rintro e w' ⟨rfl, A', gw, g1, g2, g3⟩
  replace S := S.swap (r := cmR bc A C) (r' := cmR bc A' (leastC C)) rfl g2 g1 rfl g3
  clear g1 g2 g3
  refine ⟨_, rfl, ?_⟩
  repeat' (first | refine move_p_l S rfl rfl ?_ | refine move_i_l S rfl rfl ?_ | refine nilL ?_ | refine run_seq ?_ | refine run_region ?_ | refine assign_i_l S rfl rfl ?_ | refine nilCheck_l S rfl rfl ?_ | refine fieldAddr_l S rfl rfl rfl ?_ | refine load_i_l S rfl rfl rfl rfl ?_ | refine thenQ_n ?_)
  refine callL (let_at (S.all (heapR bh ga va gc vc H) (by simp)) (C.owned.getD 0 0) C.thread) rfl rfl ?_
  rintro e w' ⟨rfl, hm⟩
  replace S := S.swap (r := heapR bh ga va gc vc H) (r' := heapR bh ga va gc vc (letH H (C.owned.getD 0 0) C.thread)) rfl hm.2 hm.1 rfl (fun k e => .inl e)
  clear hm
  refine ⟨_, rfl, ?_⟩
  repeat' (first | refine move_i_l S rfl rfl ?_ | refine nilL ?_ | refine run_seq ?_ | refine run_region ?_ | (apply build7_l S; (· repeat (first | exact mapN | apply mapC_i rfl | apply mapC_b rfl | apply mapC_p rfl | apply mapC_s rfl | apply mapC_e rfl | apply mapC_a rfl | apply mapC_o rfl)); (· rfl); (· rfl)) | (refine storeN_l S rfl rfl ⟨rfl, rfl⟩ rfl ?_; clear S; intro w S) | refine run_ret ?_ | refine thenQ_n ?_ | refine retC_l S rfl ?_)
  exact ⟨rfl, A', gw, S.sub⟩
theorem cstore_at (hd : 0 ≤ C.done ∧ C.done < C.writes.length) (hw : C.writes.length ≤ 1000) : Calls Tryz.prog 69 #[.pointer (some ⟨bc, 0, none⟩), .pointer (some ⟨bh, 0, none⟩)] w0 fun e w' => e = .returned (encEv ⟨8, 0, (C.writes.getD C.done.toNat (0, 0)).1, 0, (C.writes.getD C.done.toNat (0, 0)).2, 0⟩) ∧ StTo bc A C bh ga va gc vc H (storeC C) (setH H (C.writes.getD C.done.toNat (0, 0)).1 (C.writes.getD C.done.toNat (0, 0)).2) w0 w' := by
  have S : Sat (two bc A C bh ga va gc vc H) w0 w0 [blk bc 9 (cmC A C) 94, csR A C, wrR A C, owR A C, heapR bh ga va gc vc H] := cm_openL h
  refine enterC Tryz.func69 rfl Tryz.ntmps69 rfl Tryz.results69 ?_
  repeat' (first | refine nilL ?_ | refine run_seq ?_ | refine run_region ?_ | (refine allocZ_l S rfl rfl ?_; clear S; intro b w S) | refine thenQ_n ?_)
  refine run_any S (L' := [blk bc 9 (cmC A C) 94, wrR A C]) (f := 12) mixed rfl ?_
  clear S
  intro w S1
  have S : Sat _ _ w [blk bc 9 (cmC A C) 94, wrR A C] := S1.sub
  all_goals (refine any_pure (i := 0) rfl (by kernel_rfl) S ?_; (refine move_p_x rfl rfl ?_))
  all_goals (refine any_pure (i := 1) rfl (by kernel_rfl) S ?_; (refine nilCheck_x rfl rfl ?_))
  all_goals (refine any_pure (i := 2) rfl (by kernel_rfl) S ?_; (refine fieldAddr_x rfl rfl rfl ?_))
  all_goals (refine any_pure (i := 3) rfl (by kernel_rfl) S ?_; (refine load_o_x rfl rfl rfl rfl ?_))
  all_goals (refine any_pure (i := 4) rfl (by kernel_rfl) S ?_; (refine move_p_x rfl rfl ?_))
  all_goals (refine any_pure (i := 5) rfl (by kernel_rfl) S ?_; (refine nilCheck_x rfl rfl ?_))
  all_goals (refine any_pure (i := 6) rfl (by kernel_rfl) S ?_; (refine fieldAddr_x rfl rfl rfl ?_))
  all_goals (refine any_pure (i := 7) rfl (by kernel_rfl) S ?_; (refine load_i_x rfl rfl rfl rfl ?_))
  all_goals (refine any_pure (i := 8) rfl (by kernel_rfl) S ?_; (refine indexAddr_x rfl rfl (idx_eq _) (by omega) rfl ?_))
  all_goals (refine any_pure (i := 9) rfl (by kernel_rfl) S ?_; (refine loadEN_x rfl (by omega) rfl rfl ?_))
  all_goals (refine any_step (i := 10) rfl (by kernel_rfl) ?_; replace S := S1; clear S1; ((refine allocZ_l S rfl rfl ?_; clear S; intro b w S)); refine nilL ?_; refine ⟨S.sub, ?_⟩; have S1 := S; replace S : Sat _ _ _ [blk bc 9 (cmC A C) 94, wrR A C] := S1.sub)
  all_goals (refine any_step (i := 11) rfl (by kernel_rfl) ?_; replace S := S1; clear S1; ((refine storeN_l S rfl rfl ⟨rfl, rfl⟩ rfl ?_; clear S; intro w S)); refine nilL ?_; refine ⟨S.sub, ?_⟩; have S1 := S; replace S : Sat _ _ _ [blk bc 9 (cmC A C) 94, wrR A C] := S1.sub)
  all_goals refine any_end (by kernel_rfl) ?_
  all_goals replace S := S1
  repeat' (first | refine fieldAddr_l S rfl rfl rfl ?_ | refine load_i_l S rfl rfl rfl rfl ?_ | refine run_seq ?_ | refine run_region ?_ | refine move_p_l S rfl rfl ?_ | refine thenQ_n ?_)
  refine callL (set_at (S.all (heapR bh ga va gc vc H) (by simp)) (C.writes.getD C.done.toNat (0, 0)).1 (C.writes.getD C.done.toNat (0, 0)).2) rfl rfl ?_
  rintro e w' ⟨rfl, hm⟩
  obtain ⟨p, hp⟩ : ∃ p, C.writes.getD C.done.toNat (0, 0) = p := ⟨_, rfl⟩
  replace S := S.swap (r := heapR bh ga va gc vc H) (r' := heapR bh ga va gc vc (setH H (C.writes.getD C.done.toNat (0, 0)).1 (C.writes.getD C.done.toNat (0, 0)).2)) rfl hm.2 hm.1 rfl (fun k e => .inl e)
  clear hm
  refine ⟨_, rfl, ?_⟩
  repeat' (first | refine fieldAddr_l S rfl rfl rfl ?_ | refine load_i_l S rfl rfl rfl rfl ?_ | refine nilL ?_ | refine run_seq ?_ | refine run_skip ?_ | refine run_region ?_ | refine move_p_l S rfl rfl ?_ | refine nilCheck_l S rfl rfl ?_ | (refine store_i S rfl rfl rfl ?_; clear S; intro w S) | refine add_l S rfl rfl (wrap_in (by omega)) rfl ?_ | (apply build7_l S; (· repeat (first | exact mapN | apply mapC_i rfl | apply mapC_b rfl | apply mapC_p rfl | apply mapC_s rfl | apply mapC_e rfl | apply mapC_a rfl | apply mapC_o rfl)); (· rfl); (· rfl)) | (refine storeN_l S rfl rfl ⟨rfl, rfl⟩ rfl ?_; clear S; intro w S) | refine run_ret ?_ | refine run_cond_true rfl ?_ | refine run_cond_false rfl ?_ | refine thenQ_n ?_ | (refine run_draws S mixed ?_ ?_; · kernel_rfl) | (refine nilQ ?_; clear S; intro w S) | refine move_p_q rfl rfl ?_ | refine nilCheck_q rfl rfl ?_ | refine fieldAddr_q rfl rfl rfl ?_ | refine load_i_q rfl rfl rfl rfl ?_ | refine len_q rfl rfl ?_ | (refine eql_q rfl rfl rfl ?_ ?_ <;> intro hcmp <;> try (exfalso; first | omega | exact hcmp (by decide) | exact absurd hcmp (by decide))) | refine load_o_q rfl rfl rfl rfl ?_ | refine retC_l S rfl ?_)
  · rw [cmC_done, cmC_at] at S
    have e : storeC C = { C with done := C.done + 1, at_ := 6 } := by unfold storeC; rw [if_pos (by omega)]
    rw [e]
    exact ⟨rfl, st_shut (C' := { C with done := C.done + 1, at_ := 6 }) rfl rfl rfl rfl rfl S.sub⟩
  · rw [cmC_done] at S
    have e : storeC C = { C with done := C.done + 1 } := by unfold storeC; rw [if_neg (by omega)]
    rw [e]
    exact ⟨rfl, st_shut (C' := { C with done := C.done + 1 }) rfl rfl rfl rfl rfl S.sub⟩
theorem cbump_at (hc : H.clock ≤ 1099511627776 ∧ 0 ≤ H.clock) : Calls Tryz.prog 66 #[.pointer (some ⟨bc, 0, none⟩), .pointer (some ⟨bh, 0, none⟩)] w0 fun e w' => e = .returned (encEv (bumpEv H)) ∧ StTo bc A C bh ga va gc vc H (bumpC C H) (bumpH H) w0 w' := by
  have hset : SetAt w0 A.bs C.rv C.st C.hs := (h.all (cmR bc A C) (by simp) : (cmR bc A C).holds w0).1.2.1
  have hr0 := hset.rv0
  have hr1 := hset.rv1
  clear hset
  have S : Sat (two bc A C bh ga va gc vc H) w0 w0 [blk bc 9 (cmC A C) 94, csR A C, wrR A C, owR A C, heapR bh ga va gc vc H] := cm_openL h
  refine enterC Tryz.func66 rfl Tryz.ntmps66 rfl Tryz.results66 ?_
  repeat' (first | refine move_p_l S rfl rfl ?_ | refine nilL ?_ | refine run_seq ?_ | refine run_region ?_ | (refine allocZ_l S rfl rfl ?_; clear S; intro b w S) | refine thenQ_n ?_)
  refine callL (bump_at (S.all (heapR bh ga va gc vc H) (by simp)) (by omega)) rfl rfl ?_
  rintro e w' ⟨rfl, hm⟩
  replace S := S.swap (r := heapR bh ga va gc vc H) (r' := heapR bh ga va gc vc (bumpH H)) rfl hm.2 hm.1 rfl (fun k e => .inl e)
  clear hm
  refine ⟨_, rfl, ?_⟩
  by_cases hl : H.limit ≤ H.clock
  · rw [show bumpN H = 0 from by unfold bumpN; rw [if_pos hl], show bumpE H = 41 from by unfold bumpE; rw [if_pos hl]]
    repeat' (first | refine move_p_l S rfl rfl ?_ | refine nilCheck_l S rfl rfl ?_ | refine nilL ?_ | refine run_seq ?_ | refine run_region ?_ | refine fieldAddr_l S rfl rfl rfl ?_ | refine move_i_l S rfl rfl ?_ | refine extract_i_l S rfl rfl rfl ?_ | refine assign_i_l S rfl rfl ?_ | (refine neq_l S rfl rfl rfl ?_ ?_ <;> intro hcmp <;> try (exfalso; first | omega | exact hcmp (by decide) | exact absurd hcmp (by decide))) | (refine store_b S rfl rfl rfl ?_; clear S; intro w S) | refine move_o_l S rfl rfl ?_ | refine run_cond_true rfl ?_ | refine thenQ_n ?_)
    rw [cmC_full] at S
    have S2 := cm_shutL (L := [heapR bh ga va gc vc (bumpH H), _]) (A := A) (C := { C with full := true }) (S.perm (List.perm_append_singleton _ [_, _, _, _, _])) (fun x hx => by
      simp only [List.mem_cons, List.not_mem_nil, or_false] at hx
      rcases hx with hx | hx <;> (rw [hx]; rfl)) (fun k hk _ => .inl (.inr hk))
    clear S
    have S := S2
    clear S2
    refine callL (abort_at S.got1 6 0) rfl rfl ?_
    rintro e w' ⟨rfl, A', gw, g1, g2, g3⟩
    replace S := S.swap (r := cmR bc A { C with full := true }) (r' := cmR bc A' (abortC { C with full := true })) rfl g2 g1 rfl g3
    clear g1 g2 g3
    refine ⟨_, rfl, ?_⟩
    repeat' (first | refine nilL ?_ | (refine storeN_l S rfl rfl ⟨rfl, rfl⟩ rfl ?_; clear S; intro w S) | refine run_ret ?_ | refine thenQ_n ?_ | refine thenQ_r ?_ | refine retC_l S rfl ?_)
    refine ⟨by unfold bumpEv; rw [if_pos hl]; rfl, A', gw, ?_⟩
    rw [show bumpC C H = abortC { C with full := true } from by unfold bumpC; rw [if_pos hl]]
    exact S.sub
  · rw [show bumpN H = H.clock + 1 from by unfold bumpN; rw [if_neg hl], show bumpE H = 0 from by unfold bumpE; rw [if_neg hl]]
    repeat' (first | refine move_p_l S rfl rfl ?_ | refine nilCheck_l S rfl rfl ?_ | refine nilL ?_ | refine run_seq ?_ | refine run_skip ?_ | refine run_region ?_ | refine fieldAddr_l S rfl rfl rfl ?_ | refine move_i_l S rfl rfl ?_ | (refine store_i S rfl rfl rfl ?_; clear S; intro w S) | refine extract_i_l S rfl rfl rfl ?_ | refine assign_i_l S rfl rfl ?_ | (refine neq_l S rfl rfl rfl ?_ ?_ <;> intro hcmp <;> try (exfalso; first | omega | exact hcmp (by decide) | exact absurd hcmp (by decide))) | refine load_p_l S rfl rfl rfl rfl ?_ | refine move_o_l S rfl rfl ?_ | refine run_cond_false rfl ?_ | refine thenQ_n ?_)
    (refine callL (rv_e (S.all (csR A C) (by simp))) rfl rfl ?_; rintro e w ⟨rfl, hb⟩; replace S := S.below hb; clear hb; refine ⟨_, rfl, ?_⟩)
    by_cases hr : H.clock + 1 = C.rv + 1
    · repeat' (first | refine nilL ?_ | refine run_seq ?_ | refine run_skip ?_ | refine run_region ?_ | refine offL rfl rfl rfl rfl ?_ | refine move_i_l S rfl rfl ?_ | (refine neq_l S rfl rfl rfl ?_ ?_ <;> intro hcmp <;> try (exfalso; first | omega | exact hcmp (by decide) | exact absurd hcmp (by decide))) | (refine storeN_l S rfl rfl ⟨rfl, rfl⟩ rfl ?_; clear S; intro w S) | refine add_l S rfl rfl (wrap_in (by omega)) rfl ?_ | refine move_b_l S rfl rfl ?_ | refine pick_fb_l S rfl rfl rfl ?_ | (apply build7_l S; (· repeat (first | exact mapN | apply mapC_i rfl | apply mapC_b rfl | apply mapC_p rfl | apply mapC_s rfl | apply mapC_e rfl | apply mapC_a rfl | apply mapC_o rfl)); (· rfl); (· rfl)) | refine run_ret ?_ | refine run_cond_false rfl ?_ | refine thenQ_n ?_ | refine retC_l S rfl ?_)
      rw [cmC_wv, cmC_at] at S
      refine ⟨by unfold bumpEv; rw [if_neg hl]; rfl, ?_⟩
      rw [show bumpC C H = { C with wv := H.clock + 1, at_ := 4 } from by unfold bumpC; rw [if_neg hl, if_neg (fun e => e.1 hr)]]
      exact st_shut (C' := { C with wv := H.clock + 1, at_ := 4 }) rfl rfl rfl rfl rfl S.sub
    · repeat' (first | refine move_p_l S rfl rfl ?_ | refine nilCheck_l S rfl rfl ?_ | refine onL rfl rfl ?_ | refine fieldAddr_l S rfl rfl rfl ?_ | (refine neq_l S rfl rfl rfl ?_ ?_ <;> intro hcmp <;> try (exfalso; first | omega | exact hcmp (by decide) | exact absurd hcmp (by decide))) | refine load_p_l S rfl rfl rfl rfl ?_ | refine add_l S rfl rfl (wrap_in (by omega)) rfl ?_ | refine move_b_l S rfl rfl ?_)
      refine callL (all_e (S.all (csR A C) (by simp))) rfl rfl ?_
      rintro e w' ⟨_, rfl, ⟨ra, rc, rfl, hh, hf⟩, hb⟩
      replace S := Sat.freshRow S hb hh hf
      clear hb hh hf
      refine ⟨_, rfl, ?_⟩
      repeat' (first | refine move_p_l S rfl rfl ?_ | refine nilCheck_l S rfl rfl ?_ | refine nilL ?_ | refine run_seq ?_ | refine run_skip ?_ | refine run_region ?_ | refine onL rfl rfl ?_ | refine fieldAddr_l S rfl rfl rfl ?_ | refine move_i_l S rfl rfl ?_ | (refine store_i S rfl rfl rfl ?_; clear S; intro w S) | (refine storeN_l S rfl rfl ⟨rfl, rfl⟩ rfl ?_; clear S; intro w S) | refine len_l S rfl rfl ?_ | (refine gtr_l S rfl rfl rfl ?_ ?_ <;> intro hcmp <;> try (exfalso; first | omega | exact hcmp (by decide) | exact absurd hcmp (by decide))) | refine pick_tb_l S rfl rfl rfl ?_ | (apply build7_l S; (· repeat (first | exact mapN | apply mapC_i rfl | apply mapC_b rfl | apply mapC_p rfl | apply mapC_s rfl | apply mapC_e rfl | apply mapC_a rfl | apply mapC_o rfl)); (· rfl); (· rfl)) | refine run_ret ?_ | refine run_cond_true rfl ?_ | refine run_cond_false rfl ?_ | refine thenQ_n ?_ | refine retC_l S rfl ?_)
      · rw [cmC_wv, cmC_at, cmC_at] at S
        refine ⟨by unfold bumpEv; rw [if_neg hl]; rfl, ?_⟩
        rw [show bumpC C H = { C with wv := H.clock + 1, at_ := 3 } from by unfold bumpC; rw [if_neg hl, if_pos ⟨hr, by omega⟩]]
        exact st_shut (C' := { C with wv := H.clock + 1, at_ := 3 }) rfl rfl rfl rfl rfl S.sub
      · rw [cmC_wv, cmC_at] at S
        refine ⟨by unfold bumpEv; rw [if_neg hl]; rfl, ?_⟩
        rw [show bumpC C H = { C with wv := H.clock + 1, at_ := 4 } from by unfold bumpC; rw [if_neg hl, if_neg (fun e => by omega)]]
        exact st_shut (C' := { C with wv := H.clock + 1, at_ := 4 }) rfl rfl rfl rfl rfl S.sub
theorem ccheck_at (hd : 0 ≤ C.done ∧ C.done < (allI C.st C.hs).length) : Calls Tryz.prog 67 #[.pointer (some ⟨bc, 0, none⟩), .pointer (some ⟨bh, 0, none⟩)] w0 fun e w' => e = .returned (encEv (checkEv C H)) ∧ StTo bc A C bh ga va gc vc H (checkC C H) H w0 w' := by
  have hal := allI_len C.st C.hs
  have S : Sat (two bc A C bh ga va gc vc H) w0 w0 [blk bc 9 (cmC A C) 94, csR A C, wrR A C, owR A C, heapR bh ga va gc vc H] := cm_openL h
  refine enterC Tryz.func67 rfl Tryz.ntmps67 rfl Tryz.results67 ?_
  repeat' (first | refine move_p_l S rfl rfl ?_ | refine nilCheck_l S rfl rfl ?_ | refine nilL ?_ | refine run_seq ?_ | refine run_region ?_ | refine fieldAddr_l S rfl rfl rfl ?_ | (refine allocZ_l S rfl rfl ?_; clear S; intro b w S) | refine load_p_l S rfl rfl rfl rfl ?_ | refine thenQ_n ?_)
  refine callL (all_e (S.all (csR A C) (by simp))) rfl rfl ?_
  rintro e w' ⟨_, rfl, ⟨ra, rc, rfl, hh, hf⟩, hb⟩
  replace S := Sat.freshRow S hb hh hf
  clear hb hh hf
  refine ⟨_, rfl, ?_⟩
  repeat' (first | refine move_p_l S rfl rfl ?_ | refine nilCheck_l S rfl rfl ?_ | refine nilL ?_ | refine run_seq ?_ | refine run_region ?_ | refine fieldAddr_l S rfl rfl rfl ?_ | refine load_i_l S rfl rfl rfl rfl ?_ | refine loadE_i_l S rfl (by first | omega | decide | (simp; done) | (simp; omega)) rfl rfl rfl ?_ | refine move_s_l S rfl rfl ?_ | refine assign_s_l S rfl rfl ?_ | refine indexAddr_l S rfl rfl (idx_eq _) (by first | omega | decide | (simp; done) | (simp; omega)) rfl ?_ | refine assign_i_l S rfl rfl ?_ | refine thenQ_n ?_)
  refine run_any S (L' := [blk bc 9 (cmC A C) 94]) (f := 15) mixed rfl ?_
  clear S
  intro w S1
  have S : Sat _ _ w [blk bc 9 (cmC A C) 94] := S1.sub
  all_goals (refine any_pure (i := 0) rfl (by kernel_rfl) S ?_; (refine move_p_x rfl rfl ?_))
  all_goals (refine any_pure (i := 1) rfl (by kernel_rfl) S ?_; (refine nilCheck_x rfl rfl ?_))
  all_goals (refine any_pure (i := 2) rfl (by kernel_rfl) S ?_; (refine fieldAddr_x rfl rfl rfl ?_))
  all_goals (refine any_pure (i := 3) rfl (by kernel_rfl) S ?_; (refine load_p_x rfl rfl rfl rfl ?_))
  all_goals (refine any_pure (i := 4) rfl (by kernel_rfl) S ?_; (refine move_p_x rfl rfl ?_))
  all_goals (refine any_pure (i := 5) rfl (by kernel_rfl) S ?_; refine move_i_x rfl rfl ?_)
  all_goals (refine any_pure (i := 7) rfl (by kernel_rfl) S ?_; (refine move_p_x rfl rfl ?_))
  all_goals (refine any_pure (i := 8) rfl (by kernel_rfl) S ?_; refine move_i_x rfl rfl ?_)
  all_goals (refine any_pure (i := 10) rfl (by kernel_rfl) S ?_; (refine move_p_x rfl rfl ?_))
  all_goals (refine any_pure (i := 11) rfl (by kernel_rfl) S ?_; (refine nilCheck_x rfl rfl ?_))
  all_goals (refine any_pure (i := 12) rfl (by kernel_rfl) S ?_; (refine fieldAddr_x rfl rfl rfl ?_))
  all_goals (refine any_pure (i := 13) rfl (by kernel_rfl) S ?_; (refine load_i_x rfl rfl rfl rfl ?_))
  all_goals refine any_step (i := 6) rfl (by kernel_rfl) ?_
  all_goals replace S := S1
  (refine callL (owner_at (S.all (heapR bh ga va gc vc H) (by simp)) ((allI C.st C.hs).getD C.done.toNat 0)) rfl rfl ?_; rintro e w ⟨rfl, hb⟩; replace S := S.below hb; clear hb; refine ⟨_, rfl, ?_⟩)
  all_goals try refine nilL ?_
  all_goals refine ⟨S.sub, ?_⟩
  all_goals (have S1 := S; replace S : Sat _ _ _ [blk bc 9 (cmC A C) 94] := S1.sub)
  all_goals refine any_step (i := 9) rfl (by kernel_rfl) ?_
  all_goals replace S := S1
  (refine callL (version_at (S.all (heapR bh ga va gc vc H) (by simp)) ((allI C.st C.hs).getD C.done.toNat 0)) rfl rfl ?_; rintro e w ⟨rfl, hb⟩; replace S := S.below hb; clear hb; refine ⟨_, rfl, ?_⟩)
  all_goals try refine nilL ?_
  all_goals refine ⟨S.sub, ?_⟩
  all_goals (have S1 := S; replace S : Sat _ _ _ [blk bc 9 (cmC A C) 94] := S1.sub)
  all_goals refine any_step (i := 14) rfl (by kernel_rfl) ?_
  all_goals replace S := S1
  (refine callL (stale_e (S.all (csR A C) (by simp)) (ownerV H ((allI C.st C.hs).getD C.done.toNat 0)) (versionV H ((allI C.st C.hs).getD C.done.toNat 0)) C.thread) rfl rfl ?_; rintro e w ⟨rfl, hb⟩; replace S := S.below hb; clear hb; refine ⟨_, rfl, ?_⟩)
  rw [show staleB C.rv (ownerV H ((allI C.st C.hs).getD C.done.toNat 0)) (versionV H ((allI C.st C.hs).getD C.done.toNat 0)) C.thread = checkB C H from rfl]
  obtain ⟨r, hr⟩ : ∃ r, checkB C H = r := ⟨_, rfl⟩
  rw [hr]
  all_goals try refine nilL ?_
  all_goals refine ⟨S.sub, ?_⟩
  all_goals (have S1 := S; replace S : Sat _ _ _ [blk bc 9 (cmC A C) 94] := S1.sub)
  all_goals refine any_end (by kernel_rfl) ?_
  all_goals replace S := S1
  clear S1
  cases r with
  | true =>
    repeat' (first | refine move_p_l S rfl rfl ?_ | refine run_seq ?_ | refine run_region ?_ | refine move_i_l S rfl rfl ?_ | refine run_cond_true rfl ?_ | refine thenQ_n ?_)
    have S2 := cm_shutL (L := [heapR bh ga va gc vc H, _]) (A := A) (C := C) (S.tl.perm (List.perm_append_singleton _ [_, _, _, _, _])) (fun x hx => by
      simp only [List.mem_cons, List.not_mem_nil, or_false] at hx
      rcases hx with hx | hx <;> (rw [hx]; rfl)) (fun k hk _ => .inl (.inr hk))
    clear S
    have S := S2
    clear S2
    refine callL (abort_at S.got1 5 ((allI C.st C.hs).getD C.done.toNat 0)) rfl rfl ?_
    rintro e w' ⟨rfl, A', gw, g1, g2, g3⟩
    replace S := S.swap (r := cmR bc A C) (r' := cmR bc A' (abortC C)) rfl g2 g1 rfl g3
    clear g1 g2 g3
    refine ⟨_, rfl, ?_⟩
    repeat' (first | refine nilL ?_ | (refine storeN_l S rfl rfl ⟨rfl, rfl⟩ rfl ?_; clear S; intro w S) | refine run_ret ?_ | refine thenQ_n ?_ | refine thenQ_r ?_ | refine retC_l S rfl ?_)
    refine ⟨by unfold checkEv; rw [if_pos hr]; rfl, A', gw, ?_⟩
    rw [show checkC C H = abortC C from by unfold checkC; rw [if_pos hr]]
    exact S.sub
  | false =>
    have hr2 : ¬ checkB C H = true := by rw [hr]; decide
    repeat' (first | refine move_p_l S rfl rfl ?_ | refine nilCheck_l S rfl rfl ?_ | refine nilL ?_ | refine run_seq ?_ | refine run_skip ?_ | refine run_region ?_ | refine fieldAddr_l S rfl rfl rfl ?_ | refine load_i_l S rfl rfl rfl rfl ?_ | refine move_s_l S rfl rfl ?_ | refine move_i_l S rfl rfl ?_ | (refine storeN_l S rfl rfl ⟨rfl, rfl⟩ rfl ?_; clear S; intro w S) | (refine store_i S rfl rfl rfl ?_; clear S; intro w S) | refine add_l S rfl rfl (wrap_in (by omega)) rfl ?_ | refine len_l S rfl rfl ?_ | (refine eql_l S rfl rfl rfl ?_ ?_ <;> intro hcmp <;> try (exfalso; first | omega | exact hcmp (by decide) | exact absurd hcmp (by decide))) | (apply build7_l S; (· repeat (first | exact mapN | apply mapC_i rfl | apply mapC_b rfl | apply mapC_p rfl | apply mapC_s rfl | apply mapC_e rfl | apply mapC_a rfl | apply mapC_o rfl)); (· rfl); (· rfl)) | refine run_ret ?_ | refine run_cond_true rfl ?_ | refine run_cond_false rfl ?_ | refine thenQ_n ?_ | refine retC_l S rfl ?_)
    · rw [cmC_done, cmC_at] at S
      refine ⟨by unfold checkEv; rw [if_neg hr2]; rfl, ?_⟩
      rw [show checkC C H = { C with done := C.done + 1, at_ := 4 } from by unfold checkC; rw [if_neg hr2, if_pos (by omega)]]
      exact st_shut (C' := { C with done := C.done + 1, at_ := 4 }) rfl rfl rfl rfl rfl S.sub
    · rw [cmC_done] at S
      refine ⟨by unfold checkEv; rw [if_neg hr2]; rfl, ?_⟩
      rw [show checkC C H = { C with done := C.done + 1 } from by unfold checkC; rw [if_neg hr2, if_neg (by omega)]]
      exact st_shut (C' := { C with done := C.done + 1 }) rfl rfl rfl rfl rfl S.sub
end
end Go.Proofs.YtpiodhdbdlfnhaaGreatDoor
