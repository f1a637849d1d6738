/- commit: Step. commit: New; the law package's made. -/
import Derived.Test.YtpiodhdbdlfnhaaGreatDoorCmD
namespace Go.Proofs.YtpiodhdbdlfnhaaGreatDoor
open Go.RowKit Go.Lib
set_option linter.unusedVariables false
set_option maxHeartbeats 4000000
theorem buildArr_l {S : Nat → Prop} {w₀ : World} {L : List Res} {P : Program} {ops : Array Oper} {n : Nat} {rest : List Oper} {t : Tm} {w : World} {K : Tm → World → Prop} {d : Nat} {ty : TypeId} {pos : String} {af : Array Edge} (hS : Sat S w₀ w L) {T : TypeId} {parts : List (Nat × Operand)} {ps : List (Nat × Value)} {l : List Value} (hp : parts.map (fun p => (p.1, ev t p.2)) = ps) (hb : P.built T ps = some l.toArray) (hd : Nat.blt d n = true)
    (kk : RunL P ops n rest (upd t d (aggV l)) w K) : RunL P ops n (⟨some d, .build T parts.toArray, ty, pos, af, none⟩ :: rest) t w K := valL rfl rfl hd (by
  show Sem.run P (do pure (Next.value (← Instr.build T (parts.toArray.map fun (i, x) => (i, ev t x))))) w = _
  have : (parts.toArray.map fun (i, x) => (i, ev t x)) = ps.toArray := by rw [← hp]; simp
  rw [this, Sem.run_bind, run_build w T ps.toArray l.toArray (by simpa using hb), aggV_eq]
  rfl) kk
/-- What a commit may be asked on a heap. -/
structure Pre (C : CmS) (H : HeapS) : Prop where
  writes : C.writes.length ≤ 1000
  locks : 0 < H.locks.length
  at1 : 1 ≤ C.at_ ∧ C.at_ ≤ 8
  clock : H.clock ≤ 1099511627776 ∧ 0 ≤ H.clock
  lock : C.at_ = 1 → fitsB C H = true → C.owned.length < (strL C H).length
  check : C.at_ = 3 → 0 ≤ C.done ∧ C.done < (allI C.st C.hs).length
  store : C.at_ = 5 → 0 ≤ C.done ∧ C.done < C.writes.length
  free : C.at_ = 6 ∨ C.at_ = 7 → C.owned ≠ []
def goC (C : CmS) (H : HeapS) : CmS := match C.at_ with | 1 => lockC C H | 2 => bumpC C H | 3 => checkC C H | 4 => commitC C | 5 => storeC C | _ => leastC C
def goH (C : CmS) (H : HeapS) : HeapS := match C.at_ with | 1 => lockH C H | 2 => bumpH H | 5 => setH H (C.writes.getD C.done.toNat (0, 0)).1 (C.writes.getD C.done.toNat (0, 0)).2 | 6 => freeH H (C.owned.getD 0 0) C.thread C.wv | 7 => letH H (C.owned.getD 0 0) C.thread | _ => H
def goEv (C : CmS) (H : HeapS) : EvS := match C.at_ with
  | 1 => lockEv C H | 2 => bumpEv H | 3 => checkEv C H | 4 => ⟨7, 0, 0, C.wv, 0, 0⟩ | 5 => ⟨8, 0, (C.writes.getD C.done.toNat (0, 0)).1, 0, (C.writes.getD C.done.toNat (0, 0)).2, 0⟩ | 6 => ⟨9, 0, C.owned.getD 0 0, 0, 0, 0⟩ | _ => ⟨11, 0, C.owned.getD 0 0, 0, 0, 0⟩
def stepE (C : CmS) (H : HeapS) : Int := if C.at_ = 8 then 7 else if fitsB C H = true then 0 else 1
def stepC (C : CmS) (H : HeapS) : CmS := if stepE C H = 0 then goC C H else C
def stepH (C : CmS) (H : HeapS) : HeapS := if stepE C H = 0 then goH C H else H
def stepEv (C : CmS) (H : HeapS) : EvS := if stepE C H = 0 then { goEv C H with thread := C.thread } else ⟨0, 0, 0, 0, 0, 0⟩
theorem goC_thread (C : CmS) (H : HeapS) : (goC C H).thread = C.thread := by
  unfold goC
  split
  · unfold lockC abortC; split <;> rfl
  · unfold bumpC abortC; split <;> rfl
  · unfold checkC abortC; split <;> rfl
  · rfl
  · rfl
  · rfl
section
variable {bc : Nat} {A : CA} {C : CmS} {bh : Nat} {ga va : Option Addr} {gc vc : Nat} {H : HeapS} {w0 : World} (h : Sat (two bc A C bh ga va gc vc H) w0 w0 [cmR bc A C, heapR bh ga va gc vc H])
include h
theorem step_at (p : Pre C H) : Calls Tryz.prog 46 #[.pointer (some ⟨bc, 0, none⟩), .pointer (some ⟨bh, 0, none⟩)] w0 fun e w' => e = .returned (.tuple #[encEv (stepEv C H), .int .i64 (stepE C H)]) ∧ StTo bc A C bh ga va gc vc H (stepC C H) (stepH C H) w0 w' := by
  have S := h
  refine enterC2 Tryz.func46 rfl Tryz.ntmps46 rfl Tryz.results46 ?_
  repeat' (first | refine move_p_l S rfl rfl ?_ | (refine storeN_l S rfl rfl ⟨rfl, rfl⟩ rfl ?_; clear S; intro w S) | refine nilL ?_ | refine run_seq ?_ | refine run_region ?_ | refine onL rfl rfl ?_ | refine assign_i_l S rfl rfl ?_ | refine fieldAddr_l S rfl rfl rfl ?_ | (refine allocZ_l S rfl rfl ?_; clear S; intro b w S) | refine assign_b_l S rfl rfl ?_ | (apply build7_l S; (· repeat (first | exact mapN | apply mapC_i rfl | apply mapC_b rfl | apply mapC_p rfl | apply mapC_s rfl | apply mapC_e rfl | apply mapC_a rfl | apply mapC_o rfl)); (· rfl); (· rfl)) | refine nilCheck_l S rfl rfl ?_ | refine load_i_l S rfl rfl rfl rfl ?_ | refine eqlP_l S rfl rfl rfl ?_ | refine move_b_l S rfl rfl ?_ | refine pick_fb_l S rfl rfl rfl ?_ | (refine eql_l S rfl rfl rfl ?_ ?_ <;> intro hcmp <;> try (exfalso; first | omega | exact hcmp (by decide) | exact absurd hcmp (by decide))) | refine run_block ?_ | refine run_ret ?_ | refine run_cond_true rfl ?_ | refine run_cond_false rfl ?_ | refine thenQ_n ?_ | refine thenQ_r ?_ | refine blockQ_r ?_ | refine retC2_l S rfl rfl ?_)
  · have e : stepE C H = 7 := by unfold stepE; rw [if_pos hcmp]
    have e0 : ¬ stepE C H = 0 := by omega
    unfold stepC stepH stepEv
    rw [if_neg e0, if_neg e0, if_neg e0, e]
    exact ⟨rfl, A, ⟨rfl, rfl⟩, S.sub⟩
  (refine callL (fits_at (S.all (cmR bc A C) (by simp)) (S.all (heapR bh ga va gc vc H) (by simp)) p.locks p.writes) rfl rfl ?_; rintro e w ⟨rfl, hb⟩; replace S := S.below hb; clear hb; refine ⟨_, rfl, ?_⟩)
  obtain ⟨r, hr⟩ : ∃ r, fitsB C H = r := ⟨_, rfl⟩
  rw [hr]
  cases r with
  | false =>
    repeat' (first | (refine storeN_l S rfl rfl ⟨rfl, rfl⟩ rfl ?_; clear S; intro w S) | refine nilL ?_ | refine run_seq ?_ | refine run_region ?_ | refine assign_i_l S rfl rfl ?_ | refine assign_b_l S rfl rfl ?_ | (apply build7_l S; (· repeat (first | exact mapN | apply mapC_i rfl | apply mapC_b rfl | apply mapC_p rfl | apply mapC_s rfl | apply mapC_e rfl | apply mapC_a rfl | apply mapC_o rfl)); (· rfl); (· rfl)) | refine not_l S rfl rfl ?_ | refine run_ret ?_ | refine run_cond_true rfl ?_ | refine thenQ_n ?_ | refine thenQ_r ?_ | refine blockQ_r ?_ | refine retC2_l S rfl rfl ?_)
    have e : stepE C H = 1 := by unfold stepE; rw [if_neg hcmp, hr]; rfl
    have e0 : ¬ stepE C H = 0 := by omega
    unfold stepC stepH stepEv
    rw [if_neg e0, if_neg e0, if_neg e0, e]
    exact ⟨rfl, A, ⟨rfl, rfl⟩, S.sub⟩
  | true =>
    have e : stepE C H = 0 := by unfold stepE; rw [if_neg hcmp, if_pos hr]
    unfold stepC stepH stepEv
    rw [if_pos e, if_pos e, if_pos e, e]
    repeat' (first | refine nilL ?_ | refine run_seq ?_ | refine run_skip ?_ | refine run_region ?_ | refine assign_b_l S rfl rfl ?_ | refine not_l S rfl rfl ?_ | refine run_cond_false rfl ?_ | refine thenQ_n ?_ | refine blockQ_n ?_)
    refine buildArr_l S (ps := [(1, .func (.func 65) #[] #[]), (2, .func (.func 66) #[] #[]), (3, .func (.func 67) #[] #[]), (4, .func (.func 68) #[] #[]), (5, .func (.func 69) #[] #[]), (6, .func (.func 70) #[] #[]), (7, .func (.func 71) #[] #[])]) (l := [.nilFunc, .func (.func 65) #[] #[], .func (.func 66) #[] #[], .func (.func 67) #[] #[], .func (.func 68) #[] #[], .func (.func 69) #[] #[], .func (.func 70) #[] #[], .func (.func 71) #[] #[]]) rfl (by kernel_rfl) rfl ?_
    repeat' (first | refine move_p_l S rfl rfl ?_ | (refine storeN_l S rfl rfl ⟨rfl, rfl⟩ rfl ?_; clear S; intro w S) | refine nilL ?_ | refine run_seq ?_ | refine run_region ?_ | refine fieldAddr_l S rfl rfl rfl ?_ | (refine allocZ_l S rfl rfl ?_; clear S; intro b w S) | refine nilCheck_l S rfl rfl ?_ | refine load_i_l S rfl rfl rfl rfl ?_ | refine thenQ_n ?_)
    have hat : C.at_ = 1 ∨ C.at_ = 2 ∨ C.at_ = 3 ∨ C.at_ = 4 ∨ C.at_ = 5 ∨ C.at_ = 6 ∨ C.at_ = 7 := by have := p.at1; omega
    rcases hat with hat | hat | hat | hat | hat | hat | hat
    · have e1 : goC C H = lockC C H := by unfold goC; rw [hat]; rfl
      have e2 : goH C H = lockH C H := by unfold goH; rw [hat]; rfl
      refine indexArr_l S (o' := 1) rfl rfl (by omega) (by rw [hat]; rfl) rfl ?_
      repeat' (first | refine move_p_l S rfl rfl ?_ | refine load_o_l S rfl rfl rfl rfl ?_)
      rw [e1, e2]
      replace S := S.perm (L' := [cmR bc A C, heapR bh ga va gc vc H, _, _]) (List.perm_append_comm (l₁ := [_, _]) (l₂ := [_, _]))
      refine callV (f := 65) (l1 := []) (l2 := []) (l := [.pointer (some ⟨bc, 0, none⟩), .pointer (some ⟨bh, 0, none⟩)]) rfl (clock_c (S.begin2) (p.lock hat hr) p.writes p.locks) rfl rfl ?_
      rintro e w' ⟨rfl, A', gw, hS⟩
      replace S := S.both hS rfl rfl rfl rfl
      clear hS
      refine ⟨_, rfl, ?_⟩
      repeat' (first | refine move_p_l S rfl rfl ?_ | (refine storeN_l S rfl rfl ⟨rfl, rfl⟩ rfl ?_; clear S; intro w S) | refine nilL ?_ | refine run_seq ?_ | refine run_region ?_ | refine assign_i_l S rfl rfl ?_ | refine fieldAddr_l S rfl rfl rfl ?_ | (refine allocZ_l S rfl rfl ?_; clear S; intro b w S) | refine nilCheck_l S rfl rfl ?_ | refine load_i_l S rfl rfl rfl rfl ?_ | (refine store_i S rfl rfl rfl ?_; clear S; intro w S) | refine loadN_l S rfl rfl rfl ?_ | refine run_ret ?_ | refine thenQ_n ?_ | refine retC2_l S rfl rfl ?_)
      have e3 : goEv C H = lockEv C H := by unfold goEv; rw [hat]; rfl
      have e4 : (lockC C H).thread = C.thread := by rw [← e1]; exact goC_thread C H
      refine ⟨?_, A', gw, S.sub⟩
      rw [e3]
      (rw [e4]; rfl)
    · have e1 : goC C H = bumpC C H := by unfold goC; rw [hat]; rfl
      have e2 : goH C H = bumpH H := by unfold goH; rw [hat]; rfl
      refine indexArr_l S (o' := 2) rfl rfl (by omega) (by rw [hat]; rfl) rfl ?_
      repeat' (first | refine move_p_l S rfl rfl ?_ | refine load_o_l S rfl rfl rfl rfl ?_)
      rw [e1, e2]
      replace S := S.perm (L' := [cmR bc A C, heapR bh ga va gc vc H, _, _]) (List.perm_append_comm (l₁ := [_, _]) (l₂ := [_, _]))
      refine callV (f := 66) (l1 := []) (l2 := []) (l := [.pointer (some ⟨bc, 0, none⟩), .pointer (some ⟨bh, 0, none⟩)]) rfl (cbump_at (S.begin2) p.clock) rfl rfl ?_
      rintro e w' ⟨rfl, A', gw, hS⟩
      replace S := S.both hS rfl rfl rfl rfl
      clear hS
      refine ⟨_, rfl, ?_⟩
      repeat' (first | refine move_p_l S rfl rfl ?_ | (refine storeN_l S rfl rfl ⟨rfl, rfl⟩ rfl ?_; clear S; intro w S) | refine nilL ?_ | refine run_seq ?_ | refine run_region ?_ | refine assign_i_l S rfl rfl ?_ | refine fieldAddr_l S rfl rfl rfl ?_ | (refine allocZ_l S rfl rfl ?_; clear S; intro b w S) | refine nilCheck_l S rfl rfl ?_ | refine load_i_l S rfl rfl rfl rfl ?_ | (refine store_i S rfl rfl rfl ?_; clear S; intro w S) | refine loadN_l S rfl rfl rfl ?_ | refine run_ret ?_ | refine thenQ_n ?_ | refine retC2_l S rfl rfl ?_)
      have e3 : goEv C H = bumpEv H := by unfold goEv; rw [hat]; rfl
      have e4 : (bumpC C H).thread = C.thread := by rw [← e1]; exact goC_thread C H
      refine ⟨?_, A', gw, S.sub⟩
      rw [e3]
      (rw [e4]; rfl)
    · have e1 : goC C H = checkC C H := by unfold goC; rw [hat]; rfl
      have e2 : goH C H = H := by unfold goH; rw [hat]; rfl
      refine indexArr_l S (o' := 3) rfl rfl (by omega) (by rw [hat]; rfl) rfl ?_
      repeat' (first | refine move_p_l S rfl rfl ?_ | refine load_o_l S rfl rfl rfl rfl ?_)
      rw [e1, e2]
      replace S := S.perm (L' := [cmR bc A C, heapR bh ga va gc vc H, _, _]) (List.perm_append_comm (l₁ := [_, _]) (l₂ := [_, _]))
      refine callV (f := 67) (l1 := []) (l2 := []) (l := [.pointer (some ⟨bc, 0, none⟩), .pointer (some ⟨bh, 0, none⟩)]) rfl (ccheck_at (S.begin2) (p.check hat)) rfl rfl ?_
      rintro e w' ⟨rfl, A', gw, hS⟩
      replace S := S.both hS rfl rfl rfl rfl
      clear hS
      refine ⟨_, rfl, ?_⟩
      repeat' (first | refine move_p_l S rfl rfl ?_ | (refine storeN_l S rfl rfl ⟨rfl, rfl⟩ rfl ?_; clear S; intro w S) | refine nilL ?_ | refine run_seq ?_ | refine run_region ?_ | refine assign_i_l S rfl rfl ?_ | refine fieldAddr_l S rfl rfl rfl ?_ | (refine allocZ_l S rfl rfl ?_; clear S; intro b w S) | refine nilCheck_l S rfl rfl ?_ | refine load_i_l S rfl rfl rfl rfl ?_ | (refine store_i S rfl rfl rfl ?_; clear S; intro w S) | refine loadN_l S rfl rfl rfl ?_ | refine run_ret ?_ | refine thenQ_n ?_ | refine retC2_l S rfl rfl ?_)
      have e3 : goEv C H = checkEv C H := by unfold goEv; rw [hat]; rfl
      have e4 : (checkC C H).thread = C.thread := by rw [← e1]; exact goC_thread C H
      refine ⟨?_, A', gw, S.sub⟩
      rw [e3]
      (rw [e4]; rfl)
    · have e1 : goC C H = commitC C := by unfold goC; rw [hat]; rfl
      have e2 : goH C H = H := by unfold goH; rw [hat]; rfl
      refine indexArr_l S (o' := 4) rfl rfl (by omega) (by rw [hat]; rfl) rfl ?_
      repeat' (first | refine move_p_l S rfl rfl ?_ | refine load_o_l S rfl rfl rfl rfl ?_)
      rw [e1, e2]
      replace S := S.perm (L' := [cmR bc A C, heapR bh ga va gc vc H, _, _]) (List.perm_append_comm (l₁ := [_, _]) (l₂ := [_, _]))
      refine callV (f := 68) (l1 := []) (l2 := []) (l := [.pointer (some ⟨bc, 0, none⟩), .pointer (some ⟨bh, 0, none⟩)]) rfl (commit_at (S.all (cmR bc A C) (by simp)) (some ⟨bh, 0, none⟩)) rfl rfl ?_
      rintro e w' ⟨rfl, A', gw, g1, g2, g3⟩
      replace S := S.swap (r := cmR bc A C) (r' := cmR bc A' (commitC C)) rfl g2 g1 rfl g3
      clear g1 g2 g3
      refine ⟨_, rfl, ?_⟩
      repeat' (first | refine move_p_l S rfl rfl ?_ | (refine storeN_l S rfl rfl ⟨rfl, rfl⟩ rfl ?_; clear S; intro w S) | refine nilL ?_ | refine run_seq ?_ | refine run_region ?_ | refine assign_i_l S rfl rfl ?_ | refine fieldAddr_l S rfl rfl rfl ?_ | (refine allocZ_l S rfl rfl ?_; clear S; intro b w S) | refine nilCheck_l S rfl rfl ?_ | refine load_i_l S rfl rfl rfl rfl ?_ | (refine store_i S rfl rfl rfl ?_; clear S; intro w S) | refine loadN_l S rfl rfl rfl ?_ | refine run_ret ?_ | refine thenQ_n ?_ | refine retC2_l S rfl rfl ?_)
      have e3 : goEv C H = ⟨7, 0, 0, C.wv, 0, 0⟩ := by unfold goEv; rw [hat]; rfl
      have e4 : (commitC C).thread = C.thread := by rw [← e1]; exact goC_thread C H
      refine ⟨?_, A', gw, S.sub⟩
      rw [e3]
      (rw [e4]; rfl)
    · have e1 : goC C H = storeC C := by unfold goC; rw [hat]; rfl
      have e2 : goH C H = setH H (C.writes.getD C.done.toNat (0, 0)).1 (C.writes.getD C.done.toNat (0, 0)).2 := by unfold goH; rw [hat]; rfl
      refine indexArr_l S (o' := 5) rfl rfl (by omega) (by rw [hat]; rfl) rfl ?_
      repeat' (first | refine move_p_l S rfl rfl ?_ | refine load_o_l S rfl rfl rfl rfl ?_)
      rw [e1, e2]
      replace S := S.perm (L' := [cmR bc A C, heapR bh ga va gc vc H, _, _]) (List.perm_append_comm (l₁ := [_, _]) (l₂ := [_, _]))
      refine callV (f := 69) (l1 := []) (l2 := []) (l := [.pointer (some ⟨bc, 0, none⟩), .pointer (some ⟨bh, 0, none⟩)]) rfl (cstore_at (S.begin2) (p.store hat) p.writes) rfl rfl ?_
      rintro e w' ⟨rfl, A', gw, hS⟩
      replace S := S.both hS rfl rfl rfl rfl
      clear hS
      refine ⟨_, rfl, ?_⟩
      repeat' (first | refine move_p_l S rfl rfl ?_ | (refine storeN_l S rfl rfl ⟨rfl, rfl⟩ rfl ?_; clear S; intro w S) | refine nilL ?_ | refine run_seq ?_ | refine run_region ?_ | refine assign_i_l S rfl rfl ?_ | refine fieldAddr_l S rfl rfl rfl ?_ | (refine allocZ_l S rfl rfl ?_; clear S; intro b w S) | refine nilCheck_l S rfl rfl ?_ | refine load_i_l S rfl rfl rfl rfl ?_ | (refine store_i S rfl rfl rfl ?_; clear S; intro w S) | refine loadN_l S rfl rfl rfl ?_ | refine run_ret ?_ | refine thenQ_n ?_ | refine retC2_l S rfl rfl ?_)
      have e3 : goEv C H = ⟨8, 0, (C.writes.getD C.done.toNat (0, 0)).1, 0, (C.writes.getD C.done.toNat (0, 0)).2, 0⟩ := by unfold goEv; rw [hat]; rfl
      have e4 : (storeC C).thread = C.thread := by rw [← e1]; exact goC_thread C H
      refine ⟨?_, A', gw, S.sub⟩
      rw [e3]
      (rw [e4]; rfl)
    · have e1 : goC C H = leastC C := by unfold goC; rw [hat]; rfl
      have e2 : goH C H = freeH H (C.owned.getD 0 0) C.thread C.wv := by unfold goH; rw [hat]; rfl
      refine indexArr_l S (o' := 6) rfl rfl (by omega) (by rw [hat]; rfl) rfl ?_
      repeat' (first | refine move_p_l S rfl rfl ?_ | refine load_o_l S rfl rfl rfl rfl ?_)
      rw [e1, e2]
      replace S := S.perm (L' := [cmR bc A C, heapR bh ga va gc vc H, _, _]) (List.perm_append_comm (l₁ := [_, _]) (l₂ := [_, _]))
      refine callV (f := 70) (l1 := []) (l2 := []) (l := [.pointer (some ⟨bc, 0, none⟩), .pointer (some ⟨bh, 0, none⟩)]) rfl (cfree_at (S.begin2) (p.free (.inl hat))) rfl rfl ?_
      rintro e w' ⟨rfl, A', gw, hS⟩
      replace S := S.both hS rfl rfl rfl rfl
      clear hS
      refine ⟨_, rfl, ?_⟩
      repeat' (first | refine move_p_l S rfl rfl ?_ | (refine storeN_l S rfl rfl ⟨rfl, rfl⟩ rfl ?_; clear S; intro w S) | refine nilL ?_ | refine run_seq ?_ | refine run_region ?_ | refine assign_i_l S rfl rfl ?_ | refine fieldAddr_l S rfl rfl rfl ?_ | (refine allocZ_l S rfl rfl ?_; clear S; intro b w S) | refine nilCheck_l S rfl rfl ?_ | refine load_i_l S rfl rfl rfl rfl ?_ | (refine store_i S rfl rfl rfl ?_; clear S; intro w S) | refine loadN_l S rfl rfl rfl ?_ | refine run_ret ?_ | refine thenQ_n ?_ | refine retC2_l S rfl rfl ?_)
      have e3 : goEv C H = ⟨9, 0, C.owned.getD 0 0, 0, 0, 0⟩ := by unfold goEv; rw [hat]; rfl
      have e4 : (leastC C).thread = C.thread := by rw [← e1]; exact goC_thread C H
      refine ⟨?_, A', gw, S.sub⟩
      rw [e3]
      (rw [e4]; rfl)
    · have e1 : goC C H = leastC C := by unfold goC; rw [hat]; rfl
      have e2 : goH C H = letH H (C.owned.getD 0 0) C.thread := by unfold goH; rw [hat]; rfl
      refine indexArr_l S (o' := 7) rfl rfl (by omega) (by rw [hat]; rfl) rfl ?_
      repeat' (first | refine move_p_l S rfl rfl ?_ | refine load_o_l S rfl rfl rfl rfl ?_)
      rw [e1, e2]
      replace S := S.perm (L' := [cmR bc A C, heapR bh ga va gc vc H, _, _]) (List.perm_append_comm (l₁ := [_, _]) (l₂ := [_, _]))
      refine callV (f := 71) (l1 := []) (l2 := []) (l := [.pointer (some ⟨bc, 0, none⟩), .pointer (some ⟨bh, 0, none⟩)]) rfl (cundo_at (S.begin2) (p.free (.inr hat))) rfl rfl ?_
      rintro e w' ⟨rfl, A', gw, hS⟩
      replace S := S.both hS rfl rfl rfl rfl
      clear hS
      refine ⟨_, rfl, ?_⟩
      repeat' (first | refine move_p_l S rfl rfl ?_ | (refine storeN_l S rfl rfl ⟨rfl, rfl⟩ rfl ?_; clear S; intro w S) | refine nilL ?_ | refine run_seq ?_ | refine run_region ?_ | refine assign_i_l S rfl rfl ?_ | refine fieldAddr_l S rfl rfl rfl ?_ | (refine allocZ_l S rfl rfl ?_; clear S; intro b w S) | refine nilCheck_l S rfl rfl ?_ | refine load_i_l S rfl rfl rfl rfl ?_ | (refine store_i S rfl rfl rfl ?_; clear S; intro w S) | refine loadN_l S rfl rfl rfl ?_ | refine run_ret ?_ | refine thenQ_n ?_ | refine retC2_l S rfl rfl ?_)
      have e3 : goEv C H = ⟨11, 0, C.owned.getD 0 0, 0, 0, 0⟩ := by unfold goEv; rw [hat]; rfl
      have e4 : (leastC C).thread = C.thread := by rw [← e1]; exact goC_thread C H
      refine ⟨?_, A', gw, S.sub⟩
      rw [e3]
      (rw [e4]; rfl)
end
end Go.Proofs.YtpiodhdbdlfnhaaGreatDoor
namespace Go.Proofs.YtpiodhdbdlfnhaaGreatDoor
open Go.RowKit Go.Lib
set_option linter.unusedVariables false
set_option maxHeartbeats 4000000
def riseB : Int → List (Int × Int) → Bool
  | _, [] => true
  | l, p :: r => decide (l < p.1 ∧ p.1 < 32) && riseB p.1 r
def newC (thread rv st : Int) (hs : List Bool) (ws : List (Int × Int)) : CmS := ⟨thread, if ws.length = 0 then 4 else 1, rv, st, hs, ws, [], 0, 0, false, false⟩
def NewCm (w0 w' : World) (C : CmS) (v : Value) : Prop := ∃ b A, v = .pointer (some ⟨b, 0, none⟩) ∧ (cmR b A C).holds w' ∧ ∀ k, (cmR b A C).foot k → w0.heap.size ≤ k
theorem nilSl_holds {α : Type} (w : World) (sz : Nat) (h0 : 0 < sz) (enc : α → Nat → Value) (d : α) : (slL none 0 sz enc d []).holds w := ⟨h0, Nat.le_refl _, Nat.zero_le _, fun _ => rfl, .inl rfl⟩
theorem new_fin {w0 w : World} {b bs : Nat} {aw : Option Addr} {cw : Nat} {thread at_ rv st : Int} {hs : List Bool} {ws : List (Int × Int)}
    (S : Sat (fun _ => False) w0 w [blk b 9 (cmC ⟨bs, aw, cw, none, 0⟩ ⟨thread, at_, rv, st, hs, ws, [], 0, 0, false, false⟩) 94, rowL aw cw 57 2 encP (0, 0) ws, setR bs rv st hs]) : NewCm w0 w ⟨thread, at_, rv, st, hs, ws, [], 0, 0, false, false⟩ (.pointer (some ⟨b, 0, none⟩)) := by
  have f1 := S.own (blk b 9 (cmC ⟨bs, aw, cw, none, 0⟩ ⟨thread, at_, rv, st, hs, ws, [], 0, 0, false, false⟩) 94) (by simp) rfl
  have f2 := S.own (rowL aw cw 57 2 encP (0, 0) ws) (by simp) rfl
  have f3 := S.own (setR bs rv st hs) (by simp) rfl
  have S1 := S.perm (L' := [setR bs rv st hs, blk b 9 (cmC ⟨bs, aw, cw, none, 0⟩ ⟨thread, at_, rv, st, hs, ws, [], 0, 0, false, false⟩) 94, rowL aw cw 57 2 encP (0, 0) ws]) (List.perm_append_comm (l₁ := [_]) (l₂ := [_, _]))
  have S2 := S1.toRo (y := roR (setR bs rv st hs)) S1.got1 rfl rfl (fun k hk => hk)
  have S3 := S2.perm (L' := [rowL aw cw 57 2 encP (0, 0) ws, roR (setR bs rv st hs), blk b 9 (cmC ⟨bs, aw, cw, none, 0⟩ ⟨thread, at_, rv, st, hs, ws, [], 0, 0, false, false⟩) 94]) (List.perm_append_comm (l₁ := [_]) (l₂ := [_, _]))
  have S4 := S3.toRo (y := slL aw cw 2 encP (0, 0) ws) (RowOk.sl S3.got1) rfl rfl (fun k hk => hk.2)
  have S5 := S4.push (r := slL none 0 1 encI 0 []) (nilSl_holds w 1 (by decide) encI 0) (fun x hx => .inr fun k hk _ => by
    obtain ⟨_, y, hy, _⟩ := hk; cases hy) (fun e => by cases e)
  have S6 : Sat (fun _ => False) w0 w (cmL b ⟨bs, aw, cw, none, 0⟩ ⟨thread, at_, rv, st, hs, ws, [], 0, 0, false, false⟩) := S5.perm (List.reverse_perm [_, _, _, _]).symm
  refine ⟨b, _, rfl, cm_shut S6, fun k hk => Nat.le_of_not_lt fun hlt => ?_⟩
  rcases hk with hk | hk | hk | hk
  · exact f1 k hk hlt
  · exact f3 k hk hlt
  · exact f2 k hk.2 hlt
  · obtain ⟨_, y, hy, _⟩ := hk; cases hy
def okN (thread : Int) (ws : List (Int × Int)) : Prop := 0 ≤ thread ∧ thread < 6 ∧ riseB (-1) ws = true
theorem riseB_drop {l : Int} {ws : List (Int × Int)} {q : Nat} (h : q < ws.length) : riseB l (ws.drop q) = (decide (l < (ws.getD q (0, 0)).1 ∧ (ws.getD q (0, 0)).1 < 32) && riseB (ws.getD q (0, 0)).1 (ws.drop (q + 1))) := by
  rw [List.getD_eq_getElem?_getD, List.getElem?_eq_getElem h, List.drop_eq_getElem_cons h]; rfl
section
variable {bs : Nat} {rv st : Int} {hs : List Bool} {aw : Option Addr} {cw : Nat} {ws : List (Int × Int)} {w0 : World} (h : (setR bs rv st hs).holds w0) (hw : SlOk w0 aw ws.length cw 2 (gL encP (0, 0) ws))
include h hw
theorem cnew_at (thread : Int) (hn : ws.length ≤ 1000) : Calls Tryz.prog 15 #[.int .i64 thread, .pointer (some ⟨bs, 0, none⟩), .slice aw ws.length cw] w0 fun e w' =>
    ∃ p n, e = .returned (.tuple #[p, .int .i64 n]) ∧ ((okN thread ws ∧ n = 0 ∧ NewCm w0 w' (newC thread rv st hs ws) p) ∨ (¬ okN thread ws ∧ n = 1 ∧ p = .pointer none)) ∧ Below w0.heap.size w0 w' := by
  have S := Sat.reads2 (r := setR bs rv st hs) (r' := slL aw cw 2 encP (0, 0) ws) h hw
  refine enter2 Tryz.func15 rfl Tryz.ntmps15 rfl Tryz.results15 ?_
  repeat' (first | refine assign_i_l S rfl rfl ?_ | refine assign_p_l S rfl rfl ?_ | refine nilL ?_ | refine run_seq ?_ | refine run_skip ?_ | refine run_region ?_ | refine onL rfl rfl ?_ | refine offL rfl rfl rfl rfl ?_ | refine move_i_l S rfl rfl ?_ | refine move_p_l S rfl rfl ?_ | refine move_s_l S rfl rfl ?_ | refine assign_b_l S rfl rfl ?_ | (refine lss_l S rfl rfl rfl ?_ ?_ <;> intro hcmp <;> try (exfalso; first | omega | exact hcmp (by decide) | exact absurd hcmp (by decide))) | refine move_b_l S rfl rfl ?_ | (refine geq_l S rfl rfl rfl ?_ ?_ <;> intro hcmp <;> try (exfalso; first | omega | exact hcmp (by decide) | exact absurd hcmp (by decide))) | refine pick_tb_l S rfl rfl rfl ?_ | refine pick_fb_l S rfl rfl rfl ?_ | refine len_l S rfl rfl ?_ | refine eqlP_l S rfl rfl rfl ?_ | refine run_block ?_ | refine run_ret ?_ | refine run_cond_true rfl ?_ | refine run_cond_false rfl ?_ | refine thenQ_n ?_ | refine thenQ_r ?_ | refine blockQ_n ?_ | refine blockQ_r ?_ | refine ret2_pi rfl rfl ?_)
  · exact ⟨_, _, rfl, .inr ⟨fun e => by have := e.1; omega, rfl, rfl⟩, S.chg.below⟩
  · exact ⟨_, _, rfl, .inr ⟨fun e => by have := e.2.1; omega, rfl, rfl⟩, S.chg.below⟩
  refine run_while [6, 7, 10, 25, 26, 27, 28, 29, 30, 31, 32, 33, 34, 35, 36, 37, 38, 39] (fun (s : Nat × Int) t => upd (upd t 24 (.int .i64 s.1)) 8 (.int .i64 s.2)) (fun s w' => s.1 ≤ ws.length ∧ (riseB (-1) ws = riseB s.2 (ws.drop s.1)) ∧ Sat (fun _ => False) w0 w' [roR (setR bs rv st hs), roR (slL aw cw 2 encP (0, 0) ws)]) (fun s => ws.length - s.1) (0, -1) ?_ ?_ ?_
  · (repeat (first | exact agree_refl | refine agree_r rfl ?_))
  · exact ⟨Nat.zero_le _, rfl, S⟩
  clear S
  rintro ⟨q, l⟩ j w ⟨hq, hr, S⟩
  simp only at hq hr S ⊢
  by_cases hql : q < ws.length
  · rw [riseB_drop hql] at hr
    obtain ⟨x, hx⟩ : ∃ x, (ws.getD q (0, 0)).1 = x := ⟨_, rfl⟩
    rw [hx] at hr
    repeat' (first | refine assign_i_l S rfl rfl ?_ | refine assign_p_l S rfl rfl ?_ | refine nilL ?_ | refine run_seq ?_ | refine run_skip ?_ | refine run_region ?_ | refine onL rfl rfl ?_ | refine offL rfl rfl rfl rfl ?_ | refine move_i_l S rfl rfl ?_ | refine fieldAddr_l S rfl rfl rfl ?_ | refine load_i_l S rfl rfl rfl rfl ?_ | (refine lss_l S rfl rfl rfl ?_ ?_ <;> intro hcmp <;> try (exfalso; first | omega | exact hcmp (by decide) | exact absurd hcmp (by decide))) | refine move_b_l S rfl rfl ?_ | (refine geq_l S rfl rfl rfl ?_ ?_ <;> intro hcmp <;> try (exfalso; first | omega | exact hcmp (by decide) | exact absurd hcmp (by decide))) | refine pick_tb_l S rfl rfl rfl ?_ | refine pick_fb_l S rfl rfl rfl ?_ | refine indexAddr_l S rfl rfl (idx_cast _) (by first | omega | decide | (simp; done) | (simp; omega)) rfl ?_ | refine loadEN_l S rfl (by first | omega | decide | (simp; done) | (simp; omega)) rfl rfl ?_ | (refine allocZ_l S rfl rfl ?_; clear S; intro b w S) | (refine storeN_l S rfl rfl ⟨rfl, rfl⟩ rfl ?_; clear S; intro w S) | (refine leq_l S rfl rfl rfl ?_ ?_ <;> intro hcmp <;> try (exfalso; first | omega | exact hcmp (by decide) | exact absurd hcmp (by decide))) | refine add_l S rfl rfl (wrap_in (by omega)) rfl ?_ | refine run_block ?_ | refine run_ret ?_ | refine run_cond_true rfl ?_ | refine run_cond_false rfl ?_ | refine thenQ_n ?_ | refine thenQ_r ?_ | refine blockQ_n ?_ | refine blockQ_r ?_ | refine ret2_pi rfl rfl ?_)
    all_goals rw [hx] at *
    · exact ⟨_, _, rfl, .inr ⟨fun e => Bool.noConfusion ((e.2.2.symm.trans hr).trans (by rw [decide_eq_false (by omega), Bool.false_and])), rfl, rfl⟩, S.chg.below⟩
    · exact ⟨_, _, rfl, .inr ⟨fun e => Bool.noConfusion ((e.2.2.symm.trans hr).trans (by rw [decide_eq_false (by omega), Bool.false_and])), rfl, rfl⟩, S.chg.below⟩
    · refine ⟨(q + 1, x), ?_, ⟨by simp only; omega, ?_, S.sub⟩, by simp only; omega⟩
      · simp only
        rw [Int.natCast_add]
        (repeat (first | exact agree_refl | refine agree_r rfl ?_ | refine agree_l rfl ?_ | refine agree_hv rfl ?_))
      · rw [hr, decide_eq_true (by omega)]; rfl
  · have hok : okN thread ws := ⟨by omega, by omega, by rw [hr, List.drop_of_length_le (by omega)]; rfl⟩
    repeat' (first | refine nilL ?_ | refine run_seq ?_ | refine run_region ?_ | refine move_i_l S rfl rfl ?_ | refine move_p_l S rfl rfl ?_ | (refine lss_l S rfl rfl rfl ?_ ?_ <;> intro hcmp <;> try (exfalso; first | omega | exact hcmp (by decide) | exact absurd hcmp (by decide))) | refine run_exit ?_ | refine run_cond_false rfl ?_ | refine thenQ_n ?_ | refine thenQ_e ?_ | refine blockQ_s rfl ?_)
    refine callL (scopy_at (S.all (roR (setR bs rv st hs)) (by simp))) rfl rfl ?_
    rintro e w' ⟨_, rfl, ⟨b2, rfl, g1, g2⟩, hb⟩
    replace S := S.freshSet hb g1 g2
    clear hb g1 g2
    refine ⟨_, rfl, ?_⟩
    repeat' (refine move_s_l S rfl rfl ?_)
    refine callL (cloneP_at aw cw ws (by omega) _ (S.all (roR (slL aw cw 2 encP (0, 0) ws)) (by simp))) rfl rfl ?_
    rintro e w' ⟨_, rfl, ⟨ra, rc, rfl, hh, hf⟩, hb⟩
    replace S := Sat.freshRow S hb hh hf
    clear hb hh hf
    refine ⟨_, rfl, ?_⟩
    repeat' (first | refine assign_i_l S rfl rfl ?_ | refine assign_p_l S rfl rfl ?_ | refine nilL ?_ | refine run_seq ?_ | refine run_skip ?_ | refine run_region ?_ | refine move_p_l S rfl rfl ?_ | refine fieldAddr_l S rfl rfl rfl ?_ | refine move_s_l S rfl rfl ?_ | refine len_l S rfl rfl ?_ | (apply build9_l S; (· repeat (first | exact mapN | apply mapC_i rfl | apply mapC_b rfl | apply mapC_p rfl | apply mapC_s rfl | apply mapC_e rfl | apply mapC_a rfl | apply mapC_o rfl)); (· rfl); (· rfl)) | (refine box_a S rfl rfl rfl ?_; clear S; intro b w S) | (refine eql_l S rfl rfl rfl ?_ ?_ <;> intro hcmp <;> try (exfalso; first | omega | exact hcmp (by decide) | exact absurd hcmp (by decide))) | refine nilCheck_l S rfl rfl ?_ | (refine store_i S rfl rfl rfl ?_; clear S; intro w S) | refine run_ret ?_ | refine run_cond_true rfl ?_ | refine run_cond_false rfl ?_ | refine thenQ_n ?_ | refine ret2_pi rfl rfl ?_)
    · have e : newC thread rv st hs ws = ⟨thread, 4, rv, st, hs, ws, [], 0, 0, false, false⟩ := by unfold newC; rw [if_pos (by omega)]
      replace S := S.turn1 (r' := blk b 9 (cmC ⟨b2, ra, rc, none, 0⟩ ⟨thread, 4, rv, st, hs, ws, [], 0, 0, false, false⟩) 94) S.got1 rfl (fun k e => e)
      have N := new_fin (S.sub (L' := [blk b 9 (cmC ⟨b2, ra, rc, none, 0⟩ ⟨thread, 4, rv, st, hs, ws, [], 0, 0, false, false⟩) 94, rowL ra rc 57 2 encP (0, 0) ws, setR b2 rv st hs]))
      rw [← e] at N
      exact ⟨_, _, rfl, .inl ⟨hok, rfl, N⟩, S.chg.below⟩
    · have e : newC thread rv st hs ws = ⟨thread, 1, rv, st, hs, ws, [], 0, 0, false, false⟩ := by unfold newC; rw [if_neg (by omega)]
      replace S := S.turn1 (r' := blk b 9 (cmC ⟨b2, ra, rc, none, 0⟩ ⟨thread, 1, rv, st, hs, ws, [], 0, 0, false, false⟩) 94) S.got1 rfl (fun k e => e)
      have N := new_fin (S.sub (L' := [blk b 9 (cmC ⟨b2, ra, rc, none, 0⟩ ⟨thread, 1, rv, st, hs, ws, [], 0, 0, false, false⟩) 94, rowL ra rc 57 2 encP (0, 0) ws, setR b2 rv st hs]))
      rw [← e] at N
      exact ⟨_, _, rfl, .inl ⟨hok, rfl, N⟩, S.chg.below⟩
end
end Go.Proofs.YtpiodhdbdlfnhaaGreatDoor
