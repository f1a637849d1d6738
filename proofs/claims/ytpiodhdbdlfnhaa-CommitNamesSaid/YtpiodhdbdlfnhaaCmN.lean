/- commit: Copy; nil; what the closed statement asks besides; the law CommitNames. -/
import Derived.Test.YtpiodhdbdlfnhaaCmX
namespace Go.Proofs.Ytpiodhdbdlfnhaa
open Go.RowKit Go.Lib
set_option linter.unusedVariables false
set_option linter.unusedSimpArgs false
set_option maxHeartbeats 8000000
set_option maxRecDepth 100000
section
variable (w0 : World)
theorem cwhere_nil : Calls Try.prog 25 #[.pointer none] w0 fun e w' => e = .returned (.int .u8 0) ∧ Below w0.heap.size w0 w' := by
  have S := Sat.start (fun _ => False) w0
  refine enter1 Try.func25 rfl Try.ntmps25 rfl Try.results25 ?_
  repeat' (first | refine assign_i_l S rfl rfl ?_ | refine move_p_l S rfl rfl ?_ | refine nilL ?_ | refine run_seq ?_ | refine run_region ?_ | refine eqlP_l S rfl rfl rfl ?_ | refine run_ret ?_ | refine run_cond_true rfl ?_ | refine thenQ_n ?_ | refine thenQ_r ?_ | refine ret1_i rfl ?_)
  exact ⟨rfl, S.chg.below⟩
theorem cover_nil : Calls Try.prog 26 #[.pointer none] w0 fun e w' => e = .returned (.bool false) ∧ Below w0.heap.size w0 w' := by
  have S := Sat.start (fun _ => False) w0
  refine enter1 Try.func26 rfl Try.ntmps26 rfl Try.results26 ?_
  repeat' (first | refine assign_b_l S rfl rfl ?_ | refine move_p_l S rfl rfl ?_ | refine nilL ?_ | refine run_seq ?_ | refine run_region ?_ | refine offL rfl rfl rfl rfl ?_ | refine neqP_l S rfl rfl rfl ?_ | refine move_b_l S rfl rfl ?_ | refine pick_fb_l S rfl rfl rfl ?_ | refine run_ret ?_ | refine thenQ_n ?_ | refine ret1_b rfl ?_)
  exact ⟨rfl, S.chg.below⟩
theorem ccommitted_nil : Calls Try.prog 17 #[.pointer none] w0 fun e w' => e = .returned (.bool false) ∧ Below w0.heap.size w0 w' := by
  have S := Sat.start (fun _ => False) w0
  refine enter1 Try.func17 rfl Try.ntmps17 rfl Try.results17 ?_
  repeat' (first | refine assign_b_l S rfl rfl ?_ | refine move_p_l S rfl rfl ?_ | refine nilL ?_ | refine run_seq ?_ | refine run_region ?_ | refine offL rfl rfl rfl rfl ?_ | refine neqP_l S rfl rfl rfl ?_ | refine move_b_l S rfl rfl ?_ | refine pick_fb_l S rfl rfl rfl ?_ | refine run_ret ?_ | refine thenQ_n ?_ | refine ret1_b rfl ?_)
  exact ⟨rfl, S.chg.below⟩
theorem cfull_nil : Calls Try.prog 27 #[.pointer none] w0 fun e w' => e = .returned (.bool false) ∧ Below w0.heap.size w0 w' := by
  have S := Sat.start (fun _ => False) w0
  refine enter1 Try.func27 rfl Try.ntmps27 rfl Try.results27 ?_
  repeat' (first | refine assign_b_l S rfl rfl ?_ | refine move_p_l S rfl rfl ?_ | refine nilL ?_ | refine run_seq ?_ | refine run_region ?_ | refine offL rfl rfl rfl rfl ?_ | refine neqP_l S rfl rfl rfl ?_ | refine move_b_l S rfl rfl ?_ | refine pick_fb_l S rfl rfl rfl ?_ | refine run_ret ?_ | refine thenQ_n ?_ | refine ret1_b rfl ?_)
  exact ⟨rfl, S.chg.below⟩
theorem cwv_nil : Calls Try.prog 24 #[.pointer none] w0 fun e w' => e = .returned (.int .i64 0) ∧ Below w0.heap.size w0 w' := by
  have S := Sat.start (fun _ => False) w0
  refine enter1 Try.func24 rfl Try.ntmps24 rfl Try.results24 ?_
  repeat' (first | refine assign_i_l S rfl rfl ?_ | refine move_p_l S rfl rfl ?_ | refine nilL ?_ | refine run_seq ?_ | refine run_region ?_ | refine eqlP_l S rfl rfl rfl ?_ | refine run_ret ?_ | refine run_cond_true rfl ?_ | refine thenQ_n ?_ | refine thenQ_r ?_ | refine ret1_i rfl ?_)
  exact ⟨rfl, S.chg.below⟩
theorem cowned_nil : Calls Try.prog 19 #[.pointer none] w0 fun e w' => e = .returned (.slice none 0 0) ∧ Below w0.heap.size w0 w' := by
  have S := Sat.start (fun _ => False) w0
  refine enter1 Try.func19 rfl Try.ntmps19 rfl Try.results19 ?_
  repeat' (first | refine assign_s_l S rfl rfl ?_ | refine move_p_l S rfl rfl ?_ | refine nilL ?_ | refine run_seq ?_ | refine run_region ?_ | refine eqlP_l S rfl rfl rfl ?_ | refine run_ret ?_ | refine run_cond_true rfl ?_ | refine thenQ_n ?_ | refine thenQ_r ?_ | refine ret1_s rfl ?_)
  exact ⟨rfl, S.chg.below⟩
theorem cpending_nil : Calls Try.prog 28 #[.pointer none] w0 fun e w' => e = .returned (.slice none 0 0) ∧ Below w0.heap.size w0 w' := by
  have S := Sat.start (fun _ => False) w0
  refine enter1 Try.func28 rfl Try.ntmps28 rfl Try.results28 ?_
  repeat' (first | refine assign_s_l S rfl rfl ?_ | refine move_p_l S rfl rfl ?_ | refine nilL ?_ | refine run_seq ?_ | refine run_region ?_ | refine offL rfl rfl rfl rfl ?_ | refine eqlP_l S rfl rfl rfl ?_ | refine move_b_l S rfl rfl ?_ | refine pick_tb_l S rfl rfl rfl ?_ | refine run_ret ?_ | refine run_cond_true rfl ?_ | refine thenQ_n ?_ | refine thenQ_r ?_ | refine ret1_s rfl ?_)
  exact ⟨rfl, S.chg.below⟩
theorem ccopy_nil : Calls Try.prog 29 #[.pointer none] w0 fun e w' => e = .returned (.pointer none) ∧ Below w0.heap.size w0 w' := by
  have S := Sat.start (fun _ => False) w0
  refine enter1 Try.func29 rfl Try.ntmps29 rfl Try.results29 ?_
  repeat' (first | refine assign_p_l S rfl rfl ?_ | refine move_p_l S rfl rfl ?_ | refine nilL ?_ | refine run_seq ?_ | refine run_region ?_ | refine eqlP_l S rfl rfl rfl ?_ | refine run_ret ?_ | refine run_cond_true rfl ?_ | refine thenQ_n ?_ | refine thenQ_r ?_ | refine ret1_p rfl ?_)
  exact ⟨rfl, S.chg.below⟩
theorem cnew_nil (thread : Int) (a : Option Addr) (n cap : Nat) : Calls Try.prog 31 #[.int .i64 thread, .pointer none, .slice a n cap] w0 fun e w' => e = .returned (.tuple #[.pointer none, .int .i64 2]) ∧ Below w0.heap.size w0 w' := by
  have S := Sat.start (fun _ => False) w0
  refine enter2 Try.func31 rfl Try.ntmps31 rfl Try.results31 ?_
  repeat' (first | refine assign_i_l S rfl rfl ?_ | refine assign_p_l S rfl rfl ?_ | refine nilL ?_ | refine run_seq ?_ | refine run_region ?_ | refine move_p_l S rfl rfl ?_ | refine assign_b_l S rfl rfl ?_ | refine eqlP_l S rfl rfl rfl ?_ | refine run_block ?_ | refine run_ret ?_ | refine run_cond_true rfl ?_ | refine thenQ_n ?_ | refine thenQ_r ?_ | refine blockQ_r ?_ | refine ret2_pi rfl rfl ?_)
  exact ⟨rfl, S.chg.below⟩
theorem cstep_nil (hp : Option Addr) : Calls Try.prog 18 #[.pointer none, .pointer hp] w0 fun e w' => e = .returned (.tuple #[encEv ⟨0, 0, 0, 0, 0, 0⟩, .int .i64 2]) ∧ Below w0.heap.size w0 w' := by
  have S := Sat.start (fun _ => False) w0
  refine enterC2 Try.func18 rfl Try.ntmps18 rfl Try.results18 ?_
  repeat' (first | refine move_p_l S rfl rfl ?_ | (refine storeN_l S rfl rfl ⟨rfl, rfl⟩ rfl ?_; clear S; intro w S) | refine nilL ?_ | refine run_seq ?_ | refine run_region ?_ | refine offL rfl rfl rfl rfl ?_ | refine assign_i_l S rfl rfl ?_ | (refine allocZ_l S rfl rfl ?_; clear S; intro b w S) | refine assign_b_l S rfl rfl ?_ | (apply build7_l S; (· repeat (first | exact mapN | apply mapC_i rfl | apply mapC_b rfl | apply mapC_p rfl | apply mapC_s rfl | apply mapC_e rfl | apply mapC_a rfl | apply mapC_o rfl)); (· rfl); (· rfl)) | refine eqlP_l S rfl rfl rfl ?_ | refine move_b_l S rfl rfl ?_ | refine pick_tb_l S rfl rfl rfl ?_ | refine run_block ?_ | refine run_ret ?_ | refine run_cond_true rfl ?_ | refine thenQ_n ?_ | refine thenQ_r ?_ | refine blockQ_r ?_ | refine retC2_l S rfl rfl ?_)
  exact ⟨rfl, S.chg.below⟩
theorem cstep_nilh (b : Nat) : Calls Try.prog 18 #[.pointer (some ⟨b, 0, none⟩), .pointer none] w0 fun e w' => e = .returned (.tuple #[encEv ⟨0, 0, 0, 0, 0, 0⟩, .int .i64 2]) ∧ Below w0.heap.size w0 w' := by
  have S := Sat.start (fun _ => False) w0
  refine enterC2 Try.func18 rfl Try.ntmps18 rfl Try.results18 ?_
  repeat' (first | refine move_p_l S rfl rfl ?_ | (refine storeN_l S rfl rfl ⟨rfl, rfl⟩ rfl ?_; clear S; intro w S) | refine nilL ?_ | refine run_seq ?_ | refine run_region ?_ | refine onL rfl rfl ?_ | refine assign_i_l S rfl rfl ?_ | (refine allocZ_l S rfl rfl ?_; clear S; intro b w S) | refine assign_b_l S rfl rfl ?_ | (apply build7_l S; (· repeat (first | exact mapN | apply mapC_i rfl | apply mapC_b rfl | apply mapC_p rfl | apply mapC_s rfl | apply mapC_e rfl | apply mapC_a rfl | apply mapC_o rfl)); (· rfl); (· rfl)) | refine eqlP_l S rfl rfl rfl ?_ | refine move_b_l S rfl rfl ?_ | refine pick_fb_l S rfl rfl rfl ?_ | refine run_block ?_ | refine run_ret ?_ | refine run_cond_true rfl ?_ | refine thenQ_n ?_ | refine thenQ_r ?_ | refine blockQ_r ?_ | refine retC2_l S rfl rfl ?_)
  exact ⟨rfl, S.chg.below⟩
end
/-- Of a commit that is over only its block is asked. -/
theorem cstep_over {bc : Nat} {A : CA} {C : CmS} {w0 : World} (h : (blk bc 9 (cmC A C) 88).holds w0) (h8 : C.at_ = 8) (bh : Nat) :
    Calls Try.prog 18 #[.pointer (some ⟨bc, 0, none⟩), .pointer (some ⟨bh, 0, none⟩)] w0 fun e w' => e = .returned (.tuple #[encEv ⟨0, 0, 0, 0, 0, 0⟩, .int .i64 7]) ∧ Below w0.heap.size w0 w' := by
  have S := Sat.reads (r := blk bc 9 (cmC A C) 88) h
  refine enterC2 Try.func18 rfl Try.ntmps18 rfl Try.results18 ?_
  repeat' (first | refine move_p_l S rfl rfl ?_ | (refine storeN_l S rfl rfl ⟨rfl, rfl⟩ rfl ?_; clear S; intro w S) | refine nilL ?_ | refine run_seq ?_ | refine run_region ?_ | refine onL rfl rfl ?_ | refine assign_i_l S rfl rfl ?_ | refine fieldAddr_l S rfl rfl rfl ?_ | (refine allocZ_l S rfl rfl ?_; clear S; intro b w S) | refine assign_b_l S rfl rfl ?_ | (apply build7_l S; (· repeat (first | exact mapN | apply mapC_i rfl | apply mapC_b rfl | apply mapC_p rfl | apply mapC_s rfl | apply mapC_e rfl | apply mapC_a rfl | apply mapC_o rfl)); (· rfl); (· rfl)) | refine nilCheck_l S rfl rfl ?_ | refine load_i_l S rfl rfl rfl rfl ?_ | refine eqlP_l S rfl rfl rfl ?_ | refine move_b_l S rfl rfl ?_ | refine pick_fb_l S rfl rfl rfl ?_ | (refine eql_l S rfl rfl rfl ?_ ?_ <;> intro hcmp <;> try (exfalso; first | omega | exact hcmp (by decide) | exact absurd hcmp (by decide))) | refine run_block ?_ | refine run_ret ?_ | refine run_cond_true rfl ?_ | refine run_cond_false rfl ?_ | refine thenQ_n ?_ | refine thenQ_r ?_ | refine blockQ_r ?_ | refine retC2_l S rfl rfl ?_)
  all_goals first
    | exact ⟨rfl, S.chg.below⟩
    | exact absurd h8 hcmp
theorem cmC_bs (A : CA) (C : CmS) (z : Nat) : upd (cmC A C) (0 + 2) (.pointer (some ⟨z, 0, none⟩)) = cmC { A with bs := z } C := by
  funext i
  match i with
  | 0 => rfl
  | 1 => rfl
  | 2 => rfl
  | 3 => rfl
  | 4 => rfl
  | 5 => rfl
  | 6 => rfl
  | 7 => rfl
  | 8 => rfl
  | i + 9 => rfl
/-- Copy has a block and a set of its own, and the same writes. -/
theorem ccopy_at {bc : Nat} {A : CA} {C : CmS} {w0 : World} (h : (cmR bc A C).holds w0) :
    Calls Try.prog 29 #[.pointer (some ⟨bc, 0, none⟩)] w0 fun e w' => ∃ b2 bs2, e = .returned (.pointer (some ⟨b2, 0, none⟩)) ∧ Sat (fun _ => False) w0 w' [blk b2 9 (cmC { A with bs := bs2 } C) 88, setR bs2 C.rv C.st C.hs] := by
  have S := Sat.reads h
  refine enter1 Try.func29 rfl Try.ntmps29 rfl Try.results29 ?_
  repeat' (first | refine assign_p_l S rfl rfl ?_ | refine move_p_l S rfl rfl ?_ | refine nilL ?_ | refine run_seq ?_ | refine run_skip ?_ | refine run_region ?_ | refine nilCheck_l S rfl rfl ?_ | refine fieldAddr_l S rfl rfl rfl ?_ | refine eqlP_l S rfl rfl rfl ?_ | refine loadN_l S rfl rfl rfl ?_ | (refine allocZ_l S rfl rfl ?_; clear S; intro b w S) | (refine storeN_l S rfl rfl ⟨rfl, rfl⟩ rfl ?_; clear S; intro w S) | refine load_p_l S rfl rfl rfl rfl ?_ | refine run_cond_false rfl ?_ | refine thenQ_n ?_)
  obtain ⟨b2, hb2⟩ : ∃ x, x = b := ⟨_, rfl⟩
  subst hb2
  replace S := S.turn1 (r' := blk b2 9 (cmC A C) 88) S.got1 rfl (fun k e => e)
  skip
  refine callL (scopy_at (S.all (roR (cmR bc A C)) (by simp) : (cmR bc A C).holds w).1.2.1) rfl rfl ?_
  rintro e w' ⟨_, rfl, ⟨bs2, rfl, g1, g2⟩, hb⟩
  replace S := S.freshSet hb g1 g2
  clear hb g1 g2
  refine ⟨_, rfl, ?_⟩
  repeat' (first | refine assign_p_l S rfl rfl ?_ | refine nilL ?_ | refine run_seq ?_ | refine run_region ?_ | refine fieldAddr_l S rfl rfl rfl ?_ | (refine store_p S rfl rfl rfl ?_; clear S; intro w S) | refine run_ret ?_ | refine thenQ_n ?_ | refine ret1_p rfl ?_)
  rw [cmC_bs] at S
  exact ⟨b2, bs2, rfl, (S.sub (L' := [setR bs2 C.rv C.st C.hs, blk b2 9 (cmC { A with bs := bs2 } C) 88])).sw⟩
section
variable {S : Nat → Prop} {w₀ : World} {L : List Res}
variable {P : Program} {ops : Array Oper} {n : Nat} {t : Tm} {KQ : Tm → Prop} {d : Nat} {ty : TypeId} {pos : String} {af : Array Edge} {x y : Operand} {T T' : TypeId} {ks : List IntKind} [hT : TyEqI P T ks] (l1 l2 : List Int)
include hT
theorem neqCn_x (hx : ev t x = aggV (List.zipWith (fun k a => Value.int k a) ks l1)) (hy : ev t y = aggV (List.zipWith (fun k a => Value.int k a) ks l2)) (h1 : l1.length = ks.length) (h2 : l2.length = ks.length) (hd : Nat.blt d n = true) (kk : KQ (upd t d (.bool (decide (l1 ≠ l2))))) :
    QX P ops n S w₀ L ⟨some d, .binOp .neq T x y T', ty, pos, af, none⟩ t KQ := valX rfl rfl hd (fun w hS => aggI_run (ks := ks) true hx hy h1 h2) kk
end
theorem pairsE_at {a a2 : Option Addr} {cap cap2 : Nat} {l l2 : List (Int × Int)} {w0 : World} (h : SlOk w0 a l.length cap 2 (gL encP (0, 0) l)) (h2 : SlOk w0 a2 l2.length cap2 2 (gL encP (0, 0) l2)) :
    Calls Try.prog 32 #[.slice a l.length cap, .slice a2 l2.length cap2] w0 fun e w' => e = .returned (.bool (decide (l = l2))) ∧ Below w0.heap.size w0 w' := by
  have S : Sat (fun _ => False) w0 w0 [roR (slL a cap 2 encP (0, 0) l), roR (slL a2 cap2 2 encP (0, 0) l2)] := ((Sat.start _ w0).ro (r := roR (slL a2 cap2 2 encP (0, 0) l2)) h2 rfl rfl).ro (r := roR (slL a cap 2 encP (0, 0) l)) h rfl rfl
  refine enter1 Try.func32 rfl Try.ntmps32 rfl Try.results32 ?_
  repeat' (first | refine assign_b_l S rfl rfl ?_ | refine move_s_l S rfl rfl ?_ | refine len_l S rfl rfl ?_ | refine nilL ?_ | refine run_seq ?_ | refine run_skip ?_ | refine run_region ?_ | refine assign_i_l S rfl rfl ?_ | (refine neq_l S rfl rfl rfl ?_ ?_ <;> intro hcmp <;> try (exfalso; first | omega | exact hcmp (by decide) | exact absurd hcmp (by decide))) | refine run_block ?_ | refine run_ret ?_ | refine run_cond_true rfl ?_ | refine run_cond_false rfl ?_ | refine thenQ_n ?_ | refine thenQ_r ?_ | refine ret1_b rfl ?_)
  · exact ⟨by rw [decide_eq_false (fun e => hcmp (by rw [e]))], S.chg.below⟩
  have hll : l.length = l2.length := by omega
  have hsm := h.small
  refine run_while [4, 11, 12, 13, 14, 15, 16, 17, 18, 19, 20, 21, 22, 23, 24, 25] (fun (k : Nat) t => upd t 5 (.int .i64 k)) (fun k w' => (k ≤ l.length ∧ l.take k = l2.take k) ∧ Sat (fun _ => False) w0 w' [roR (slL a cap 2 encP (0, 0) l), roR (slL a2 cap2 2 encP (0, 0) l2)]) (fun k => l.length - k) 0 ?_ ?_ ?_
  · (repeat (first | exact agree_refl | refine agree_r rfl ?_ | refine agree_l rfl ?_ | refine agree_hv rfl ?_))
  · exact ⟨⟨Nat.zero_le _, rfl⟩, S⟩
  clear S
  rintro k j w ⟨⟨hk, he⟩, S⟩
  by_cases hkl : k < l.length
  · have e1 : ∀ m : List (Int × Int), k < m.length → m.take (k + 1) = m.take k ++ [m.getD k (0, 0)] := fun m hm => by
      rw [List.take_add_one, List.getD_eq_getElem?_getD, List.getElem?_eq_getElem hm]; rfl
    repeat' (first | refine move_s_l S rfl rfl ?_ | refine len_l S rfl rfl ?_ | refine nilL ?_ | refine run_seq ?_ | refine run_skip ?_ | refine run_region (id := 4) ?_ | refine move_i_l S rfl rfl ?_ | (refine lss_l S rfl rfl rfl ?_ ?_ <;> intro hcmp <;> try (exfalso; first | omega | exact hcmp (by decide) | exact absurd hcmp (by decide))) | refine run_block ?_ | refine run_cond_true rfl ?_ | refine thenQ_n ?_)
    refine run_any S (L' := [roR (slL a cap 2 encP (0, 0) l), roR (slL a2 cap2 2 encP (0, 0) l2)]) (f := 9) mixed rfl ?_
    clear S
    intro w S1
    have S : Sat _ _ w [roR (slL a cap 2 encP (0, 0) l), roR (slL a2 cap2 2 encP (0, 0) l2)] := S1.sub
    all_goals (refine any_pure (i := 0) rfl (by kernel_rfl) S ?_; refine move_s_x rfl rfl ?_)
    all_goals (refine any_pure (i := 1) rfl (by kernel_rfl) S ?_; refine move_i_x rfl rfl ?_)
    all_goals (refine any_pure (i := 2) rfl (by kernel_rfl) S ?_; (first | refine indexAddr_x rfl rfl (idx_cast _) (by first | omega | decide | (simp; done) | (simp; omega)) rfl ?_ | refine indexAddr_x rfl rfl (idx_eq _) (by first | omega | decide | (simp; done) | (simp; omega)) rfl ?_))
    all_goals (refine any_pure (i := 3) rfl (by kernel_rfl) S ?_; (first | refine loadN_x rfl rfl rfl ?_ | refine loadEN_x rfl (by first | omega | decide | (simp; done) | (simp; omega)) rfl rfl ?_))
    all_goals (refine any_pure (i := 4) rfl (by kernel_rfl) S ?_; refine move_s_x rfl rfl ?_)
    all_goals (refine any_pure (i := 5) rfl (by kernel_rfl) S ?_; refine move_i_x rfl rfl ?_)
    all_goals (refine any_pure (i := 6) rfl (by kernel_rfl) S ?_; (first | refine indexAddr_x rfl rfl (idx_cast _) (by first | omega | decide | (simp; done) | (simp; omega)) rfl ?_ | refine indexAddr_x rfl rfl (idx_eq _) (by first | omega | decide | (simp; done) | (simp; omega)) rfl ?_))
    all_goals (refine any_pure (i := 7) rfl (by kernel_rfl) S ?_; (first | refine loadN_x rfl rfl rfl ?_ | refine loadEN_x rfl (by first | omega | decide | (simp; done) | (simp; omega)) rfl rfl ?_))
    all_goals (refine any_pure (i := 8) rfl (by kernel_rfl) S ?_; refine neqCn_x [(l.getD k (0, 0)).1, (l.getD k (0, 0)).2] [(l2.getD k (0, 0)).1, (l2.getD k (0, 0)).2] rfl rfl rfl rfl rfl ?_)
    all_goals refine any_end (by kernel_rfl) ?_
    replace S := S1
    by_cases hq : l.getD k (0, 0) = l2.getD k (0, 0)
    · rw [show decide ([(l.getD k (0, 0)).1, (l.getD k (0, 0)).2] ≠ [(l2.getD k (0, 0)).1, (l2.getD k (0, 0)).2]) = false from by rw [hq]; simp]
      repeat' (first | refine nilL ?_ | refine run_skip ?_ | refine run_region (id := 5) ?_ | refine assign_i_l S rfl rfl ?_ | refine move_i_l S rfl rfl ?_ | refine add_l S rfl rfl (wrap_in (by omega)) rfl ?_ | refine run_cond_false rfl ?_ | refine thenQ_n ?_ | refine blockQ_n ?_)
      refine ⟨k + 1, ?_, ⟨⟨hkl, ?_⟩, S⟩, by omega⟩
      · rw [Int.natCast_add]
        (repeat (first | exact agree_refl | refine agree_r rfl ?_ | refine agree_l rfl ?_ | refine agree_hv rfl ?_))
      · rw [e1 l hkl, e1 l2 (by omega), he, hq]
    · rw [show decide ([(l.getD k (0, 0)).1, (l.getD k (0, 0)).2] ≠ [(l2.getD k (0, 0)).1, (l2.getD k (0, 0)).2]) = true from decide_eq_true fun e => hq (by
        simp only [List.cons.injEq, and_true] at e
        exact Prod.ext e.1 e.2)]
      repeat' (first | refine assign_b_l S rfl rfl ?_ | refine nilL ?_ | refine run_seq ?_ | refine run_region (id := 7) ?_ | refine run_ret ?_ | refine run_cond_true rfl ?_ | refine thenQ_n ?_ | refine thenQ_r ?_ | refine blockQ_r ?_ | refine ret1_b rfl ?_)
      refine ⟨?_, S.chg.below⟩
      rw [decide_eq_false (fun e => hq (by rw [e]))]
  · repeat' (first | refine assign_b_l S rfl rfl ?_ | refine move_s_l S rfl rfl ?_ | refine len_l S rfl rfl ?_ | refine nilL ?_ | refine run_seq ?_ | refine run_region (id := 4) ?_ | refine run_region (id := 8) ?_ | refine move_i_l S rfl rfl ?_ | (refine lss_l S rfl rfl rfl ?_ ?_ <;> intro hcmp <;> try (exfalso; first | omega | exact hcmp (by decide) | exact absurd hcmp (by decide))) | refine run_ret ?_ | refine run_exit ?_ | refine run_cond_false rfl ?_ | refine thenQ_n ?_ | refine thenQ_e ?_ | refine blockQ_s rfl ?_ | refine ret1_b rfl ?_)
    obtain rfl : k = l.length := by omega
    rw [List.take_length, hll, List.take_length] at he
    exact ⟨by rw [decide_eq_true he], S.chg.below⟩
/-- The statement's numbers. -/
def cnL : List (Int × Int) := [(1, 1), (2, 2), (3, 3), (5, 5)]
def cnH1 : HeapS := ⟨[(-1, 0), (-1, 0), (-1, 0)], 1, 99, [0, 0, 0, 0, 0, 0]⟩
def cnH2 : HeapS := ⟨[(-1, 2), (-1, 2), (-1, 2)], 2, 99, [0, 1, 2, 3, 0, 5]⟩
def cnH3 : HeapS := ⟨[(-1, 2), (-1, 2), (-1, 2)], 3, 99, [0, 1, 2, 3, 0, 5]⟩
def cnC : CmS := newC 4 0 32 (madeH [2, 0]) cnL
def cnE1 : List EvS := [⟨4, 4, 0, 0, 0, 0⟩, ⟨4, 4, 1, 0, 0, 0⟩, ⟨4, 4, 2, 0, 0, 0⟩, ⟨5, 4, 0, 2, 0, 0⟩, ⟨6, 4, 0, 0, 0, 0⟩, ⟨6, 4, 2, 0, 0, 0⟩, ⟨7, 4, 0, 2, 0, 0⟩, ⟨8, 4, 1, 0, 1, 0⟩, ⟨8, 4, 2, 0, 2, 0⟩, ⟨8, 4, 3, 0, 3, 0⟩, ⟨8, 4, 5, 0, 5, 0⟩, ⟨9, 4, 0, 0, 0, 0⟩, ⟨9, 4, 1, 0, 0, 0⟩, ⟨9, 4, 2, 0, 0, 0⟩]
def cnE2 : List EvS := [⟨4, 4, 0, 0, 0, 0⟩, ⟨4, 4, 1, 0, 0, 0⟩, ⟨4, 4, 2, 0, 0, 0⟩, ⟨5, 4, 0, 3, 0, 0⟩, ⟨10, 4, 0, 0, 0, 5⟩, ⟨11, 4, 0, 0, 0, 0⟩, ⟨11, 4, 1, 0, 0, 0⟩, ⟨11, 4, 2, 0, 0, 0⟩]
def cnX := runF 200 cnC cnH1
def cnK := runF 200 cnC cnH2
theorem cnH1_eq : bumpH (newH [0, 0, 0, 0, 0, 0] 3 99) = cnH1 := by decide +kernel
theorem cnX1 : cnX.1 = cnE1 ∧ cnX.2.1 = true ∧ cnX.2.2.2 = cnH2 := by decide +kernel
theorem cnX2 : cnX.2.2.1.at_ = 8 ∧ cnX.2.2.1.wv = 2 ∧ cnX.2.2.1.committed = true ∧ cnX.2.2.1.full = false ∧ cnX.2.2.1.writes = cnL := by decide +kernel
theorem cnK1 : cnK.1 = cnE2 ∧ cnK.2.1 = true ∧ cnK.2.2.2 = cnH3 := by decide +kernel
theorem cnK2 : cnK.2.2.1.committed = false := by decide +kernel
def cnY : Nat → CmS × HeapS
  | 0 => (newC 1 3 32 (madeH []) cnL, cnH3)
  | i + 1 => (stepC (cnY i).1 (cnY i).2, stepH (cnY i).1 (cnY i).2)
def cnS : HeapS := newH [1] 1 9
def cnH4 : HeapS := ⟨[(1, 2), (1, 2), (1, 2)], 4, 99, [0, 1, 2, 3, 0, 5]⟩
def cnH5 : HeapS := ⟨[(1, 2), (-1, 2), (1, 2)], 4, 99, [0, 1, 2, 3, 0, 5]⟩
theorem cnY1 : (cnY 6).2 = cnH4 ∧ (cnY 6).1.at_ = 5 ∧ (cnY 6).1.done = 1 ∧ (cnY 6).1.writes = cnL ∧ (cnY 6).1.owned = [0, 1, 2] := by decide +kernel
theorem cnY2 : stepE (cnY 6).1 cnS = 1 ∧ stepE (cnY 6).1 cnH5 = 1 ∧ letE cnH4 1 1 = 0 ∧ letH cnH4 1 1 = cnH5 := by decide +kernel
theorem cnOk1 : OkC 6 3 99 cnH1 := ⟨rfl, rfl, rfl, by decide, by decide, fun i hi => by
  have h : i = 0 ∨ i = 1 ∨ i = 2 := by omega
  rcases h with rfl | rfl | rfl <;> decide⟩
theorem cnOk2 : OkC 6 3 99 cnH2 := ⟨rfl, rfl, rfl, by decide, by decide, fun i hi => by
  have h : i = 0 ∨ i = 1 ∨ i = 2 := by omega
  rcases h with rfl | rfl | rfl <;> decide⟩
theorem cnOk3 : OkC 6 3 99 cnH3 := ⟨rfl, rfl, rfl, by decide, by decide, fun i hi => by
  have h : i = 0 ∨ i = 1 ∨ i = 2 := by omega
  rcases h with rfl | rfl | rfl <;> decide⟩
theorem cnY_ok : ∀ i, InvC (cnY i).1 (cnY i).2 ∧ OkC 6 3 99 (cnY i).2
  | 0 => ⟨InvC.new (by decide) (by unfold okN cnL; decide), cnOk3⟩
  | i + 1 => ⟨(cnY_ok i).1.step (cnY_ok i).2 (by decide), (cnY_ok i).2.step _⟩
theorem cnPre {H : HeapS} (h1 : 0 < H.locks.length) (h2 : H.clock ≤ 1099511627776 ∧ 0 ≤ H.clock) : Pre (cnY 6).1 H where
  writes := by rw [cnY1.2.2.2.1]; decide
  locks := h1
  at1 := by rw [cnY1.2.1]; decide
  clock := h2
  lock := fun h => by rw [cnY1.2.1] at h; exact absurd h (by decide)
  check := fun h => by rw [cnY1.2.1] at h; exact absurd h (by decide)
  store := fun _ => by rw [cnY1.2.2.1, cnY1.2.2.2.1]; decide
  free := fun h => by rw [cnY1.2.1] at h; exact absurd h (by decide)
theorem cnY_z : (cnY 0).1 = newC 1 3 32 (madeH []) cnL ∧ (cnY 0).2 = cnH3 := ⟨rfl, rfl⟩
theorem cnY_s (i : Nat) : (cnY (i + 1)).1 = stepC (cnY i).1 (cnY i).2 ∧ (cnY (i + 1)).2 = stepH (cnY i).1 (cnY i).2 := ⟨rfl, rfl⟩
attribute [irreducible] cnY
/-- New things, among others. -/
theorem Sat.fresh2 {w₀ w w' : World} {L : List Res} {x y : Res} (h : Sat (fun _ => False) w₀ w L) (h2 : Sat (fun _ => False) w w' [x, y]) (hx : x.ro = false) (hy : y.ro = false) : Sat (fun _ => False) w₀ w' (x :: y :: L) :=
  Sat.exch (A := []) (A' := [x, y]) h h2 (fun k hk => hk.elim) (fun u hu => by
    simp only [List.mem_cons, List.not_mem_nil, or_false] at hu
    rcases hu with rfl | rfl
    · exact hx
    · exact hy)
theorem walk_CommitNames (w0 : World) : Calls Try.prog 6 #[] w0 fun e w' => e = .returned (.bool true) ∧ Below w0.heap.size w0 w' := by
  have S := Sat.start (fun _ => False) w0
  refine enter1 Try.func6 rfl Try.ntmps6 rfl Try.results6 ?_
  repeat' (first | refine move_p_l S rfl rfl ?_ | refine nilL ?_ | refine run_seq ?_ | refine run_region ?_ | refine assign_p_l S rfl rfl ?_ | refine assign_b_l S rfl rfl ?_ | refine thenQ_n ?_)
  (refine callL (cstep_nil _ none) rfl rfl ?_; rintro e w ⟨rfl, hb⟩; replace S := S.below hb; clear hb; refine ⟨_, rfl, ?_⟩)
  repeat' (first | refine nilL ?_ | refine run_seq ?_ | refine run_region ?_ | refine assign_i_l S rfl rfl ?_ | refine extract_i_l S rfl rfl rfl ?_ | refine extract_a_l S rfl rfl rfl ?_ | (refine allocZ_l S rfl rfl ?_; clear S; intro b w S) | (refine storeN_l S rfl rfl ⟨rfl, rfl⟩ rfl ?_; clear S; intro w S) | refine move_o_l S rfl rfl ?_ | refine thenQ_n ?_)
  replace S := S.sub (L' := [])
  (refine callL (cworks_at _) rfl rfl ?_; rintro e w ⟨rfl, hb⟩; replace S := S.below hb; clear hb; refine ⟨_, rfl, ?_⟩)
  repeat' (first | refine move_p_l S rfl rfl ?_ | refine move_b_l S rfl rfl ?_ | refine onL rfl rfl ?_ | refine pick_fb_l S rfl rfl rfl ?_ | (refine neq_l S rfl rfl rfl ?_ ?_ <;> intro hcmp <;> try (exfalso; first | omega | exact hcmp (by decide) | exact absurd hcmp (by decide))) | refine move_i_l S rfl rfl ?_ | refine not_l S rfl rfl ?_)
  (refine callL (cwhere_nil _) rfl rfl ?_; rintro e w ⟨rfl, hb⟩; replace S := S.below hb; clear hb; refine ⟨_, rfl, ?_⟩)
  repeat' (first | refine move_p_l S rfl rfl ?_ | refine move_b_l S rfl rfl ?_ | refine onL rfl rfl ?_ | refine pick_fb_l S rfl rfl rfl ?_ | (refine neq_l S rfl rfl rfl ?_ ?_ <;> intro hcmp <;> try (exfalso; first | omega | exact hcmp (by decide) | exact absurd hcmp (by decide))))
  (refine callL (cover_nil _) rfl rfl ?_; rintro e w ⟨rfl, hb⟩; replace S := S.below hb; clear hb; refine ⟨_, rfl, ?_⟩)
  repeat' (first | refine move_p_l S rfl rfl ?_ | refine move_b_l S rfl rfl ?_ | refine onL rfl rfl ?_ | refine pick_fb_l S rfl rfl rfl ?_)
  (refine callL (ccommitted_nil _) rfl rfl ?_; rintro e w ⟨rfl, hb⟩; replace S := S.below hb; clear hb; refine ⟨_, rfl, ?_⟩)
  repeat' (first | refine move_p_l S rfl rfl ?_ | refine move_b_l S rfl rfl ?_ | refine onL rfl rfl ?_ | refine pick_fb_l S rfl rfl rfl ?_)
  (refine callL (cfull_nil _) rfl rfl ?_; rintro e w ⟨rfl, hb⟩; replace S := S.below hb; clear hb; refine ⟨_, rfl, ?_⟩)
  repeat' (first | refine move_p_l S rfl rfl ?_ | refine move_b_l S rfl rfl ?_ | refine onL rfl rfl ?_ | refine pick_fb_l S rfl rfl rfl ?_)
  (refine callL (cwv_nil _) rfl rfl ?_; rintro e w ⟨rfl, hb⟩; replace S := S.below hb; clear hb; refine ⟨_, rfl, ?_⟩)
  repeat' (first | refine move_p_l S rfl rfl ?_ | refine move_b_l S rfl rfl ?_ | refine onL rfl rfl ?_ | refine pick_fb_l S rfl rfl rfl ?_ | (refine neq_l S rfl rfl rfl ?_ ?_ <;> intro hcmp <;> try (exfalso; first | omega | exact hcmp (by decide) | exact absurd hcmp (by decide))))
  (refine callL (cowned_nil _) rfl rfl ?_; rintro e w ⟨rfl, hb⟩; replace S := S.below hb; clear hb; refine ⟨_, rfl, ?_⟩)
  repeat' (first | refine move_p_l S rfl rfl ?_ | refine onL rfl rfl ?_ | refine len_l S rfl rfl ?_)
  (refine callL (cpending_nil _) rfl rfl ?_; rintro e w ⟨rfl, hb⟩; replace S := S.below hb; clear hb; refine ⟨_, rfl, ?_⟩)
  repeat' (first | refine move_p_l S rfl rfl ?_ | refine move_b_l S rfl rfl ?_ | refine onL rfl rfl ?_ | refine pick_fb_l S rfl rfl rfl ?_ | (refine neq_l S rfl rfl rfl ?_ ?_ <;> intro hcmp <;> try (exfalso; first | omega | exact hcmp (by decide) | exact absurd hcmp (by decide))) | refine len_l S rfl rfl ?_ | refine add_l S rfl rfl (wrap_in (by omega)) rfl ?_)
  (refine callL (ccopy_nil _) rfl rfl ?_; rintro e w ⟨rfl, hb⟩; replace S := S.below hb; clear hb; refine ⟨_, rfl, ?_⟩)
  repeat' (first | refine nilL ?_ | refine run_seq ?_ | refine run_skip ?_ | refine run_region ?_ | refine onL rfl rfl ?_ | refine pick_fb_l S rfl rfl rfl ?_ | refine neqP_l S rfl rfl rfl ?_ | refine run_cond_false rfl ?_ | refine thenQ_n ?_)
  refine callL (snew_ok 0 4 (by decide) _) rfl rfl ?_
  rintro e w' ⟨_, rfl, ⟨bs, rfl, g1, g2⟩, hb⟩
  replace S := S.freshSet hb g1 g2
  clear hb g1 g2
  refine ⟨_, rfl, ?_⟩
  repeat' (first | refine nilL ?_ | refine run_seq ?_ | refine run_region ?_ | refine assign_i_l S rfl rfl ?_ | refine extract_i_l S rfl rfl rfl ?_ | refine assign_p_l S rfl rfl ?_ | refine extract_p_l S rfl rfl rfl ?_ | refine move_o_l S rfl rfl ?_ | refine thenQ_n ?_)
  (refine callL (cnew_nil _ 0 none 0 0) rfl rfl ?_; rintro e w ⟨rfl, hb⟩; replace S := S.below hb; clear hb; refine ⟨_, rfl, ?_⟩)
  repeat' (first | refine move_p_l S rfl rfl ?_ | refine nilL ?_ | refine run_seq ?_ | refine run_region ?_ | refine assign_i_l S rfl rfl ?_ | refine extract_i_l S rfl rfl rfl ?_ | refine assign_p_l S rfl rfl ?_ | refine extract_p_l S rfl rfl rfl ?_ | refine move_o_l S rfl rfl ?_ | refine thenQ_n ?_)
  refine callL (cnew_at (ws := []) (aw := none) (cw := 0) S.got1 (nilSl_holds _ 2 (by decide) encP (0, 0)) 6 (by decide)) rfl rfl ?_
  rintro e w' ⟨p, n, rfl, hp, hb⟩
  rcases hp with ⟨h, _⟩ | ⟨_, rfl, rfl⟩
  · exact absurd h (by unfold okN; decide)
  replace S := S.below hb
  clear hb
  refine ⟨_, rfl, ?_⟩
  repeat' (first | refine move_p_l S rfl rfl ?_ | refine nilL ?_ | refine run_seq ?_ | refine run_region ?_ | refine assign_i_l S rfl rfl ?_ | refine extract_i_l S rfl rfl rfl ?_ | refine assign_p_l S rfl rfl ?_ | refine extract_p_l S rfl rfl rfl ?_ | refine move_o_l S rfl rfl ?_ | refine thenQ_n ?_)
  refine callL (cnew_at (ws := []) (aw := none) (cw := 0) S.got1 (nilSl_holds _ 2 (by decide) encP (0, 0)) (-1) (by decide)) rfl rfl ?_
  rintro e w' ⟨p, n, rfl, hp, hb⟩
  rcases hp with ⟨h, _⟩ | ⟨_, rfl, rfl⟩
  · exact absurd h (by unfold okN; decide)
  replace S := S.below hb
  clear hb
  refine ⟨_, rfl, ?_⟩
  repeat' (first | refine move_p_l S rfl rfl ?_ | refine nilL ?_ | refine run_seq ?_ | refine run_region ?_ | refine assign_i_l S rfl rfl ?_ | refine extract_i_l S rfl rfl rfl ?_ | refine assign_p_l S rfl rfl ?_ | refine extract_p_l S rfl rfl rfl ?_ | (apply build2_l S; (· repeat (first | exact mapN | apply mapC_i rfl | apply mapC_b rfl | apply mapC_p rfl | apply mapC_s rfl | apply mapC_e rfl | apply mapC_a rfl | apply mapC_o rfl)); (· rfl); (· rfl)) | (apply buildSliceN_l S; (· repeat (first | exact vsN | apply vsC rfl)); (· rfl); (· rfl); (· rfl); (· rfl); (· rfl); clear S; intro b w S) | refine move_o_l S rfl rfl ?_ | refine thenQ_n ?_)
  replace S := S.turn1 (r' := rowL (some ⟨b, 0, none⟩) 2 49 2 encP (0, 0) [(1, 0), (1, 0)]) (RowOk.congr S.got1 (fun i hi j hj => by
    match i, hi, j, hj with
    | 0, _, 0, _ => rfl
    | 0, _, 1, _ => rfl
    | 1, _, 0, _ => rfl
    | 1, _, 1, _ => rfl)) rfl (fun k e => e)
  refine callL (cnew_at (ws := [(1, 0), (1, 0)]) S.second (RowOk.sl S.got1) 0 (by decide)) rfl rfl ?_
  rintro e w' ⟨p, n, rfl, hp, hb⟩
  rcases hp with ⟨h, _⟩ | ⟨_, rfl, rfl⟩
  · exact absurd h (by unfold okN; decide)
  replace S := S.below hb
  clear hb
  refine ⟨_, rfl, ?_⟩
  repeat' (first | refine move_p_l S rfl rfl ?_ | refine nilL ?_ | refine run_seq ?_ | refine run_region ?_ | refine assign_i_l S rfl rfl ?_ | refine extract_i_l S rfl rfl rfl ?_ | refine assign_p_l S rfl rfl ?_ | refine extract_p_l S rfl rfl rfl ?_ | (apply build2_l S; (· repeat (first | exact mapN | apply mapC_i rfl | apply mapC_b rfl | apply mapC_p rfl | apply mapC_s rfl | apply mapC_e rfl | apply mapC_a rfl | apply mapC_o rfl)); (· rfl); (· rfl)) | (apply buildSliceN_l S; (· repeat (first | exact vsN | apply vsC rfl)); (· rfl); (· rfl); (· rfl); (· rfl); (· rfl); clear S; intro b w S) | refine move_o_l S rfl rfl ?_ | refine thenQ_n ?_)
  replace S := S.turn1 (r' := rowL (some ⟨b, 0, none⟩) 1 49 2 encP (0, 0) [(-1, 0)]) (RowOk.congr S.got1 (fun i hi j hj => by
    match i, hi, j, hj with
    | 0, _, 0, _ => rfl
    | 0, _, 1, _ => rfl)) rfl (fun k e => e)
  refine callL (cnew_at (ws := [(-1, 0)]) S.third (RowOk.sl S.got1) 0 (by decide)) rfl rfl ?_
  rintro e w' ⟨p, n, rfl, hp, hb⟩
  rcases hp with ⟨h, _⟩ | ⟨_, rfl, rfl⟩
  · exact absurd h (by unfold okN; decide)
  replace S := (S.below hb).tl.tl
  clear hb
  refine ⟨_, rfl, ?_⟩
  repeat' (first | refine move_p_l S rfl rfl ?_ | refine nilL ?_ | refine run_seq ?_ | refine run_region ?_ | refine assign_i_l S rfl rfl ?_ | refine extract_i_l S rfl rfl rfl ?_ | refine assign_p_l S rfl rfl ?_ | refine extract_p_l S rfl rfl rfl ?_ | (apply build2_l S; (· repeat (first | exact mapN | apply mapC_i rfl | apply mapC_b rfl | apply mapC_p rfl | apply mapC_s rfl | apply mapC_e rfl | apply mapC_a rfl | apply mapC_o rfl)); (· rfl); (· rfl)) | (apply buildSliceN_l S; (· repeat (first | exact vsN | apply vsC rfl)); (· rfl); (· rfl); (· rfl); (· rfl); (· rfl); clear S; intro b w S) | refine move_o_l S rfl rfl ?_ | refine thenQ_n ?_)
  replace S := S.turn1 (r' := rowL (some ⟨b, 0, none⟩) 1 49 2 encP (0, 0) [(32, 0)]) (RowOk.congr S.got1 (fun i hi j hj => by
    match i, hi, j, hj with
    | 0, _, 0, _ => rfl
    | 0, _, 1, _ => rfl)) rfl (fun k e => e)
  refine callL (cnew_at (ws := [(32, 0)]) S.second (RowOk.sl S.got1) 0 (by decide)) rfl rfl ?_
  rintro e w' ⟨p, n, rfl, hp, hb⟩
  rcases hp with ⟨h, _⟩ | ⟨_, rfl, rfl⟩
  · exact absurd h (by unfold okN; decide)
  replace S := (S.below hb).sub (L' := [])
  clear hb
  refine ⟨_, rfl, ?_⟩
  repeat' (first | refine move_b_l S rfl rfl ?_ | refine nilL ?_ | refine run_seq ?_ | refine run_skip ?_ | refine run_region ?_ | refine onL rfl rfl ?_ | refine pick_fb_l S rfl rfl rfl ?_ | (refine neq_l S rfl rfl rfl ?_ ?_ <;> intro hcmp <;> try (exfalso; first | omega | exact hcmp (by decide) | exact absurd hcmp (by decide))) | refine assign_i_l S rfl rfl ?_ | refine extract_i_l S rfl rfl rfl ?_ | refine assign_p_l S rfl rfl ?_ | refine move_i_l S rfl rfl ?_ | refine extract_p_l S rfl rfl rfl ?_ | refine move_o_l S rfl rfl ?_ | refine run_cond_false rfl ?_ | refine thenQ_n ?_)
  refine makeSlice_l (k := 6) S rfl (by decide) rfl (by omega) rfl ?_
  clear S
  intro b w S
  skip
  refine callL (new_yes (some ⟨b, 0, none⟩) 6 [0, 0, 0, 0, 0, 0] 3 99 (by unfold goodNew; decide) _ (RowOk.sl (RowOk.congr S.got1 (fun i hi j hj => by
    obtain rfl : j = 0 := by omega
    match i, hi with
    | 0, _ => rfl
    | 1, _ => rfl
    | 2, _ => rfl
    | 3, _ => rfl
    | 4, _ => rfl
    | 5, _ => rfl)))) rfl rfl ?_
  rintro e w' ⟨_, rfl, ⟨bh, ga, va, gc, vc, rfl, hh, hf⟩, hb⟩
  replace S := (S.fresh hb hh hf).sub (L' := [heapR bh ga va gc vc (newH [0, 0, 0, 0, 0, 0] 3 99)])
  clear hb hh hf
  refine ⟨_, rfl, ?_⟩
  repeat' (first | refine move_p_l S rfl rfl ?_ | refine nilL ?_ | refine run_seq ?_ | refine run_region (id := 15) ?_ | refine assign_i_l S rfl rfl ?_ | refine extract_i_l S rfl rfl rfl ?_ | refine assign_p_l S rfl rfl ?_ | refine extract_p_l S rfl rfl rfl ?_ | refine move_o_l S rfl rfl ?_ | refine thenQ_n ?_)
  (refine callL (bump_at S.got1 (by decide)) rfl rfl ?_; rintro e w ⟨rfl, hm⟩; replace S := S.heapTo hm; clear hm; refine ⟨_, rfl, ?_⟩)
  rw [cnH1_eq] at S
  repeat' (first | refine nilL ?_ | refine run_seq ?_ | refine run_region (id := 16) ?_ | (apply build2_l S; (· repeat (first | exact mapN | apply mapC_i rfl | apply mapC_b rfl | apply mapC_p rfl | apply mapC_s rfl | apply mapC_e rfl | apply mapC_a rfl | apply mapC_o rfl)); (· rfl); (· rfl)) | (apply buildSliceN_l S; (· repeat (first | exact vsN | apply vsC rfl)); (· rfl); (· rfl); (· rfl); (· rfl); (· rfl); clear S; intro b w S) | refine assign_s_l S rfl rfl ?_ | refine thenQ_n ?_)
  obtain ⟨bl, hbl⟩ : ∃ x, x = b := ⟨_, rfl⟩
  subst hbl
  replace S := S.turn1 (r' := rowL (some ⟨bl, 0, none⟩) 4 49 2 encP (0, 0) cnL) (RowOk.congr S.got1 (fun i hi j hj => by
    match i, hi, j, hj with
    | 0, _, 0, _ => rfl
    | 0, _, 1, _ => rfl
    | 1, _, 0, _ => rfl
    | 1, _, 1, _ => rfl
    | 2, _, 0, _ => rfl
    | 2, _, 1, _ => rfl
    | 3, _, 0, _ => rfl
    | 3, _, 1, _ => rfl)) rfl (fun k e => e)
  repeat' (first | refine run_region ?_ | refine move_s_l S rfl rfl ?_ | (refine buildSlice_l S rfl rfl rfl rfl rfl ?_; clear S; intro b w S))
  replace S := S.turn1 (r' := rowL (some ⟨b, 0, none⟩) 2 3 1 encI 0 [2, 0]) (RowOk.congr S.got1 (fun i hi j hj => by
    obtain rfl : j = 0 := by omega
    match i, hi with
    | 0, _ => rfl
    | 1, _ => rfl)) rfl (fun k e => e)
  refine callL (made_c 4 0 (some ⟨b, 0, none⟩) (some ⟨bl, 0, none⟩) 2 4 [2, 0] cnL (by decide) _ (RowOk.sl S.got1) (RowOk.sl S.second)) rfl rfl ?_
  rintro e w' ⟨p, rfl, hp, hb⟩
  rcases hp with ⟨_, bx, Ax, rfl, h1, h2⟩ | ⟨hn, _⟩
  rotate_left
  · exact absurd (by unfold okM okN cnL; decide) hn
  have hno : ∀ w', (owR Ax cnC).holds w' := fun w' => (owR Ax cnC).loc _ w' h1.1.2.2.2 (fun k hk => by
    obtain ⟨g1, _⟩ := hk
    exact absurd g1 (by decide))
  replace S := (S.fresh (r := cmR bx Ax cnC) hb h1 h2).sub (L' := [cmR bx Ax cnC, rowL (some ⟨bl, 0, none⟩) 4 49 2 encP (0, 0) cnL, heapR bh ga va gc vc cnH1])
  clear hb h1 h2
  refine ⟨_, rfl, ?_⟩
  repeat' (first | refine move_p_l S rfl rfl ?_ | refine nilL ?_ | refine run_seq ?_ | refine run_region ?_ | refine assign_p_l S rfl rfl ?_ | refine thenQ_n ?_)
  refine callL (ccopy_at S.got1) rfl rfl ?_
  rintro e w' ⟨bk, bks, rfl, hS⟩
  replace S := S.fresh2 hS rfl rfl
  clear hS
  refine ⟨_, rfl, ?_⟩
  replace S := S.perm (L' := [cmR bx Ax cnC, heapR bh ga va gc vc cnH1, rowL (some ⟨bl, 0, none⟩) 4 49 2 encP (0, 0) cnL, blk bk 9 (cmC { Ax with bs := bks } cnC) 88, setR bks cnC.rv cnC.st cnC.hs]) ((List.Perm.cons _ (List.Perm.swap ..)).trans (List.perm_append_comm (l₁ := [_, _, _]) (l₂ := [_, _])))
  repeat' (first | refine move_p_l S rfl rfl ?_ | refine nilL ?_ | refine run_seq ?_ | refine run_region ?_ | refine assign_p_l S rfl rfl ?_ | refine thenQ_n ?_)
  refine callL (run_at2 S.begin2 (n := 6) (st := 3) (limit := 99) (InvC.new (by decide) (by unfold okN cnL; decide)) cnOk1 (by decide) (by decide)) rfl rfl ?_
  rintro e w' ⟨a1, c1, A1, rfl, ⟨gw1, gw2⟩, hS⟩
  change Sat _ _ _ [rowL a1 c1 44 7 encE evD cnX.1, cmR bx A1 cnX.2.2.1, heapR bh ga va gc vc cnX.2.2.2] at hS
  change ∃ v, Ending.returned (.tuple #[.slice a1 cnX.1.length c1, .bool cnX.2.1]) = _ ∧ _
  rw [cnX1.2.2, cnX1.1] at hS
  rw [cnX1.1, cnX1.2.1]
  replace S := S.both3 hS rfl rfl rfl rfl rfl
  clear hS
  refine ⟨_, rfl, ?_⟩
  obtain ⟨hx8, hxw, hxc, hxf, hxl⟩ := cnX2
  generalize cnX.2.2.1 = X at hx8 hxw hxc hxf hxl S
  have hlen1 : cnE1.length = 14 := rfl
  have q4 : (cnE1.getD 4 evD).at_ = 0 := rfl
  have q5 : (cnE1.getD 5 evD).at_ = 2 := rfl
  have q3 : (cnE1.getD 3 evD).v = 2 := rfl
  have q10 : (cnE1.getD 10 evD).at_ = 5 := rfl
  have q11 : (cnE1.getD 11 evD).at_ = 0 := rfl
  repeat' (first | refine move_b_l S rfl rfl ?_ | refine nilL ?_ | refine run_seq ?_ | refine run_region ?_ | refine onL rfl rfl ?_ | refine move_s_l S rfl rfl ?_ | refine assign_b_l S rfl rfl ?_ | (refine buildSlice_l S rfl rfl rfl rfl rfl ?_; clear S; intro b w S) | refine not_l S rfl rfl ?_ | refine assign_s_l S rfl rfl ?_ | refine extract_s_l S rfl rfl rfl ?_ | refine extract_b_l S rfl rfl rfl ?_ | refine move_o_l S rfl rfl ?_ | refine thenQ_n ?_)
  refine callL (kinds_at a1 (some ⟨b, 0, none⟩) c1 14 cnE1 [4, 4, 4, 5, 6, 6, 7, 8, 8, 8, 8, 9, 9, 9] _ (RowOk.sl (S.all (rowL a1 c1 44 7 encE evD cnE1) (by simp))) (SlOk.congr (RowOk.sl S.got1) (fun i hi j hj => by
    obtain rfl : j = 0 := by omega
    match i, hi with
    | 0, _ => rfl
    | 1, _ => rfl
    | 2, _ => rfl
    | 3, _ => rfl
    | 4, _ => rfl
    | 5, _ => rfl
    | 6, _ => rfl
    | 7, _ => rfl
    | 8, _ => rfl
    | 9, _ => rfl
    | 10, _ => rfl
    | 11, _ => rfl
    | 12, _ => rfl
    | 13, _ => rfl))) rfl rfl ?_
  rintro e w' ⟨rfl, hb⟩
  replace S := (S.below hb).tl
  clear hb
  refine ⟨_, rfl, ?_⟩
  rw [show decide (List.map (·.kind) cnE1 = [4, 4, 4, 5, 6, 6, 7, 8, 8, 8, 8, 9, 9, 9]) = true from by decide]
  repeat' (first | refine move_p_l S rfl rfl ?_ | refine move_b_l S rfl rfl ?_ | refine onL rfl rfl ?_ | refine pick_fb_l S rfl rfl rfl ?_ | (refine neq_l S rfl rfl rfl ?_ ?_ <;> intro hcmp <;> try (exfalso; first | omega | exact hcmp (by decide) | exact absurd hcmp (by decide))) | refine move_s_l S rfl rfl ?_ | refine indexAddr_l S rfl rfl (idx_cast _) (by first | omega | decide | (simp; done) | (simp; omega)) rfl ?_ | refine fieldAddrE_l S rfl (by first | omega | decide | (simp; done) | (simp; omega)) rfl rfl ?_ | refine loadE_i_l S rfl (by first | omega | decide | (simp; done) | (simp; omega)) rfl rfl rfl ?_ | refine not_l S rfl rfl ?_)
  (refine callL (wv_at (S.all (cmR bx A1 X) (by simp))) rfl rfl ?_; rintro e w ⟨rfl, hb⟩; replace S := S.below hb; clear hb; refine ⟨_, rfl, ?_⟩)
  repeat' (first | refine move_p_l S rfl rfl ?_ | refine move_b_l S rfl rfl ?_ | refine onL rfl rfl ?_ | refine pick_fb_l S rfl rfl rfl ?_ | (refine neq_l S rfl rfl rfl ?_ ?_ <;> intro hcmp <;> try (exfalso; first | omega | exact hcmp (by decide) | exact absurd hcmp (by decide))))
  (refine callL (committed_at (S.all (cmR bx A1 X) (by simp))) rfl rfl ?_; rintro e w ⟨rfl, hb⟩; replace S := S.below hb; clear hb; refine ⟨_, rfl, ?_⟩)
  rw [hxc]
  repeat' (first | refine move_p_l S rfl rfl ?_ | refine move_b_l S rfl rfl ?_ | refine onL rfl rfl ?_ | refine pick_fb_l S rfl rfl rfl ?_ | refine not_l S rfl rfl ?_)
  (refine callL (full_at (S.all (cmR bx A1 X) (by simp))) rfl rfl ?_; rintro e w ⟨rfl, hb⟩; replace S := S.below hb; clear hb; refine ⟨_, rfl, ?_⟩)
  rw [hxf]
  repeat' (first | refine move_p_l S rfl rfl ?_ | refine nilL ?_ | refine run_seq ?_ | refine run_skip ?_ | refine run_region ?_ | refine pick_fb_l S rfl rfl rfl ?_ | refine run_cond_false rfl ?_ | refine thenQ_n ?_)
  have hwr : wrR A1 X = wrR { Ax with bs := bks } cnC := by
    show slL A1.aw A1.cw 2 encP (0, 0) X.writes = slL Ax.aw Ax.cw 2 encP (0, 0) cnL
    rw [gw1, gw2, hxl]
  have fx := S.own (cmR bx A1 X) (by simp) rfl
  have fk := S.own (setR bks cnC.rv cnC.st cnC.hs) (by simp) rfl
  have fx2 : ∀ k, (wrR A1 X).foot k → k < w0.heap.size → False := fun k hk hlt => fx k (.inr (.inr (.inl hk))) hlt
  rw [hwr] at fx2
  replace S : Sat (fun _ => False) w0 _ [blk bx 9 (cmC A1 X) 88, csR A1 X, wrR A1 X, owR A1 X, heapR bh ga va gc vc cnH2, rowL (some ⟨bl, 0, none⟩) 4 49 2 encP (0, 0) cnL, blk bk 9 (cmC { Ax with bs := bks } cnC) 88, setR bks cnC.rv cnC.st cnC.hs] := cm_openL (S.sub (L' := [cmR bx A1 X, heapR bh ga va gc vc cnH2, rowL (some ⟨bl, 0, none⟩) 4 49 2 encP (0, 0) cnL, blk bk 9 (cmC { Ax with bs := bks } cnC) 88, setR bks cnC.rv cnC.st cnC.hs]))
  replace S := S.sub (L' := [blk bx 9 (cmC A1 X) 88, wrR A1 X, heapR bh ga va gc vc cnH2, rowL (some ⟨bl, 0, none⟩) 4 49 2 encP (0, 0) cnL, blk bk 9 (cmC { Ax with bs := bks } cnC) 88, setR bks cnC.rv cnC.st cnC.hs])
  rw [hwr] at S
  replace S := S.perm (L' := [setR bks cnC.rv cnC.st cnC.hs, blk bx 9 (cmC A1 X) 88, wrR { Ax with bs := bks } cnC, heapR bh ga va gc vc cnH2, rowL (some ⟨bl, 0, none⟩) 4 49 2 encP (0, 0) cnL, blk bk 9 (cmC { Ax with bs := bks } cnC) 88]) (List.perm_append_comm (l₁ := [_]) (l₂ := [_, _, _, _, _]))
  replace S := S.toRo (y := csR { Ax with bs := bks } cnC) S.got1 rfl rfl (fun k hk => hk)
  replace S := S.push (r := owR { Ax with bs := bks } cnC) (hno _) (fun x hx => .inr fun k hk _ => absurd hk.1 (by decide)) (fun e => by cases e)
  replace S : Sat (fun _ => False) w0 _ (cmL bk { Ax with bs := bks } cnC ++ [heapR bh ga va gc vc cnH2, rowL (some ⟨bl, 0, none⟩) 4 49 2 encP (0, 0) cnL, blk bx 9 (cmC A1 X) 88]) := S.perm (by
    show List.Perm [_, _, _, _, _, _, _] [_, _, _, _, _, _, _]
    refine List.Perm.trans ?_ (List.perm_append_comm (l₁ := [blk bk 9 (cmC { Ax with bs := bks } cnC) 88]) (l₂ := [_, _, _, _, _, _]))
    refine List.Perm.cons _ ?_
    refine List.Perm.trans ?_ (List.Perm.swap _ _ _)
    refine List.Perm.cons _ ?_
    refine List.Perm.trans (List.Perm.swap _ _ _) (List.Perm.cons _ ?_)
    exact (List.perm_append_comm (l₁ := [_, _, _]) (l₂ := [_])).trans (List.Perm.refl _))
  replace S := cm_shutL S (fun x hx => by
    simp only [List.mem_cons, List.not_mem_nil, or_false] at hx
    rcases hx with rfl | rfl | rfl <;> rfl) (fun k hk hlt => by
    rcases hk with hk | hk | hk
    · exact fk k hk hlt
    · exact fx2 k hk hlt
    · exact absurd hk.1 (by decide))
  clear fx fx2 fk
  refine callL (run_at2 S.begin2 (n := 6) (st := 3) (limit := 99) (InvC.new (by decide) (by unfold okN cnL; decide)) cnOk2 (by decide) (by decide)) rfl rfl ?_
  rintro e w' ⟨a2, c2, A2, rfl, _, hS⟩
  change Sat _ _ _ [rowL a2 c2 44 7 encE evD cnK.1, cmR bk A2 cnK.2.2.1, heapR bh ga va gc vc cnK.2.2.2] at hS
  change ∃ v, Ending.returned (.tuple #[.slice a2 cnK.1.length c2, .bool cnK.2.1]) = _ ∧ _
  rw [cnK1.2.2, cnK1.1] at hS
  rw [cnK1.1, cnK1.2.1]
  replace S := S.both3 hS rfl rfl rfl rfl rfl
  clear hS
  refine ⟨_, rfl, ?_⟩
  have hkc := cnK2
  generalize cnK.2.2.1 = K at hkc S
  have hlen2 : cnE2.length = 8 := rfl
  have p4 : (cnE2.getD 4 evD).why = 5 := rfl
  have p5 : (cnE2.getD 4 evD).at_ = 0 := rfl
  repeat' (first | refine move_b_l S rfl rfl ?_ | refine nilL ?_ | refine run_seq ?_ | refine run_region ?_ | refine onL rfl rfl ?_ | refine move_s_l S rfl rfl ?_ | refine assign_b_l S rfl rfl ?_ | (refine buildSlice_l S rfl rfl rfl rfl rfl ?_; clear S; intro b w S) | refine not_l S rfl rfl ?_ | refine assign_s_l S rfl rfl ?_ | refine extract_s_l S rfl rfl rfl ?_ | refine extract_b_l S rfl rfl rfl ?_ | refine move_o_l S rfl rfl ?_ | refine thenQ_n ?_)
  refine callL (kinds_at a2 (some ⟨b, 0, none⟩) c2 8 cnE2 [4, 4, 4, 5, 10, 11, 11, 11] _ (RowOk.sl (S.all (rowL a2 c2 44 7 encE evD cnE2) (by simp))) (SlOk.congr (RowOk.sl S.got1) (fun i hi j hj => by
    obtain rfl : j = 0 := by omega
    match i, hi with
    | 0, _ => rfl
    | 1, _ => rfl
    | 2, _ => rfl
    | 3, _ => rfl
    | 4, _ => rfl
    | 5, _ => rfl
    | 6, _ => rfl
    | 7, _ => rfl))) rfl rfl ?_
  rintro e w' ⟨rfl, hb⟩
  replace S := (S.below hb).tl
  clear hb
  refine ⟨_, rfl, ?_⟩
  rw [show decide (List.map (·.kind) cnE2 = [4, 4, 4, 5, 10, 11, 11, 11]) = true from by decide]
  repeat' (first | refine move_p_l S rfl rfl ?_ | refine move_b_l S rfl rfl ?_ | refine onL rfl rfl ?_ | refine pick_fb_l S rfl rfl rfl ?_ | (refine neq_l S rfl rfl rfl ?_ ?_ <;> intro hcmp <;> try (exfalso; first | omega | exact hcmp (by decide) | exact absurd hcmp (by decide))) | refine move_s_l S rfl rfl ?_ | refine indexAddr_l S rfl rfl (idx_cast _) (by first | omega | decide | (simp; done) | (simp; omega)) rfl ?_ | refine fieldAddrE_l S rfl (by first | omega | decide | (simp; done) | (simp; omega)) rfl rfl ?_ | refine loadE_i_l S rfl (by first | omega | decide | (simp; done) | (simp; omega)) rfl rfl rfl ?_ | refine not_l S rfl rfl ?_)
  (refine callL (committed_at (S.all (cmR bk A2 K) (by simp))) rfl rfl ?_; rintro e w ⟨rfl, hb⟩; replace S := S.below hb; clear hb; refine ⟨_, rfl, ?_⟩)
  rw [hkc]
  repeat' (first | refine move_p_l S rfl rfl ?_ | refine move_b_l S rfl rfl ?_ | refine onL rfl rfl ?_ | refine pick_fb_l S rfl rfl rfl ?_)
  (refine callL (value_at (S.all (heapR bh ga va gc vc cnH3) (by simp)) 5) rfl rfl ?_; rintro e w ⟨rfl, hb⟩; replace S := S.below hb; clear hb; refine ⟨_, rfl, ?_⟩)
  rw [show valueV cnH3 5 = 5 from by decide]
  repeat' (first | refine move_p_l S rfl rfl ?_ | refine move_b_l S rfl rfl ?_ | refine onL rfl rfl ?_ | refine pick_fb_l S rfl rfl rfl ?_ | (refine neq_l S rfl rfl rfl ?_ ?_ <;> intro hcmp <;> try (exfalso; first | omega | exact hcmp (by decide) | exact absurd hcmp (by decide))))
  (refine callL (clock_at (S.all (heapR bh ga va gc vc cnH3) (by simp))) rfl rfl ?_; rintro e w ⟨rfl, hb⟩; replace S := S.below hb; clear hb; refine ⟨_, rfl, ?_⟩)
  rw [show cnH3.clock = 3 from rfl]
  repeat' (first | refine nilL ?_ | refine run_seq ?_ | refine run_skip ?_ | refine run_region ?_ | refine onL rfl rfl ?_ | refine pick_fb_l S rfl rfl rfl ?_ | (refine neq_l S rfl rfl rfl ?_ ?_ <;> intro hcmp <;> try (exfalso; first | omega | exact hcmp (by decide) | exact absurd hcmp (by decide))) | refine move_s_l S rfl rfl ?_ | refine run_cond_false rfl ?_ | refine thenQ_n ?_)
  replace S := S.sub (L' := [heapR bh ga va gc vc cnH3, rowL (some ⟨bl, 0, none⟩) 4 49 2 encP (0, 0) cnL, blk bx 9 (cmC A1 X) 88])
  refine callL (made_c 1 3 none (some ⟨bl, 0, none⟩) 0 4 [] cnL (by decide) _ (nilSl_holds _ 1 (by decide) encI 0) (RowOk.sl S.second)) rfl rfl ?_
  rintro e w' ⟨p, rfl, hp, hb⟩
  rcases hp with ⟨_, by_, Ay, rfl, h1, h2⟩ | ⟨hn, _⟩
  rotate_left
  · exact absurd (by unfold okM okN cnL; decide) hn
  rw [← cnY_z.1] at h1 h2
  replace S := S.fresh (r := cmR by_ Ay (cnY 0).1) hb h1 h2
  rw [← cnY_z.2] at S
  clear hb h1 h2
  refine ⟨_, rfl, ?_⟩
  repeat' (first | refine nilL ?_ | refine run_seq ?_ | refine run_region ?_ | refine assign_i_l S rfl rfl ?_ | refine assign_p_l S rfl rfl ?_ | refine run_block ?_ | refine thenQ_n ?_)
  refine run_while [280, 281, 282, 283, 284, 285, 286] (fun (s : Nat × CA) t => upd t 27 (.int .i64 s.1)) (fun s w' => s.1 ≤ 6 ∧ Sat (fun _ => False) w0 w' [cmR by_ s.2 (cnY s.1).1, heapR bh ga va gc vc (cnY s.1).2, rowL (some ⟨bl, 0, none⟩) 4 49 2 encP (0, 0) cnL, blk bx 9 (cmC A1 X) 88]) (fun s => 6 - s.1) (0, Ay) ?_ ?_ ?_
  · (repeat (first | exact agree_refl | refine agree_r rfl ?_ | refine agree_l rfl ?_ | refine agree_hv rfl ?_))
  · exact ⟨Nat.zero_le _, S⟩
  clear S
  rintro ⟨i, A5⟩ j w ⟨hi, S⟩
  replace hi : i ≤ 6 := hi
  replace S : Sat (fun _ => False) w0 w [cmR by_ A5 (cnY i).1, heapR bh ga va gc vc (cnY i).2, rowL (some ⟨bl, 0, none⟩) 4 49 2 encP (0, 0) cnL, blk bx 9 (cmC A1 X) 88] := S
  dsimp only
  by_cases hil : i < 6
  · repeat' (first | refine move_p_l S rfl rfl ?_ | refine nilL ?_ | refine run_seq ?_ | refine run_skip ?_ | refine run_region ?_ | refine move_i_l S rfl rfl ?_ | (refine lss_l S rfl rfl rfl ?_ ?_ <;> intro hcmp <;> try (exfalso; first | omega | exact hcmp (by decide) | exact absurd hcmp (by decide))) | refine run_block ?_ | refine run_cond_true rfl ?_ | refine thenQ_n ?_)
    refine callL (step_at S.begin2 ((cnY_ok i).1.pre (cnY_ok i).2 (by decide) (by decide))) rfl rfl ?_
    rintro e w' ⟨rfl, A6, _, hS⟩
    replace S := S.both hS rfl rfl rfl rfl
    rw [← (cnY_s i).1, ← (cnY_s i).2] at S
    clear hS
    refine ⟨_, rfl, ?_⟩
    repeat' (first | refine nilL ?_ | refine run_region ?_ | refine assign_i_l S rfl rfl ?_ | refine move_i_l S rfl rfl ?_ | refine add_l S rfl rfl (wrap_in (by omega)) rfl ?_ | refine thenQ_n ?_ | refine blockQ_n ?_)
    refine ⟨(i + 1, A6), ?_, ⟨by show i + 1 ≤ 6; omega, S⟩, by show 6 - (i + 1) < 6 - i; omega⟩
    dsimp only
    rw [Int.natCast_add]
    (repeat (first | exact agree_refl | refine agree_r rfl ?_ | refine agree_l rfl ?_ | refine agree_hv rfl ?_))
  · obtain rfl : i = 6 := by omega
    repeat' (first | refine nilL ?_ | refine run_seq ?_ | refine run_region ?_ | refine move_i_l S rfl rfl ?_ | (refine buildSlice_l S rfl rfl rfl rfl rfl ?_; clear S; intro b w S) | (refine lss_l S rfl rfl rfl ?_ ?_ <;> intro hcmp <;> try (exfalso; first | omega | exact hcmp (by decide) | exact absurd hcmp (by decide))) | refine run_exit ?_ | refine run_cond_false rfl ?_ | refine thenQ_n ?_ | refine thenQ_e ?_ | refine blockQ_s rfl ?_)
    obtain ⟨y4, y5, yd, yw, yo⟩ := cnY1
    rw [y4] at S
    have pre5 := cnPre (H := cnH5) (by decide) (by decide)
    have preS := cnPre (H := cnS) (by decide) (by decide)
    obtain ⟨z1, z2, z3, z4⟩ := cnY2
    generalize (cnY 6).1 = Y at y5 yd yw yo pre5 preS z1 z2 S
    refine callL (new_yes (some ⟨b, 0, none⟩) 1 [1] 1 9 (by unfold goodNew; decide) _ (RowOk.sl (RowOk.congr S.got1 (fun i hi j hj => by
      obtain rfl : i = 0 := by simp at hi; omega
      obtain rfl : j = 0 := by omega
      rfl)))) rfl rfl ?_
    rintro e w' ⟨_, rfl, ⟨bs2, ga2, va2, gc2, vc2, rfl, hh, hf⟩, hb⟩
    replace S := ((S.fresh hb hh hf).sub (L' := [heapR bs2 ga2 va2 gc2 vc2 (newH [1] 1 9), cmR by_ A5 Y, heapR bh ga va gc vc cnH4, rowL (some ⟨bl, 0, none⟩) 4 49 2 encP (0, 0) cnL, blk bx 9 (cmC A1 X) 88])).sw
    rw [show newH [1] 1 9 = cnS from rfl] at S
    clear hb hh hf
    refine ⟨_, rfl, ?_⟩
    repeat' (first | refine move_p_l S rfl rfl ?_ | refine nilL ?_ | refine run_seq ?_ | refine run_region ?_ | refine assign_i_l S rfl rfl ?_ | refine extract_i_l S rfl rfl rfl ?_ | refine assign_p_l S rfl rfl ?_ | refine extract_p_l S rfl rfl rfl ?_ | refine move_o_l S rfl rfl ?_ | refine thenQ_n ?_)
    refine callL (step_at S.begin2 preS) rfl rfl ?_
    rintro e w' ⟨rfl, A6, _, hS⟩
    replace S := S.both hS rfl rfl rfl rfl
    clear hS
    refine ⟨_, rfl, ?_⟩
    rw [show stepC Y cnS = Y from by unfold stepC; rw [if_neg (by rw [z1]; decide)]] at S
    rw [z1]
    generalize stepEv Y cnS = ev1
    repeat' (first | refine move_p_l S rfl rfl ?_ | refine nilL ?_ | refine run_seq ?_ | refine run_region ?_ | refine assign_i_l S rfl rfl ?_ | refine extract_i_l S rfl rfl rfl ?_ | refine extract_a_l S rfl rfl rfl ?_ | (refine allocZ_l S rfl rfl ?_; clear S; intro b w S) | (refine storeN_l S rfl rfl ⟨rfl, rfl⟩ rfl ?_; clear S; intro w S) | refine move_o_l S rfl rfl ?_ | refine thenQ_n ?_)
    (refine callL (cstep_nilh _ by_) rfl rfl ?_; rintro e w ⟨rfl, hb⟩; replace S := S.below hb; clear hb; refine ⟨_, rfl, ?_⟩)
    repeat' (first | refine nilL ?_ | refine run_seq ?_ | refine assign_i_l S rfl rfl ?_ | refine extract_i_l S rfl rfl rfl ?_ | refine extract_a_l S rfl rfl rfl ?_ | (refine allocZ_l S rfl rfl ?_; clear S; intro b w S) | (refine storeN_l S rfl rfl ⟨rfl, rfl⟩ rfl ?_; clear S; intro w S) | refine move_o_l S rfl rfl ?_ | refine thenQ_n ?_)
    replace S := S.sub (L' := [cmR by_ A6 Y, heapR bh ga va gc vc cnH4, rowL (some ⟨bl, 0, none⟩) 4 49 2 encP (0, 0) cnL, blk bx 9 (cmC A1 X) 88])
    have hlL : cnL.length = 4 := rfl
    refine run_any S (L' := [rowL (some ⟨bl, 0, none⟩) 4 49 2 encP (0, 0) cnL]) (f := 26) mixed rfl ?_
    clear S
    intro w S1
    have S : Sat _ _ w [rowL (some ⟨bl, 0, none⟩) 4 49 2 encP (0, 0) cnL] := S1.sub
    all_goals (refine any_pure (i := 0) rfl (by kernel_rfl) S ?_; (first | refine move_p_x rfl rfl ?_ | refine move_e_x rfl rfl ?_ | refine move_o_x rfl rfl ?_))
    all_goals (refine any_pure (i := 2) rfl (by kernel_rfl) S ?_; refine move_s_x rfl rfl ?_)
    all_goals (refine any_pure (i := 3) rfl (by kernel_rfl) S ?_; refine sliceSuf_x (l := 1) (len := 4) (cap := 4) rfl rfl (by decide) rfl ?_)
    all_goals refine any_step (i := 1) rfl (by kernel_rfl) ?_
    all_goals replace S := S1
    all_goals clear S1
    have hdr : Y.writes.drop Y.done.toNat = [(2, 2), (3, 3), (5, 5)] := by rw [yw, yd]; rfl
    refine callL (cpending_yes (S.all (cmR by_ A6 Y) (by simp)) y5 (by rw [yd, yw]; decide) (by rw [yw]; decide)) rfl rfl ?_
    rw [hdr]
    rintro e w' ⟨_, rfl, ⟨pa, pc, rfl, hh, hf⟩, hb⟩
    replace S := Sat.freshRow S hb hh hf
    clear hb hh hf
    refine ⟨_, rfl, ?_⟩
    all_goals try refine nilL ?_
    all_goals refine ⟨S.sub, ?_⟩
    all_goals (have S1 := S; replace S : Sat _ _ _ [rowL (some ⟨bl, 0, none⟩) 4 49 2 encP (0, 0) cnL] := S1.sub)
    all_goals refine any_step (i := 4) rfl (by kernel_rfl) ?_
    all_goals replace S := S1
    all_goals clear S1
    have hsub : ∀ w, (rowL (some ⟨bl, 0, none⟩) 4 49 2 encP (0, 0) cnL).holds w → SlOk w (subA (some ⟨bl, 0, none⟩) 1 4 2) 3 3 2 (gL encP (0, 0) [(2, 2), (3, 3), (5, 5)]) := fun w h => ((RowOk.sl h).sub (lo := 1) (n := 3) (by decide)).congr fun i hi j hj => by
      match i, hi with
      | 0, _ => rfl
      | 1, _ => rfl
      | 2, _ => rfl
    refine callL (pairsE_at (l := [(2, 2), (3, 3), (5, 5)]) (l2 := [(2, 2), (3, 3), (5, 5)]) (RowOk.sl S.got1) (hsub _ (S.all (rowL (some ⟨bl, 0, none⟩) 4 49 2 encP (0, 0) cnL) (by simp)))) rfl rfl ?_
    rintro e w' ⟨rfl, hb⟩
    replace S := S.below hb
    clear hb
    refine ⟨_, rfl, ?_⟩
    rw [decide_eq_true rfl]
    all_goals try refine nilL ?_
    all_goals refine ⟨S.sub, ?_⟩
    all_goals (have S1 := S; replace S : Sat _ _ _ [rowL (some ⟨bl, 0, none⟩) 4 49 2 encP (0, 0) cnL] := S1.sub)
    all_goals (refine any_pure (i := 5) rfl (by kernel_rfl) S ?_; refine not_x rfl rfl ?_)
    all_goals (refine any_pure (i := 6) rfl (by kernel_rfl) S ?_; refine move_b_x rfl rfl ?_)
    all_goals (refine any_pure (i := 7) rfl (by kernel_rfl) S ?_; first | (refine onX rfl rfl ?_; refine move_i_x rfl rfl ?_) | first | refine offX rfl rfl rfl rfl ?_ | refine offXU rfl rfl rfl ?_)
    all_goals (refine any_pure (i := 8) rfl (by kernel_rfl) S ?_; first | (refine onX rfl rfl ?_; (refine neq_x rfl rfl rfl ?_ ?_ <;> intro hcmp <;> try (exfalso; first | omega | exact hcmp (by decide) | exact absurd hcmp (by decide)))) | first | refine offX rfl rfl rfl rfl ?_ | refine offXU rfl rfl rfl ?_)
    all_goals (refine any_pure (i := 9) rfl (by kernel_rfl) S ?_; (first | refine pick_tb_x rfl rfl rfl ?_ | refine pick_fb_x rfl rfl rfl ?_))
    all_goals (refine any_pure (i := 10) rfl (by kernel_rfl) S ?_; refine move_b_x rfl rfl ?_)
    all_goals (refine any_pure (i := 11) rfl (by kernel_rfl) S ?_; first | (refine onX rfl rfl ?_; refine move_i_x rfl rfl ?_) | first | refine offX rfl rfl rfl rfl ?_ | refine offXU rfl rfl rfl ?_)
    all_goals (refine any_pure (i := 12) rfl (by kernel_rfl) S ?_; first | (refine onX rfl rfl ?_; (refine neq_x rfl rfl rfl ?_ ?_ <;> intro hcmp <;> try (exfalso; first | omega | exact hcmp (by decide) | exact absurd hcmp (by decide)))) | first | refine offX rfl rfl rfl rfl ?_ | refine offXU rfl rfl rfl ?_)
    all_goals (refine any_pure (i := 13) rfl (by kernel_rfl) S ?_; (first | refine pick_tb_x rfl rfl rfl ?_ | refine pick_fb_x rfl rfl rfl ?_))
    all_goals (refine any_pure (i := 14) rfl (by kernel_rfl) S ?_; refine move_b_x rfl rfl ?_)
    all_goals (refine any_pure (i := 15) rfl (by kernel_rfl) S ?_; first | (refine onX rfl rfl ?_; (first | refine move_p_x rfl rfl ?_ | refine move_e_x rfl rfl ?_ | refine move_o_x rfl rfl ?_)) | first | refine offX rfl rfl rfl rfl ?_ | refine offXU rfl rfl rfl ?_)
    all_goals refine any_all (l := [16, 17]) (by kernel_rfl) (by decide) ?_
    intro i hi
    simp only [List.mem_cons, List.not_mem_nil, or_false] at hi
    rcases hi with rfl | rfl
    · refine ⟨_, rfl, ?_⟩
      replace S := S1
      clear S1
      refine onL rfl rfl ?_
      refine callL (cowned_at (S.all (cmR by_ A6 Y) (by simp)) (by rw [yo]; decide)) rfl rfl ?_
      rw [yo]
      rintro e w' ⟨_, rfl, ⟨oa, oc, rfl, hh, hf⟩, hb⟩
      replace S := Sat.freshRow S hb hh hf
      clear hb hh hf
      refine ⟨_, rfl, ?_⟩
      all_goals try refine nilL ?_
      all_goals refine ⟨S.sub, ?_⟩
      all_goals (have S1 := S; replace S : Sat _ _ _ [rowL (some ⟨bl, 0, none⟩) 4 49 2 encP (0, 0) cnL] := S1.sub)
      all_goals (refine any_step (i := 17) rfl (by kernel_rfl) ?_; first | (refine onL rfl rfl ?_; replace S := S1; clear S1; (first | (refine buildSlice_l S rfl rfl rfl rfl rfl ?_; clear S; intro b w S) | (apply buildSliceN_l S; (· repeat (first | exact vsN | apply vsC rfl)); (· rfl); (· rfl); (· rfl); (· rfl); (· rfl); clear S; intro b w S)); refine nilL ?_; refine ⟨S.sub, ?_⟩; have S1 := S; replace S : Sat _ _ _ [rowL (some ⟨bl, 0, none⟩) 4 49 2 encP (0, 0) cnL] := S1.sub) | (first | (refine offL rfl rfl rfl rfl ?_; refine nilL ?_) | (refine offLU rfl rfl rfl ?_; refine nilL ?_) | (refine offL0 rfl rfl rfl ?_; refine nilL ?_); refine ⟨S.sub, ?_⟩))
      all_goals refine any_step (i := 18) rfl (by kernel_rfl) ?_
      all_goals first | refine onL rfl rfl ?_ | (first | (refine offL rfl rfl rfl rfl ?_; refine nilL ?_) | (refine offLU rfl rfl rfl ?_; refine nilL ?_) | (refine offL0 rfl rfl rfl ?_; refine nilL ?_); refine ⟨S.sub, ?_⟩)
      all_goals replace S := S1
      all_goals clear S1
      refine callL (numbers_at oa (some ⟨b, 0, none⟩) oc 3 [0, 1, 2] [0, 1, 2] _ (RowOk.sl S.second) (RowOk.sl (RowOk.congr S.got1 (fun i hi j hj => by
        obtain rfl : j = 0 := by omega
        match i, hi with
        | 0, _ => rfl
        | 1, _ => rfl
        | 2, _ => rfl)))) rfl rfl ?_
      rintro e w' ⟨rfl, hb⟩
      replace S := S.below hb
      clear hb
      refine ⟨_, rfl, ?_⟩
      rw [decide_eq_true rfl]
      all_goals try refine nilL ?_
      all_goals refine ⟨S.sub, ?_⟩
      all_goals (have S1 := S; replace S : Sat _ _ _ [rowL (some ⟨bl, 0, none⟩) 4 49 2 encP (0, 0) cnL] := S1.sub)
      all_goals (refine any_pure (i := 19) rfl (by kernel_rfl) S ?_; first | (refine onX rfl rfl ?_; refine not_x rfl rfl ?_) | first | refine offX rfl rfl rfl rfl ?_ | refine offXU rfl rfl rfl ?_)
      all_goals (refine any_pure (i := 20) rfl (by kernel_rfl) S ?_; (first | refine pick_tb_x rfl rfl rfl ?_ | refine pick_fb_x rfl rfl rfl ?_))
      all_goals (refine any_pure (i := 21) rfl (by kernel_rfl) S ?_; refine move_b_x rfl rfl ?_)
      all_goals (refine any_pure (i := 22) rfl (by kernel_rfl) S ?_; first | (refine onX rfl rfl ?_; (first | refine move_p_x rfl rfl ?_ | refine move_e_x rfl rfl ?_ | refine move_o_x rfl rfl ?_)) | first | refine offX rfl rfl rfl rfl ?_ | refine offXU rfl rfl rfl ?_)
      all_goals refine any_step (i := 23) rfl (by kernel_rfl) ?_
      all_goals first | refine onL rfl rfl ?_ | (first | (refine offL rfl rfl rfl rfl ?_; refine nilL ?_) | (refine offLU rfl rfl rfl ?_; refine nilL ?_) | (refine offL0 rfl rfl rfl ?_; refine nilL ?_); refine ⟨S.sub, ?_⟩)
      all_goals replace S := S1
      all_goals clear S1
      refine callL (let_at (S.all (heapR bh ga va gc vc cnH4) (by simp)) 1 1) rfl rfl ?_
      rintro e w' ⟨rfl, hm⟩
      replace S := S.swap (r := heapR bh ga va gc vc cnH4) (r' := heapR bh ga va gc vc (letH cnH4 1 1)) rfl hm.2 hm.1 rfl (fun k e => .inl e)
      clear hm
      rw [z4] at S
      rw [z3]
      refine ⟨_, rfl, ?_⟩
      all_goals try refine nilL ?_
      all_goals refine ⟨S.sub, ?_⟩
      all_goals (have S1 := S; replace S : Sat _ _ _ [rowL (some ⟨bl, 0, none⟩) 4 49 2 encP (0, 0) cnL] := S1.sub)
      all_goals (refine any_pure (i := 24) rfl (by kernel_rfl) S ?_; first | (refine onX rfl rfl ?_; (refine neq_x rfl rfl rfl ?_ ?_ <;> intro hcmp <;> try (exfalso; first | omega | exact hcmp (by decide) | exact absurd hcmp (by decide)))) | first | refine offX rfl rfl rfl rfl ?_ | refine offXU rfl rfl rfl ?_)
      all_goals (refine any_pure (i := 25) rfl (by kernel_rfl) S ?_; (first | refine pick_tb_x rfl rfl rfl ?_ | refine pick_fb_x rfl rfl rfl ?_))
      all_goals refine any_end (by kernel_rfl) ?_
      all_goals replace S := S1
      all_goals clear S1
      replace S := S.sub (L' := [cmR by_ A6 Y, heapR bh ga va gc vc cnH5, blk bx 9 (cmC A1 X) 88])
      repeat' (first | refine move_p_l S rfl rfl ?_ | refine run_seq ?_ | refine run_skip ?_ | refine run_region ?_ | refine run_cond_false rfl ?_ | refine thenQ_n ?_)
      refine callL (step_at S.begin2 pre5) rfl rfl ?_
      rintro e w' ⟨rfl, A7, _, hS⟩
      replace S := S.both hS rfl rfl rfl rfl
      clear hS
      refine ⟨_, rfl, ?_⟩
      rw [z2]
      generalize stepEv Y cnH5 = ev2
      repeat' (first | refine move_p_l S rfl rfl ?_ | refine nilL ?_ | refine run_seq ?_ | refine run_region ?_ | refine assign_i_l S rfl rfl ?_ | refine extract_i_l S rfl rfl rfl ?_ | refine extract_a_l S rfl rfl rfl ?_ | (refine allocZ_l S rfl rfl ?_; clear S; intro b w S) | (refine storeN_l S rfl rfl ⟨rfl, rfl⟩ rfl ?_; clear S; intro w S) | refine move_o_l S rfl rfl ?_ | refine thenQ_n ?_)
      (refine callL (cstep_over (S.all (blk bx 9 (cmC A1 X) 88) (by simp)) hx8 bh) rfl rfl ?_; rintro e w ⟨rfl, hb⟩; replace S := S.below hb; clear hb; refine ⟨_, rfl, ?_⟩)
      repeat' (first | refine move_b_l S rfl rfl ?_ | refine nilL ?_ | refine run_seq ?_ | refine run_region ?_ | refine onL rfl rfl ?_ | refine pick_tb_l S rfl rfl rfl ?_ | refine assign_i_l S rfl rfl ?_ | refine extract_i_l S rfl rfl rfl ?_ | refine move_i_l S rfl rfl ?_ | refine assign_b_l S rfl rfl ?_ | refine extract_a_l S rfl rfl rfl ?_ | (refine allocZ_l S rfl rfl ?_; clear S; intro b w S) | (refine storeN_l S rfl rfl ⟨rfl, rfl⟩ rfl ?_; clear S; intro w S) | (refine eql_l S rfl rfl rfl ?_ ?_ <;> intro hcmp <;> try (exfalso; first | omega | exact hcmp (by decide) | exact absurd hcmp (by decide))) | refine move_o_l S rfl rfl ?_ | refine run_ret ?_ | refine thenQ_n ?_ | refine ret1_b rfl ?_)
      exact ⟨rfl, S.chg.below⟩
    · refine ⟨_, rfl, ?_⟩
      replace S := S1
      clear S1
      repeat' (first | refine nilL ?_ | refine onL rfl rfl ?_ | (refine buildSlice_l S rfl rfl rfl rfl rfl ?_; clear S; intro b w S))
      refine ⟨S.sub, ?_⟩
      have S1 := S
      replace S : Sat _ _ _ [rowL (some ⟨bl, 0, none⟩) 4 49 2 encP (0, 0) cnL] := S1.sub
      refine any_step (i := 16) rfl (by kernel_rfl) ?_
      refine onL rfl rfl ?_
      replace S := S1
      clear S1
      refine callL (cowned_at (S.all (cmR by_ A6 Y) (by simp)) (by rw [yo]; decide)) rfl rfl ?_
      rw [yo]
      rintro e w' ⟨_, rfl, ⟨oa, oc, rfl, hh, hf⟩, hb⟩
      replace S := Sat.freshRow S hb hh hf
      clear hb hh hf
      refine ⟨_, rfl, ?_⟩
      all_goals try refine nilL ?_
      all_goals refine ⟨S.sub, ?_⟩
      all_goals (have S1 := S; replace S : Sat _ _ _ [rowL (some ⟨bl, 0, none⟩) 4 49 2 encP (0, 0) cnL] := S1.sub)
      all_goals refine any_step (i := 18) rfl (by kernel_rfl) ?_
      all_goals first | refine onL rfl rfl ?_ | (first | (refine offL rfl rfl rfl rfl ?_; refine nilL ?_) | (refine offLU rfl rfl rfl ?_; refine nilL ?_) | (refine offL0 rfl rfl rfl ?_; refine nilL ?_); refine ⟨S.sub, ?_⟩)
      all_goals replace S := S1
      all_goals clear S1
      refine callL (numbers_at oa (some ⟨b, 0, none⟩) oc 3 [0, 1, 2] [0, 1, 2] _ (RowOk.sl S.got1) (RowOk.sl (RowOk.congr S.second (fun i hi j hj => by
        obtain rfl : j = 0 := by omega
        match i, hi with
        | 0, _ => rfl
        | 1, _ => rfl
        | 2, _ => rfl)))) rfl rfl ?_
      rintro e w' ⟨rfl, hb⟩
      replace S := S.below hb
      clear hb
      refine ⟨_, rfl, ?_⟩
      rw [decide_eq_true rfl]
      all_goals try refine nilL ?_
      all_goals refine ⟨S.sub, ?_⟩
      all_goals (have S1 := S; replace S : Sat _ _ _ [rowL (some ⟨bl, 0, none⟩) 4 49 2 encP (0, 0) cnL] := S1.sub)
      all_goals (refine any_pure (i := 19) rfl (by kernel_rfl) S ?_; first | (refine onX rfl rfl ?_; refine not_x rfl rfl ?_) | first | refine offX rfl rfl rfl rfl ?_ | refine offXU rfl rfl rfl ?_)
      all_goals (refine any_pure (i := 20) rfl (by kernel_rfl) S ?_; (first | refine pick_tb_x rfl rfl rfl ?_ | refine pick_fb_x rfl rfl rfl ?_))
      all_goals (refine any_pure (i := 21) rfl (by kernel_rfl) S ?_; refine move_b_x rfl rfl ?_)
      all_goals (refine any_pure (i := 22) rfl (by kernel_rfl) S ?_; first | (refine onX rfl rfl ?_; (first | refine move_p_x rfl rfl ?_ | refine move_e_x rfl rfl ?_ | refine move_o_x rfl rfl ?_)) | first | refine offX rfl rfl rfl rfl ?_ | refine offXU rfl rfl rfl ?_)
      all_goals refine any_step (i := 23) rfl (by kernel_rfl) ?_
      all_goals first | refine onL rfl rfl ?_ | (first | (refine offL rfl rfl rfl rfl ?_; refine nilL ?_) | (refine offLU rfl rfl rfl ?_; refine nilL ?_) | (refine offL0 rfl rfl rfl ?_; refine nilL ?_); refine ⟨S.sub, ?_⟩)
      all_goals replace S := S1
      all_goals clear S1
      refine callL (let_at (S.all (heapR bh ga va gc vc cnH4) (by simp)) 1 1) rfl rfl ?_
      rintro e w' ⟨rfl, hm⟩
      replace S := S.swap (r := heapR bh ga va gc vc cnH4) (r' := heapR bh ga va gc vc (letH cnH4 1 1)) rfl hm.2 hm.1 rfl (fun k e => .inl e)
      clear hm
      rw [z4] at S
      rw [z3]
      refine ⟨_, rfl, ?_⟩
      all_goals try refine nilL ?_
      all_goals refine ⟨S.sub, ?_⟩
      all_goals (have S1 := S; replace S : Sat _ _ _ [rowL (some ⟨bl, 0, none⟩) 4 49 2 encP (0, 0) cnL] := S1.sub)
      all_goals (refine any_pure (i := 24) rfl (by kernel_rfl) S ?_; first | (refine onX rfl rfl ?_; (refine neq_x rfl rfl rfl ?_ ?_ <;> intro hcmp <;> try (exfalso; first | omega | exact hcmp (by decide) | exact absurd hcmp (by decide)))) | first | refine offX rfl rfl rfl rfl ?_ | refine offXU rfl rfl rfl ?_)
      all_goals (refine any_pure (i := 25) rfl (by kernel_rfl) S ?_; (first | refine pick_tb_x rfl rfl rfl ?_ | refine pick_fb_x rfl rfl rfl ?_))
      all_goals refine any_end (by kernel_rfl) ?_
      all_goals replace S := S1
      all_goals clear S1
      replace S := S.sub (L' := [cmR by_ A6 Y, heapR bh ga va gc vc cnH5, blk bx 9 (cmC A1 X) 88])
      repeat' (first | refine move_p_l S rfl rfl ?_ | refine run_seq ?_ | refine run_skip ?_ | refine run_region ?_ | refine run_cond_false rfl ?_ | refine thenQ_n ?_)
      refine callL (step_at S.begin2 pre5) rfl rfl ?_
      rintro e w' ⟨rfl, A7, _, hS⟩
      replace S := S.both hS rfl rfl rfl rfl
      clear hS
      refine ⟨_, rfl, ?_⟩
      rw [z2]
      generalize stepEv Y cnH5 = ev2
      repeat' (first | refine move_p_l S rfl rfl ?_ | refine nilL ?_ | refine run_seq ?_ | refine run_region ?_ | refine assign_i_l S rfl rfl ?_ | refine extract_i_l S rfl rfl rfl ?_ | refine extract_a_l S rfl rfl rfl ?_ | (refine allocZ_l S rfl rfl ?_; clear S; intro b w S) | (refine storeN_l S rfl rfl ⟨rfl, rfl⟩ rfl ?_; clear S; intro w S) | refine move_o_l S rfl rfl ?_ | refine thenQ_n ?_)
      (refine callL (cstep_over (S.all (blk bx 9 (cmC A1 X) 88) (by simp)) hx8 bh) rfl rfl ?_; rintro e w ⟨rfl, hb⟩; replace S := S.below hb; clear hb; refine ⟨_, rfl, ?_⟩)
      repeat' (first | refine move_b_l S rfl rfl ?_ | refine nilL ?_ | refine run_seq ?_ | refine run_region ?_ | refine onL rfl rfl ?_ | refine pick_tb_l S rfl rfl rfl ?_ | refine assign_i_l S rfl rfl ?_ | refine extract_i_l S rfl rfl rfl ?_ | refine move_i_l S rfl rfl ?_ | refine assign_b_l S rfl rfl ?_ | refine extract_a_l S rfl rfl rfl ?_ | (refine allocZ_l S rfl rfl ?_; clear S; intro b w S) | (refine storeN_l S rfl rfl ⟨rfl, rfl⟩ rfl ?_; clear S; intro w S) | (refine eql_l S rfl rfl rfl ?_ ?_ <;> intro hcmp <;> try (exfalso; first | omega | exact hcmp (by decide) | exact absurd hcmp (by decide))) | refine move_o_l S rfl rfl ?_ | refine run_ret ?_ | refine thenQ_n ?_ | refine ret1_b rfl ?_)
      exact ⟨rfl, S.chg.below⟩
end Go.Proofs.Ytpiodhdbdlfnhaa
