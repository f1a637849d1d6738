/- readset: what is asked of nil. -/
import Derived.Test.YtndaggdpeeecfaaRsLm
namespace Go.Proofs.Ytndaggdpeeecfaa
open Go.RowKit Go.Lib
set_option linter.unusedVariables false
theorem has_nil (k : Int) (w0 : World) : Calls Try.prog 15 #[.pointer none, .int .i64 k] w0 fun e w' => e = .returned (.bool false) ∧ w0 = w' := by
  have S := Sat.start (fun _ => False) w0
  refine enter1 Try.func15 rfl Try.ntmps15 rfl Try.results15 ?_
  repeat' (first | refine move_p_l S rfl rfl ?_ | refine move_e_l S rfl rfl ?_ | refine move_b_l S rfl rfl ?_ | refine nilL ?_ | refine run_seq ?_ | refine run_skip ?_ | refine run_region ?_ | refine onL rfl rfl ?_ | refine offL rfl rfl rfl rfl ?_ | refine offL0 rfl rfl rfl ?_ | refine offLU rfl rfl rfl ?_ | refine move_i_l S rfl rfl ?_ | refine pick_tb_l S rfl rfl rfl ?_ | refine pick_fb_l S rfl rfl rfl ?_ | refine assign_b_l S rfl rfl ?_ | refine nilCheck_l S rfl rfl ?_ | refine nilCheckE_l S rfl (by omega) rfl ?_ | refine fieldAddr_l S rfl rfl rfl ?_ | refine fieldAddrE_l S rfl (by omega) rfl rfl ?_ | refine neqP_l S rfl rfl rfl ?_ | refine neqE_l S rfl rfl (by omega) rfl ?_ | (refine geq_l S rfl rfl rfl ?_ ?_ <;> intro hcmp <;> try (exfalso; omega)) | refine load_i_l S rfl rfl rfl rfl ?_ | refine loadE_i_l S rfl (by omega) rfl rfl rfl ?_ | (refine lss_l S rfl rfl rfl ?_ ?_ <;> intro hcmp <;> try (exfalso; omega)) | refine indexArr_l S rfl rfl (by omega) rfl rfl ?_ | refine load_b_l S rfl rfl rfl rfl ?_ | refine loadE_b_l S rfl (by omega) rfl rfl rfl ?_ | refine move_o_l S rfl rfl ?_ | refine load_o_l S rfl rfl rfl rfl ?_ | refine loadE_o_l S rfl (by omega) rfl rfl rfl ?_ | refine run_block ?_ | refine run_ret ?_ | refine run_exit ?_ | refine run_cond_true rfl ?_ | refine run_cond_false rfl ?_ | refine thenQ_n ?_ | refine thenQ_r ?_ | refine thenQ_e ?_ | refine blockQ_n ?_ | refine blockQ_r ?_ | refine blockQ_s rfl ?_ | refine blockQ_o rfl ?_ | refine ret1_i rfl ?_ | refine ret1_b rfl ?_ | refine ret1_p rfl ?_ | refine ret1_s rfl ?_ | refine ret1_e rfl ?_ | refine ret1_a rfl ?_ | refine ret1_o rfl ?_ | refine ret1n_i rfl ?_ | refine ret1n_b rfl ?_ | refine ret1n_p rfl ?_ | refine ret1n_s rfl ?_ | refine ret1n_o rfl ?_)
  exact ⟨rfl, rfl⟩
theorem has_nil_e (k : Int) (w0 : World) : Calls Try.prog 15 #[.pointer none, .int .i64 k] w0 fun e w' => e = .returned (.bool false) ∧ Below w0.heap.size w0 w' :=
  (has_nil k w0).mono (by rintro e w' ⟨rfl, rfl⟩; exact ⟨rfl, Below.refl _ _⟩)
theorem add_nil (k : Int) (w0 : World) : Calls Try.prog 21 #[.pointer none, .int .i64 k] w0 fun e w' => e = .returned (.int .i64 2) ∧ Below w0.heap.size w0 w' := by
  have S := Sat.start (fun _ => False) w0
  refine enter1 Try.func21 rfl Try.ntmps21 rfl Try.results21 ?_
  repeat' (first | refine assign_i_l S rfl rfl ?_ | refine move_p_l S rfl rfl ?_ | refine move_e_l S rfl rfl ?_ | refine nilL ?_ | refine run_seq ?_ | refine run_skip ?_ | refine run_region ?_ | refine onL rfl rfl ?_ | refine offL rfl rfl rfl rfl ?_ | refine offL0 rfl rfl rfl ?_ | refine offLU rfl rfl rfl ?_ | refine move_i_l S rfl rfl ?_ | refine assign_b_l S rfl rfl ?_ | refine nilCheck_l S rfl rfl ?_ | refine nilCheckE_l S rfl (by omega) rfl ?_ | refine fieldAddr_l S rfl rfl rfl ?_ | refine fieldAddrE_l S rfl (by omega) rfl rfl ?_ | refine eqlP_l S rfl rfl rfl ?_ | refine eqlE_l S rfl rfl (by omega) rfl ?_ | (refine lss_l S rfl rfl rfl ?_ ?_ <;> intro hcmp <;> try (exfalso; omega)) | refine move_b_l S rfl rfl ?_ | refine load_i_l S rfl rfl rfl rfl ?_ | refine loadE_i_l S rfl (by omega) rfl rfl rfl ?_ | (refine geq_l S rfl rfl rfl ?_ ?_ <;> intro hcmp <;> try (exfalso; omega)) | refine pick_tb_l S rfl rfl rfl ?_ | refine pick_fb_l S rfl rfl rfl ?_ | refine indexArr_l S rfl rfl (by omega) rfl rfl ?_ | (refine store_b S rfl rfl rfl ?_; clear S; intro w S) | (refine storeE_b S rfl rfl (by omega) rfl ?_; clear S; intro w S) | refine move_o_l S rfl rfl ?_ | refine load_o_l S rfl rfl rfl rfl ?_ | refine loadE_o_l S rfl (by omega) rfl rfl rfl ?_ | refine run_block ?_ | refine run_ret ?_ | refine run_exit ?_ | refine run_cond_true rfl ?_ | refine run_cond_false rfl ?_ | refine thenQ_n ?_ | refine thenQ_r ?_ | refine thenQ_e ?_ | refine blockQ_n ?_ | refine blockQ_r ?_ | refine blockQ_s rfl ?_ | refine blockQ_o rfl ?_ | refine ret1_i rfl ?_ | refine ret1_b rfl ?_ | refine ret1_p rfl ?_ | refine ret1_s rfl ?_ | refine ret1_e rfl ?_ | refine ret1_a rfl ?_ | refine ret1_o rfl ?_ | refine ret1n_i rfl ?_ | refine ret1n_b rfl ?_ | refine ret1n_p rfl ?_ | refine ret1n_s rfl ?_ | refine ret1n_o rfl ?_)
  exact ⟨rfl, S.chg.below⟩
theorem rv_nil (w0 : World) : Calls Try.prog 11 #[.pointer none] w0 fun e w' => e = .returned (.int .i64 0) ∧ Below w0.heap.size w0 w' := by
  have S := Sat.start (fun _ => False) w0
  refine enter1 Try.func11 rfl Try.ntmps11 rfl Try.results11 ?_
  repeat' (first | refine assign_i_l S rfl rfl ?_ | refine move_p_l S rfl rfl ?_ | refine move_e_l S rfl rfl ?_ | refine nilL ?_ | refine run_seq ?_ | refine run_skip ?_ | refine run_region ?_ | refine eqlP_l S rfl rfl rfl ?_ | refine eqlE_l S rfl rfl (by omega) rfl ?_ | refine nilCheck_l S rfl rfl ?_ | refine nilCheckE_l S rfl (by omega) rfl ?_ | refine fieldAddr_l S rfl rfl rfl ?_ | refine fieldAddrE_l S rfl (by omega) rfl rfl ?_ | refine load_i_l S rfl rfl rfl rfl ?_ | refine loadE_i_l S rfl (by omega) rfl rfl rfl ?_ | refine move_o_l S rfl rfl ?_ | refine load_o_l S rfl rfl rfl rfl ?_ | refine loadE_o_l S rfl (by omega) rfl rfl rfl ?_ | refine run_block ?_ | refine run_ret ?_ | refine run_exit ?_ | refine run_cond_true rfl ?_ | refine run_cond_false rfl ?_ | refine thenQ_n ?_ | refine thenQ_r ?_ | refine thenQ_e ?_ | refine blockQ_n ?_ | refine blockQ_r ?_ | refine blockQ_s rfl ?_ | refine blockQ_o rfl ?_ | refine ret1_i rfl ?_ | refine ret1_b rfl ?_ | refine ret1_p rfl ?_ | refine ret1_s rfl ?_ | refine ret1_e rfl ?_ | refine ret1_a rfl ?_ | refine ret1_o rfl ?_ | refine ret1n_i rfl ?_ | refine ret1n_b rfl ?_ | refine ret1n_p rfl ?_ | refine ret1n_s rfl ?_ | refine ret1n_o rfl ?_)
  exact ⟨rfl, S.chg.below⟩
theorem look_nil (x y : Int) (w0 : World) : Calls Try.prog 12 #[.pointer none, .int .i64 x, .int .i64 y] w0 fun e w' => e = .returned (.int .u8 0) ∧ Below w0.heap.size w0 w' := by
  have S := Sat.start (fun _ => False) w0
  refine enter1 Try.func12 rfl Try.ntmps12 rfl Try.results12 ?_
  repeat' (first | refine assign_i_l S rfl rfl ?_ | refine assign_b_l S rfl rfl ?_ | refine move_p_l S rfl rfl ?_ | refine nilL ?_ | refine run_seq ?_ | refine run_skip ?_ | refine run_region ?_ | refine move_e_l S rfl rfl ?_ | refine move_i_l S rfl rfl ?_ | refine eqlP_l S rfl rfl rfl ?_ | refine eqlE_l S rfl rfl (by omega) rfl ?_ | (refine neq_l S rfl rfl rfl ?_ ?_ <;> intro hcmp <;> try (exfalso; omega)) | refine nilCheck_l S rfl rfl ?_ | refine nilCheckE_l S rfl (by omega) rfl ?_ | refine fieldAddr_l S rfl rfl rfl ?_ | refine fieldAddrE_l S rfl (by omega) rfl rfl ?_ | refine load_i_l S rfl rfl rfl rfl ?_ | refine loadE_i_l S rfl (by omega) rfl rfl rfl ?_ | (refine gtr_l S rfl rfl rfl ?_ ?_ <;> intro hcmp <;> try (exfalso; omega)) | refine move_o_l S rfl rfl ?_ | refine load_o_l S rfl rfl rfl rfl ?_ | refine loadE_o_l S rfl (by omega) rfl rfl rfl ?_ | refine run_block ?_ | refine run_ret ?_ | refine run_exit ?_ | refine run_cond_true rfl ?_ | refine run_cond_false rfl ?_ | refine thenQ_n ?_ | refine thenQ_r ?_ | refine thenQ_e ?_ | refine blockQ_n ?_ | refine blockQ_r ?_ | refine blockQ_s rfl ?_ | refine blockQ_o rfl ?_ | refine ret1_i rfl ?_ | refine ret1_b rfl ?_ | refine ret1_p rfl ?_ | refine ret1_s rfl ?_ | refine ret1_e rfl ?_ | refine ret1_a rfl ?_ | refine ret1_o rfl ?_ | refine ret1n_i rfl ?_ | refine ret1n_b rfl ?_ | refine ret1n_p rfl ?_ | refine ret1n_s rfl ?_ | refine ret1n_o rfl ?_)
  exact ⟨rfl, S.chg.below⟩
theorem stale_nil (x y z : Int) (w0 : World) : Calls Try.prog 13 #[.pointer none, .int .i64 x, .int .i64 y, .int .i64 z] w0 fun e w' => e = .returned (.bool false) ∧ Below w0.heap.size w0 w' := by
  have S := Sat.start (fun _ => False) w0
  refine enter1 Try.func13 rfl Try.ntmps13 rfl Try.results13 ?_
  repeat' (first | refine move_i_l S rfl rfl ?_ | refine move_b_l S rfl rfl ?_ | refine pick_tb_l S rfl rfl rfl ?_ | refine nilL ?_ | refine run_seq ?_ | refine run_skip ?_ | refine run_region ?_ | refine onL rfl rfl ?_ | refine offL rfl rfl rfl rfl ?_ | refine offL0 rfl rfl rfl ?_ | refine offLU rfl rfl rfl ?_ | refine pick_fb_l S rfl rfl rfl ?_ | refine assign_b_l S rfl rfl ?_ | refine move_p_l S rfl rfl ?_ | refine move_e_l S rfl rfl ?_ | (refine neq_l S rfl rfl rfl ?_ ?_ <;> intro hcmp <;> try (exfalso; omega)) | refine neqP_l S rfl rfl rfl ?_ | refine neqE_l S rfl rfl (by omega) rfl ?_ | refine nilCheck_l S rfl rfl ?_ | refine nilCheckE_l S rfl (by omega) rfl ?_ | refine fieldAddr_l S rfl rfl rfl ?_ | refine fieldAddrE_l S rfl (by omega) rfl rfl ?_ | refine load_i_l S rfl rfl rfl rfl ?_ | refine loadE_i_l S rfl (by omega) rfl rfl rfl ?_ | (refine gtr_l S rfl rfl rfl ?_ ?_ <;> intro hcmp <;> try (exfalso; omega)) | refine move_o_l S rfl rfl ?_ | refine load_o_l S rfl rfl rfl rfl ?_ | refine loadE_o_l S rfl (by omega) rfl rfl rfl ?_ | refine run_block ?_ | refine run_ret ?_ | refine run_exit ?_ | refine run_cond_true rfl ?_ | refine run_cond_false rfl ?_ | refine thenQ_n ?_ | refine thenQ_r ?_ | refine thenQ_e ?_ | refine blockQ_n ?_ | refine blockQ_r ?_ | refine blockQ_s rfl ?_ | refine blockQ_o rfl ?_ | refine ret1_i rfl ?_ | refine ret1_b rfl ?_ | refine ret1_p rfl ?_ | refine ret1_s rfl ?_ | refine ret1_e rfl ?_ | refine ret1_a rfl ?_ | refine ret1_o rfl ?_ | refine ret1n_i rfl ?_ | refine ret1n_b rfl ?_ | refine ret1n_p rfl ?_ | refine ret1n_s rfl ?_ | refine ret1n_o rfl ?_)
  exact ⟨rfl, S.chg.below⟩
theorem copy_nil (w0 : World) : Calls Try.prog 19 #[.pointer none] w0 fun e w' => e = .returned (.pointer none) ∧ Below w0.heap.size w0 w' := by
  have S := Sat.start (fun _ => False) w0
  refine enter1 Try.func19 rfl Try.ntmps19 rfl Try.results19 ?_
  repeat' (first | refine assign_p_l S rfl rfl ?_ | refine assign_e_l S rfl rfl ?_ | refine move_p_l S rfl rfl ?_ | refine nilL ?_ | refine run_seq ?_ | refine run_skip ?_ | refine run_region ?_ | refine move_e_l S rfl rfl ?_ | refine eqlP_l S rfl rfl rfl ?_ | refine eqlE_l S rfl rfl (by omega) rfl ?_ | refine nilCheck_l S rfl rfl ?_ | refine nilCheckE_l S rfl (by omega) rfl ?_ | refine loadN_l S rfl rfl rfl ?_ | refine loadEN_l S rfl (by omega) rfl rfl ?_ | (refine alloc_l S rfl rfl ?_; clear S; intro b w S) | (refine storeN_l S rfl rfl ⟨rfl, rfl⟩ rfl ?_; clear S; intro w S) | (refine storeEN_l S rfl rfl ⟨rfl, rfl⟩ (by omega) rfl rfl ?_; clear S; intro w S) | refine assign_o_l S rfl rfl ?_ | refine move_o_l S rfl rfl ?_ | refine run_block ?_ | refine run_ret ?_ | refine run_exit ?_ | refine run_cond_true rfl ?_ | refine run_cond_false rfl ?_ | refine thenQ_n ?_ | refine thenQ_r ?_ | refine thenQ_e ?_ | refine blockQ_n ?_ | refine blockQ_r ?_ | refine blockQ_s rfl ?_ | refine blockQ_o rfl ?_ | refine ret1_i rfl ?_ | refine ret1_b rfl ?_ | refine ret1_p rfl ?_ | refine ret1_s rfl ?_ | refine ret1_e rfl ?_ | refine ret1_a rfl ?_ | refine ret1_o rfl ?_ | refine ret1n_i rfl ?_ | refine ret1n_b rfl ?_ | refine ret1n_p rfl ?_ | refine ret1n_s rfl ?_ | refine ret1n_o rfl ?_)
  exact ⟨rfl, S.chg.below⟩
attribute [local go_sem] wide_fn Oper.semAt_some
set_option maxRecDepth 100000 in
set_option maxHeartbeats 2000000 in
theorem each1_nil (n : Nat) (hn : 1 ≤ n) (l c : Nat) (J Jx : List Nat → World → Prop) (W : World) (hc : W.cell? ⟨c, 0, none⟩ = some (.pointer none)) (h0 : J [] W) :
    CallsIn Fence.wide n Try.prog 27 #[.func (.yield l) #[] #[], .pointer (some ⟨c, 0, none⟩)] W fun e W' => (∃ v, e = .returned v) ∧
      ((∃ ys, ys = ([] : List Nat) ∧ J ys W') ∨ (∃ pre, pre <+: ([] : List Nat) ∧ Jx pre W')) := by
  refine callsIn_of_wp Try.func27 rfl trivial ?_ rfl
  simp only [Try.ntmps27, List.size_toArray, List.length_cons, List.length_nil, Nat.reduceAdd, Nat.reduceSub, Array.replicate_succ, Array.replicate_zero, List.push_toArray, List.append_toArray, List.nil_append, List.cons_append]
  gi_wp2
  gi_loopw [4] (fun i wr => ∃ k : Nat, k ≤ 32 ∧ i = .int .i64 k ∧ wr = W)
    (fun i _ => 32 - (intOf i).toNat)
  case atStart => exact ⟨0, Nat.zero_le _, rfl, rfl⟩
  case round =>
    obtain ⟨k, hk, rfl, hwr⟩ := hrel
    subst hwr
    by_cases hlt : k < 32
    · have hH := Lib.hid (callsIn_wide (n := n - 1).2 (has_nil (k : Nat) wr))
      gi_wp2
      refine hH.out.mono ?_
      rintro e w' ⟨rfl, rfl⟩
      gi_wp2
      go_roundw
      case rel => exact ⟨k + 1, by omega, by go_num, trivial⟩
      case measure => simp [intOf]; omega
    · obtain rfl : k = 32 := by omega
      gi_wp2
      go_end0
      exact ⟨⟨_, rfl⟩, .inl ⟨_, rfl, h0⟩⟩
theorem each1_nil_stops (n : Nat) (hn : 1 ≤ n) (c n₀ : Nat) (hcn : c < n₀) (w : World) (hn₀ : n₀ ≤ w.heap.size) (hc : w.cell? ⟨c, 0, none⟩ = some (.pointer none)) :
    SeqStopsK Fence.wide n Try.prog 27 #[.pointer (some ⟨c, 0, none⟩)] (fun k : Nat => #[Value.int .i64 k]) (Below n₀) (fun ys => ys = ([] : List Nat)) (fun pre => pre <+: ([] : List Nat)) 0 w := fun l J Jx W hW _ _ hY h0 =>
  each1_nil n hn l c J Jx W ((hW.cell (p := ⟨c, 0, none⟩) (show c < w.heap.size by omega)).trans hc) h0
set_option maxRecDepth 100000 in
set_option maxHeartbeats 4000000 in
theorem appendSeq_nil (c : Nat) (w : World) (hc : w.cell? ⟨c, 0, none⟩ = some (.pointer none)) (hcl : c < w.heap.size) :
    CallsIn Fence.wide 9 Try.prog 26 #[.slice none 0 0, .func (.func 27) #[] #[.pointer (some ⟨c, 0, none⟩)]] w fun e w' =>
      ∃ v, e = .returned v ∧ w'.ownsRow w.heap.size 3 1 v 0 [] ∧ Below w.heap.size w w' := by
  obtain ⟨i0, hi, hz0, hz1, hz2⟩ := info_parts int_info
  refine callsIn_of_wp_marks Try.func26 rfl trivial ?_ rfl
  simp only [Try.ntmps26, List.size_toArray, List.length_cons, List.length_nil, Nat.reduceAdd, Nat.reduceSub, Array.replicate_succ, Array.replicate_zero, List.push_toArray, List.append_toArray, List.nil_append, List.cons_append]
  have Hc := Lib.hid hc
  have HI := Lib.hid hi
  clear hc hi
  gi_wp2
  obtain ⟨W0, hW0⟩ : ∃ W0, w.alloc (.cells #[.slice none 0 0] 34) = W0 := ⟨_, rfl⟩
  rw [hW0]
  have hz : W0.heap.size = w.heap.size + 1 := by rw [← hW0]; simp
  have hB0 : Below w.heap.size w W0 := by rw [← hW0]; exact (Below.refl _ w).alloc (Nat.le_refl _) _
  have hv0 : W0.heap[w.heap.size]? = some (.cells #[.slice none 0 0] 34 (0, 0)) := by rw [← hW0]; exact heap_alloc_new w _
  clear hW0
  have hI0 : AllInv w [] W0 := ⟨_, hv0, ⟨rfl, .inl ⟨rfl, rfl⟩⟩, hB0⟩
  refine wpIn_rangeFunc_ownF rfl (by decide) (gf := 27) (lb := #[.pointer (some ⟨c, 0, none⟩)]) rfl trivial (enters_of Try.func27 (by kernel_rfl) rfl)
    (each1_nil_stops (9 - 1) (by decide) c w.heap.size hcl W0 (by omega) ((hB0.cell (p := ⟨c, 0, none⟩) hcl).trans Hc.out)) (fun h k => h.trans k) (belowK_b (by omega)) (Below.refl _ _) (fun _ => rfl)
    (AllInv w) (fun _ _ _ => False)
    (fun s A B row hs hg hr => hs.own (by omega) hg hr)
    (fun c s A B row hs hg hr => hs)
    hI0
    (fun x => { tmps := #[.slice none 0 0, .func (.func 27) #[] #[.pointer (some ⟨c, 0, none⟩)], .pointer (some ⟨w.heap.size, 0, none⟩), undef, .slice none 0 0, .int .i64 x, .func (.func 27) #[] #[.pointer (some ⟨c, 0, none⟩)], .int .i64 x, undef, undef, undef, undef, undef], defers := [] }) ?assign ?body ?done ?stop
  case assign =>
    intro l x W K hK
    gi_wp2
    exact hK
  case body =>
    rintro l pre x W _ hlen
    exact absurd hlen (by omega)
  case done =>
    rintro D xs W hD rfl ⟨v, hv, hrow, hb⟩ hK
    have hc2 : W.cell? ⟨w.heap.size, 0, none⟩ = some v := by rw [cell_of_row _ _ _ _ _ _ hv]; rfl
    have Hrow := Lib.hid hrow
    have Hb := Lib.hid hb
    clear hv hrow hb
    gi_wp2
    refine ⟨by simp, .inl ⟨_, _, rfl, run_takeDeferred hK, ?_⟩⟩
    refine ⟨_, results_tmp rfl _ _ _, v, rfl, row_own Hrow.out (grownBy_putObj' _ D (.deferred none)) (fun r e => by cases e; exact ⟨_, hK, rfl⟩), Hb.out.grown (grownBy_putObj' _ D (.deferred none)) Hb.out.size (fun k e => by cases e; omega)⟩
  case stop =>
    rintro D c pre W hD hpre hf hK
    exact hf.elim
set_option maxHeartbeats 1000000 in
theorem collect_nil (c : Nat) (w : World) (hc : w.cell? ⟨c, 0, none⟩ = some (.pointer none)) (hcl : c < w.heap.size) :
    Calls Try.prog 24 #[.func (.func 27) #[] #[.pointer (some ⟨c, 0, none⟩)]] w fun e w' =>
      ∃ v, e = .returned v ∧ w'.ownsRow w.heap.size 3 1 v 0 [] ∧ Below w.heap.size w w' := by
  have HA := Lib.hid (callsIn_wide.1 (appendSeq_nil c w hc hcl))
  clear hc
  go_enter Try.func24, Try.ntmps24
  go_wp2_with fail
  refine HA.out.mono ?_
  rintro e w' ⟨v, rfl, h1, h2⟩
  go_wp2_with fail
  go_ret
  exact ⟨v, rfl, h1, h2⟩
set_option maxHeartbeats 1000000 in
theorem all_nil (w : World) : Calls Try.prog 14 #[.pointer none] w fun e w' => ∃ a cap, e = .returned (.slice a 0 cap) ∧ Below w.heap.size w w' := by
  have hb1 : Below w.heap.size w (w.alloc (.cells #[.pointer none] 23)) := (Below.refl _ w).alloc (Nat.le_refl _) _
  have hcc : (w.alloc (.cells #[.pointer none] 23)).cell? ⟨w.heap.size, 0, none⟩ = some (.pointer none) := by rw [cell_of_row _ _ _ _ _ _ (heap_alloc_new w _)]; rfl
  have HA := Lib.hid (collect_nil w.heap.size _ hcc (by simp))
  have HB := Lib.hid hb1
  clear hcc hb1
  go_enter Try.func14, Try.ntmps14
  go_wp2_with fail
  refine (each_at none _).mono ?_
  rintro e w' ⟨rfl, rfl⟩
  go_wp2_with fail
  refine HA.out.mono ?_
  rintro e w' ⟨v, rfl, h1, h2⟩
  go_wp2_with fail
  go_ret
  have hb := HB.out.trans (h2.mono (by simp))
  rcases h1.2 with ⟨rfl, _⟩ | ⟨g, cap, cur, rfl, _⟩
  · exact ⟨none, 0, rfl, hb⟩
  · exact ⟨_, cap, rfl, hb⟩
set_option maxRecDepth 100000 in
set_option maxHeartbeats 4000000 in
theorem wakes_nil (ao av : Option Addr) (lo co lv cv : Nat) (w : World) :
    Calls Try.prog 17 #[.pointer none, .slice ao lo co, .slice av lv cv] w fun e w' => e = .returned (.bool false) ∧ Below w.heap.size w w' := by
  refine (callsIn_wide (n := 9)).1 ?_
  refine callsIn_of_wp_marks Try.func17 rfl trivial ?_ rfl
  simp only [Try.ntmps17, List.size_toArray, List.length_cons, List.length_nil, Nat.reduceAdd, Nat.reduceSub, Array.replicate_succ, Array.replicate_zero, List.push_toArray, List.append_toArray, List.nil_append, List.cons_append]
  gi_wp2
  refine ((callsIn_wide (n := 9 - 1)).2 (each_at none _)).mono ?_
  rintro e w' ⟨rfl, rfl⟩
  gi_wp2
  obtain ⟨W0, hW0⟩ : ∃ W0, (((((w.alloc (.cells #[.pointer none] 23)).alloc (.cells #[.slice ao lo co] 34)).alloc (.cells #[.slice av lv cv] 34)).alloc (.cells #[.bool false] 4)).alloc (.cells #[.pointer none] 23)) = W0 := ⟨_, rfl⟩
  rw [hW0]
  obtain ⟨hz, hB0, g0, g1, g2, g3, g4⟩ := alloc5 w _ _ _ _ _ W0 hW0
  clear hW0
  have hI0 : WkInv w (.pointer none) (.slice ao lo co) (.slice av lv cv) false W0 :=
    ⟨hB0, by rw [cell_of_row _ _ _ _ _ _ g0]; rfl, by rw [cell_of_row _ _ _ _ _ _ g1]; rfl, by rw [cell_of_row _ _ _ _ _ _ g2]; rfl, by rw [cell_of_row _ _ _ _ _ _ g3]; rfl, frozen_of_row _ _ _ _ _ g3⟩
  have hc4 : W0.cell? ⟨w.heap.size + 1 + 1 + 1 + 1, 0, none⟩ = some (.pointer none) := by rw [cell_of_row _ _ _ _ _ _ g4]; rfl
  refine wpIn_rangeFunc_ownF rfl (by decide) (gf := 27) (lb := #[.pointer (some ⟨w.heap.size + 1 + 1 + 1 + 1, 0, none⟩)]) rfl trivial (enters_of Try.func27 (by kernel_rfl) rfl)
    (each1_nil_stops (9 - 1) (by decide) (w.heap.size + 1 + 1 + 1 + 1) W0.heap.size (by omega) W0 (Nat.le_refl _) hc4) (fun h k => h.trans k) (belowK_b (Nat.le_refl _)) (Below.refl _ _) (fun _ => rfl)
    (fun pre W => True ∧ WkInv w (.pointer none) (.slice ao lo co) (.slice av lv cv) false W)
    (fun c pre W => False ∧ False ∧ WkInv w (.pointer none) (.slice ao lo co) (.slice av lv cv) true W)
    (fun s A B row hs hg hr => ⟨hs.1, hs.2.own (by omega) hg hr⟩)
    (fun c s A B row hs hg hr => ⟨hs.1, hs.2.1, hs.2.2.own (by omega) hg hr⟩)
    ⟨trivial, hI0⟩
    (fun x => { tmps := #[.pointer none, .slice ao lo co, .slice av lv cv, .pointer (some ⟨w.heap.size, 0, none⟩), .pointer (some ⟨w.heap.size + 1, 0, none⟩), .pointer (some ⟨w.heap.size + 1 + 1, 0, none⟩), .pointer (some ⟨w.heap.size + 1 + 1 + 1, 0, none⟩), .int .i64 x, undef, undef, .pointer none, .func (.func 27) #[] #[.pointer (some ⟨w.heap.size + 1 + 1 + 1 + 1, 0, none⟩)], .int .i64 x, undef, undef, undef, undef, undef, undef, undef, undef, undef, undef, undef, undef, undef, undef, undef, undef, undef, undef, undef, undef, undef], defers := [] }) ?assign ?body ?done ?stop
  case assign =>
    intro l x W K hK
    gi_wp2
    exact hK
  case body =>
    rintro l pre x W _ hlen
    exact absurd hlen (by omega)
  case done =>
    rintro D xs W hD rfl ⟨hne, hi⟩ hK
    obtain ⟨hiB, e1, e2, e3, e4, e5⟩ := hi
    gi_wp2
    have hK' := (KeepsOthers.setCell W ⟨w.heap.size + 1 + 1 + 1, 0, none⟩ (.bool false)).same D _ hK rfl
    refine ⟨by simp, .inl ⟨_, _, rfl, run_takeDeferred hK', ?_⟩⟩
    have hc5 := cell_kept (World.cell?_setCell_same' W ⟨w.heap.size + 1 + 1 + 1, 0, none⟩ (.bool false) (by rw [e4]; rfl)) (grownBy_putObj' _ D (.deferred none)) (fun r e => by cases e; exact ⟨_, hK', rfl⟩)
    refine ⟨.bool false, ?_, rfl, ?_⟩
    · simp [results, Try.f17, go_sem, hc5]
    · exact (hiB.setCell (p := ⟨w.heap.size + 1 + 1 + 1, 0, none⟩) (by show w.heap.size ≤ w.heap.size + 1 + 1 + 1; omega) _).grown (grownBy_putObj' _ D (.deferred none)) (Nat.le_trans hiB.size (by simp [World.setCell])) (fun k e => by cases e; omega)
  case stop =>
    rintro D c pre W hD hpre ⟨hf, _⟩ hK
    exact hf.elim
end Go.Proofs.Ytndaggdpeeecfaa
