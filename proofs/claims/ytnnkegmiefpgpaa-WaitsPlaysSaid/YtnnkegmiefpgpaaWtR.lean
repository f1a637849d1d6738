/- The document's wait: its set's Wakes; New, May, Step. The document's wait: New, May, Step; what is done to both heaps. -/
import Derived.Test.YtnnkegmiefpgpaaWtS
import Derived.Test.YtnnkegmiefpgpaaRsD
import Derived.Test.YtnnkegmiefpgpaaHpR3
import Derived.Test.YtnnkegmiefpgpaaWtK
import Derived.Test.YtnnkegmiefpgpaaWtO
namespace Go.Proofs.Ytnnkegmiefpgpaa
open Go.RowKit Go.Lib
set_option linter.unusedVariables false
set_option maxHeartbeats 4000000
set_option maxRecDepth 100000
theorem own_apart2 {r r' : Res} (h : r.apart r') (hr : r.ro = false) : ∀ k, r.foot k → r'.foot k → False := by
  rcases h with e | e
  · rw [hr] at e; cases e.1
  · exact e
def dwakeAt (rv : Int) (os vs : List Int) (n : Int) : Bool := decide (n < vs.length) && (decide (vs.getD n.toNat 0 > rv) && (decide (n ≥ os.length) || decide (os.getD n.toNat 0 = -1)))
theorem dwakes_at {bd : Nat} {a : Option Addr} {c : Nat} {rv st : Int} {l : List Int} {w0 : World} (h : (docR bd a c rv st l).holds w0) (hl : ∀ n ∈ l, 0 ≤ n)
    {oa va : Option Addr} {oc vc : Nat} {os vs : List Int} (ho : SlOk w0 oa os.length oc 1 (gL encI 0 os)) (hv : SlOk w0 va vs.length vc 1 (gL encI 0 vs)) :
    Calls Try.prog 69 #[.pointer (some ⟨bd, 0, none⟩), .slice oa os.length oc, .slice va vs.length vc] w0 fun e w' => e = .returned (.bool (l.any (dwakeAt rv os vs))) ∧ Below w0.heap.size w0 w' := by
  have S : Sat (fun _ => False) w0 w0 [roR (docR bd a c rv st l), roR (slL oa oc 1 encI 0 os), roR (slL va vc 1 encI 0 vs)] :=
    (((Sat.start _ w0).ro (r := roR (slL va vc 1 encI 0 vs)) hv rfl rfl).ro (r := roR (slL oa oc 1 encI 0 os)) ho rfl rfl).ro (r := roR (docR bd a c rv st l)) h rfl rfl
  have hm := doc_small h
  have hmo := ho.small
  have hmv := hv.small
  clear ho hv h
  refine enter1 Try.func69 rfl Try.ntmps69 rfl Try.results69 ?_
  repeat' (first | refine assign_b_l S rfl rfl ?_ | refine assign_i_l S rfl rfl ?_ | refine move_i_l S rfl rfl ?_ | refine nilL ?_ | refine run_seq ?_ | refine run_skip ?_ | refine run_region ?_ | refine move_p_l S rfl rfl ?_ | refine move_e_l S rfl rfl ?_ | refine nilCheck_l S rfl rfl ?_ | refine nilCheckE_l S rfl (by first | omega | decide | (simp; done) | (simp; omega)) rfl ?_ | refine fieldAddr_l S rfl rfl rfl ?_ | refine fieldAddrE_l S rfl (by first | omega | decide | (simp; done) | (simp; omega)) rfl rfl ?_ | refine load_s_l S rfl rfl rfl rfl ?_ | refine loadE_s_l S rfl (by first | omega | decide | (simp; done) | (simp; omega)) rfl rfl rfl ?_ | refine len_l S rfl rfl ?_ | (refine lss_l S rfl rfl rfl ?_ ?_ <;> intro hcmp <;> try (exfalso; first | omega | exact hcmp (by decide) | exact absurd hcmp (by decide))) | refine indexAddr_l S rfl rfl (idx_cast _) (by first | omega | decide | (simp; done) | (simp; omega)) rfl ?_ | refine indexAddr_l S rfl rfl (idx_eq _) (by first | omega | decide | (simp; done) | (simp; omega)) rfl ?_ | refine load_i_l S rfl rfl rfl rfl ?_ | refine loadE_i_l S rfl (by first | omega | decide | (simp; done) | (simp; omega)) rfl rfl rfl ?_ | refine add_l S rfl rfl (wrap_in (by omega)) rfl ?_ | refine add_l S rfl rfl rfl rfl ?_ | refine load_o_l S rfl rfl rfl rfl ?_ | refine loadE_o_l S rfl (by first | omega | decide | (simp; done) | (simp; omega)) rfl rfl rfl ?_ | refine move_o_l S rfl rfl ?_ | refine run_block ?_ | refine run_ret ?_ | refine run_exit ?_ | refine run_cond_true rfl ?_ | refine run_cond_false rfl ?_ | refine thenQ_n ?_ | refine thenQ_r ?_ | refine thenQ_e ?_ | refine blockQ_n ?_ | refine blockQ_r ?_ | refine blockQ_s rfl ?_ | refine blockQ_o rfl ?_ | refine ret1_i rfl ?_ | refine ret1_b rfl ?_ | refine ret1_p rfl ?_ | refine ret1_s rfl ?_ | refine ret1_e rfl ?_ | refine ret1_a rfl ?_ | refine ret1_o rfl ?_ | refine ret1n_i rfl ?_ | refine ret1n_b rfl ?_ | refine ret1n_p rfl ?_ | refine ret1n_s rfl ?_ | refine ret1n_o rfl ?_)
  refine run_while [6, 9, 10, 11, 12, 13, 14, 15, 16, 17, 18, 19, 20, 21, 22, 23, 24, 25, 26, 27, 28, 29, 30, 31, 32, 33, 34, 35, 36, 37, 38, 39, 40, 41, 42, 43, 44, 45, 46, 47, 48, 49, 50, 51, 52] (fun (s : Nat × Value) t => upd (upd t 8 s.2) 7 (.int .i64 s.1)) (fun s w' => s.1 ≤ l.length ∧ (∀ i, i < s.1 → dwakeAt rv os vs (l.getD i 0) = false) ∧ Sat (fun _ => False) w0 w' [roR (docR bd a c rv st l), roR (slL oa oc 1 encI 0 os), roR (slL va vc 1 encI 0 vs)]) (fun s => l.length - s.1) (0, undef) ?_ ?_ ?_
  · (repeat (first | exact agree_refl | refine agree_r rfl ?_ | refine agree_l rfl ?_ | refine agree_hv rfl ?_))
  · exact ⟨Nat.zero_le _, fun i hi => by omega, S⟩
  clear S
  rintro ⟨q, uu⟩ j w ⟨hq, hall, S⟩
  replace hq : q ≤ l.length := hq
  replace hall : ∀ i, i < q → dwakeAt rv os vs (l.getD i 0) = false := hall
  replace S : Sat (fun _ => False) w0 w [roR (docR bd a c rv st l), roR (slL oa oc 1 encI 0 os), roR (slL va vc 1 encI 0 vs)] := S
  dsimp only
  by_cases hql : q < l.length
  · have hmem : l.getD q 0 ∈ l := by rw [List.getD_eq_getElem?_getD, List.getElem?_eq_getElem hql]; exact List.getElem_mem hql
    obtain ⟨k, hk⟩ : ∃ k : Nat, l.getD q 0 = k := ⟨(l.getD q 0).toNat, by have := hl _ hmem; omega⟩
    repeat' (first | refine assign_b_l S rfl rfl ?_ | refine assign_i_l S rfl rfl ?_ | refine move_i_l S rfl rfl ?_ | refine nilL ?_ | refine run_seq ?_ | refine run_skip ?_ | refine run_region ?_ | refine move_p_l S rfl rfl ?_ | refine move_e_l S rfl rfl ?_ | refine nilCheck_l S rfl rfl ?_ | refine nilCheckE_l S rfl (by first | omega | decide | (simp; done) | (simp; omega)) rfl ?_ | refine fieldAddr_l S rfl rfl rfl ?_ | refine fieldAddrE_l S rfl (by first | omega | decide | (simp; done) | (simp; omega)) rfl rfl ?_ | refine load_s_l S rfl rfl rfl rfl ?_ | refine loadE_s_l S rfl (by first | omega | decide | (simp; done) | (simp; omega)) rfl rfl rfl ?_ | refine len_l S rfl rfl ?_ | (refine lss_l S rfl rfl rfl ?_ ?_ <;> intro hcmp <;> try (exfalso; first | omega | exact hcmp (by decide) | exact absurd hcmp (by decide))) | refine indexAddr_l S rfl rfl (idx_cast _) (by first | omega | decide | (simp; done) | (simp; omega)) rfl ?_ | refine indexAddr_l S rfl rfl (idx_eq _) (by first | omega | decide | (simp; done) | (simp; omega)) rfl ?_ | refine load_i_l S rfl rfl rfl rfl ?_ | refine loadE_i_l S rfl (by first | omega | decide | (simp; done) | (simp; omega)) rfl rfl rfl ?_ | refine add_l S rfl rfl (wrap_in (by omega)) rfl ?_ | refine add_l S rfl rfl rfl rfl ?_ | refine load_o_l S rfl rfl rfl rfl ?_ | refine loadE_o_l S rfl (by first | omega | decide | (simp; done) | (simp; omega)) rfl rfl rfl ?_ | refine move_o_l S rfl rfl ?_ | refine run_block ?_ | refine run_ret ?_ | refine run_exit ?_ | refine run_cond_true rfl ?_ | refine run_cond_false rfl ?_ | refine thenQ_n ?_ | refine thenQ_r ?_ | refine thenQ_e ?_ | refine blockQ_n ?_ | refine blockQ_r ?_ | refine blockQ_s rfl ?_ | refine blockQ_o rfl ?_ | refine ret1_i rfl ?_ | refine ret1_b rfl ?_ | refine ret1_p rfl ?_ | refine ret1_s rfl ?_ | refine ret1_e rfl ?_ | refine ret1_a rfl ?_ | refine ret1_o rfl ?_ | refine ret1n_i rfl ?_ | refine ret1n_b rfl ?_ | refine ret1n_p rfl ?_ | refine ret1n_s rfl ?_ | refine ret1n_o rfl ?_)
    rw [hk]
    refine run_any S (L' := [roR (docR bd a c rv st l), roR (slL oa oc 1 encI 0 os), roR (slL va vc 1 encI 0 vs)]) (f := 28) mixed rfl ?_
    clear S
    intro w S1
    have S : Sat _ _ w [roR (docR bd a c rv st l), roR (slL oa oc 1 encI 0 os), roR (slL va vc 1 encI 0 vs)] := S1.sub
    all_goals (refine any_pure (i := 0) rfl (by kernel_rfl) S ?_; refine move_i_x rfl rfl ?_)
    all_goals (refine any_pure (i := 1) rfl (by kernel_rfl) S ?_; refine move_s_x rfl rfl ?_)
    all_goals (refine any_pure (i := 2) rfl (by kernel_rfl) S ?_; refine len_x rfl rfl ?_)
    all_goals (refine any_pure (i := 3) rfl (by kernel_rfl) S ?_; (refine lss_x rfl rfl rfl ?_ ?_ <;> intro hcmp <;> try (exfalso; first | omega | exact hcmp (by decide) | exact absurd hcmp (by decide))))
    all_goals (refine any_pure (i := 4) rfl (by kernel_rfl) S ?_; refine move_b_x rfl rfl ?_)
    all_goals (refine any_pure (i := 5) rfl (by kernel_rfl) S ?_; first | (refine onX rfl rfl ?_; refine move_s_x rfl rfl ?_) | first | refine offX rfl rfl rfl rfl ?_ | refine offXU rfl rfl rfl ?_)
    all_goals (refine any_pure (i := 6) rfl (by kernel_rfl) S ?_; first | (refine onX rfl rfl ?_; refine move_i_x rfl rfl ?_) | first | refine offX rfl rfl rfl rfl ?_ | refine offXU rfl rfl rfl ?_)
    all_goals (refine any_pure (i := 7) rfl (by kernel_rfl) S ?_; first | (refine onX rfl rfl ?_; (first | refine indexAddr_x rfl rfl (idx_cast _) (by first | omega | decide | (simp; done) | (simp; omega)) rfl ?_ | refine indexAddr_x rfl rfl (idx_eq _) (by first | omega | decide | (simp; done) | (simp; omega)) rfl ?_)) | first | refine offX rfl rfl rfl rfl ?_ | refine offXU rfl rfl rfl ?_)
    all_goals (refine any_pure (i := 8) rfl (by kernel_rfl) S ?_; first | (refine onX rfl rfl ?_; (first | refine load_i_x rfl rfl rfl rfl ?_ | refine load_o_x rfl rfl rfl rfl ?_ | refine loadE_i_x rfl (by first | omega | decide | (simp; done) | (simp; omega)) rfl rfl rfl ?_ | refine loadE_o_x rfl (by first | omega | decide | (simp; done) | (simp; omega)) rfl rfl rfl ?_)) | first | refine offX rfl rfl rfl rfl ?_ | refine offXU rfl rfl rfl ?_)
    all_goals (refine any_pure (i := 9) rfl (by kernel_rfl) S ?_; first | (refine onX rfl rfl ?_; (first | refine move_p_x rfl rfl ?_ | refine move_e_x rfl rfl ?_ | refine move_o_x rfl rfl ?_)) | first | refine offX rfl rfl rfl rfl ?_ | refine offXU rfl rfl rfl ?_)
    all_goals (refine any_pure (i := 10) rfl (by kernel_rfl) S ?_; first | (refine onX rfl rfl ?_; (first | refine nilCheck_x rfl rfl ?_ | refine nilCheckE_x rfl (by first | omega | decide | (simp; done) | (simp; omega)) rfl ?_)) | first | refine offX rfl rfl rfl rfl ?_ | refine offXU rfl rfl rfl ?_)
    all_goals (refine any_pure (i := 11) rfl (by kernel_rfl) S ?_; first | (refine onX rfl rfl ?_; (first | refine fieldAddr_x rfl rfl rfl ?_ | refine fieldAddrE_x rfl (by first | omega | decide | (simp; done) | (simp; omega)) rfl rfl ?_)) | first | refine offX rfl rfl rfl rfl ?_ | refine offXU rfl rfl rfl ?_)
    all_goals (refine any_pure (i := 12) rfl (by kernel_rfl) S ?_; first | (refine onX rfl rfl ?_; (first | refine load_i_x rfl rfl rfl rfl ?_ | refine load_o_x rfl rfl rfl rfl ?_ | refine loadE_i_x rfl (by first | omega | decide | (simp; done) | (simp; omega)) rfl rfl rfl ?_ | refine loadE_o_x rfl (by first | omega | decide | (simp; done) | (simp; omega)) rfl rfl rfl ?_)) | first | refine offX rfl rfl rfl rfl ?_ | refine offXU rfl rfl rfl ?_)
    all_goals (refine any_pure (i := 13) rfl (by kernel_rfl) S ?_; first | (refine onX rfl rfl ?_; (refine gtr_x rfl rfl rfl ?_ ?_ <;> intro hcmp <;> try (exfalso; first | omega | exact hcmp (by decide) | exact absurd hcmp (by decide)))) | first | refine offX rfl rfl rfl rfl ?_ | refine offXU rfl rfl rfl ?_)
    all_goals (refine any_pure (i := 14) rfl (by kernel_rfl) S ?_; (first | refine pick_tb_x rfl rfl rfl ?_ | refine pick_fb_x rfl rfl rfl ?_))
    all_goals (refine any_pure (i := 15) rfl (by kernel_rfl) S ?_; refine move_b_x rfl rfl ?_)
    all_goals (refine any_pure (i := 16) rfl (by kernel_rfl) S ?_; first | (refine onX rfl rfl ?_; refine move_i_x rfl rfl ?_) | first | refine offX rfl rfl rfl rfl ?_ | refine offXU rfl rfl rfl ?_)
    all_goals (refine any_pure (i := 17) rfl (by kernel_rfl) S ?_; first | (refine onX rfl rfl ?_; refine move_s_x rfl rfl ?_) | first | refine offX rfl rfl rfl rfl ?_ | refine offXU rfl rfl rfl ?_)
    all_goals (refine any_pure (i := 18) rfl (by kernel_rfl) S ?_; first | (refine onX rfl rfl ?_; refine len_x rfl rfl ?_) | first | refine offX rfl rfl rfl rfl ?_ | refine offXU rfl rfl rfl ?_)
    all_goals (refine any_pure (i := 19) rfl (by kernel_rfl) S ?_; first | (refine onX rfl rfl ?_; (refine geq_x rfl rfl rfl ?_ ?_ <;> intro hcmp <;> try (exfalso; first | omega | exact hcmp (by decide) | exact absurd hcmp (by decide)))) | first | refine offX rfl rfl rfl rfl ?_ | refine offXU rfl rfl rfl ?_)
    all_goals (refine any_pure (i := 20) rfl (by kernel_rfl) S ?_; first | (refine onX rfl rfl ?_; refine move_b_x rfl rfl ?_) | first | refine offX rfl rfl rfl rfl ?_ | refine offXU rfl rfl rfl ?_)
    all_goals (refine any_pure (i := 21) rfl (by kernel_rfl) S ?_; first | (refine onX rfl rfl ?_; refine move_s_x rfl rfl ?_) | first | refine offX rfl rfl rfl rfl ?_ | refine offXU rfl rfl rfl ?_)
    all_goals (refine any_pure (i := 22) rfl (by kernel_rfl) S ?_; first | (refine onX rfl rfl ?_; refine move_i_x rfl rfl ?_) | first | refine offX rfl rfl rfl rfl ?_ | refine offXU rfl rfl rfl ?_)
    all_goals (refine any_pure (i := 23) rfl (by kernel_rfl) S ?_; first | (refine onX rfl rfl ?_; (first | refine indexAddr_x rfl rfl (idx_cast _) (by first | omega | decide | (simp; done) | (simp; omega)) rfl ?_ | refine indexAddr_x rfl rfl (idx_eq _) (by first | omega | decide | (simp; done) | (simp; omega)) rfl ?_)) | first | refine offX rfl rfl rfl rfl ?_ | refine offXU rfl rfl rfl ?_)
    all_goals (refine any_pure (i := 24) rfl (by kernel_rfl) S ?_; first | (refine onX rfl rfl ?_; (first | refine load_i_x rfl rfl rfl rfl ?_ | refine load_o_x rfl rfl rfl rfl ?_ | refine loadE_i_x rfl (by first | omega | decide | (simp; done) | (simp; omega)) rfl rfl rfl ?_ | refine loadE_o_x rfl (by first | omega | decide | (simp; done) | (simp; omega)) rfl rfl rfl ?_)) | first | refine offX rfl rfl rfl rfl ?_ | refine offXU rfl rfl rfl ?_)
    all_goals (refine any_pure (i := 25) rfl (by kernel_rfl) S ?_; first | (refine onX rfl rfl ?_; (refine eql_x rfl rfl rfl ?_ ?_ <;> intro hcmp <;> try (exfalso; first | omega | exact hcmp (by decide) | exact absurd hcmp (by decide)))) | first | refine offX rfl rfl rfl rfl ?_ | refine offXU rfl rfl rfl ?_)
    all_goals (refine any_pure (i := 26) rfl (by kernel_rfl) S ?_; first | (refine onX rfl rfl ?_; (first | refine pick_tb_x rfl rfl rfl ?_ | refine pick_fb_x rfl rfl rfl ?_)) | first | refine offX rfl rfl rfl rfl ?_ | refine offXU rfl rfl rfl ?_)
    all_goals (refine any_pure (i := 27) rfl (by kernel_rfl) S ?_; (first | refine pick_tb_x rfl rfl rfl ?_ | refine pick_fb_x rfl rfl rfl ?_))
    all_goals refine any_end (by kernel_rfl) ?_
    all_goals replace S := S1
    all_goals clear S1
    all_goals repeat' (first | refine assign_b_l S rfl rfl ?_ | refine assign_i_l S rfl rfl ?_ | refine move_i_l S rfl rfl ?_ | refine nilL ?_ | refine run_seq ?_ | refine run_skip ?_ | refine run_region ?_ | refine move_p_l S rfl rfl ?_ | refine move_e_l S rfl rfl ?_ | refine nilCheck_l S rfl rfl ?_ | refine nilCheckE_l S rfl (by first | omega | decide | (simp; done) | (simp; omega)) rfl ?_ | refine fieldAddr_l S rfl rfl rfl ?_ | refine fieldAddrE_l S rfl (by first | omega | decide | (simp; done) | (simp; omega)) rfl rfl ?_ | refine load_s_l S rfl rfl rfl rfl ?_ | refine loadE_s_l S rfl (by first | omega | decide | (simp; done) | (simp; omega)) rfl rfl rfl ?_ | refine len_l S rfl rfl ?_ | (refine lss_l S rfl rfl rfl ?_ ?_ <;> intro hcmp <;> try (exfalso; first | omega | exact hcmp (by decide) | exact absurd hcmp (by decide))) | refine indexAddr_l S rfl rfl (idx_cast _) (by first | omega | decide | (simp; done) | (simp; omega)) rfl ?_ | refine indexAddr_l S rfl rfl (idx_eq _) (by first | omega | decide | (simp; done) | (simp; omega)) rfl ?_ | refine load_i_l S rfl rfl rfl rfl ?_ | refine loadE_i_l S rfl (by first | omega | decide | (simp; done) | (simp; omega)) rfl rfl rfl ?_ | refine add_l S rfl rfl (wrap_in (by omega)) rfl ?_ | refine add_l S rfl rfl rfl rfl ?_ | refine load_o_l S rfl rfl rfl rfl ?_ | refine loadE_o_l S rfl (by first | omega | decide | (simp; done) | (simp; omega)) rfl rfl rfl ?_ | refine move_o_l S rfl rfl ?_ | refine run_block ?_ | refine run_ret ?_ | refine run_exit ?_ | refine run_cond_true rfl ?_ | refine run_cond_false rfl ?_ | refine thenQ_n ?_ | refine thenQ_r ?_ | refine thenQ_e ?_ | refine blockQ_n ?_ | refine blockQ_r ?_ | refine blockQ_s rfl ?_ | refine blockQ_o rfl ?_ | refine ret1_i rfl ?_ | refine ret1_b rfl ?_ | refine ret1_p rfl ?_ | refine ret1_s rfl ?_ | refine ret1_e rfl ?_ | refine ret1_a rfl ?_ | refine ret1_o rfl ?_ | refine ret1n_i rfl ?_ | refine ret1n_b rfl ?_ | refine ret1n_p rfl ?_ | refine ret1n_s rfl ?_ | refine ret1n_o rfl ?_)
    iterate 2
      focus
        refine ⟨?_, S.chg.below⟩
        rw [show l.any (dwakeAt rv os vs) = true from List.any_eq_true.2 ⟨_, hmem, by
          rw [hk]
          simp only [dwakeAt, Int.toNat_natCast, Bool.and_eq_true, Bool.or_eq_true, decide_eq_true_eq]
          omega⟩]
    all_goals
      refine ⟨(q + 1, .int .i64 k), ?_, ⟨by show q + 1 ≤ _; omega, fun i hi => ?_, S⟩, by show l.length - (q + 1) < l.length - q; omega⟩
      · rw [Int.natCast_add]
        (repeat (first | exact agree_refl | refine agree_r rfl ?_ | refine agree_l rfl ?_ | refine agree_hv rfl ?_))
      · replace hi : i < q + 1 := hi
        rcases Nat.lt_or_ge i q with h | h
        · exact hall i h
        · obtain rfl : i = q := by omega
          rw [hk, ← Bool.not_eq_true]
          simp only [dwakeAt, Int.toNat_natCast, Bool.and_eq_true, Bool.or_eq_true, decide_eq_true_eq]
          omega
  · repeat' (first | refine assign_b_l S rfl rfl ?_ | refine assign_i_l S rfl rfl ?_ | refine move_i_l S rfl rfl ?_ | refine nilL ?_ | refine run_seq ?_ | refine run_skip ?_ | refine run_region ?_ | refine move_p_l S rfl rfl ?_ | refine move_e_l S rfl rfl ?_ | refine nilCheck_l S rfl rfl ?_ | refine nilCheckE_l S rfl (by first | omega | decide | (simp; done) | (simp; omega)) rfl ?_ | refine fieldAddr_l S rfl rfl rfl ?_ | refine fieldAddrE_l S rfl (by first | omega | decide | (simp; done) | (simp; omega)) rfl rfl ?_ | refine load_s_l S rfl rfl rfl rfl ?_ | refine loadE_s_l S rfl (by first | omega | decide | (simp; done) | (simp; omega)) rfl rfl rfl ?_ | refine len_l S rfl rfl ?_ | (refine lss_l S rfl rfl rfl ?_ ?_ <;> intro hcmp <;> try (exfalso; first | omega | exact hcmp (by decide) | exact absurd hcmp (by decide))) | refine indexAddr_l S rfl rfl (idx_cast _) (by first | omega | decide | (simp; done) | (simp; omega)) rfl ?_ | refine indexAddr_l S rfl rfl (idx_eq _) (by first | omega | decide | (simp; done) | (simp; omega)) rfl ?_ | refine load_i_l S rfl rfl rfl rfl ?_ | refine loadE_i_l S rfl (by first | omega | decide | (simp; done) | (simp; omega)) rfl rfl rfl ?_ | refine add_l S rfl rfl (wrap_in (by omega)) rfl ?_ | refine add_l S rfl rfl rfl rfl ?_ | refine load_o_l S rfl rfl rfl rfl ?_ | refine loadE_o_l S rfl (by first | omega | decide | (simp; done) | (simp; omega)) rfl rfl rfl ?_ | refine move_o_l S rfl rfl ?_ | refine run_block ?_ | refine run_ret ?_ | refine run_exit ?_ | refine run_cond_true rfl ?_ | refine run_cond_false rfl ?_ | refine thenQ_n ?_ | refine thenQ_r ?_ | refine thenQ_e ?_ | refine blockQ_n ?_ | refine blockQ_r ?_ | refine blockQ_s rfl ?_ | refine blockQ_o rfl ?_ | refine ret1_i rfl ?_ | refine ret1_b rfl ?_ | refine ret1_p rfl ?_ | refine ret1_s rfl ?_ | refine ret1_e rfl ?_ | refine ret1_a rfl ?_ | refine ret1_o rfl ?_ | refine ret1n_i rfl ?_ | refine ret1n_b rfl ?_ | refine ret1n_p rfl ?_ | refine ret1n_s rfl ?_ | refine ret1n_o rfl ?_)
    refine ⟨?_, S.chg.below⟩
    rw [show l.any (dwakeAt rv os vs) = false from by
      rw [← Bool.not_eq_true, List.any_eq_true]
      rintro ⟨x, hx, e⟩
      obtain ⟨i, hi, rfl⟩ := (getD_mem_iff l x).1 hx
      rw [hall i (by omega)] at e
      cases e]
theorem wakes_doc {rv st : Int} (h0 : 0 ≤ rv) (hs : List Bool) (os vs : List Int) : (allI st hs).any (dwakeAt rv os vs) = wakesB rv st hs os vs := by
  unfold allI wakesB
  rw [List.any_map]
  congr 1
  funext k
  show dwakeAt rv os vs (k : Int) = wakeAt rv os vs k
  unfold wakeAt lookI
  rw [Bool.eq_iff_iff]
  simp only [dwakeAt, Int.toNat_natCast, Bool.and_eq_true, Bool.or_eq_true, decide_eq_true_eq, beq_iff_eq]
  have ho : os.getD k (-1) = if k < os.length then os.getD k 0 else -1 := by
    by_cases h : k < os.length
    · rw [if_pos h, List.getD_eq_getElem?_getD, List.getD_eq_getElem?_getD, List.getElem?_eq_getElem h]; rfl
    · rw [if_neg h, List.getD_eq_getElem?_getD, List.getElem?_eq_none (by omega)]; rfl
  have hv : ¬ k < vs.length → vs.getD k 0 = 0 := fun h => by
    rw [List.getD_eq_getElem?_getD, List.getElem?_eq_none (by omega)]; rfl
  constructor
  · rintro ⟨h1, h2, h3⟩
    rw [if_neg (by rw [ho]; split <;> omega), if_pos h2]
  · intro h
    have h1 : os.getD k (-1) = -1 := by
      by_cases hc : os.getD k (-1) = -1
      · exact hc
      · rw [if_pos hc] at h
        omega
    rw [if_neg (by omega)] at h
    have h2 : rv < vs.getD k 0 := by
      by_cases hc : rv < vs.getD k 0
      · exact hc
      · rw [if_neg hc] at h
        omega
    refine ⟨?_, h2, ?_⟩
    · by_cases hk : k < vs.length
      · omega
      · rw [hv hk] at h2
        omega
    · rw [ho] at h1
      by_cases hk : k < os.length
      · rw [if_pos hk] at h1
        exact .inr h1
      · exact .inl (by omega)
/-- What lies there of the document's wait. -/
def dwC (bd : Nat) (th at_ : Int) : Tm := fun i => match i with | 0 => .int .i64 th | 1 => .int .u8 at_ | 2 => .pointer (some ⟨bd, 0, none⟩) | _ => undef
def dwR (b bd : Nat) (a : Option Addr) (c : Nat) (th at_ rv st : Int) (l : List Int) : Res where
  foot k := k = b ∨ (docR bd a c rv st l).foot k
  ro := false
  holds w := ((blk b 3 (dwC bd th at_) 89).holds w ∧ (docR bd a c rv st l).holds w) ∧ ∀ k, (docR bd a c rv st l).foot k → k ≠ b
  lt w k h e := by
    rcases e with rfl | e
    · exact lt_of_heap h.1.1
    · exact (docR bd a c rv st l).lt w k h.1.2 e
  loc w w' h e := ⟨⟨(blk b 3 (dwC bd th at_) 89).loc w w' h.1.1 (fun k hk => e k (.inl hk)), (docR bd a c rv st l).loc w w' h.1.2 (fun k hk => e k (.inr hk))⟩, h.2⟩
abbrev dwL (b bd : Nat) (a : Option Addr) (c : Nat) (th at_ rv st : Int) (l : List Int) : List Res := [blk b 3 (dwC bd th at_) 89, docR bd a c rv st l]
section
variable {b bd : Nat} {a : Option Addr} {c : Nat} {th at_ rv st : Int} {l : List Int}
theorem dw_open {w : World} (h : (dwR b bd a c th at_ rv st l).holds w) : Sat (dwR b bd a c th at_ rv st l).foot w w (dwL b bd a c th at_ rv st l) := by
  obtain ⟨⟨h1, h2⟩, g1⟩ := h
  refine ((Sat.start _ w).push (r := docR bd a c rv st l) h2 (by simp) (fun _ k hk _ => .inr hk)).push (r := blk b 3 (dwC bd th at_) 89) h1 ?_ (fun _ k hk _ => .inl hk)
  intro x hx
  obtain rfl : x = docR bd a c rv st l := by simpa using hx
  exact .inr fun k e e' => g1 k e' e
theorem dw_shut {S : Nat → Prop} {w₀ w : World} {L : List Res} (h : Sat S w₀ w (dwL b bd a c th at_ rv st l ++ L)) : (dwR b bd a c th at_ rv st l).holds w := by
  have a1 := h.all (blk b 3 (dwC bd th at_) 89) (by simp)
  have a2 := h.all (docR bd a c rv st l) (by simp)
  have s1 := List.pairwise_cons.1 h.sep
  exact ⟨⟨a1, a2⟩, fun k hk e => own_apart2 (s1.1 (docR bd a c rv st l) (by simp)) rfl k e hk⟩
instance dw_B (L : List Res) : PickB (dwR b bd a c th at_ rv st l :: L) b 3 (dwC bd th at_) 89 := ⟨fun w h => (h (dwR b bd a c th at_ rv st l) (List.mem_cons_self ..)).1.1⟩
instance dw_D (L : List Res) : PickB (dwR b bd a c th at_ rv st l :: L) bd 3 (docC a c rv st l) 87 := ⟨fun w h => (h (dwR b bd a c th at_ rv st l) (List.mem_cons_self ..)).1.2.1.1⟩
end
end Go.Proofs.Ytnnkegmiefpgpaa
namespace Go.Proofs.Ytnnkegmiefpgpaa
open Go.RowKit Go.Lib
set_option linter.unusedVariables false
set_option maxHeartbeats 4000000
set_option maxRecDepth 100000
abbrev dwW (b bd : Nat) (a : Option Addr) (c : Nat) (W : WtS) : Res := dwR b bd a c W.thread W.at_ W.rv W.st (allI W.st W.hs)
def NewDw (w0 w' : World) (W : WtS) (v : Value) : Prop := ∃ b bd a c, v = .pointer (some ⟨b, 0, none⟩) ∧ (dwW b bd a c W).holds w' ∧ ∀ k, (dwW b bd a c W).foot k → w0.heap.size ≤ k
theorem dw_new {w0 w : World} {b bd : Nat} {a : Option Addr} {c : Nat} {W : WtS} (S : Sat (fun _ => False) w0 w (dwL b bd a c W.thread W.at_ W.rv W.st (allI W.st W.hs))) : NewDw w0 w W (.pointer (some ⟨b, 0, none⟩)) := by
  have f1 := S.own (blk b 3 (dwC bd W.thread W.at_) 89) (by simp) rfl
  have f2 := S.own (docR bd a c W.rv W.st (allI W.st W.hs)) (by simp) rfl
  refine ⟨b, bd, a, c, rfl, dw_shut (L := []) S, fun k hk => Nat.le_of_not_lt fun hlt => ?_⟩
  rcases hk with hk | hk
  · exact f1 k hk hlt
  · exact f2 k hk hlt
theorem dwnew_at {bd : Nat} {a : Option Addr} {c : Nat} {rv st : Int} {hs : List Bool} {w0 : World} (h : (docR bd a c rv st (allI st hs)).holds w0) (thread : Int) : Calls Try.prog 38 #[.int .i64 thread, .pointer (some ⟨bd, 0, none⟩)] w0 fun e w' =>
    ∃ p n, e = .returned (.tuple #[p, .int .i64 n]) ∧ (((0 ≤ thread ∧ thread < 6) ∧ n = 0 ∧ NewDw w0 w' (newW thread rv st hs) p) ∨ (¬ (0 ≤ thread ∧ thread < 6) ∧ n = 1 ∧ p = .pointer none)) ∧ Below w0.heap.size w0 w' := by
  have S := Sat.reads h
  have hn := allI_len st hs
  refine enter2 Try.func38 rfl Try.ntmps38 rfl Try.results38 ?_
  repeat' (first | refine assign_p_l S rfl rfl ?_ | refine assign_e_l S rfl rfl ?_ | refine assign_i_l S rfl rfl ?_ | refine nilL ?_ | refine run_seq ?_ | refine run_skip ?_ | refine run_region ?_ | refine onL rfl rfl ?_ | refine offL rfl rfl rfl rfl ?_ | refine offL0 rfl rfl rfl ?_ | refine offLU rfl rfl rfl ?_ | refine move_i_l S rfl rfl ?_ | refine move_p_l S rfl rfl ?_ | refine move_e_l S rfl rfl ?_ | refine eqlP_l S rfl rfl rfl ?_ | refine eqlE_l S rfl rfl (by omega) rfl ?_ | (refine lss_l S rfl rfl rfl ?_ ?_ <;> intro hcmp <;> try (exfalso; first | omega | exact hcmp (by decide) | exact absurd hcmp (by decide))) | refine move_b_l S rfl rfl ?_ | (refine gtr_l S rfl rfl rfl ?_ ?_ <;> intro hcmp <;> try (exfalso; first | omega | exact hcmp (by decide) | exact absurd hcmp (by decide))) | refine pick_tb_l S rfl rfl rfl ?_ | refine pick_fb_l S rfl rfl rfl ?_ | (apply build3_l S; (· repeat (first | exact mapN | apply mapC_i rfl | apply mapC_b rfl | apply mapC_p rfl | apply mapC_s rfl | apply mapC_e rfl | apply mapC_a rfl | apply mapC_o rfl)); (· rfl); (· rfl)) | (refine box_a S rfl rfl rfl ?_; clear S; intro b w S) | refine assign_o_l S rfl rfl ?_ | refine move_o_l S rfl rfl ?_ | refine run_block ?_ | refine run_ret ?_ | refine run_exit ?_ | refine run_cond_true rfl ?_ | refine run_cond_false rfl ?_ | refine thenQ_n ?_ | refine thenQ_r ?_ | refine thenQ_e ?_ | refine blockQ_n ?_ | refine blockQ_r ?_ | refine blockQ_s rfl ?_ | refine blockQ_o rfl ?_ | refine ret2_ii rfl rfl ?_ | refine ret2_ib rfl rfl ?_ | refine ret2_ip rfl rfl ?_ | refine ret2_is rfl rfl ?_ | refine ret2_io rfl rfl ?_ | refine ret2_bi rfl rfl ?_ | refine ret2_bb rfl rfl ?_ | refine ret2_bp rfl rfl ?_ | refine ret2_bs rfl rfl ?_ | refine ret2_bo rfl rfl ?_ | refine ret2_pi rfl rfl ?_ | refine ret2_pb rfl rfl ?_ | refine ret2_pp rfl rfl ?_ | refine ret2_ps rfl rfl ?_ | refine ret2_po rfl rfl ?_ | refine ret2_si rfl rfl ?_ | refine ret2_sb rfl rfl ?_ | refine ret2_sp rfl rfl ?_ | refine ret2_ss rfl rfl ?_ | refine ret2_so rfl rfl ?_ | refine ret2_ei rfl rfl ?_ | refine ret2_eb rfl rfl ?_ | refine ret2_ep rfl rfl ?_ | refine ret2_es rfl rfl ?_ | refine ret2_eo rfl rfl ?_ | refine ret2_ai rfl rfl ?_ | refine ret2_ab rfl rfl ?_ | refine ret2_ap rfl rfl ?_ | refine ret2_as rfl rfl ?_ | refine ret2_ao rfl rfl ?_ | refine ret2_oi rfl rfl ?_ | refine ret2_ob rfl rfl ?_ | refine ret2_op rfl rfl ?_ | refine ret2_os rfl rfl ?_ | refine ret2_oo rfl rfl ?_)
  · exact ⟨_, _, rfl, .inr ⟨fun e => by omega, rfl, rfl⟩, S.chg.below⟩
  · exact ⟨_, _, rfl, .inr ⟨fun e => by omega, rfl, rfl⟩, S.chg.below⟩
  · refine callL (dcopy_at (S.all (roR (docR bd a c rv st (allI st hs))) (by simp)) (by omega)) rfl rfl ?_
    rintro e w' ⟨_, rfl, ⟨b2, a2, c2, rfl, g1, g2⟩, hb⟩
    replace S := S.fresh hb g1 g2
    clear hb g1 g2
    refine ⟨_, rfl, ?_⟩
    repeat' (first | refine assign_p_l S rfl rfl ?_ | refine assign_e_l S rfl rfl ?_ | refine assign_i_l S rfl rfl ?_ | refine nilL ?_ | refine run_seq ?_ | refine run_skip ?_ | refine run_region ?_ | refine onL rfl rfl ?_ | refine offL rfl rfl rfl rfl ?_ | refine offL0 rfl rfl rfl ?_ | refine offLU rfl rfl rfl ?_ | refine move_i_l S rfl rfl ?_ | refine move_p_l S rfl rfl ?_ | refine move_e_l S rfl rfl ?_ | refine eqlP_l S rfl rfl rfl ?_ | refine eqlE_l S rfl rfl (by omega) rfl ?_ | (refine lss_l S rfl rfl rfl ?_ ?_ <;> intro hcmp <;> try (exfalso; first | omega | exact hcmp (by decide) | exact absurd hcmp (by decide))) | refine move_b_l S rfl rfl ?_ | (refine gtr_l S rfl rfl rfl ?_ ?_ <;> intro hcmp <;> try (exfalso; first | omega | exact hcmp (by decide) | exact absurd hcmp (by decide))) | refine pick_tb_l S rfl rfl rfl ?_ | refine pick_fb_l S rfl rfl rfl ?_ | (apply build3_l S; (· repeat (first | exact mapN | apply mapC_i rfl | apply mapC_b rfl | apply mapC_p rfl | apply mapC_s rfl | apply mapC_e rfl | apply mapC_a rfl | apply mapC_o rfl)); (· rfl); (· rfl)) | (refine box_a S rfl rfl rfl ?_; clear S; intro b w S) | refine assign_o_l S rfl rfl ?_ | refine move_o_l S rfl rfl ?_ | refine run_block ?_ | refine run_ret ?_ | refine run_exit ?_ | refine run_cond_true rfl ?_ | refine run_cond_false rfl ?_ | refine thenQ_n ?_ | refine thenQ_r ?_ | refine thenQ_e ?_ | refine blockQ_n ?_ | refine blockQ_r ?_ | refine blockQ_s rfl ?_ | refine blockQ_o rfl ?_ | refine ret2_ii rfl rfl ?_ | refine ret2_ib rfl rfl ?_ | refine ret2_ip rfl rfl ?_ | refine ret2_is rfl rfl ?_ | refine ret2_io rfl rfl ?_ | refine ret2_bi rfl rfl ?_ | refine ret2_bb rfl rfl ?_ | refine ret2_bp rfl rfl ?_ | refine ret2_bs rfl rfl ?_ | refine ret2_bo rfl rfl ?_ | refine ret2_pi rfl rfl ?_ | refine ret2_pb rfl rfl ?_ | refine ret2_pp rfl rfl ?_ | refine ret2_ps rfl rfl ?_ | refine ret2_po rfl rfl ?_ | refine ret2_si rfl rfl ?_ | refine ret2_sb rfl rfl ?_ | refine ret2_sp rfl rfl ?_ | refine ret2_ss rfl rfl ?_ | refine ret2_so rfl rfl ?_ | refine ret2_ei rfl rfl ?_ | refine ret2_eb rfl rfl ?_ | refine ret2_ep rfl rfl ?_ | refine ret2_es rfl rfl ?_ | refine ret2_eo rfl rfl ?_ | refine ret2_ai rfl rfl ?_ | refine ret2_ab rfl rfl ?_ | refine ret2_ap rfl rfl ?_ | refine ret2_as rfl rfl ?_ | refine ret2_ao rfl rfl ?_ | refine ret2_oi rfl rfl ?_ | refine ret2_ob rfl rfl ?_ | refine ret2_op rfl rfl ?_ | refine ret2_os rfl rfl ?_ | refine ret2_oo rfl rfl ?_)
    replace S := S.turn1 (r' := blk b 3 (dwC b2 thread 1) 89) S.got1 rfl (fun k e => e)
    exact ⟨_, _, rfl, .inl ⟨by omega, rfl, dw_new (W := newW thread rv st hs) (S.sub (L' := dwL b b2 a2 c2 thread 1 rv st (allI st hs)))⟩, S.chg.below⟩
theorem allI_pos (st : Int) (hs : List Bool) : ∀ n ∈ allI st hs, 0 ≤ n := fun n hn => by
  unfold allI at hn
  obtain ⟨k, _, rfl⟩ := List.mem_map.1 hn
  omega
theorem dmay_at {b bd : Nat} {a : Option Addr} {c : Nat} {W : WtS} {bx : Nat} {A : RA} {H : HeapS} {w0 : World} (h : (dwW b bd a c W).holds w0) (hh : (refR bx A (refOf H)).holds w0) (h0 : 0 ≤ W.rv) :
    Calls Try.prog 42 #[.pointer (some ⟨b, 0, none⟩), .pointer (some ⟨bx, 0, none⟩)] w0 fun e w' => e = .returned (.bool (mayB W H)) ∧ Below w0.heap.size w0 w' := by
  have S := Sat.reads2 h hh
  unfold mayB
  refine enter1 Try.func42 rfl Try.ntmps42 rfl Try.results42 ?_
  repeat' (first | refine assign_b_l S rfl rfl ?_ | refine nilL ?_ | refine run_seq ?_ | refine run_skip ?_ | refine run_region ?_ | refine run_block ?_ | refine run_ret ?_ | refine run_exit ?_ | refine run_cond_true rfl ?_ | refine run_cond_false rfl ?_ | refine thenQ_n ?_ | refine thenQ_r ?_ | refine thenQ_e ?_ | refine blockQ_n ?_ | refine blockQ_r ?_ | refine blockQ_s rfl ?_ | refine blockQ_o rfl ?_ | refine ret1_i rfl ?_ | refine ret1_b rfl ?_ | refine ret1_p rfl ?_ | refine ret1_s rfl ?_ | refine ret1_e rfl ?_ | refine ret1_a rfl ?_ | refine ret1_o rfl ?_ | refine ret1n_i rfl ?_ | refine ret1n_b rfl ?_ | refine ret1n_p rfl ?_ | refine ret1n_s rfl ?_ | refine ret1n_o rfl ?_)
  by_cases h1 : W.at_ = 1
  · rw [decide_eq_true h1, Bool.true_or]
    refine run_any S (L' := [roR (dwW b bd a c W), roR (refR bx A (refOf H))]) (f := 28) mixed rfl ?_
    clear S
    intro w S1
    have S : Sat _ _ w [roR (dwW b bd a c W), roR (refR bx A (refOf H))] := S1.sub
    all_goals (refine any_pure (i := 0) rfl (by kernel_rfl) S ?_; (first | refine move_p_x rfl rfl ?_ | refine move_e_x rfl rfl ?_ | refine move_o_x rfl rfl ?_))
    all_goals (refine any_pure (i := 1) rfl (by kernel_rfl) S ?_; (first | refine nilCheck_x rfl rfl ?_ | refine nilCheckE_x rfl (by first | omega | decide | (simp; done) | (simp; omega)) rfl ?_))
    all_goals (refine any_pure (i := 2) rfl (by kernel_rfl) S ?_; (first | refine fieldAddr_x rfl rfl rfl ?_ | refine fieldAddrE_x rfl (by first | omega | decide | (simp; done) | (simp; omega)) rfl rfl ?_))
    all_goals (refine any_pure (i := 3) rfl (by kernel_rfl) S ?_; (first | refine load_i_x rfl rfl rfl rfl ?_ | refine load_o_x rfl rfl rfl rfl ?_ | refine loadE_i_x rfl (by first | omega | decide | (simp; done) | (simp; omega)) rfl rfl rfl ?_ | refine loadE_o_x rfl (by first | omega | decide | (simp; done) | (simp; omega)) rfl rfl rfl ?_))
    all_goals (refine any_pure (i := 4) rfl (by kernel_rfl) S ?_; (refine eql_x rfl rfl rfl ?_ ?_ <;> intro hcmp <;> try (exfalso; first | omega | exact hcmp (by decide) | exact absurd hcmp (by decide))))
    all_goals (refine any_pure (i := 5) rfl (by kernel_rfl) S ?_; refine move_b_x rfl rfl ?_)
    all_goals (refine any_pure (i := 6) rfl (by kernel_rfl) S ?_; first | (refine onX rfl rfl ?_; (first | refine move_p_x rfl rfl ?_ | refine move_e_x rfl rfl ?_ | refine move_o_x rfl rfl ?_)) | first | refine offX rfl rfl rfl rfl ?_ | refine offXU rfl rfl rfl ?_)
    all_goals (refine any_pure (i := 7) rfl (by kernel_rfl) S ?_; first | (refine onX rfl rfl ?_; (first | refine nilCheck_x rfl rfl ?_ | refine nilCheckE_x rfl (by first | omega | decide | (simp; done) | (simp; omega)) rfl ?_)) | first | refine offX rfl rfl rfl rfl ?_ | refine offXU rfl rfl rfl ?_)
    all_goals (refine any_pure (i := 8) rfl (by kernel_rfl) S ?_; first | (refine onX rfl rfl ?_; (first | refine fieldAddr_x rfl rfl rfl ?_ | refine fieldAddrE_x rfl (by first | omega | decide | (simp; done) | (simp; omega)) rfl rfl ?_)) | first | refine offX rfl rfl rfl rfl ?_ | refine offXU rfl rfl rfl ?_)
    all_goals (refine any_pure (i := 9) rfl (by kernel_rfl) S ?_; first | (refine onX rfl rfl ?_; (first | refine load_i_x rfl rfl rfl rfl ?_ | refine load_o_x rfl rfl rfl rfl ?_ | refine loadE_i_x rfl (by first | omega | decide | (simp; done) | (simp; omega)) rfl rfl rfl ?_ | refine loadE_o_x rfl (by first | omega | decide | (simp; done) | (simp; omega)) rfl rfl rfl ?_)) | first | refine offX rfl rfl rfl rfl ?_ | refine offXU rfl rfl rfl ?_)
    all_goals (refine any_pure (i := 10) rfl (by kernel_rfl) S ?_; first | (refine onX rfl rfl ?_; (refine eql_x rfl rfl rfl ?_ ?_ <;> intro hcmp <;> try (exfalso; first | omega | exact hcmp (by decide) | exact absurd hcmp (by decide)))) | first | refine offX rfl rfl rfl rfl ?_ | refine offXU rfl rfl rfl ?_)
    all_goals (refine any_pure (i := 11) rfl (by kernel_rfl) S ?_; first | (refine onX rfl rfl ?_; refine move_b_x rfl rfl ?_) | first | refine offX rfl rfl rfl rfl ?_ | refine offXU rfl rfl rfl ?_)
    all_goals (refine any_pure (i := 12) rfl (by kernel_rfl) S ?_; first | (refine onX rfl rfl ?_; (first | refine move_p_x rfl rfl ?_ | refine move_e_x rfl rfl ?_ | refine move_o_x rfl rfl ?_)) | first | refine offX rfl rfl rfl rfl ?_ | refine offXU rfl rfl rfl ?_)
    all_goals (refine any_pure (i := 13) rfl (by kernel_rfl) S ?_; first | (refine onX rfl rfl ?_; (first | refine nilCheck_x rfl rfl ?_ | refine nilCheckE_x rfl (by first | omega | decide | (simp; done) | (simp; omega)) rfl ?_)) | first | refine offX rfl rfl rfl rfl ?_ | refine offXU rfl rfl rfl ?_)
    all_goals (refine any_pure (i := 14) rfl (by kernel_rfl) S ?_; first | (refine onX rfl rfl ?_; (first | refine fieldAddr_x rfl rfl rfl ?_ | refine fieldAddrE_x rfl (by first | omega | decide | (simp; done) | (simp; omega)) rfl rfl ?_)) | first | refine offX rfl rfl rfl rfl ?_ | refine offXU rfl rfl rfl ?_)
    all_goals (refine any_pure (i := 15) rfl (by kernel_rfl) S ?_; first | (refine onX rfl rfl ?_; (first | refine load_p_x rfl rfl rfl rfl ?_ | refine load_o_x rfl rfl rfl rfl ?_ | refine loadE_p_x rfl (by first | omega | decide | (simp; done) | (simp; omega)) rfl rfl rfl ?_ | refine loadE_o_x rfl (by first | omega | decide | (simp; done) | (simp; omega)) rfl rfl rfl ?_)) | first | refine offX rfl rfl rfl rfl ?_ | refine offXU rfl rfl rfl ?_)
    all_goals (refine any_pure (i := 16) rfl (by kernel_rfl) S ?_; first | (refine onX rfl rfl ?_; (first | refine move_p_x rfl rfl ?_ | refine move_e_x rfl rfl ?_ | refine move_o_x rfl rfl ?_)) | first | refine offX rfl rfl rfl rfl ?_ | refine offXU rfl rfl rfl ?_)
    all_goals (refine any_pure (i := 17) rfl (by kernel_rfl) S ?_; first | (refine onX rfl rfl ?_; (first | refine nilCheck_x rfl rfl ?_ | refine nilCheckE_x rfl (by first | omega | decide | (simp; done) | (simp; omega)) rfl ?_)) | first | refine offX rfl rfl rfl rfl ?_ | refine offXU rfl rfl rfl ?_)
    all_goals (refine any_pure (i := 18) rfl (by kernel_rfl) S ?_; first | (refine onX rfl rfl ?_; (first | refine fieldAddr_x rfl rfl rfl ?_ | refine fieldAddrE_x rfl (by first | omega | decide | (simp; done) | (simp; omega)) rfl rfl ?_)) | first | refine offX rfl rfl rfl rfl ?_ | refine offXU rfl rfl rfl ?_)
    all_goals (refine any_pure (i := 19) rfl (by kernel_rfl) S ?_; first | (refine onX rfl rfl ?_; (first | refine load_s_x rfl rfl rfl rfl ?_ | refine load_o_x rfl rfl rfl rfl ?_ | refine loadE_s_x rfl (by first | omega | decide | (simp; done) | (simp; omega)) rfl rfl rfl ?_ | refine loadE_o_x rfl (by first | omega | decide | (simp; done) | (simp; omega)) rfl rfl rfl ?_)) | first | refine offX rfl rfl rfl rfl ?_ | refine offXU rfl rfl rfl ?_)
    all_goals (refine any_pure (i := 20) rfl (by kernel_rfl) S ?_; first | (refine onX rfl rfl ?_; (first | refine move_p_x rfl rfl ?_ | refine move_e_x rfl rfl ?_ | refine move_o_x rfl rfl ?_)) | first | refine offX rfl rfl rfl rfl ?_ | refine offXU rfl rfl rfl ?_)
    all_goals (refine any_pure (i := 21) rfl (by kernel_rfl) S ?_; first | (refine onX rfl rfl ?_; (first | refine nilCheck_x rfl rfl ?_ | refine nilCheckE_x rfl (by first | omega | decide | (simp; done) | (simp; omega)) rfl ?_)) | first | refine offX rfl rfl rfl rfl ?_ | refine offXU rfl rfl rfl ?_)
    all_goals (refine any_pure (i := 22) rfl (by kernel_rfl) S ?_; first | (refine onX rfl rfl ?_; (first | refine fieldAddr_x rfl rfl rfl ?_ | refine fieldAddrE_x rfl (by first | omega | decide | (simp; done) | (simp; omega)) rfl rfl ?_)) | first | refine offX rfl rfl rfl rfl ?_ | refine offXU rfl rfl rfl ?_)
    all_goals (refine any_pure (i := 23) rfl (by kernel_rfl) S ?_; first | (refine onX rfl rfl ?_; (first | refine load_s_x rfl rfl rfl rfl ?_ | refine load_o_x rfl rfl rfl rfl ?_ | refine loadE_s_x rfl (by first | omega | decide | (simp; done) | (simp; omega)) rfl rfl rfl ?_ | refine loadE_o_x rfl (by first | omega | decide | (simp; done) | (simp; omega)) rfl rfl rfl ?_)) | first | refine offX rfl rfl rfl rfl ?_ | refine offXU rfl rfl rfl ?_)
    all_goals refine any_step (i := 24) rfl (by kernel_rfl) ?_
    all_goals first | refine onL rfl rfl ?_ | (first | (refine offL rfl rfl rfl rfl ?_; refine nilL ?_) | (refine offLU rfl rfl rfl ?_; refine nilL ?_) | (refine offL0 rfl rfl rfl ?_; refine nilL ?_); refine ⟨S.sub, ?_⟩)
    all_goals try refine nilL ?_
    all_goals refine ⟨S.sub, ?_⟩
    all_goals (have S1 := S; replace S : Sat _ _ _ [roR (dwW b bd a c W), roR (refR bx A (refOf H))] := S1.sub)
    all_goals (refine any_pure (i := 25) rfl (by kernel_rfl) S ?_; first | (refine onX rfl rfl ?_; (first | refine pick_tb_x rfl rfl rfl ?_ | refine pick_fb_x rfl rfl rfl ?_)) | first | refine offX rfl rfl rfl rfl ?_ | refine offXU rfl rfl rfl ?_)
    all_goals (refine any_pure (i := 26) rfl (by kernel_rfl) S ?_; (first | refine pick_tb_x rfl rfl rfl ?_ | refine pick_fb_x rfl rfl rfl ?_))
    all_goals (refine any_pure (i := 27) rfl (by kernel_rfl) S ?_; refine assign_b_x rfl rfl ?_)
    all_goals refine any_end (by kernel_rfl) ?_
    all_goals replace S := S1
    all_goals repeat' (first | refine assign_b_l S rfl rfl ?_ | refine nilL ?_ | refine run_seq ?_ | refine run_skip ?_ | refine run_region ?_ | refine run_block ?_ | refine run_ret ?_ | refine run_exit ?_ | refine run_cond_true rfl ?_ | refine run_cond_false rfl ?_ | refine thenQ_n ?_ | refine thenQ_r ?_ | refine thenQ_e ?_ | refine blockQ_n ?_ | refine blockQ_r ?_ | refine blockQ_s rfl ?_ | refine blockQ_o rfl ?_ | refine ret1_i rfl ?_ | refine ret1_b rfl ?_ | refine ret1_p rfl ?_ | refine ret1_s rfl ?_ | refine ret1_e rfl ?_ | refine ret1_a rfl ?_ | refine ret1_o rfl ?_ | refine ret1n_i rfl ?_ | refine ret1n_b rfl ?_ | refine ret1n_p rfl ?_ | refine ret1n_s rfl ?_ | refine ret1n_o rfl ?_)
    all_goals exact ⟨rfl, S.chg.below⟩
  rw [decide_eq_false h1, Bool.false_or]
  by_cases h2 : W.at_ = 2
  · rw [decide_eq_true h2, Bool.true_and, ← wakes_doc h0]
    refine run_any S (L' := [roR (dwW b bd a c W), roR (refR bx A (refOf H))]) (f := 28) mixed rfl ?_
    clear S
    intro w S1
    have S : Sat _ _ w [roR (dwW b bd a c W), roR (refR bx A (refOf H))] := S1.sub
    all_goals (refine any_pure (i := 0) rfl (by kernel_rfl) S ?_; (first | refine move_p_x rfl rfl ?_ | refine move_e_x rfl rfl ?_ | refine move_o_x rfl rfl ?_))
    all_goals (refine any_pure (i := 1) rfl (by kernel_rfl) S ?_; (first | refine nilCheck_x rfl rfl ?_ | refine nilCheckE_x rfl (by first | omega | decide | (simp; done) | (simp; omega)) rfl ?_))
    all_goals (refine any_pure (i := 2) rfl (by kernel_rfl) S ?_; (first | refine fieldAddr_x rfl rfl rfl ?_ | refine fieldAddrE_x rfl (by first | omega | decide | (simp; done) | (simp; omega)) rfl rfl ?_))
    all_goals (refine any_pure (i := 3) rfl (by kernel_rfl) S ?_; (first | refine load_i_x rfl rfl rfl rfl ?_ | refine load_o_x rfl rfl rfl rfl ?_ | refine loadE_i_x rfl (by first | omega | decide | (simp; done) | (simp; omega)) rfl rfl rfl ?_ | refine loadE_o_x rfl (by first | omega | decide | (simp; done) | (simp; omega)) rfl rfl rfl ?_))
    all_goals (refine any_pure (i := 4) rfl (by kernel_rfl) S ?_; (refine eql_x rfl rfl rfl ?_ ?_ <;> intro hcmp <;> try (exfalso; first | omega | exact hcmp (by decide) | exact absurd hcmp (by decide))))
    all_goals (refine any_pure (i := 5) rfl (by kernel_rfl) S ?_; refine move_b_x rfl rfl ?_)
    all_goals (refine any_pure (i := 6) rfl (by kernel_rfl) S ?_; first | (refine onX rfl rfl ?_; (first | refine move_p_x rfl rfl ?_ | refine move_e_x rfl rfl ?_ | refine move_o_x rfl rfl ?_)) | first | refine offX rfl rfl rfl rfl ?_ | refine offXU rfl rfl rfl ?_)
    all_goals (refine any_pure (i := 7) rfl (by kernel_rfl) S ?_; first | (refine onX rfl rfl ?_; (first | refine nilCheck_x rfl rfl ?_ | refine nilCheckE_x rfl (by first | omega | decide | (simp; done) | (simp; omega)) rfl ?_)) | first | refine offX rfl rfl rfl rfl ?_ | refine offXU rfl rfl rfl ?_)
    all_goals (refine any_pure (i := 8) rfl (by kernel_rfl) S ?_; first | (refine onX rfl rfl ?_; (first | refine fieldAddr_x rfl rfl rfl ?_ | refine fieldAddrE_x rfl (by first | omega | decide | (simp; done) | (simp; omega)) rfl rfl ?_)) | first | refine offX rfl rfl rfl rfl ?_ | refine offXU rfl rfl rfl ?_)
    all_goals (refine any_pure (i := 9) rfl (by kernel_rfl) S ?_; first | (refine onX rfl rfl ?_; (first | refine load_i_x rfl rfl rfl rfl ?_ | refine load_o_x rfl rfl rfl rfl ?_ | refine loadE_i_x rfl (by first | omega | decide | (simp; done) | (simp; omega)) rfl rfl rfl ?_ | refine loadE_o_x rfl (by first | omega | decide | (simp; done) | (simp; omega)) rfl rfl rfl ?_)) | first | refine offX rfl rfl rfl rfl ?_ | refine offXU rfl rfl rfl ?_)
    all_goals (refine any_pure (i := 10) rfl (by kernel_rfl) S ?_; first | (refine onX rfl rfl ?_; (refine eql_x rfl rfl rfl ?_ ?_ <;> intro hcmp <;> try (exfalso; first | omega | exact hcmp (by decide) | exact absurd hcmp (by decide)))) | first | refine offX rfl rfl rfl rfl ?_ | refine offXU rfl rfl rfl ?_)
    all_goals (refine any_pure (i := 11) rfl (by kernel_rfl) S ?_; first | (refine onX rfl rfl ?_; refine move_b_x rfl rfl ?_) | first | refine offX rfl rfl rfl rfl ?_ | refine offXU rfl rfl rfl ?_)
    all_goals (refine any_pure (i := 12) rfl (by kernel_rfl) S ?_; first | (refine onX rfl rfl ?_; (first | refine move_p_x rfl rfl ?_ | refine move_e_x rfl rfl ?_ | refine move_o_x rfl rfl ?_)) | first | refine offX rfl rfl rfl rfl ?_ | refine offXU rfl rfl rfl ?_)
    all_goals (refine any_pure (i := 13) rfl (by kernel_rfl) S ?_; first | (refine onX rfl rfl ?_; (first | refine nilCheck_x rfl rfl ?_ | refine nilCheckE_x rfl (by first | omega | decide | (simp; done) | (simp; omega)) rfl ?_)) | first | refine offX rfl rfl rfl rfl ?_ | refine offXU rfl rfl rfl ?_)
    all_goals (refine any_pure (i := 14) rfl (by kernel_rfl) S ?_; first | (refine onX rfl rfl ?_; (first | refine fieldAddr_x rfl rfl rfl ?_ | refine fieldAddrE_x rfl (by first | omega | decide | (simp; done) | (simp; omega)) rfl rfl ?_)) | first | refine offX rfl rfl rfl rfl ?_ | refine offXU rfl rfl rfl ?_)
    all_goals (refine any_pure (i := 15) rfl (by kernel_rfl) S ?_; first | (refine onX rfl rfl ?_; (first | refine load_p_x rfl rfl rfl rfl ?_ | refine load_o_x rfl rfl rfl rfl ?_ | refine loadE_p_x rfl (by first | omega | decide | (simp; done) | (simp; omega)) rfl rfl rfl ?_ | refine loadE_o_x rfl (by first | omega | decide | (simp; done) | (simp; omega)) rfl rfl rfl ?_)) | first | refine offX rfl rfl rfl rfl ?_ | refine offXU rfl rfl rfl ?_)
    all_goals (refine any_pure (i := 16) rfl (by kernel_rfl) S ?_; first | (refine onX rfl rfl ?_; (first | refine move_p_x rfl rfl ?_ | refine move_e_x rfl rfl ?_ | refine move_o_x rfl rfl ?_)) | first | refine offX rfl rfl rfl rfl ?_ | refine offXU rfl rfl rfl ?_)
    all_goals (refine any_pure (i := 17) rfl (by kernel_rfl) S ?_; first | (refine onX rfl rfl ?_; (first | refine nilCheck_x rfl rfl ?_ | refine nilCheckE_x rfl (by first | omega | decide | (simp; done) | (simp; omega)) rfl ?_)) | first | refine offX rfl rfl rfl rfl ?_ | refine offXU rfl rfl rfl ?_)
    all_goals (refine any_pure (i := 18) rfl (by kernel_rfl) S ?_; first | (refine onX rfl rfl ?_; (first | refine fieldAddr_x rfl rfl rfl ?_ | refine fieldAddrE_x rfl (by first | omega | decide | (simp; done) | (simp; omega)) rfl rfl ?_)) | first | refine offX rfl rfl rfl rfl ?_ | refine offXU rfl rfl rfl ?_)
    all_goals (refine any_pure (i := 19) rfl (by kernel_rfl) S ?_; first | (refine onX rfl rfl ?_; (first | refine load_s_x rfl rfl rfl rfl ?_ | refine load_o_x rfl rfl rfl rfl ?_ | refine loadE_s_x rfl (by first | omega | decide | (simp; done) | (simp; omega)) rfl rfl rfl ?_ | refine loadE_o_x rfl (by first | omega | decide | (simp; done) | (simp; omega)) rfl rfl rfl ?_)) | first | refine offX rfl rfl rfl rfl ?_ | refine offXU rfl rfl rfl ?_)
    all_goals (refine any_pure (i := 20) rfl (by kernel_rfl) S ?_; first | (refine onX rfl rfl ?_; (first | refine move_p_x rfl rfl ?_ | refine move_e_x rfl rfl ?_ | refine move_o_x rfl rfl ?_)) | first | refine offX rfl rfl rfl rfl ?_ | refine offXU rfl rfl rfl ?_)
    all_goals (refine any_pure (i := 21) rfl (by kernel_rfl) S ?_; first | (refine onX rfl rfl ?_; (first | refine nilCheck_x rfl rfl ?_ | refine nilCheckE_x rfl (by first | omega | decide | (simp; done) | (simp; omega)) rfl ?_)) | first | refine offX rfl rfl rfl rfl ?_ | refine offXU rfl rfl rfl ?_)
    all_goals (refine any_pure (i := 22) rfl (by kernel_rfl) S ?_; first | (refine onX rfl rfl ?_; (first | refine fieldAddr_x rfl rfl rfl ?_ | refine fieldAddrE_x rfl (by first | omega | decide | (simp; done) | (simp; omega)) rfl rfl ?_)) | first | refine offX rfl rfl rfl rfl ?_ | refine offXU rfl rfl rfl ?_)
    all_goals (refine any_pure (i := 23) rfl (by kernel_rfl) S ?_; first | (refine onX rfl rfl ?_; (first | refine load_s_x rfl rfl rfl rfl ?_ | refine load_o_x rfl rfl rfl rfl ?_ | refine loadE_s_x rfl (by first | omega | decide | (simp; done) | (simp; omega)) rfl rfl rfl ?_ | refine loadE_o_x rfl (by first | omega | decide | (simp; done) | (simp; omega)) rfl rfl rfl ?_)) | first | refine offX rfl rfl rfl rfl ?_ | refine offXU rfl rfl rfl ?_)
    all_goals refine any_step (i := 24) rfl (by kernel_rfl) ?_
    all_goals first | refine onL rfl rfl ?_ | (first | (refine offL rfl rfl rfl rfl ?_; refine nilL ?_) | (refine offLU rfl rfl rfl ?_; refine nilL ?_) | (refine offL0 rfl rfl rfl ?_; refine nilL ?_); refine ⟨S.sub, ?_⟩)
    all_goals replace S := S1
    have hd := (show (dwW b bd a c W).holds _ from S.all (roR (dwW b bd a c W)) (by simp)).1.2
    have hr := (show (refR bx A (refOf H)).holds _ from S.all (roR (refR bx A (refOf H))) (by simp)).1
    (refine callL (dwakes_at hd (allI_pos _ _) (RowOk.sl hr.2.2.1) (RowOk.sl hr.2.2.2)) rfl rfl ?_; rintro e w ⟨rfl, hb⟩; replace S := S.below hb; clear hb; refine ⟨_, rfl, ?_⟩)
    all_goals try refine nilL ?_
    all_goals refine ⟨S.sub, ?_⟩
    all_goals (have S1 := S; replace S : Sat _ _ _ [roR (dwW b bd a c W), roR (refR bx A (refOf H))] := S1.sub)
    all_goals (refine any_pure (i := 25) rfl (by kernel_rfl) S ?_; first | (refine onX rfl rfl ?_; (first | refine pick_tb_x rfl rfl rfl ?_ | refine pick_fb_x rfl rfl rfl ?_)) | first | refine offX rfl rfl rfl rfl ?_ | refine offXU rfl rfl rfl ?_)
    all_goals (refine any_pure (i := 26) rfl (by kernel_rfl) S ?_; (first | refine pick_tb_x rfl rfl rfl ?_ | refine pick_fb_x rfl rfl rfl ?_))
    all_goals (refine any_pure (i := 27) rfl (by kernel_rfl) S ?_; refine assign_b_x rfl rfl ?_)
    all_goals refine any_end (by kernel_rfl) ?_
    all_goals replace S := S1
    all_goals repeat' (first | refine assign_b_l S rfl rfl ?_ | refine nilL ?_ | refine run_seq ?_ | refine run_skip ?_ | refine run_region ?_ | refine run_block ?_ | refine run_ret ?_ | refine run_exit ?_ | refine run_cond_true rfl ?_ | refine run_cond_false rfl ?_ | refine thenQ_n ?_ | refine thenQ_r ?_ | refine thenQ_e ?_ | refine blockQ_n ?_ | refine blockQ_r ?_ | refine blockQ_s rfl ?_ | refine blockQ_o rfl ?_ | refine ret1_i rfl ?_ | refine ret1_b rfl ?_ | refine ret1_p rfl ?_ | refine ret1_s rfl ?_ | refine ret1_e rfl ?_ | refine ret1_a rfl ?_ | refine ret1_o rfl ?_ | refine ret1n_i rfl ?_ | refine ret1n_b rfl ?_ | refine ret1n_p rfl ?_ | refine ret1n_s rfl ?_ | refine ret1n_o rfl ?_)
    all_goals exact ⟨rfl, S.chg.below⟩
  · rw [decide_eq_false h2, Bool.false_and]
    refine run_any S (L' := [roR (dwW b bd a c W), roR (refR bx A (refOf H))]) (f := 28) mixed rfl ?_
    clear S
    intro w S1
    have S : Sat _ _ w [roR (dwW b bd a c W), roR (refR bx A (refOf H))] := S1.sub
    all_goals (refine any_pure (i := 0) rfl (by kernel_rfl) S ?_; (first | refine move_p_x rfl rfl ?_ | refine move_e_x rfl rfl ?_ | refine move_o_x rfl rfl ?_))
    all_goals (refine any_pure (i := 1) rfl (by kernel_rfl) S ?_; (first | refine nilCheck_x rfl rfl ?_ | refine nilCheckE_x rfl (by first | omega | decide | (simp; done) | (simp; omega)) rfl ?_))
    all_goals (refine any_pure (i := 2) rfl (by kernel_rfl) S ?_; (first | refine fieldAddr_x rfl rfl rfl ?_ | refine fieldAddrE_x rfl (by first | omega | decide | (simp; done) | (simp; omega)) rfl rfl ?_))
    all_goals (refine any_pure (i := 3) rfl (by kernel_rfl) S ?_; (first | refine load_i_x rfl rfl rfl rfl ?_ | refine load_o_x rfl rfl rfl rfl ?_ | refine loadE_i_x rfl (by first | omega | decide | (simp; done) | (simp; omega)) rfl rfl rfl ?_ | refine loadE_o_x rfl (by first | omega | decide | (simp; done) | (simp; omega)) rfl rfl rfl ?_))
    all_goals (refine any_pure (i := 4) rfl (by kernel_rfl) S ?_; (refine eql_x rfl rfl rfl ?_ ?_ <;> intro hcmp <;> try (exfalso; first | omega | exact hcmp (by decide) | exact absurd hcmp (by decide))))
    all_goals (refine any_pure (i := 5) rfl (by kernel_rfl) S ?_; refine move_b_x rfl rfl ?_)
    all_goals (refine any_pure (i := 6) rfl (by kernel_rfl) S ?_; first | (refine onX rfl rfl ?_; (first | refine move_p_x rfl rfl ?_ | refine move_e_x rfl rfl ?_ | refine move_o_x rfl rfl ?_)) | first | refine offX rfl rfl rfl rfl ?_ | refine offXU rfl rfl rfl ?_)
    all_goals (refine any_pure (i := 7) rfl (by kernel_rfl) S ?_; first | (refine onX rfl rfl ?_; (first | refine nilCheck_x rfl rfl ?_ | refine nilCheckE_x rfl (by first | omega | decide | (simp; done) | (simp; omega)) rfl ?_)) | first | refine offX rfl rfl rfl rfl ?_ | refine offXU rfl rfl rfl ?_)
    all_goals (refine any_pure (i := 8) rfl (by kernel_rfl) S ?_; first | (refine onX rfl rfl ?_; (first | refine fieldAddr_x rfl rfl rfl ?_ | refine fieldAddrE_x rfl (by first | omega | decide | (simp; done) | (simp; omega)) rfl rfl ?_)) | first | refine offX rfl rfl rfl rfl ?_ | refine offXU rfl rfl rfl ?_)
    all_goals (refine any_pure (i := 9) rfl (by kernel_rfl) S ?_; first | (refine onX rfl rfl ?_; (first | refine load_i_x rfl rfl rfl rfl ?_ | refine load_o_x rfl rfl rfl rfl ?_ | refine loadE_i_x rfl (by first | omega | decide | (simp; done) | (simp; omega)) rfl rfl rfl ?_ | refine loadE_o_x rfl (by first | omega | decide | (simp; done) | (simp; omega)) rfl rfl rfl ?_)) | first | refine offX rfl rfl rfl rfl ?_ | refine offXU rfl rfl rfl ?_)
    all_goals (refine any_pure (i := 10) rfl (by kernel_rfl) S ?_; first | (refine onX rfl rfl ?_; (refine eql_x rfl rfl rfl ?_ ?_ <;> intro hcmp <;> try (exfalso; first | omega | exact hcmp (by decide) | exact absurd hcmp (by decide)))) | first | refine offX rfl rfl rfl rfl ?_ | refine offXU rfl rfl rfl ?_)
    all_goals (refine any_pure (i := 11) rfl (by kernel_rfl) S ?_; first | (refine onX rfl rfl ?_; refine move_b_x rfl rfl ?_) | first | refine offX rfl rfl rfl rfl ?_ | refine offXU rfl rfl rfl ?_)
    all_goals (refine any_pure (i := 12) rfl (by kernel_rfl) S ?_; first | (refine onX rfl rfl ?_; (first | refine move_p_x rfl rfl ?_ | refine move_e_x rfl rfl ?_ | refine move_o_x rfl rfl ?_)) | first | refine offX rfl rfl rfl rfl ?_ | refine offXU rfl rfl rfl ?_)
    all_goals (refine any_pure (i := 13) rfl (by kernel_rfl) S ?_; first | (refine onX rfl rfl ?_; (first | refine nilCheck_x rfl rfl ?_ | refine nilCheckE_x rfl (by first | omega | decide | (simp; done) | (simp; omega)) rfl ?_)) | first | refine offX rfl rfl rfl rfl ?_ | refine offXU rfl rfl rfl ?_)
    all_goals (refine any_pure (i := 14) rfl (by kernel_rfl) S ?_; first | (refine onX rfl rfl ?_; (first | refine fieldAddr_x rfl rfl rfl ?_ | refine fieldAddrE_x rfl (by first | omega | decide | (simp; done) | (simp; omega)) rfl rfl ?_)) | first | refine offX rfl rfl rfl rfl ?_ | refine offXU rfl rfl rfl ?_)
    all_goals (refine any_pure (i := 15) rfl (by kernel_rfl) S ?_; first | (refine onX rfl rfl ?_; (first | refine load_p_x rfl rfl rfl rfl ?_ | refine load_o_x rfl rfl rfl rfl ?_ | refine loadE_p_x rfl (by first | omega | decide | (simp; done) | (simp; omega)) rfl rfl rfl ?_ | refine loadE_o_x rfl (by first | omega | decide | (simp; done) | (simp; omega)) rfl rfl rfl ?_)) | first | refine offX rfl rfl rfl rfl ?_ | refine offXU rfl rfl rfl ?_)
    all_goals (refine any_pure (i := 16) rfl (by kernel_rfl) S ?_; first | (refine onX rfl rfl ?_; (first | refine move_p_x rfl rfl ?_ | refine move_e_x rfl rfl ?_ | refine move_o_x rfl rfl ?_)) | first | refine offX rfl rfl rfl rfl ?_ | refine offXU rfl rfl rfl ?_)
    all_goals (refine any_pure (i := 17) rfl (by kernel_rfl) S ?_; first | (refine onX rfl rfl ?_; (first | refine nilCheck_x rfl rfl ?_ | refine nilCheckE_x rfl (by first | omega | decide | (simp; done) | (simp; omega)) rfl ?_)) | first | refine offX rfl rfl rfl rfl ?_ | refine offXU rfl rfl rfl ?_)
    all_goals (refine any_pure (i := 18) rfl (by kernel_rfl) S ?_; first | (refine onX rfl rfl ?_; (first | refine fieldAddr_x rfl rfl rfl ?_ | refine fieldAddrE_x rfl (by first | omega | decide | (simp; done) | (simp; omega)) rfl rfl ?_)) | first | refine offX rfl rfl rfl rfl ?_ | refine offXU rfl rfl rfl ?_)
    all_goals (refine any_pure (i := 19) rfl (by kernel_rfl) S ?_; first | (refine onX rfl rfl ?_; (first | refine load_s_x rfl rfl rfl rfl ?_ | refine load_o_x rfl rfl rfl rfl ?_ | refine loadE_s_x rfl (by first | omega | decide | (simp; done) | (simp; omega)) rfl rfl rfl ?_ | refine loadE_o_x rfl (by first | omega | decide | (simp; done) | (simp; omega)) rfl rfl rfl ?_)) | first | refine offX rfl rfl rfl rfl ?_ | refine offXU rfl rfl rfl ?_)
    all_goals (refine any_pure (i := 20) rfl (by kernel_rfl) S ?_; first | (refine onX rfl rfl ?_; (first | refine move_p_x rfl rfl ?_ | refine move_e_x rfl rfl ?_ | refine move_o_x rfl rfl ?_)) | first | refine offX rfl rfl rfl rfl ?_ | refine offXU rfl rfl rfl ?_)
    all_goals (refine any_pure (i := 21) rfl (by kernel_rfl) S ?_; first | (refine onX rfl rfl ?_; (first | refine nilCheck_x rfl rfl ?_ | refine nilCheckE_x rfl (by first | omega | decide | (simp; done) | (simp; omega)) rfl ?_)) | first | refine offX rfl rfl rfl rfl ?_ | refine offXU rfl rfl rfl ?_)
    all_goals (refine any_pure (i := 22) rfl (by kernel_rfl) S ?_; first | (refine onX rfl rfl ?_; (first | refine fieldAddr_x rfl rfl rfl ?_ | refine fieldAddrE_x rfl (by first | omega | decide | (simp; done) | (simp; omega)) rfl rfl ?_)) | first | refine offX rfl rfl rfl rfl ?_ | refine offXU rfl rfl rfl ?_)
    all_goals (refine any_pure (i := 23) rfl (by kernel_rfl) S ?_; first | (refine onX rfl rfl ?_; (first | refine load_s_x rfl rfl rfl rfl ?_ | refine load_o_x rfl rfl rfl rfl ?_ | refine loadE_s_x rfl (by first | omega | decide | (simp; done) | (simp; omega)) rfl rfl rfl ?_ | refine loadE_o_x rfl (by first | omega | decide | (simp; done) | (simp; omega)) rfl rfl rfl ?_)) | first | refine offX rfl rfl rfl rfl ?_ | refine offXU rfl rfl rfl ?_)
    all_goals refine any_step (i := 24) rfl (by kernel_rfl) ?_
    all_goals first | refine onL rfl rfl ?_ | (first | (refine offL rfl rfl rfl rfl ?_; refine nilL ?_) | (refine offLU rfl rfl rfl ?_; refine nilL ?_) | (refine offL0 rfl rfl rfl ?_; refine nilL ?_); refine ⟨S.sub, ?_⟩)
    all_goals try refine nilL ?_
    all_goals refine ⟨S.sub, ?_⟩
    all_goals (have S1 := S; replace S : Sat _ _ _ [roR (dwW b bd a c W), roR (refR bx A (refOf H))] := S1.sub)
    all_goals (refine any_pure (i := 25) rfl (by kernel_rfl) S ?_; first | (refine onX rfl rfl ?_; (first | refine pick_tb_x rfl rfl rfl ?_ | refine pick_fb_x rfl rfl rfl ?_)) | first | refine offX rfl rfl rfl rfl ?_ | refine offXU rfl rfl rfl ?_)
    all_goals (refine any_pure (i := 26) rfl (by kernel_rfl) S ?_; (first | refine pick_tb_x rfl rfl rfl ?_ | refine pick_fb_x rfl rfl rfl ?_))
    all_goals (refine any_pure (i := 27) rfl (by kernel_rfl) S ?_; refine assign_b_x rfl rfl ?_)
    all_goals refine any_end (by kernel_rfl) ?_
    all_goals replace S := S1
    all_goals repeat' (first | refine assign_b_l S rfl rfl ?_ | refine nilL ?_ | refine run_seq ?_ | refine run_skip ?_ | refine run_region ?_ | refine run_block ?_ | refine run_ret ?_ | refine run_exit ?_ | refine run_cond_true rfl ?_ | refine run_cond_false rfl ?_ | refine thenQ_n ?_ | refine thenQ_r ?_ | refine thenQ_e ?_ | refine blockQ_n ?_ | refine blockQ_r ?_ | refine blockQ_s rfl ?_ | refine blockQ_o rfl ?_ | refine ret1_i rfl ?_ | refine ret1_b rfl ?_ | refine ret1_p rfl ?_ | refine ret1_s rfl ?_ | refine ret1_e rfl ?_ | refine ret1_a rfl ?_ | refine ret1_o rfl ?_ | refine ret1n_i rfl ?_ | refine ret1n_b rfl ?_ | refine ret1n_p rfl ?_ | refine ret1n_s rfl ?_ | refine ret1n_o rfl ?_)
    all_goals exact ⟨rfl, S.chg.below⟩
theorem dw_openL {S : Nat → Prop} {w₀ w : World} {L : List Res} {b bd : Nat} {a : Option Addr} {c : Nat} {th at_ rv st : Int} {l : List Int} (h : Sat S w₀ w (dwR b bd a c th at_ rv st l :: L)) : Sat S w₀ w (dwL b bd a c th at_ rv st l ++ L) := by
  have hc : (dwR b bd a c th at_ rv st l).holds w := h.all _ (by simp)
  have hs := List.pairwise_cons.1 h.sep
  have ap : ∀ x ∈ L, ∀ k, (dwR b bd a c th at_ rv st l).foot k → ¬ x.foot k := fun x hx k e1 e2 => by
    rcases hs.1 x hx with e | e
    · cases e.1
    · exact e k e1 e2
  have base : Sat S w₀ w L := ⟨h.chg, fun x hx => h.all x (by simp [hx]), hs.2, fun x hx => h.own x (by simp [hx])⟩
  refine (base.push (r := docR bd a c rv st l) hc.1.2 (fun x hx => .inr fun k e1 e2 => ap x hx k (.inr e1) e2) (fun _ k hk hlt => h.own (dwR b bd a c th at_ rv st l) (by simp) rfl k (.inr hk) hlt)).push (r := blk b 3 (dwC bd th at_) 89) hc.1.1 (fun x hx => ?_) (fun _ k hk hlt => h.own (dwR b bd a c th at_ rv st l) (by simp) rfl k (.inl hk) hlt)
  rcases List.mem_cons.1 hx with rfl | hx
  · exact .inr fun k e e' => hc.2 k e' e
  · exact .inr fun k e1 e2 => ap x hx k (.inl e1) e2
theorem dstep_at {b0 bd : Nat} {a : Option Addr} {c : Nat} {W : WtS} {bx : Nat} {A : RA} {H : HeapS} {w0 : World} (h : (dwW b0 bd a c W).holds w0) (hh : (refR bx A (refOf H)).holds w0) (h0 : 0 ≤ W.rv) (hap : ∀ k, (dwW b0 bd a c W).foot k → ¬ (refR bx A (refOf H)).foot k) :
    Calls Try.prog 43 #[.pointer (some ⟨b0, 0, none⟩), .pointer (some ⟨bx, 0, none⟩)] w0 fun e w' => e = .returned (.tuple #[encEv (stepEvW W H), .int .i64 (stepEW W H)]) ∧ (dwW b0 bd a c (stepW W H)).holds w' ∧ Chg (dwW b0 bd a c W).foot w0 w' := by
  have S : Sat (dwW b0 bd a c W).foot w0 w0 [dwW b0 bd a c W, roR (refR bx A (refOf H))] := (((Sat.start _ w0).ro (r := roR (refR bx A (refOf H))) hh rfl rfl)).push (r := dwW b0 bd a c W) h (fun x hx => by
    obtain rfl : x = roR (refR bx A (refOf H)) := by simpa using hx
    exact .inr hap) (fun _ k hk _ => hk)
  refine enterC2 Try.func43 rfl Try.ntmps43 rfl Try.results43 ?_
  repeat' (first | refine move_p_l S rfl rfl ?_ | refine move_e_l S rfl rfl ?_ | refine fieldAddr_l S rfl rfl rfl ?_ | refine nilL ?_ | refine run_seq ?_ | refine run_skip ?_ | refine run_region ?_ | refine fieldAddrE_l S rfl (by first | omega | decide | (simp; done) | (simp; omega)) rfl rfl ?_ | refine nilCheck_l S rfl rfl ?_ | refine nilCheckE_l S rfl (by first | omega | decide | (simp; done) | (simp; omega)) rfl ?_ | refine assign_i_l S rfl rfl ?_ | (refine storeN_l S rfl rfl ⟨rfl, rfl⟩ rfl ?_; clear S; intro w S) | (refine storeEN_l S rfl rfl ⟨rfl, rfl⟩ (by omega) rfl rfl ?_; clear S; intro w S) | refine load_i_l S rfl rfl rfl rfl ?_ | refine loadE_i_l S rfl (by first | omega | decide | (simp; done) | (simp; omega)) rfl rfl rfl ?_ | (refine alloc_l S rfl rfl ?_; clear S; intro b w S) | (refine allocZ_l S rfl rfl ?_; clear S; intro b w S) | (apply build7_l S; (· repeat (first | exact mapN | apply mapC_i rfl | apply mapC_b rfl | apply mapC_p rfl | apply mapC_s rfl | apply mapC_e rfl | apply mapC_a rfl | apply mapC_o rfl)); (· rfl); (· rfl)) | (refine store_i S rfl rfl rfl ?_; clear S; intro w S) | (refine storeE_i S rfl rfl (by omega) rfl ?_; clear S; intro w S) | refine not_l S rfl rfl ?_ | (refine eql_l S rfl rfl rfl ?_ ?_ <;> intro hcmp <;> try (exfalso; first | omega | exact hcmp (by decide) | exact absurd hcmp (by decide))) | refine add_l S rfl rfl (wrap_in (by omega)) rfl ?_ | refine add_l S rfl rfl rfl rfl ?_ | refine loadN_l S rfl rfl rfl ?_ | refine loadEN_l S rfl (by first | omega | decide | (simp; done) | (simp; omega)) rfl rfl ?_ | refine move_o_l S rfl rfl ?_ | refine load_o_l S rfl rfl rfl rfl ?_ | refine loadE_o_l S rfl (by first | omega | decide | (simp; done) | (simp; omega)) rfl rfl rfl ?_ | refine run_block ?_ | refine run_ret ?_ | refine run_exit ?_ | refine run_cond_true rfl ?_ | refine run_cond_false rfl ?_ | refine thenQ_n ?_ | refine thenQ_r ?_ | refine thenQ_e ?_ | refine blockQ_n ?_ | refine blockQ_r ?_ | refine blockQ_s rfl ?_ | refine blockQ_o rfl ?_ | refine retC2_l S rfl rfl ?_ | refine retC2_n S rfl rfl ?_)
  obtain ⟨be, hbe⟩ : ∃ be, be = b := ⟨_, rfl⟩
  subst hbe
  replace S := S.sw
  (refine callL (dmay_at S.got1 (S.all (roR (refR bx A (refOf H))) (by simp)) h0) rfl rfl ?_; rintro e w ⟨rfl, hb⟩; replace S := S.below hb; clear hb; refine ⟨_, rfl, ?_⟩)
  cases hm : mayB W H with
  | false =>
    repeat' (first | refine move_p_l S rfl rfl ?_ | refine move_e_l S rfl rfl ?_ | refine fieldAddr_l S rfl rfl rfl ?_ | refine nilL ?_ | refine run_seq ?_ | refine run_skip ?_ | refine run_region ?_ | refine fieldAddrE_l S rfl (by first | omega | decide | (simp; done) | (simp; omega)) rfl rfl ?_ | refine nilCheck_l S rfl rfl ?_ | refine nilCheckE_l S rfl (by first | omega | decide | (simp; done) | (simp; omega)) rfl ?_ | refine assign_i_l S rfl rfl ?_ | (refine storeN_l S rfl rfl ⟨rfl, rfl⟩ rfl ?_; clear S; intro w S) | (refine storeEN_l S rfl rfl ⟨rfl, rfl⟩ (by omega) rfl rfl ?_; clear S; intro w S) | refine load_i_l S rfl rfl rfl rfl ?_ | refine loadE_i_l S rfl (by first | omega | decide | (simp; done) | (simp; omega)) rfl rfl rfl ?_ | (refine alloc_l S rfl rfl ?_; clear S; intro b w S) | (refine allocZ_l S rfl rfl ?_; clear S; intro b w S) | (apply build7_l S; (· repeat (first | exact mapN | apply mapC_i rfl | apply mapC_b rfl | apply mapC_p rfl | apply mapC_s rfl | apply mapC_e rfl | apply mapC_a rfl | apply mapC_o rfl)); (· rfl); (· rfl)) | (refine store_i S rfl rfl rfl ?_; clear S; intro w S) | (refine storeE_i S rfl rfl (by omega) rfl ?_; clear S; intro w S) | refine not_l S rfl rfl ?_ | (refine eql_l S rfl rfl rfl ?_ ?_ <;> intro hcmp <;> try (exfalso; first | omega | exact hcmp (by decide) | exact absurd hcmp (by decide))) | refine add_l S rfl rfl (wrap_in (by omega)) rfl ?_ | refine add_l S rfl rfl rfl rfl ?_ | refine loadN_l S rfl rfl rfl ?_ | refine loadEN_l S rfl (by first | omega | decide | (simp; done) | (simp; omega)) rfl rfl ?_ | refine move_o_l S rfl rfl ?_ | refine load_o_l S rfl rfl rfl rfl ?_ | refine loadE_o_l S rfl (by first | omega | decide | (simp; done) | (simp; omega)) rfl rfl rfl ?_ | refine run_block ?_ | refine run_ret ?_ | refine run_exit ?_ | refine run_cond_true rfl ?_ | refine run_cond_false rfl ?_ | refine thenQ_n ?_ | refine thenQ_r ?_ | refine thenQ_e ?_ | refine blockQ_n ?_ | refine blockQ_r ?_ | refine blockQ_s rfl ?_ | refine blockQ_o rfl ?_ | refine retC2_l S rfl rfl ?_ | refine retC2_n S rfl rfl ?_)
    refine ⟨by rw [stepEvW, stepEW, hm]; rfl, ?_, S.chg⟩
    rw [show stepW W H = W from by unfold stepW; rw [hm]; rfl]
    exact S.all (dwW _ bd a c W) (by simp)
  | true =>
    obtain ⟨th, at0, rv, st, hs⟩ := W
    have hat : at0 = 1 ∨ at0 = 2 := by
      unfold mayB at hm
      rw [Bool.or_eq_true, Bool.and_eq_true, decide_eq_true_eq, decide_eq_true_eq] at hm
      rcases hm with e | e
      · exact .inl e
      · exact .inr e.1
    replace S := dw_openL S
    simp only [dwL, List.cons_append, List.nil_append] at S
    rcases hat with rfl | rfl
    · repeat' (first | refine move_p_l S rfl rfl ?_ | refine move_e_l S rfl rfl ?_ | refine fieldAddr_l S rfl rfl rfl ?_ | refine nilL ?_ | refine run_seq ?_ | refine run_skip ?_ | refine run_region ?_ | refine fieldAddrE_l S rfl (by first | omega | decide | (simp; done) | (simp; omega)) rfl rfl ?_ | refine nilCheck_l S rfl rfl ?_ | refine nilCheckE_l S rfl (by first | omega | decide | (simp; done) | (simp; omega)) rfl ?_ | refine assign_i_l S rfl rfl ?_ | (refine storeN_l S rfl rfl ⟨rfl, rfl⟩ rfl ?_; clear S; intro w S) | (refine storeEN_l S rfl rfl ⟨rfl, rfl⟩ (by omega) rfl rfl ?_; clear S; intro w S) | refine load_i_l S rfl rfl rfl rfl ?_ | refine loadE_i_l S rfl (by first | omega | decide | (simp; done) | (simp; omega)) rfl rfl rfl ?_ | (refine alloc_l S rfl rfl ?_; clear S; intro b w S) | (refine allocZ_l S rfl rfl ?_; clear S; intro b w S) | (apply build7_l S; (· repeat (first | exact mapN | apply mapC_i rfl | apply mapC_b rfl | apply mapC_p rfl | apply mapC_s rfl | apply mapC_e rfl | apply mapC_a rfl | apply mapC_o rfl)); (· rfl); (· rfl)) | (refine store_i S rfl rfl rfl ?_; clear S; intro w S) | (refine storeE_i S rfl rfl (by omega) rfl ?_; clear S; intro w S) | refine not_l S rfl rfl ?_ | (refine eql_l S rfl rfl rfl ?_ ?_ <;> intro hcmp <;> try (exfalso; first | omega | exact hcmp (by decide) | exact absurd hcmp (by decide))) | refine add_l S rfl rfl (wrap_in (by omega)) rfl ?_ | refine add_l S rfl rfl rfl rfl ?_ | refine loadN_l S rfl rfl rfl ?_ | refine loadEN_l S rfl (by first | omega | decide | (simp; done) | (simp; omega)) rfl rfl ?_ | refine move_o_l S rfl rfl ?_ | refine load_o_l S rfl rfl rfl rfl ?_ | refine loadE_o_l S rfl (by first | omega | decide | (simp; done) | (simp; omega)) rfl rfl rfl ?_ | refine run_block ?_ | refine run_ret ?_ | refine run_exit ?_ | refine run_cond_true rfl ?_ | refine run_cond_false rfl ?_ | refine thenQ_n ?_ | refine thenQ_r ?_ | refine thenQ_e ?_ | refine blockQ_n ?_ | refine blockQ_r ?_ | refine blockQ_s rfl ?_ | refine blockQ_o rfl ?_ | refine retC2_l S rfl rfl ?_ | refine retC2_n S rfl rfl ?_)
      rw [show IntKind.u8.wrap (1 + 1) = 2 from by decide] at S
      replace S := (S.sw).turn1 (r' := blk b0 3 (dwC bd th 2) 89) S.sw.got1 rfl (fun k e => e)
      refine ⟨?_, ?_, S.chg⟩
      · rw [stepEvW, stepEW, hm]
        rfl
      · rw [show stepW ⟨th, 1, rv, st, hs⟩ H = ⟨th, 2, rv, st, hs⟩ from by unfold stepW; rw [hm]; rfl]
        exact dw_shut (L := []) (S.sub (L' := dwL b0 bd a c th 2 rv st (allI st hs)))
    · repeat' (first | refine move_p_l S rfl rfl ?_ | refine move_e_l S rfl rfl ?_ | refine fieldAddr_l S rfl rfl rfl ?_ | refine nilL ?_ | refine run_seq ?_ | refine run_skip ?_ | refine run_region ?_ | refine fieldAddrE_l S rfl (by first | omega | decide | (simp; done) | (simp; omega)) rfl rfl ?_ | refine nilCheck_l S rfl rfl ?_ | refine nilCheckE_l S rfl (by first | omega | decide | (simp; done) | (simp; omega)) rfl ?_ | refine assign_i_l S rfl rfl ?_ | (refine storeN_l S rfl rfl ⟨rfl, rfl⟩ rfl ?_; clear S; intro w S) | (refine storeEN_l S rfl rfl ⟨rfl, rfl⟩ (by omega) rfl rfl ?_; clear S; intro w S) | refine load_i_l S rfl rfl rfl rfl ?_ | refine loadE_i_l S rfl (by first | omega | decide | (simp; done) | (simp; omega)) rfl rfl rfl ?_ | (refine alloc_l S rfl rfl ?_; clear S; intro b w S) | (refine allocZ_l S rfl rfl ?_; clear S; intro b w S) | (apply build7_l S; (· repeat (first | exact mapN | apply mapC_i rfl | apply mapC_b rfl | apply mapC_p rfl | apply mapC_s rfl | apply mapC_e rfl | apply mapC_a rfl | apply mapC_o rfl)); (· rfl); (· rfl)) | (refine store_i S rfl rfl rfl ?_; clear S; intro w S) | (refine storeE_i S rfl rfl (by omega) rfl ?_; clear S; intro w S) | refine not_l S rfl rfl ?_ | (refine eql_l S rfl rfl rfl ?_ ?_ <;> intro hcmp <;> try (exfalso; first | omega | exact hcmp (by decide) | exact absurd hcmp (by decide))) | refine add_l S rfl rfl (wrap_in (by omega)) rfl ?_ | refine add_l S rfl rfl rfl rfl ?_ | refine loadN_l S rfl rfl rfl ?_ | refine loadEN_l S rfl (by first | omega | decide | (simp; done) | (simp; omega)) rfl rfl ?_ | refine move_o_l S rfl rfl ?_ | refine load_o_l S rfl rfl rfl rfl ?_ | refine loadE_o_l S rfl (by first | omega | decide | (simp; done) | (simp; omega)) rfl rfl rfl ?_ | refine run_block ?_ | refine run_ret ?_ | refine run_exit ?_ | refine run_cond_true rfl ?_ | refine run_cond_false rfl ?_ | refine thenQ_n ?_ | refine thenQ_r ?_ | refine thenQ_e ?_ | refine blockQ_n ?_ | refine blockQ_r ?_ | refine blockQ_s rfl ?_ | refine blockQ_o rfl ?_ | refine retC2_l S rfl rfl ?_ | refine retC2_n S rfl rfl ?_)
      rw [show IntKind.u8.wrap (2 + 1) = 3 from by decide] at S
      replace S := (S.sw).turn1 (r' := blk b0 3 (dwC bd th 3) 89) S.sw.got1 rfl (fun k e => e)
      refine ⟨?_, ?_, S.chg⟩
      · rw [stepEvW, stepEW, hm]
        rfl
      · rw [show stepW ⟨th, 2, rv, st, hs⟩ H = ⟨th, 3, rv, st, hs⟩ from by unfold stepW; rw [hm]; rfl]
        exact dw_shut (L := []) (S.sub (L' := dwL b0 bd a c th 3 rv st (allI st hs)))
/-- What is done to a heap. -/
def turnH (H : HeapS) (x : TurnW) : HeapS := if x.kind = 1 then ownH H x.at_ x.who else if x.kind = 2 then letH H x.at_ x.who else if x.kind = 3 then freeH (bumpH H) x.at_ x.who (bumpH H).clock else H
theorem OwnOk.turn {H : HeapS} (h : OwnOk H) (x : TurnW) : OwnOk (turnH H x) := by
  unfold turnH
  split
  · exact h.step ⟨0, x.at_, x.who, 0, 0⟩
  · split
    · exact h.step ⟨1, x.at_, x.who, 0, 0⟩
    · split
      · exact (h.step ⟨3, 0, 0, 0, 0⟩).step ⟨2, x.at_, x.who, (bumpH H).clock, 0⟩
      · exact h
theorem Sat.pull3 {S₀ : Nat → Prop} {w₀ w : World} {x y z : Res} {L : List Res} (h : Sat S₀ w₀ w (x :: y :: z :: L)) : Sat S₀ w₀ w (z :: x :: y :: L) := h.perm (List.perm_middle (l₁ := [x, y])).symm
theorem turned_at {bh : Nat} {ga va : Option Addr} {gc vc : Nat} {H : HeapS} {bx : Nat} {A : RA} {F : Nat → Prop} {w0 : World} (S : Sat F w0 w0 [heapR bh ga va gc vc H, refR bx A (refOf H)]) (hown : OwnOk H) {nn st : Nat} (hok : OkH nn st 1099511627776 H) (hst : st ≤ 1000) (x : TurnW) :
    Calls Try.prog 40 #[.pointer (some ⟨bh, 0, none⟩), .pointer (some ⟨bx, 0, none⟩), aggV [.int .u8 x.kind, .int .i64 x.at_, .int .i64 x.who]] w0 fun e w' => e = .returned (.tuple #[]) ∧ ∃ A', Sat F w0 w' [heapR bh ga va gc vc (turnH H x), refR bx A' (refOf (turnH H x))] := by
  have hc0 := hok.c0
  have hc1 := hok.c1
  have hl := hok.locks
  have ho := owns_len H
  have hv := vers_len H
  unfold turnH
  refine enter0 Try.func40 rfl Try.ntmps40 rfl Try.results40 ?_
  repeat' (first | refine fieldAddr_l S rfl rfl rfl ?_ | refine fieldAddrE_l S rfl (by first | omega | decide | (simp; done) | (simp; omega)) rfl rfl ?_ | refine load_i_l S rfl rfl rfl rfl ?_ | refine nilL ?_ | refine run_seq ?_ | refine run_skip ?_ | refine run_region ?_ | refine loadE_i_l S rfl (by first | omega | decide | (simp; done) | (simp; omega)) rfl rfl rfl ?_ | refine move_p_l S rfl rfl ?_ | refine move_e_l S rfl rfl ?_ | (refine eql_l S rfl rfl rfl ?_ ?_ <;> intro hcmp <;> try (exfalso; first | omega | exact hcmp (by decide) | exact absurd hcmp (by decide))) | refine assign_b_l S rfl rfl ?_ | (refine box_a S rfl rfl rfl ?_; clear S; intro b w S) | refine load_o_l S rfl rfl rfl rfl ?_ | refine loadE_o_l S rfl (by first | omega | decide | (simp; done) | (simp; omega)) rfl rfl rfl ?_ | refine move_o_l S rfl rfl ?_ | refine run_block ?_ | refine run_ret ?_ | refine run_exit ?_ | refine run_cond_true rfl ?_ | refine run_cond_false rfl ?_ | refine thenQ_n ?_ | refine thenQ_r ?_ | refine thenQ_e ?_ | refine blockQ_n ?_ | refine blockQ_r ?_ | refine blockQ_s rfl ?_ | refine blockQ_o rfl ?_ | refine ret0_l ?_ | refine ret0_n ?_)
  · rw [if_pos hcmp]
    refine callL (own_at S.second x.at_ x.who) rfl rfl ?_
    rintro e w ⟨rfl, hm⟩
    replace S := S.heapTo2 hm
    clear hm
    refine ⟨_, rfl, ?_⟩
    repeat' (first | refine fieldAddr_l S rfl rfl rfl ?_ | refine fieldAddrE_l S rfl (by first | omega | decide | (simp; done) | (simp; omega)) rfl rfl ?_ | refine load_i_l S rfl rfl rfl rfl ?_ | refine nilL ?_ | refine run_seq ?_ | refine run_skip ?_ | refine run_region ?_ | refine loadE_i_l S rfl (by first | omega | decide | (simp; done) | (simp; omega)) rfl rfl rfl ?_ | refine move_p_l S rfl rfl ?_ | refine move_e_l S rfl rfl ?_ | (refine eql_l S rfl rfl rfl ?_ ?_ <;> intro hcmp <;> try (exfalso; first | omega | exact hcmp (by decide) | exact absurd hcmp (by decide))) | refine assign_b_l S rfl rfl ?_ | (refine box_a S rfl rfl rfl ?_; clear S; intro b w S) | refine load_o_l S rfl rfl rfl rfl ?_ | refine loadE_o_l S rfl (by first | omega | decide | (simp; done) | (simp; omega)) rfl rfl rfl ?_ | refine move_o_l S rfl rfl ?_ | refine run_block ?_ | refine run_ret ?_ | refine run_exit ?_ | refine run_cond_true rfl ?_ | refine run_cond_false rfl ?_ | refine thenQ_n ?_ | refine thenQ_r ?_ | refine thenQ_e ?_ | refine blockQ_n ?_ | refine blockQ_r ?_ | refine blockQ_s rfl ?_ | refine blockQ_o rfl ?_ | refine ret0_l ?_ | refine ret0_n ?_)
    refine callL (rown_at S.third x.at_ x.who (by omega)) rfl rfl ?_
    rintro e w ⟨rfl, hm⟩
    rw [rown_r _ _ _ hown] at hm
    obtain ⟨A', S2⟩ := S.pull3.refTo hm
    clear hm S
    have S := S2.pull3.pull3
    clear S2
    refine ⟨_, rfl, ?_⟩
    repeat' (first | refine fieldAddr_l S rfl rfl rfl ?_ | refine fieldAddrE_l S rfl (by first | omega | decide | (simp; done) | (simp; omega)) rfl rfl ?_ | refine load_i_l S rfl rfl rfl rfl ?_ | refine nilL ?_ | refine run_seq ?_ | refine run_skip ?_ | refine run_region ?_ | refine loadE_i_l S rfl (by first | omega | decide | (simp; done) | (simp; omega)) rfl rfl rfl ?_ | refine move_p_l S rfl rfl ?_ | refine move_e_l S rfl rfl ?_ | (refine eql_l S rfl rfl rfl ?_ ?_ <;> intro hcmp <;> try (exfalso; first | omega | exact hcmp (by decide) | exact absurd hcmp (by decide))) | refine assign_b_l S rfl rfl ?_ | (refine box_a S rfl rfl rfl ?_; clear S; intro b w S) | refine load_o_l S rfl rfl rfl rfl ?_ | refine loadE_o_l S rfl (by first | omega | decide | (simp; done) | (simp; omega)) rfl rfl rfl ?_ | refine move_o_l S rfl rfl ?_ | refine run_block ?_ | refine run_ret ?_ | refine run_exit ?_ | refine run_cond_true rfl ?_ | refine run_cond_false rfl ?_ | refine thenQ_n ?_ | refine thenQ_r ?_ | refine thenQ_e ?_ | refine blockQ_n ?_ | refine blockQ_r ?_ | refine blockQ_s rfl ?_ | refine blockQ_o rfl ?_ | refine ret0_l ?_ | refine ret0_n ?_)
    exact ⟨rfl, A', S.sub⟩
  · rename_i hk1
    rw [if_neg hk1, if_pos hcmp]
    refine callL (let_at S.second x.at_ x.who) rfl rfl ?_
    rintro e w ⟨rfl, hm⟩
    replace S := S.heapTo2 hm
    clear hm
    refine ⟨_, rfl, ?_⟩
    repeat' (first | refine fieldAddr_l S rfl rfl rfl ?_ | refine fieldAddrE_l S rfl (by first | omega | decide | (simp; done) | (simp; omega)) rfl rfl ?_ | refine load_i_l S rfl rfl rfl rfl ?_ | refine nilL ?_ | refine run_seq ?_ | refine run_skip ?_ | refine run_region ?_ | refine loadE_i_l S rfl (by first | omega | decide | (simp; done) | (simp; omega)) rfl rfl rfl ?_ | refine move_p_l S rfl rfl ?_ | refine move_e_l S rfl rfl ?_ | (refine eql_l S rfl rfl rfl ?_ ?_ <;> intro hcmp <;> try (exfalso; first | omega | exact hcmp (by decide) | exact absurd hcmp (by decide))) | refine assign_b_l S rfl rfl ?_ | (refine box_a S rfl rfl rfl ?_; clear S; intro b w S) | refine load_o_l S rfl rfl rfl rfl ?_ | refine loadE_o_l S rfl (by first | omega | decide | (simp; done) | (simp; omega)) rfl rfl rfl ?_ | refine move_o_l S rfl rfl ?_ | refine run_block ?_ | refine run_ret ?_ | refine run_exit ?_ | refine run_cond_true rfl ?_ | refine run_cond_false rfl ?_ | refine thenQ_n ?_ | refine thenQ_r ?_ | refine thenQ_e ?_ | refine blockQ_n ?_ | refine blockQ_r ?_ | refine blockQ_s rfl ?_ | refine blockQ_o rfl ?_ | refine ret0_l ?_ | refine ret0_n ?_)
    refine callL (rlet_at S.third x.at_ x.who (by omega)) rfl rfl ?_
    rintro e w ⟨rfl, hm⟩
    rw [rlet_r] at hm
    obtain ⟨A', S2⟩ := S.pull3.refTo hm
    clear hm S
    have S := S2.pull3.pull3
    clear S2
    refine ⟨_, rfl, ?_⟩
    repeat' (first | refine fieldAddr_l S rfl rfl rfl ?_ | refine fieldAddrE_l S rfl (by first | omega | decide | (simp; done) | (simp; omega)) rfl rfl ?_ | refine load_i_l S rfl rfl rfl rfl ?_ | refine nilL ?_ | refine run_seq ?_ | refine run_skip ?_ | refine run_region ?_ | refine loadE_i_l S rfl (by first | omega | decide | (simp; done) | (simp; omega)) rfl rfl rfl ?_ | refine move_p_l S rfl rfl ?_ | refine move_e_l S rfl rfl ?_ | (refine eql_l S rfl rfl rfl ?_ ?_ <;> intro hcmp <;> try (exfalso; first | omega | exact hcmp (by decide) | exact absurd hcmp (by decide))) | refine assign_b_l S rfl rfl ?_ | (refine box_a S rfl rfl rfl ?_; clear S; intro b w S) | refine load_o_l S rfl rfl rfl rfl ?_ | refine loadE_o_l S rfl (by first | omega | decide | (simp; done) | (simp; omega)) rfl rfl rfl ?_ | refine move_o_l S rfl rfl ?_ | refine run_block ?_ | refine run_ret ?_ | refine run_exit ?_ | refine run_cond_true rfl ?_ | refine run_cond_false rfl ?_ | refine thenQ_n ?_ | refine thenQ_r ?_ | refine thenQ_e ?_ | refine blockQ_n ?_ | refine blockQ_r ?_ | refine blockQ_s rfl ?_ | refine blockQ_o rfl ?_ | refine ret0_l ?_ | refine ret0_n ?_)
    exact ⟨rfl, A', S.sub⟩
  · rename_i hk1 hk2
    rw [if_neg hk1, if_neg hk2, if_pos hcmp]
    obtain ⟨bt, hbt⟩ : ∃ bt, bt = b := ⟨_, rfl⟩
    subst hbt
    replace S := S.turn1 (r' := blk bt 3 (encTW x) 70) S.got1 rfl (fun k e => e)
    refine callL (bump_at S.second (by omega)) rfl rfl ?_
    rintro e w ⟨rfl, hm⟩
    replace S := S.heapTo2 hm
    clear hm
    refine ⟨_, rfl, ?_⟩
    repeat' (first | refine fieldAddr_l S rfl rfl rfl ?_ | refine fieldAddrE_l S rfl (by first | omega | decide | (simp; done) | (simp; omega)) rfl rfl ?_ | refine load_i_l S rfl rfl rfl rfl ?_ | refine nilL ?_ | refine run_seq ?_ | refine run_skip ?_ | refine run_region ?_ | refine loadE_i_l S rfl (by first | omega | decide | (simp; done) | (simp; omega)) rfl rfl rfl ?_ | refine move_p_l S rfl rfl ?_ | refine move_e_l S rfl rfl ?_ | (refine eql_l S rfl rfl rfl ?_ ?_ <;> intro hcmp <;> try (exfalso; first | omega | exact hcmp (by decide) | exact absurd hcmp (by decide))) | refine assign_b_l S rfl rfl ?_ | (refine box_a S rfl rfl rfl ?_; clear S; intro b w S) | refine load_o_l S rfl rfl rfl rfl ?_ | refine loadE_o_l S rfl (by first | omega | decide | (simp; done) | (simp; omega)) rfl rfl rfl ?_ | refine move_o_l S rfl rfl ?_ | refine run_block ?_ | refine run_ret ?_ | refine run_exit ?_ | refine run_cond_true rfl ?_ | refine run_cond_false rfl ?_ | refine thenQ_n ?_ | refine thenQ_r ?_ | refine thenQ_e ?_ | refine blockQ_n ?_ | refine blockQ_r ?_ | refine blockQ_s rfl ?_ | refine blockQ_o rfl ?_ | refine ret0_l ?_ | refine ret0_n ?_)
    refine callL (rbump_at S.third (show H.clock ≤ _ ∧ _ ≤ H.clock by omega)) rfl rfl ?_
    rintro e w ⟨rfl, hm⟩
    rw [rbump_r] at hm
    obtain ⟨A2, S2⟩ := S.pull3.refTo hm
    clear hm S
    have S := S2.pull3.pull3
    clear S2
    refine ⟨_, rfl, ?_⟩
    have hl2 : (bumpH H).locks.length = st := (hok.step ⟨3, 0, 0, 0, 0⟩).locks
    have ho2 := owns_len (bumpH H)
    have hv2 := vers_len (bumpH H)
    repeat' (first | refine fieldAddr_l S rfl rfl rfl ?_ | refine fieldAddrE_l S rfl (by first | omega | decide | (simp; done) | (simp; omega)) rfl rfl ?_ | refine load_i_l S rfl rfl rfl rfl ?_ | refine nilL ?_ | refine run_seq ?_ | refine run_skip ?_ | refine run_region ?_ | refine loadE_i_l S rfl (by first | omega | decide | (simp; done) | (simp; omega)) rfl rfl rfl ?_ | refine move_p_l S rfl rfl ?_ | refine move_e_l S rfl rfl ?_ | (refine eql_l S rfl rfl rfl ?_ ?_ <;> intro hcmp <;> try (exfalso; first | omega | exact hcmp (by decide) | exact absurd hcmp (by decide))) | refine assign_b_l S rfl rfl ?_ | (refine box_a S rfl rfl rfl ?_; clear S; intro b w S) | refine load_o_l S rfl rfl rfl rfl ?_ | refine loadE_o_l S rfl (by first | omega | decide | (simp; done) | (simp; omega)) rfl rfl rfl ?_ | refine move_o_l S rfl rfl ?_ | refine run_block ?_ | refine run_ret ?_ | refine run_exit ?_ | refine run_cond_true rfl ?_ | refine run_cond_false rfl ?_ | refine thenQ_n ?_ | refine thenQ_r ?_ | refine thenQ_e ?_ | refine blockQ_n ?_ | refine blockQ_r ?_ | refine blockQ_s rfl ?_ | refine blockQ_o rfl ?_ | refine ret0_l ?_ | refine ret0_n ?_)
    refine run_any S (L' := [blk bt 3 (encTW x) 70]) (f := 8) mixed rfl ?_
    clear S
    intro w S1
    have S : Sat _ _ w [blk bt 3 (encTW x) 70] := S1.sub
    all_goals (refine any_pure (i := 0) rfl (by kernel_rfl) S ?_; (first | refine move_p_x rfl rfl ?_ | refine move_e_x rfl rfl ?_ | refine move_o_x rfl rfl ?_))
    all_goals (refine any_pure (i := 1) rfl (by kernel_rfl) S ?_; (first | refine fieldAddr_x rfl rfl rfl ?_ | refine fieldAddrE_x rfl (by first | omega | decide | (simp; done) | (simp; omega)) rfl rfl ?_))
    all_goals (refine any_pure (i := 2) rfl (by kernel_rfl) S ?_; (first | refine load_i_x rfl rfl rfl rfl ?_ | refine load_o_x rfl rfl rfl rfl ?_ | refine loadE_i_x rfl (by first | omega | decide | (simp; done) | (simp; omega)) rfl rfl rfl ?_ | refine loadE_o_x rfl (by first | omega | decide | (simp; done) | (simp; omega)) rfl rfl rfl ?_))
    all_goals (refine any_pure (i := 3) rfl (by kernel_rfl) S ?_; (first | refine fieldAddr_x rfl rfl rfl ?_ | refine fieldAddrE_x rfl (by first | omega | decide | (simp; done) | (simp; omega)) rfl rfl ?_))
    all_goals (refine any_pure (i := 4) rfl (by kernel_rfl) S ?_; (first | refine load_i_x rfl rfl rfl rfl ?_ | refine load_o_x rfl rfl rfl rfl ?_ | refine loadE_i_x rfl (by first | omega | decide | (simp; done) | (simp; omega)) rfl rfl rfl ?_ | refine loadE_o_x rfl (by first | omega | decide | (simp; done) | (simp; omega)) rfl rfl rfl ?_))
    all_goals (refine any_pure (i := 5) rfl (by kernel_rfl) S ?_; (first | refine move_p_x rfl rfl ?_ | refine move_e_x rfl rfl ?_ | refine move_o_x rfl rfl ?_))
    all_goals refine any_step (i := 6) rfl (by kernel_rfl) ?_
    all_goals replace S := S1
    (refine callL (clock_at S.second) rfl rfl ?_; rintro e w ⟨rfl, hb⟩; replace S := S.below hb; clear hb; refine ⟨_, rfl, ?_⟩)
    all_goals try refine nilL ?_
    all_goals refine ⟨S.sub, ?_⟩
    all_goals (have S1 := S; replace S : Sat _ _ _ [blk bt 3 (encTW x) 70] := S1.sub)
    all_goals refine any_step (i := 7) rfl (by kernel_rfl) ?_
    all_goals replace S := S1
    refine callL (free_at S.second x.at_ x.who (bumpH H).clock) rfl rfl ?_
    rintro e w ⟨rfl, hm⟩
    replace S := S.heapTo2 hm
    clear hm
    refine ⟨_, rfl, ?_⟩
    clear S1
    all_goals try refine nilL ?_
    all_goals refine ⟨S.sub, ?_⟩
    all_goals (have S1 := S; replace S : Sat _ _ _ [blk bt 3 (encTW x) 70] := S1.sub)
    all_goals refine any_end (by kernel_rfl) ?_
    all_goals replace S := S1
    all_goals clear S1
    repeat' (first | refine fieldAddr_l S rfl rfl rfl ?_ | refine fieldAddrE_l S rfl (by first | omega | decide | (simp; done) | (simp; omega)) rfl rfl ?_ | refine load_i_l S rfl rfl rfl rfl ?_ | refine nilL ?_ | refine run_seq ?_ | refine run_skip ?_ | refine run_region ?_ | refine loadE_i_l S rfl (by first | omega | decide | (simp; done) | (simp; omega)) rfl rfl rfl ?_ | refine move_p_l S rfl rfl ?_ | refine move_e_l S rfl rfl ?_ | (refine eql_l S rfl rfl rfl ?_ ?_ <;> intro hcmp <;> try (exfalso; first | omega | exact hcmp (by decide) | exact absurd hcmp (by decide))) | refine assign_b_l S rfl rfl ?_ | (refine box_a S rfl rfl rfl ?_; clear S; intro b w S) | refine load_o_l S rfl rfl rfl rfl ?_ | refine loadE_o_l S rfl (by first | omega | decide | (simp; done) | (simp; omega)) rfl rfl rfl ?_ | refine move_o_l S rfl rfl ?_ | refine run_block ?_ | refine run_ret ?_ | refine run_exit ?_ | refine run_cond_true rfl ?_ | refine run_cond_false rfl ?_ | refine thenQ_n ?_ | refine thenQ_r ?_ | refine thenQ_e ?_ | refine blockQ_n ?_ | refine blockQ_r ?_ | refine blockQ_s rfl ?_ | refine blockQ_o rfl ?_ | refine ret0_l ?_ | refine ret0_n ?_)
    refine run_any S (L' := [blk bt 3 (encTW x) 70]) (f := 10) mixed rfl ?_
    clear S
    intro w S1
    have S : Sat _ _ w [blk bt 3 (encTW x) 70] := S1.sub
    refine any_pure (i := 0) rfl (by kernel_rfl) S ?_
    refine move_p_x rfl rfl ?_
    refine any_pure (i := 1) rfl (by kernel_rfl) S ?_
    refine fieldAddr_x rfl rfl rfl ?_
    refine any_pure (i := 2) rfl (by kernel_rfl) S ?_
    refine load_i_x rfl rfl rfl rfl ?_
    refine any_pure (i := 3) rfl (by kernel_rfl) S ?_
    refine fieldAddr_x rfl rfl rfl ?_
    refine any_pure (i := 4) rfl (by kernel_rfl) S ?_
    refine load_i_x rfl rfl rfl rfl ?_
    refine any_pure (i := 5) rfl (by kernel_rfl) S ?_
    refine move_p_x rfl rfl ?_
    refine any_pure (i := 6) rfl (by kernel_rfl) S ?_
    refine nilCheck_x rfl rfl ?_
    refine any_pure (i := 7) rfl (by kernel_rfl) S ?_
    refine fieldAddr_x rfl rfl rfl ?_
    refine any_step (i := 8) rfl (by kernel_rfl) ?_
    refine load_i_l S1 rfl rfl rfl rfl ?_
    refine nilL ?_
    refine ⟨S, ?_⟩
    refine any_step (i := 9) rfl (by kernel_rfl) ?_
    all_goals replace S := S1
    all_goals clear S1
    refine callL (rfree_at S.third x.at_ x.who (refOf (bumpH H)).time (by omega) (by omega)) rfl rfl ?_
    rintro e w ⟨rfl, hm⟩
    rw [rfree_r, show (refOf (bumpH H)).time = (bumpH H).clock from rfl] at hm
    obtain ⟨A3, S2⟩ := S.pull3.refTo hm
    clear hm S
    have S := S2.pull3.pull3
    clear S2
    refine ⟨_, rfl, ?_⟩
    all_goals try refine nilL ?_
    all_goals refine ⟨S.sub, ?_⟩
    all_goals (have S1 := S; replace S : Sat _ _ _ [blk bt 3 (encTW x) 70] := S1.sub)
    all_goals refine any_end (by kernel_rfl) ?_
    all_goals replace S := S1
    all_goals repeat' (first | refine fieldAddr_l S rfl rfl rfl ?_ | refine fieldAddrE_l S rfl (by first | omega | decide | (simp; done) | (simp; omega)) rfl rfl ?_ | refine load_i_l S rfl rfl rfl rfl ?_ | refine nilL ?_ | refine run_seq ?_ | refine run_skip ?_ | refine run_region ?_ | refine loadE_i_l S rfl (by first | omega | decide | (simp; done) | (simp; omega)) rfl rfl rfl ?_ | refine move_p_l S rfl rfl ?_ | refine move_e_l S rfl rfl ?_ | (refine eql_l S rfl rfl rfl ?_ ?_ <;> intro hcmp <;> try (exfalso; first | omega | exact hcmp (by decide) | exact absurd hcmp (by decide))) | refine assign_b_l S rfl rfl ?_ | (refine box_a S rfl rfl rfl ?_; clear S; intro b w S) | refine load_o_l S rfl rfl rfl rfl ?_ | refine loadE_o_l S rfl (by first | omega | decide | (simp; done) | (simp; omega)) rfl rfl rfl ?_ | refine move_o_l S rfl rfl ?_ | refine run_block ?_ | refine run_ret ?_ | refine run_exit ?_ | refine run_cond_true rfl ?_ | refine run_cond_false rfl ?_ | refine thenQ_n ?_ | refine thenQ_r ?_ | refine thenQ_e ?_ | refine blockQ_n ?_ | refine blockQ_r ?_ | refine blockQ_s rfl ?_ | refine blockQ_o rfl ?_ | refine ret0_l ?_ | refine ret0_n ?_)
    exact ⟨rfl, A3, S.sub⟩
  · rename_i hk1 hk2
    rw [if_neg hk1, if_neg hk2, if_neg hcmp]
    exact ⟨rfl, A, S.sub⟩
theorem Sat.turned {S₀ : Nat → Prop} {w₀ w : World} {L : List Res} {bh : Nat} {ga va : Option Addr} {gc vc : Nat} {H : HeapS} {bx : Nat} {A : RA} (S : Sat S₀ w₀ w (heapR bh ga va gc vc H :: refR bx A (refOf H) :: L)) (hown : OwnOk H) {nn st : Nat} (hok : OkH nn st 1099511627776 H) (hst : st ≤ 1000) (x : TurnW) :
    Calls Try.prog 40 #[.pointer (some ⟨bh, 0, none⟩), .pointer (some ⟨bx, 0, none⟩), aggV [.int .u8 x.kind, .int .i64 x.at_, .int .i64 x.who]] w fun e w' => e = .returned (.tuple #[]) ∧ ∃ A', Sat S₀ w₀ w' (heapR bh ga va gc vc (turnH H x) :: refR bx A' (refOf (turnH H x)) :: L) := by
  have hs := List.pairwise_cons.1 S.sep
  have base : Sat (fun k => (heapR bh ga va gc vc H).foot k ∨ (refR bx A (refOf H)).foot k) w w [heapR bh ga va gc vc H, refR bx A (refOf H)] :=
    ((Sat.start _ w).push (r := refR bx A (refOf H)) S.second (by simp) (fun _ k hk _ => .inr hk)).push (r := heapR bh ga va gc vc H) S.got1 (fun y hy => by
      obtain rfl : y = refR bx A (refOf H) := by simpa using hy
      exact hs.1 _ (by simp)) (fun _ k hk _ => .inl hk)
  refine (turned_at base hown hok hst x).mono ?_
  rintro e w' ⟨rfl, A', h⟩
  refine ⟨rfl, A', Sat.exch (A := [heapR bh ga va gc vc H, refR bx A (refOf H)]) (A' := [heapR bh ga va gc vc (turnH H x), refR bx A' (refOf (turnH H x))]) S h (fun k hk => hk.elim (fun e => ⟨_, List.mem_cons_self .., rfl, e⟩) (fun e => ⟨refR bx A (refOf H), by simp, rfl, e⟩)) (fun y hy => ?_)⟩
  simp only [List.mem_cons, List.not_mem_nil, or_false] at hy
  rcases hy with rfl | rfl <;> rfl
theorem Sat.dstep {S₀ : Nat → Prop} {w₀ w : World} {L : List Res} {b bd : Nat} {a : Option Addr} {c : Nat} {W : WtS} {bx : Nat} {A : RA} {H : HeapS} (S : Sat S₀ w₀ w (dwW b bd a c W :: refR bx A (refOf H) :: L)) (h0 : 0 ≤ W.rv) :
    Calls Try.prog 43 #[.pointer (some ⟨b, 0, none⟩), .pointer (some ⟨bx, 0, none⟩)] w fun e w' => e = .returned (.tuple #[encEv (stepEvW W H), .int .i64 (stepEW W H)]) ∧ Sat S₀ w₀ w' (dwW b bd a c (stepW W H) :: refR bx A (refOf H) :: L) := by
  refine (dstep_at S.got1 S.second h0 (fun k e e' => own_apart2 ((List.pairwise_cons.1 S.sep).1 (refR bx A (refOf H)) (by simp)) rfl k e e')).mono ?_
  rintro e w' ⟨rfl, h1, h2⟩
  refine ⟨rfl, S.swap (r := dwW b bd a c W) (r' := dwW b bd a c (stepW W H)) rfl h2 h1 rfl (fun k e => .inl ?_)⟩
  have hst : (stepW W H).st = W.st ∧ (stepW W H).hs = W.hs ∧ (stepW W H).rv = W.rv := by unfold stepW; split <;> exact ⟨rfl, rfl, rfl⟩
  rcases e with e | e
  · exact .inl e
  · exact .inr e
end Go.Proofs.Ytnnkegmiefpgpaa
