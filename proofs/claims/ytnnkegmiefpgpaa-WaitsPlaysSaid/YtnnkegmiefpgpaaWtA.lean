/- waits: a wait: what lies there; its methods. -/
import Derived.Test.YtnnkegmiefpgpaaRsSet
import Derived.Test.YtnnkegmiefpgpaaHpOw
import Derived.Test.YtnnkegmiefpgpaaRetC
import Derived.Test.YtnnkegmiefpgpaaExch
namespace Go.Proofs.Ytnnkegmiefpgpaa
open Go.RowKit Go.Lib
set_option linter.unusedVariables false
set_option maxHeartbeats 2000000
structure WtS where
  thread : Int
  at_ : Int
  rv : Int
  st : Int
  hs : List Bool
def wtC (bs : Nat) (W : WtS) : Tm := fun i => match i with | 0 => .int .i64 W.thread | 1 => .int .u8 W.at_ | 2 => .pointer (some ⟨bs, 0, none⟩) | _ => undef
def wtR (b bs : Nat) (W : WtS) : Res where
  foot k := k = b ∨ (setR bs W.rv W.st W.hs).foot k
  ro := false
  holds w := ((blk b 3 (wtC bs W) 94).holds w ∧ (setR bs W.rv W.st W.hs).holds w) ∧ ∀ k, (setR bs W.rv W.st W.hs).foot k → k ≠ b
  lt w k h e := by
    rcases e with rfl | e
    · exact lt_of_heap h.1.1
    · exact (setR bs W.rv W.st W.hs).lt w k h.1.2 e
  loc w w' h e := ⟨⟨(blk b 3 (wtC bs W) 94).loc w w' h.1.1 (fun k hk => e k (.inl hk)), (setR bs W.rv W.st W.hs).loc w w' h.1.2 (fun k hk => e k (.inr hk))⟩, h.2⟩
abbrev wtL (b bs : Nat) (W : WtS) : List Res := [blk b 3 (wtC bs W) 94, setR bs W.rv W.st W.hs]
theorem wt_open {b bs : Nat} {W : WtS} {w : World} (h : (wtR b bs W).holds w) : Sat (wtR b bs W).foot w w (wtL b bs W) := by
  obtain ⟨⟨h1, h2⟩, g1⟩ := h
  refine ((Sat.start _ w).push (r := setR bs W.rv W.st W.hs) h2 (by simp) (fun _ k hk _ => .inr hk)).push (r := blk b 3 (wtC bs W) 94) h1 ?_ (fun _ k hk _ => .inl hk)
  intro x hx
  obtain rfl : x = setR bs W.rv W.st W.hs := by simpa using hx
  exact .inr fun k e e' => g1 k e' e
theorem wt_shut {S : Nat → Prop} {w₀ w : World} {b bs : Nat} {W : WtS} (h : Sat S w₀ w (wtL b bs W)) : (wtR b bs W).holds w := by
  have a1 := h.all _ (List.mem_cons_self ..)
  have a2 := h.all (setR bs W.rv W.st W.hs) (by simp)
  have s := (List.pairwise_cons.1 h.sep).1 (setR bs W.rv W.st W.hs) (by simp)
  refine ⟨⟨a1, a2⟩, fun k h1 h2 => ?_⟩
  rcases s with e | e
  · cases e.1
  · exact e k h2 h1
section
variable (L : List Res) (b bs : Nat) (W : WtS)
instance wt_B : PickB (wtR b bs W :: L) b 3 (wtC bs W) 94 := ⟨fun w h => (h (wtR b bs W) (List.mem_cons_self ..)).1.1⟩
end
def NewWt (w0 w' : World) (W : WtS) (v : Value) : Prop := ∃ b bs, v = .pointer (some ⟨b, 0, none⟩) ∧ (wtR b bs W).holds w' ∧ ∀ k, (wtR b bs W).foot k → w0.heap.size ≤ k
def mayB (W : WtS) (H : HeapS) : Bool := decide (W.at_ = 1) || (decide (W.at_ = 2) && wakesB W.rv W.st W.hs (H.locks.map (·.1)) (H.locks.map (·.2)))
section
variable {b bs : Nat} {W : WtS} {w0 : World} (h : (wtR b bs W).holds w0)
include h
theorem wwhere_at : Calls Try.prog 28 #[.pointer (some ⟨b, 0, none⟩)] w0 fun e w' => e = .returned (.int .u8 W.at_) ∧ Below w0.heap.size w0 w' := by
  have S := Sat.reads h
  refine enter1 Try.func28 rfl Try.ntmps28 rfl Try.results28 ?_
  repeat' (first | refine assign_i_l S rfl rfl ?_ | refine move_p_l S rfl rfl ?_ | refine move_e_l S rfl rfl ?_ | refine nilL ?_ | refine run_seq ?_ | refine run_skip ?_ | refine run_region ?_ | refine eqlP_l S rfl rfl rfl ?_ | refine eqlE_l S rfl rfl (by omega) rfl ?_ | refine nilCheck_l S rfl rfl ?_ | refine nilCheckE_l S rfl (by first | omega | decide | (simp; done) | (simp; omega)) rfl ?_ | refine fieldAddr_l S rfl rfl rfl ?_ | refine fieldAddrE_l S rfl (by first | omega | decide | (simp; done) | (simp; omega)) rfl rfl ?_ | refine load_i_l S rfl rfl rfl rfl ?_ | refine loadE_i_l S rfl (by first | omega | decide | (simp; done) | (simp; omega)) rfl rfl rfl ?_ | refine move_o_l S rfl rfl ?_ | refine load_o_l S rfl rfl rfl rfl ?_ | refine loadE_o_l S rfl (by first | omega | decide | (simp; done) | (simp; omega)) rfl rfl rfl ?_ | refine run_block ?_ | refine run_ret ?_ | refine run_exit ?_ | refine run_cond_true rfl ?_ | refine run_cond_false rfl ?_ | refine thenQ_n ?_ | refine thenQ_r ?_ | refine thenQ_e ?_ | refine blockQ_n ?_ | refine blockQ_r ?_ | refine blockQ_s rfl ?_ | refine blockQ_o rfl ?_ | refine ret1_i rfl ?_ | refine ret1_b rfl ?_ | refine ret1_p rfl ?_ | refine ret1_s rfl ?_ | refine ret1_e rfl ?_ | refine ret1_a rfl ?_ | refine ret1_o rfl ?_ | refine ret1n_i rfl ?_ | refine ret1n_b rfl ?_ | refine ret1n_p rfl ?_ | refine ret1n_s rfl ?_ | refine ret1n_o rfl ?_)
  exact ⟨rfl, S.chg.below⟩
theorem wfor_at : Calls Try.prog 16 #[.pointer (some ⟨b, 0, none⟩)] w0 fun e w' => ∃ v, e = .returned v ∧ NewRow w0 w' 3 1 encI 0 (allI W.st W.hs) v ∧ Below w0.heap.size w0 w' := by
  have S := Sat.reads h
  refine enter1 Try.func16 rfl Try.ntmps16 rfl Try.results16 ?_
  repeat' (first | refine assign_s_l S rfl rfl ?_ | refine move_p_l S rfl rfl ?_ | refine move_e_l S rfl rfl ?_ | refine nilL ?_ | refine run_seq ?_ | refine run_skip ?_ | refine run_region ?_ | refine eqlP_l S rfl rfl rfl ?_ | refine eqlE_l S rfl rfl (by omega) rfl ?_ | refine nilCheck_l S rfl rfl ?_ | refine nilCheckE_l S rfl (by first | omega | decide | (simp; done) | (simp; omega)) rfl ?_ | refine fieldAddr_l S rfl rfl rfl ?_ | refine fieldAddrE_l S rfl (by first | omega | decide | (simp; done) | (simp; omega)) rfl rfl ?_ | refine load_p_l S rfl rfl rfl rfl ?_ | refine loadE_p_l S rfl (by first | omega | decide | (simp; done) | (simp; omega)) rfl rfl rfl ?_ | refine move_o_l S rfl rfl ?_ | refine load_o_l S rfl rfl rfl rfl ?_ | refine loadE_o_l S rfl (by first | omega | decide | (simp; done) | (simp; omega)) rfl rfl rfl ?_ | refine run_block ?_ | refine run_ret ?_ | refine run_exit ?_ | refine run_cond_true rfl ?_ | refine run_cond_false rfl ?_ | refine thenQ_n ?_ | refine thenQ_r ?_ | refine thenQ_e ?_ | refine blockQ_n ?_ | refine blockQ_r ?_ | refine blockQ_s rfl ?_ | refine blockQ_o rfl ?_ | refine ret1_i rfl ?_ | refine ret1_b rfl ?_ | refine ret1_p rfl ?_ | refine ret1_s rfl ?_ | refine ret1_e rfl ?_ | refine ret1_a rfl ?_ | refine ret1_o rfl ?_ | refine ret1n_i rfl ?_ | refine ret1n_b rfl ?_ | refine ret1n_p rfl ?_ | refine ret1n_s rfl ?_ | refine ret1n_o rfl ?_)
  refine callL (all_e h.1.2) rfl rfl ?_
  rintro e w' ⟨_, rfl, ⟨ra, rc, rfl, hh, hf⟩, hb⟩
  replace S := Sat.freshRow S hb hh hf
  refine ⟨_, rfl, ?_⟩
  repeat' (first | refine assign_s_l S rfl rfl ?_ | refine move_p_l S rfl rfl ?_ | refine move_e_l S rfl rfl ?_ | refine nilL ?_ | refine run_seq ?_ | refine run_skip ?_ | refine run_region ?_ | refine eqlP_l S rfl rfl rfl ?_ | refine eqlE_l S rfl rfl (by omega) rfl ?_ | refine nilCheck_l S rfl rfl ?_ | refine nilCheckE_l S rfl (by first | omega | decide | (simp; done) | (simp; omega)) rfl ?_ | refine fieldAddr_l S rfl rfl rfl ?_ | refine fieldAddrE_l S rfl (by first | omega | decide | (simp; done) | (simp; omega)) rfl rfl ?_ | refine load_p_l S rfl rfl rfl rfl ?_ | refine loadE_p_l S rfl (by first | omega | decide | (simp; done) | (simp; omega)) rfl rfl rfl ?_ | refine move_o_l S rfl rfl ?_ | refine load_o_l S rfl rfl rfl rfl ?_ | refine loadE_o_l S rfl (by first | omega | decide | (simp; done) | (simp; omega)) rfl rfl rfl ?_ | refine run_block ?_ | refine run_ret ?_ | refine run_exit ?_ | refine run_cond_true rfl ?_ | refine run_cond_false rfl ?_ | refine thenQ_n ?_ | refine thenQ_r ?_ | refine thenQ_e ?_ | refine blockQ_n ?_ | refine blockQ_r ?_ | refine blockQ_s rfl ?_ | refine blockQ_o rfl ?_ | refine ret1_i rfl ?_ | refine ret1_b rfl ?_ | refine ret1_p rfl ?_ | refine ret1_s rfl ?_ | refine ret1_e rfl ?_ | refine ret1_a rfl ?_ | refine ret1_o rfl ?_ | refine ret1n_i rfl ?_ | refine ret1n_b rfl ?_ | refine ret1n_p rfl ?_ | refine ret1n_s rfl ?_ | refine ret1n_o rfl ?_)
  exact ⟨_, rfl, S.newRow, S.chg.below⟩
theorem wmay_at {bh : Nat} {ga va : Option Addr} {gc vc : Nat} {H : HeapS} (hh : (heapR bh ga va gc vc H).holds w0) (hn : H.locks.length ≤ 1000) : Calls Try.prog 15 #[.pointer (some ⟨b, 0, none⟩), .pointer (some ⟨bh, 0, none⟩)] w0 fun e w' => e = .returned (.bool (mayB W H)) ∧ Below w0.heap.size w0 w' := by
  have S := Sat.reads2 h hh
  unfold mayB
  refine enter1 Try.func15 rfl Try.ntmps15 rfl Try.results15 ?_
  repeat' (first | refine assign_b_l S rfl rfl ?_ | refine move_p_l S rfl rfl ?_ | refine move_e_l S rfl rfl ?_ | refine nilL ?_ | refine run_seq ?_ | refine run_skip ?_ | refine run_region ?_ | refine onL rfl rfl ?_ | refine offL rfl rfl rfl rfl ?_ | refine offL0 rfl rfl rfl ?_ | refine offLU rfl rfl rfl ?_ | refine eqlP_l S rfl rfl rfl ?_ | refine eqlE_l S rfl rfl (by omega) rfl ?_ | refine move_b_l S rfl rfl ?_ | refine pick_tb_l S rfl rfl rfl ?_ | refine pick_fb_l S rfl rfl rfl ?_ | refine move_o_l S rfl rfl ?_ | refine run_block ?_ | refine run_ret ?_ | refine run_exit ?_ | refine run_cond_true rfl ?_ | refine run_cond_false rfl ?_ | refine thenQ_n ?_ | refine thenQ_r ?_ | refine thenQ_e ?_ | refine blockQ_n ?_ | refine blockQ_r ?_ | refine blockQ_s rfl ?_ | refine blockQ_o rfl ?_ | refine ret1_i rfl ?_ | refine ret1_b rfl ?_ | refine ret1_p rfl ?_ | refine ret1_s rfl ?_ | refine ret1_e rfl ?_ | refine ret1_a rfl ?_ | refine ret1_o rfl ?_ | refine ret1n_i rfl ?_ | refine ret1n_b rfl ?_ | refine ret1n_p rfl ?_ | refine ret1n_s rfl ?_ | refine ret1n_o rfl ?_)
  by_cases h1 : W.at_ = 1
  · rw [decide_eq_true h1, Bool.true_or]
    refine run_any S (L' := [roR (wtR b bs W)]) (f := 24) mixed rfl ?_
    clear S
    intro w S1
    have S : Sat _ _ w [roR (wtR b bs W)] := S1.sub
    all_goals (refine any_pure (i := 0) rfl (by kernel_rfl) S ?_; (first | refine move_p_x rfl rfl ?_ | refine move_e_x rfl rfl ?_ | refine move_o_x rfl rfl ?_))
    all_goals (refine any_pure (i := 1) rfl (by kernel_rfl) S ?_; (first | refine nilCheck_x rfl rfl ?_ | refine nilCheckE_x rfl (by first | omega | decide | (simp; done) | (simp; omega)) rfl ?_))
    all_goals (refine any_pure (i := 2) rfl (by kernel_rfl) S ?_; (first | refine fieldAddr_x rfl rfl rfl ?_ | refine fieldAddrE_x rfl (by first | omega | decide | (simp; done) | (simp; omega)) rfl rfl ?_))
    all_goals (refine any_pure (i := 3) rfl (by kernel_rfl) S ?_; (first | refine load_i_x rfl rfl rfl rfl ?_ | refine load_o_x rfl rfl rfl rfl ?_ | refine loadE_i_x rfl (by first | omega | decide | (simp; done) | (simp; omega)) rfl rfl rfl ?_ | refine loadE_o_x rfl (by first | omega | decide | (simp; done) | (simp; omega)) rfl rfl rfl ?_))
    all_goals (refine any_pure (i := 4) rfl (by kernel_rfl) S ?_; (refine eql_x rfl rfl rfl ?_ ?_ <;> intro hcmp <;> try (exfalso; first | omega | exact hcmp (by decide) | exact absurd hcmp (by decide))))
    all_goals (refine any_pure (i := 5) rfl (by kernel_rfl) S ?_; refine move_b_x rfl rfl ?_)
    all_goals (refine any_pure (i := 6) rfl (by kernel_rfl) S ?_; first | (refine onX rfl rfl ?_; (first | refine move_p_x rfl rfl ?_ | refine move_e_x rfl rfl ?_ | refine move_o_x rfl rfl ?_)) | first | refine offX rfl rfl rfl rfl ?_ | refine offXU rfl rfl rfl ?_)
    all_goals (refine any_pure (i := 7) rfl (by kernel_rfl) S ?_; first | (refine onX rfl rfl ?_; (first | refine nilCheck_x rfl rfl ?_ | refine nilCheckE_x rfl (by first | omega | decide | (simp; done) | (simp; omega)) rfl ?_)) | first | refine offX rfl rfl rfl rfl ?_ | refine offXU rfl rfl rfl ?_)
    all_goals (refine any_pure (i := 8) rfl (by kernel_rfl) S ?_; first | (refine onX rfl rfl ?_; (first | refine fieldAddr_x rfl rfl rfl ?_ | refine fieldAddrE_x rfl (by first | omega | decide | (simp; done) | (simp; omega)) rfl rfl ?_)) | first | refine offX rfl rfl rfl rfl ?_ | refine offXU rfl rfl rfl ?_)
    all_goals (refine any_pure (i := 9) rfl (by kernel_rfl) S ?_; first | (refine onX rfl rfl ?_; (first | refine load_i_x rfl rfl rfl rfl ?_ | refine load_o_x rfl rfl rfl rfl ?_ | refine loadE_i_x rfl (by first | omega | decide | (simp; done) | (simp; omega)) rfl rfl rfl ?_ | refine loadE_o_x rfl (by first | omega | decide | (simp; done) | (simp; omega)) rfl rfl rfl ?_)) | first | refine offX rfl rfl rfl rfl ?_ | refine offXU rfl rfl rfl ?_)
    all_goals (refine any_pure (i := 10) rfl (by kernel_rfl) S ?_; first | (refine onX rfl rfl ?_; (refine eql_x rfl rfl rfl ?_ ?_ <;> intro hcmp <;> try (exfalso; first | omega | exact hcmp (by decide) | exact absurd hcmp (by decide)))) | first | refine offX rfl rfl rfl rfl ?_ | refine offXU rfl rfl rfl ?_)
    all_goals (refine any_pure (i := 11) rfl (by kernel_rfl) S ?_; first | (refine onX rfl rfl ?_; refine move_b_x rfl rfl ?_) | first | refine offX rfl rfl rfl rfl ?_ | refine offXU rfl rfl rfl ?_)
    all_goals (refine any_pure (i := 12) rfl (by kernel_rfl) S ?_; first | (refine onX rfl rfl ?_; (first | refine move_p_x rfl rfl ?_ | refine move_e_x rfl rfl ?_ | refine move_o_x rfl rfl ?_)) | first | refine offX rfl rfl rfl rfl ?_ | refine offXU rfl rfl rfl ?_)
    all_goals (refine any_pure (i := 13) rfl (by kernel_rfl) S ?_; first | (refine onX rfl rfl ?_; (first | refine nilCheck_x rfl rfl ?_ | refine nilCheckE_x rfl (by first | omega | decide | (simp; done) | (simp; omega)) rfl ?_)) | first | refine offX rfl rfl rfl rfl ?_ | refine offXU rfl rfl rfl ?_)
    all_goals (refine any_pure (i := 14) rfl (by kernel_rfl) S ?_; first | (refine onX rfl rfl ?_; (first | refine fieldAddr_x rfl rfl rfl ?_ | refine fieldAddrE_x rfl (by first | omega | decide | (simp; done) | (simp; omega)) rfl rfl ?_)) | first | refine offX rfl rfl rfl rfl ?_ | refine offXU rfl rfl rfl ?_)
    all_goals (refine any_pure (i := 15) rfl (by kernel_rfl) S ?_; first | (refine onX rfl rfl ?_; (first | refine load_p_x rfl rfl rfl rfl ?_ | refine load_o_x rfl rfl rfl rfl ?_ | refine loadE_p_x rfl (by first | omega | decide | (simp; done) | (simp; omega)) rfl rfl rfl ?_ | refine loadE_o_x rfl (by first | omega | decide | (simp; done) | (simp; omega)) rfl rfl rfl ?_)) | first | refine offX rfl rfl rfl rfl ?_ | refine offXU rfl rfl rfl ?_)
    all_goals (refine any_pure (i := 16) rfl (by kernel_rfl) S ?_; first | (refine onX rfl rfl ?_; (first | refine move_p_x rfl rfl ?_ | refine move_e_x rfl rfl ?_ | refine move_o_x rfl rfl ?_)) | first | refine offX rfl rfl rfl rfl ?_ | refine offXU rfl rfl rfl ?_)
    all_goals (refine any_pure (i := 18) rfl (by kernel_rfl) S ?_; first | (refine onX rfl rfl ?_; (first | refine move_p_x rfl rfl ?_ | refine move_e_x rfl rfl ?_ | refine move_o_x rfl rfl ?_)) | first | refine offX rfl rfl rfl rfl ?_ | refine offXU rfl rfl rfl ?_)
    all_goals refine any_step (i := 17) rfl (by kernel_rfl) ?_
    all_goals first | refine onL rfl rfl ?_ | (first | (refine offL rfl rfl rfl rfl ?_; refine nilL ?_) | (refine offLU rfl rfl rfl ?_; refine nilL ?_) | (refine offL0 rfl rfl rfl ?_; refine nilL ?_); refine ⟨S.sub, ?_⟩)
    all_goals try refine nilL ?_
    all_goals refine ⟨S.sub, ?_⟩
    all_goals (have S1 := S; replace S : Sat _ _ _ [roR (wtR b bs W)] := S1.sub)
    all_goals refine any_step (i := 19) rfl (by kernel_rfl) ?_
    all_goals first | refine onL rfl rfl ?_ | (first | (refine offL rfl rfl rfl rfl ?_; refine nilL ?_) | (refine offLU rfl rfl rfl ?_; refine nilL ?_) | (refine offL0 rfl rfl rfl ?_; refine nilL ?_); refine ⟨S.sub, ?_⟩)
    all_goals try refine nilL ?_
    all_goals refine ⟨S.sub, ?_⟩
    all_goals (have S1 := S; replace S : Sat _ _ _ [roR (wtR b bs W)] := S1.sub)
    all_goals refine any_step (i := 20) rfl (by kernel_rfl) ?_
    all_goals first | refine onL rfl rfl ?_ | (first | (refine offL rfl rfl rfl rfl ?_; refine nilL ?_) | (refine offLU rfl rfl rfl ?_; refine nilL ?_) | (refine offL0 rfl rfl rfl ?_; refine nilL ?_); refine ⟨S.sub, ?_⟩)
    all_goals try refine nilL ?_
    all_goals refine ⟨S.sub, ?_⟩
    all_goals (have S1 := S; replace S : Sat _ _ _ [roR (wtR b bs W)] := S1.sub)
    all_goals (refine any_pure (i := 21) rfl (by kernel_rfl) S ?_; first | (refine onX rfl rfl ?_; (first | refine pick_tb_x rfl rfl rfl ?_ | refine pick_fb_x rfl rfl rfl ?_)) | first | refine offX rfl rfl rfl rfl ?_ | refine offXU rfl rfl rfl ?_)
    all_goals (refine any_pure (i := 22) rfl (by kernel_rfl) S ?_; (first | refine pick_tb_x rfl rfl rfl ?_ | refine pick_fb_x rfl rfl rfl ?_))
    all_goals (refine any_pure (i := 23) rfl (by kernel_rfl) S ?_; refine assign_b_x rfl rfl ?_)
    all_goals refine any_end (by kernel_rfl) ?_
    all_goals replace S := S1
    all_goals repeat' (first | refine assign_b_l S rfl rfl ?_ | refine move_p_l S rfl rfl ?_ | refine move_e_l S rfl rfl ?_ | refine nilL ?_ | refine run_seq ?_ | refine run_skip ?_ | refine run_region ?_ | refine onL rfl rfl ?_ | refine offL rfl rfl rfl rfl ?_ | refine offL0 rfl rfl rfl ?_ | refine offLU rfl rfl rfl ?_ | refine eqlP_l S rfl rfl rfl ?_ | refine eqlE_l S rfl rfl (by omega) rfl ?_ | refine move_b_l S rfl rfl ?_ | refine pick_tb_l S rfl rfl rfl ?_ | refine pick_fb_l S rfl rfl rfl ?_ | refine move_o_l S rfl rfl ?_ | refine run_block ?_ | refine run_ret ?_ | refine run_exit ?_ | refine run_cond_true rfl ?_ | refine run_cond_false rfl ?_ | refine thenQ_n ?_ | refine thenQ_r ?_ | refine thenQ_e ?_ | refine blockQ_n ?_ | refine blockQ_r ?_ | refine blockQ_s rfl ?_ | refine blockQ_o rfl ?_ | refine ret1_i rfl ?_ | refine ret1_b rfl ?_ | refine ret1_p rfl ?_ | refine ret1_s rfl ?_ | refine ret1_e rfl ?_ | refine ret1_a rfl ?_ | refine ret1_o rfl ?_ | refine ret1n_i rfl ?_ | refine ret1n_b rfl ?_ | refine ret1n_p rfl ?_ | refine ret1n_s rfl ?_ | refine ret1n_o rfl ?_)
    all_goals exact ⟨rfl, S.chg.below⟩
  rw [decide_eq_false h1, Bool.false_or]
  by_cases h2 : W.at_ = 2
  · rw [decide_eq_true h2, Bool.true_and]
    refine run_any S (L' := [roR (wtR b bs W)]) (f := 24) mixed rfl ?_
    clear S
    intro w S1
    have S : Sat _ _ w [roR (wtR b bs W)] := S1.sub
    all_goals (refine any_pure (i := 0) rfl (by kernel_rfl) S ?_; (first | refine move_p_x rfl rfl ?_ | refine move_e_x rfl rfl ?_ | refine move_o_x rfl rfl ?_))
    all_goals (refine any_pure (i := 1) rfl (by kernel_rfl) S ?_; (first | refine nilCheck_x rfl rfl ?_ | refine nilCheckE_x rfl (by first | omega | decide | (simp; done) | (simp; omega)) rfl ?_))
    all_goals (refine any_pure (i := 2) rfl (by kernel_rfl) S ?_; (first | refine fieldAddr_x rfl rfl rfl ?_ | refine fieldAddrE_x rfl (by first | omega | decide | (simp; done) | (simp; omega)) rfl rfl ?_))
    all_goals (refine any_pure (i := 3) rfl (by kernel_rfl) S ?_; (first | refine load_i_x rfl rfl rfl rfl ?_ | refine load_o_x rfl rfl rfl rfl ?_ | refine loadE_i_x rfl (by first | omega | decide | (simp; done) | (simp; omega)) rfl rfl rfl ?_ | refine loadE_o_x rfl (by first | omega | decide | (simp; done) | (simp; omega)) rfl rfl rfl ?_))
    all_goals (refine any_pure (i := 4) rfl (by kernel_rfl) S ?_; (refine eql_x rfl rfl rfl ?_ ?_ <;> intro hcmp <;> try (exfalso; first | omega | exact hcmp (by decide) | exact absurd hcmp (by decide))))
    all_goals (refine any_pure (i := 5) rfl (by kernel_rfl) S ?_; refine move_b_x rfl rfl ?_)
    all_goals (refine any_pure (i := 6) rfl (by kernel_rfl) S ?_; first | (refine onX rfl rfl ?_; (first | refine move_p_x rfl rfl ?_ | refine move_e_x rfl rfl ?_ | refine move_o_x rfl rfl ?_)) | first | refine offX rfl rfl rfl rfl ?_ | refine offXU rfl rfl rfl ?_)
    all_goals (refine any_pure (i := 7) rfl (by kernel_rfl) S ?_; first | (refine onX rfl rfl ?_; (first | refine nilCheck_x rfl rfl ?_ | refine nilCheckE_x rfl (by first | omega | decide | (simp; done) | (simp; omega)) rfl ?_)) | first | refine offX rfl rfl rfl rfl ?_ | refine offXU rfl rfl rfl ?_)
    all_goals (refine any_pure (i := 8) rfl (by kernel_rfl) S ?_; first | (refine onX rfl rfl ?_; (first | refine fieldAddr_x rfl rfl rfl ?_ | refine fieldAddrE_x rfl (by first | omega | decide | (simp; done) | (simp; omega)) rfl rfl ?_)) | first | refine offX rfl rfl rfl rfl ?_ | refine offXU rfl rfl rfl ?_)
    all_goals (refine any_pure (i := 9) rfl (by kernel_rfl) S ?_; first | (refine onX rfl rfl ?_; (first | refine load_i_x rfl rfl rfl rfl ?_ | refine load_o_x rfl rfl rfl rfl ?_ | refine loadE_i_x rfl (by first | omega | decide | (simp; done) | (simp; omega)) rfl rfl rfl ?_ | refine loadE_o_x rfl (by first | omega | decide | (simp; done) | (simp; omega)) rfl rfl rfl ?_)) | first | refine offX rfl rfl rfl rfl ?_ | refine offXU rfl rfl rfl ?_)
    all_goals (refine any_pure (i := 10) rfl (by kernel_rfl) S ?_; first | (refine onX rfl rfl ?_; (refine eql_x rfl rfl rfl ?_ ?_ <;> intro hcmp <;> try (exfalso; first | omega | exact hcmp (by decide) | exact absurd hcmp (by decide)))) | first | refine offX rfl rfl rfl rfl ?_ | refine offXU rfl rfl rfl ?_)
    all_goals (refine any_pure (i := 11) rfl (by kernel_rfl) S ?_; first | (refine onX rfl rfl ?_; refine move_b_x rfl rfl ?_) | first | refine offX rfl rfl rfl rfl ?_ | refine offXU rfl rfl rfl ?_)
    all_goals (refine any_pure (i := 12) rfl (by kernel_rfl) S ?_; first | (refine onX rfl rfl ?_; (first | refine move_p_x rfl rfl ?_ | refine move_e_x rfl rfl ?_ | refine move_o_x rfl rfl ?_)) | first | refine offX rfl rfl rfl rfl ?_ | refine offXU rfl rfl rfl ?_)
    all_goals (refine any_pure (i := 13) rfl (by kernel_rfl) S ?_; first | (refine onX rfl rfl ?_; (first | refine nilCheck_x rfl rfl ?_ | refine nilCheckE_x rfl (by first | omega | decide | (simp; done) | (simp; omega)) rfl ?_)) | first | refine offX rfl rfl rfl rfl ?_ | refine offXU rfl rfl rfl ?_)
    all_goals (refine any_pure (i := 14) rfl (by kernel_rfl) S ?_; first | (refine onX rfl rfl ?_; (first | refine fieldAddr_x rfl rfl rfl ?_ | refine fieldAddrE_x rfl (by first | omega | decide | (simp; done) | (simp; omega)) rfl rfl ?_)) | first | refine offX rfl rfl rfl rfl ?_ | refine offXU rfl rfl rfl ?_)
    all_goals (refine any_pure (i := 15) rfl (by kernel_rfl) S ?_; first | (refine onX rfl rfl ?_; (first | refine load_p_x rfl rfl rfl rfl ?_ | refine load_o_x rfl rfl rfl rfl ?_ | refine loadE_p_x rfl (by first | omega | decide | (simp; done) | (simp; omega)) rfl rfl rfl ?_ | refine loadE_o_x rfl (by first | omega | decide | (simp; done) | (simp; omega)) rfl rfl rfl ?_)) | first | refine offX rfl rfl rfl rfl ?_ | refine offXU rfl rfl rfl ?_)
    all_goals (refine any_pure (i := 16) rfl (by kernel_rfl) S ?_; first | (refine onX rfl rfl ?_; (first | refine move_p_x rfl rfl ?_ | refine move_e_x rfl rfl ?_ | refine move_o_x rfl rfl ?_)) | first | refine offX rfl rfl rfl rfl ?_ | refine offXU rfl rfl rfl ?_)
    all_goals (refine any_pure (i := 18) rfl (by kernel_rfl) S ?_; first | (refine onX rfl rfl ?_; (first | refine move_p_x rfl rfl ?_ | refine move_e_x rfl rfl ?_ | refine move_o_x rfl rfl ?_)) | first | refine offX rfl rfl rfl rfl ?_ | refine offXU rfl rfl rfl ?_)
    all_goals refine any_step (i := 17) rfl (by kernel_rfl) ?_
    all_goals first | refine onL rfl rfl ?_ | (first | (refine offL rfl rfl rfl rfl ?_; refine nilL ?_) | (refine offLU rfl rfl rfl ?_; refine nilL ?_) | (refine offL0 rfl rfl rfl ?_; refine nilL ?_); refine ⟨S.sub, ?_⟩)
    all_goals replace S := S1
    refine callL (owners_at (S.all (roR (heapR bh ga va gc vc H)) (by simp)) hn) rfl rfl ?_
    rintro e w' ⟨_, rfl, ⟨oa, oc, rfl, hh1, hf⟩, hb⟩
    replace S := Sat.freshRow S hb hh1 hf
    clear hb hh1 hf
    refine ⟨_, rfl, ?_⟩
    all_goals try refine nilL ?_
    all_goals refine ⟨S.sub, ?_⟩
    all_goals (have S1 := S; replace S : Sat _ _ _ [roR (wtR b bs W)] := S1.sub)
    all_goals refine any_step (i := 19) rfl (by kernel_rfl) ?_
    all_goals first | refine onL rfl rfl ?_ | (first | (refine offL rfl rfl rfl rfl ?_; refine nilL ?_) | (refine offLU rfl rfl rfl ?_; refine nilL ?_) | (refine offL0 rfl rfl rfl ?_; refine nilL ?_); refine ⟨S.sub, ?_⟩)
    all_goals replace S := S1
    refine callL (versions_at (S.all (roR (heapR bh ga va gc vc H)) (by simp)) hn) rfl rfl ?_
    rintro e w' ⟨_, rfl, ⟨va1, vc1, rfl, hh1, hf⟩, hb⟩
    replace S := Sat.freshRow S hb hh1 hf
    clear hb hh1 hf
    refine ⟨_, rfl, ?_⟩
    all_goals try refine nilL ?_
    all_goals refine ⟨S.sub, ?_⟩
    all_goals (have S1 := S; replace S : Sat _ _ _ [roR (wtR b bs W)] := S1.sub)
    all_goals refine any_step (i := 20) rfl (by kernel_rfl) ?_
    all_goals first | refine onL rfl rfl ?_ | (first | (refine offL rfl rfl rfl rfl ?_; refine nilL ?_) | (refine offLU rfl rfl rfl ?_; refine nilL ?_) | (refine offL0 rfl rfl rfl ?_; refine nilL ?_); refine ⟨S.sub, ?_⟩)
    all_goals replace S := S1
    have hset : (setR bs W.rv W.st W.hs).holds _ := (show (wtR b bs W).holds _ from S.all (roR (wtR b bs W)) (by simp)).1.2
    (refine callL (wakes_e hset oa va1 oc vc1 (H.locks.map (fun p : Int × Int => p.1)) (H.locks.map (fun p : Int × Int => p.2)) (RowOk.sl (S.all (rowL oa oc 3 1 encI 0 (H.locks.map (fun p : Int × Int => p.1))) (by simp))) (RowOk.sl (S.all (rowL va1 vc1 3 1 encI 0 (H.locks.map (fun p : Int × Int => p.2))) (by simp)))) rfl rfl ?_; rintro e w ⟨rfl, hb⟩; replace S := S.below hb; clear hb; refine ⟨_, rfl, ?_⟩)
    all_goals try refine nilL ?_
    all_goals refine ⟨S.sub, ?_⟩
    all_goals (have S1 := S; replace S : Sat _ _ _ [roR (wtR b bs W)] := S1.sub)
    all_goals (refine any_pure (i := 21) rfl (by kernel_rfl) S ?_; first | (refine onX rfl rfl ?_; (first | refine pick_tb_x rfl rfl rfl ?_ | refine pick_fb_x rfl rfl rfl ?_)) | first | refine offX rfl rfl rfl rfl ?_ | refine offXU rfl rfl rfl ?_)
    all_goals (refine any_pure (i := 22) rfl (by kernel_rfl) S ?_; (first | refine pick_tb_x rfl rfl rfl ?_ | refine pick_fb_x rfl rfl rfl ?_))
    all_goals (refine any_pure (i := 23) rfl (by kernel_rfl) S ?_; refine assign_b_x rfl rfl ?_)
    all_goals refine any_end (by kernel_rfl) ?_
    all_goals replace S := S1
    all_goals repeat' (first | refine assign_b_l S rfl rfl ?_ | refine move_p_l S rfl rfl ?_ | refine move_e_l S rfl rfl ?_ | refine nilL ?_ | refine run_seq ?_ | refine run_skip ?_ | refine run_region ?_ | refine onL rfl rfl ?_ | refine offL rfl rfl rfl rfl ?_ | refine offL0 rfl rfl rfl ?_ | refine offLU rfl rfl rfl ?_ | refine eqlP_l S rfl rfl rfl ?_ | refine eqlE_l S rfl rfl (by omega) rfl ?_ | refine move_b_l S rfl rfl ?_ | refine pick_tb_l S rfl rfl rfl ?_ | refine pick_fb_l S rfl rfl rfl ?_ | refine move_o_l S rfl rfl ?_ | refine run_block ?_ | refine run_ret ?_ | refine run_exit ?_ | refine run_cond_true rfl ?_ | refine run_cond_false rfl ?_ | refine thenQ_n ?_ | refine thenQ_r ?_ | refine thenQ_e ?_ | refine blockQ_n ?_ | refine blockQ_r ?_ | refine blockQ_s rfl ?_ | refine blockQ_o rfl ?_ | refine ret1_i rfl ?_ | refine ret1_b rfl ?_ | refine ret1_p rfl ?_ | refine ret1_s rfl ?_ | refine ret1_e rfl ?_ | refine ret1_a rfl ?_ | refine ret1_o rfl ?_ | refine ret1n_i rfl ?_ | refine ret1n_b rfl ?_ | refine ret1n_p rfl ?_ | refine ret1n_s rfl ?_ | refine ret1n_o rfl ?_)
    all_goals exact ⟨rfl, S.chg.below⟩
  · rw [decide_eq_false h2, Bool.false_and]
    refine run_any S (L' := [roR (wtR b bs W)]) (f := 24) mixed rfl ?_
    clear S
    intro w S1
    have S : Sat _ _ w [roR (wtR b bs W)] := S1.sub
    all_goals (refine any_pure (i := 0) rfl (by kernel_rfl) S ?_; (first | refine move_p_x rfl rfl ?_ | refine move_e_x rfl rfl ?_ | refine move_o_x rfl rfl ?_))
    all_goals (refine any_pure (i := 1) rfl (by kernel_rfl) S ?_; (first | refine nilCheck_x rfl rfl ?_ | refine nilCheckE_x rfl (by first | omega | decide | (simp; done) | (simp; omega)) rfl ?_))
    all_goals (refine any_pure (i := 2) rfl (by kernel_rfl) S ?_; (first | refine fieldAddr_x rfl rfl rfl ?_ | refine fieldAddrE_x rfl (by first | omega | decide | (simp; done) | (simp; omega)) rfl rfl ?_))
    all_goals (refine any_pure (i := 3) rfl (by kernel_rfl) S ?_; (first | refine load_i_x rfl rfl rfl rfl ?_ | refine load_o_x rfl rfl rfl rfl ?_ | refine loadE_i_x rfl (by first | omega | decide | (simp; done) | (simp; omega)) rfl rfl rfl ?_ | refine loadE_o_x rfl (by first | omega | decide | (simp; done) | (simp; omega)) rfl rfl rfl ?_))
    all_goals (refine any_pure (i := 4) rfl (by kernel_rfl) S ?_; (refine eql_x rfl rfl rfl ?_ ?_ <;> intro hcmp <;> try (exfalso; first | omega | exact hcmp (by decide) | exact absurd hcmp (by decide))))
    all_goals (refine any_pure (i := 5) rfl (by kernel_rfl) S ?_; refine move_b_x rfl rfl ?_)
    all_goals (refine any_pure (i := 6) rfl (by kernel_rfl) S ?_; first | (refine onX rfl rfl ?_; (first | refine move_p_x rfl rfl ?_ | refine move_e_x rfl rfl ?_ | refine move_o_x rfl rfl ?_)) | first | refine offX rfl rfl rfl rfl ?_ | refine offXU rfl rfl rfl ?_)
    all_goals (refine any_pure (i := 7) rfl (by kernel_rfl) S ?_; first | (refine onX rfl rfl ?_; (first | refine nilCheck_x rfl rfl ?_ | refine nilCheckE_x rfl (by first | omega | decide | (simp; done) | (simp; omega)) rfl ?_)) | first | refine offX rfl rfl rfl rfl ?_ | refine offXU rfl rfl rfl ?_)
    all_goals (refine any_pure (i := 8) rfl (by kernel_rfl) S ?_; first | (refine onX rfl rfl ?_; (first | refine fieldAddr_x rfl rfl rfl ?_ | refine fieldAddrE_x rfl (by first | omega | decide | (simp; done) | (simp; omega)) rfl rfl ?_)) | first | refine offX rfl rfl rfl rfl ?_ | refine offXU rfl rfl rfl ?_)
    all_goals (refine any_pure (i := 9) rfl (by kernel_rfl) S ?_; first | (refine onX rfl rfl ?_; (first | refine load_i_x rfl rfl rfl rfl ?_ | refine load_o_x rfl rfl rfl rfl ?_ | refine loadE_i_x rfl (by first | omega | decide | (simp; done) | (simp; omega)) rfl rfl rfl ?_ | refine loadE_o_x rfl (by first | omega | decide | (simp; done) | (simp; omega)) rfl rfl rfl ?_)) | first | refine offX rfl rfl rfl rfl ?_ | refine offXU rfl rfl rfl ?_)
    all_goals (refine any_pure (i := 10) rfl (by kernel_rfl) S ?_; first | (refine onX rfl rfl ?_; (refine eql_x rfl rfl rfl ?_ ?_ <;> intro hcmp <;> try (exfalso; first | omega | exact hcmp (by decide) | exact absurd hcmp (by decide)))) | first | refine offX rfl rfl rfl rfl ?_ | refine offXU rfl rfl rfl ?_)
    all_goals (refine any_pure (i := 11) rfl (by kernel_rfl) S ?_; first | (refine onX rfl rfl ?_; refine move_b_x rfl rfl ?_) | first | refine offX rfl rfl rfl rfl ?_ | refine offXU rfl rfl rfl ?_)
    all_goals (refine any_pure (i := 12) rfl (by kernel_rfl) S ?_; first | (refine onX rfl rfl ?_; (first | refine move_p_x rfl rfl ?_ | refine move_e_x rfl rfl ?_ | refine move_o_x rfl rfl ?_)) | first | refine offX rfl rfl rfl rfl ?_ | refine offXU rfl rfl rfl ?_)
    all_goals (refine any_pure (i := 13) rfl (by kernel_rfl) S ?_; first | (refine onX rfl rfl ?_; (first | refine nilCheck_x rfl rfl ?_ | refine nilCheckE_x rfl (by first | omega | decide | (simp; done) | (simp; omega)) rfl ?_)) | first | refine offX rfl rfl rfl rfl ?_ | refine offXU rfl rfl rfl ?_)
    all_goals (refine any_pure (i := 14) rfl (by kernel_rfl) S ?_; first | (refine onX rfl rfl ?_; (first | refine fieldAddr_x rfl rfl rfl ?_ | refine fieldAddrE_x rfl (by first | omega | decide | (simp; done) | (simp; omega)) rfl rfl ?_)) | first | refine offX rfl rfl rfl rfl ?_ | refine offXU rfl rfl rfl ?_)
    all_goals (refine any_pure (i := 15) rfl (by kernel_rfl) S ?_; first | (refine onX rfl rfl ?_; (first | refine load_p_x rfl rfl rfl rfl ?_ | refine load_o_x rfl rfl rfl rfl ?_ | refine loadE_p_x rfl (by first | omega | decide | (simp; done) | (simp; omega)) rfl rfl rfl ?_ | refine loadE_o_x rfl (by first | omega | decide | (simp; done) | (simp; omega)) rfl rfl rfl ?_)) | first | refine offX rfl rfl rfl rfl ?_ | refine offXU rfl rfl rfl ?_)
    all_goals (refine any_pure (i := 16) rfl (by kernel_rfl) S ?_; first | (refine onX rfl rfl ?_; (first | refine move_p_x rfl rfl ?_ | refine move_e_x rfl rfl ?_ | refine move_o_x rfl rfl ?_)) | first | refine offX rfl rfl rfl rfl ?_ | refine offXU rfl rfl rfl ?_)
    all_goals (refine any_pure (i := 18) rfl (by kernel_rfl) S ?_; first | (refine onX rfl rfl ?_; (first | refine move_p_x rfl rfl ?_ | refine move_e_x rfl rfl ?_ | refine move_o_x rfl rfl ?_)) | first | refine offX rfl rfl rfl rfl ?_ | refine offXU rfl rfl rfl ?_)
    all_goals refine any_step (i := 17) rfl (by kernel_rfl) ?_
    all_goals first | refine onL rfl rfl ?_ | (first | (refine offL rfl rfl rfl rfl ?_; refine nilL ?_) | (refine offLU rfl rfl rfl ?_; refine nilL ?_) | (refine offL0 rfl rfl rfl ?_; refine nilL ?_); refine ⟨S.sub, ?_⟩)
    all_goals try refine nilL ?_
    all_goals refine ⟨S.sub, ?_⟩
    all_goals (have S1 := S; replace S : Sat _ _ _ [roR (wtR b bs W)] := S1.sub)
    all_goals refine any_step (i := 19) rfl (by kernel_rfl) ?_
    all_goals first | refine onL rfl rfl ?_ | (first | (refine offL rfl rfl rfl rfl ?_; refine nilL ?_) | (refine offLU rfl rfl rfl ?_; refine nilL ?_) | (refine offL0 rfl rfl rfl ?_; refine nilL ?_); refine ⟨S.sub, ?_⟩)
    all_goals try refine nilL ?_
    all_goals refine ⟨S.sub, ?_⟩
    all_goals (have S1 := S; replace S : Sat _ _ _ [roR (wtR b bs W)] := S1.sub)
    all_goals refine any_step (i := 20) rfl (by kernel_rfl) ?_
    all_goals first | refine onL rfl rfl ?_ | (first | (refine offL rfl rfl rfl rfl ?_; refine nilL ?_) | (refine offLU rfl rfl rfl ?_; refine nilL ?_) | (refine offL0 rfl rfl rfl ?_; refine nilL ?_); refine ⟨S.sub, ?_⟩)
    all_goals try refine nilL ?_
    all_goals refine ⟨S.sub, ?_⟩
    all_goals (have S1 := S; replace S : Sat _ _ _ [roR (wtR b bs W)] := S1.sub)
    all_goals (refine any_pure (i := 21) rfl (by kernel_rfl) S ?_; first | (refine onX rfl rfl ?_; (first | refine pick_tb_x rfl rfl rfl ?_ | refine pick_fb_x rfl rfl rfl ?_)) | first | refine offX rfl rfl rfl rfl ?_ | refine offXU rfl rfl rfl ?_)
    all_goals (refine any_pure (i := 22) rfl (by kernel_rfl) S ?_; (first | refine pick_tb_x rfl rfl rfl ?_ | refine pick_fb_x rfl rfl rfl ?_))
    all_goals (refine any_pure (i := 23) rfl (by kernel_rfl) S ?_; refine assign_b_x rfl rfl ?_)
    all_goals refine any_end (by kernel_rfl) ?_
    all_goals replace S := S1
    all_goals repeat' (first | refine assign_b_l S rfl rfl ?_ | refine move_p_l S rfl rfl ?_ | refine move_e_l S rfl rfl ?_ | refine nilL ?_ | refine run_seq ?_ | refine run_skip ?_ | refine run_region ?_ | refine onL rfl rfl ?_ | refine offL rfl rfl rfl rfl ?_ | refine offL0 rfl rfl rfl ?_ | refine offLU rfl rfl rfl ?_ | refine eqlP_l S rfl rfl rfl ?_ | refine eqlE_l S rfl rfl (by omega) rfl ?_ | refine move_b_l S rfl rfl ?_ | refine pick_tb_l S rfl rfl rfl ?_ | refine pick_fb_l S rfl rfl rfl ?_ | refine move_o_l S rfl rfl ?_ | refine run_block ?_ | refine run_ret ?_ | refine run_exit ?_ | refine run_cond_true rfl ?_ | refine run_cond_false rfl ?_ | refine thenQ_n ?_ | refine thenQ_r ?_ | refine thenQ_e ?_ | refine blockQ_n ?_ | refine blockQ_r ?_ | refine blockQ_s rfl ?_ | refine blockQ_o rfl ?_ | refine ret1_i rfl ?_ | refine ret1_b rfl ?_ | refine ret1_p rfl ?_ | refine ret1_s rfl ?_ | refine ret1_e rfl ?_ | refine ret1_a rfl ?_ | refine ret1_o rfl ?_ | refine ret1n_i rfl ?_ | refine ret1n_b rfl ?_ | refine ret1n_p rfl ?_ | refine ret1n_s rfl ?_ | refine ret1n_o rfl ?_)
    all_goals exact ⟨rfl, S.chg.below⟩
end
theorem wt_new {w0 w : World} {b bs : Nat} {W : WtS} (S : Sat (fun _ => False) w0 w (wtL b bs W)) : NewWt w0 w W (.pointer (some ⟨b, 0, none⟩)) := by
  have f1 := S.own (blk b 3 (wtC bs W) 94) (by simp) rfl
  have f2 := S.own (setR bs W.rv W.st W.hs) (by simp) rfl
  refine ⟨b, bs, rfl, wt_shut S, fun k hk => Nat.le_of_not_lt fun hlt => ?_⟩
  rcases hk with hk | hk
  · exact f1 k hk hlt
  · exact f2 k hk hlt
def newW (thread rv st : Int) (hs : List Bool) : WtS := ⟨thread, 1, rv, st, hs⟩
theorem wnew_at {bs : Nat} {rv st : Int} {hs : List Bool} {w0 : World} (h : (setR bs rv st hs).holds w0) (thread : Int) : Calls Try.prog 31 #[.int .i64 thread, .pointer (some ⟨bs, 0, none⟩)] w0 fun e w' =>
    ∃ p n, e = .returned (.tuple #[p, .int .i64 n]) ∧ (((0 ≤ thread ∧ thread < 6) ∧ n = 0 ∧ NewWt w0 w' (newW thread rv st hs) p) ∨ (¬ (0 ≤ thread ∧ thread < 6) ∧ n = 1 ∧ p = .pointer none)) ∧ Below w0.heap.size w0 w' := by
  have S := Sat.reads h
  refine enter2 Try.func31 rfl Try.ntmps31 rfl Try.results31 ?_
  repeat' (first | refine assign_p_l S rfl rfl ?_ | refine assign_e_l S rfl rfl ?_ | refine assign_i_l S rfl rfl ?_ | refine nilL ?_ | refine run_seq ?_ | refine run_skip ?_ | refine run_region ?_ | refine onL rfl rfl ?_ | refine offL rfl rfl rfl rfl ?_ | refine offL0 rfl rfl rfl ?_ | refine offLU rfl rfl rfl ?_ | refine move_i_l S rfl rfl ?_ | refine move_p_l S rfl rfl ?_ | refine move_e_l S rfl rfl ?_ | refine assign_b_l S rfl rfl ?_ | refine eqlP_l S rfl rfl rfl ?_ | refine eqlE_l S rfl rfl (by omega) rfl ?_ | (refine lss_l S rfl rfl rfl ?_ ?_ <;> intro hcmp <;> try (exfalso; first | omega | exact hcmp (by decide) | exact absurd hcmp (by decide))) | refine move_b_l S rfl rfl ?_ | (refine geq_l S rfl rfl rfl ?_ ?_ <;> intro hcmp <;> try (exfalso; first | omega | exact hcmp (by decide) | exact absurd hcmp (by decide))) | refine pick_tb_l S rfl rfl rfl ?_ | refine pick_fb_l S rfl rfl rfl ?_ | (apply build3_l S; (· repeat (first | exact mapN | apply mapC_i rfl | apply mapC_b rfl | apply mapC_p rfl | apply mapC_s rfl | apply mapC_e rfl | apply mapC_a rfl | apply mapC_o rfl)); (· rfl); (· rfl)) | (refine box_a S rfl rfl rfl ?_; clear S; intro b w S) | refine assign_o_l S rfl rfl ?_ | refine move_o_l S rfl rfl ?_ | refine run_block ?_ | refine run_ret ?_ | refine run_exit ?_ | refine run_cond_true rfl ?_ | refine run_cond_false rfl ?_ | refine thenQ_n ?_ | refine thenQ_r ?_ | refine thenQ_e ?_ | refine blockQ_n ?_ | refine blockQ_r ?_ | refine blockQ_s rfl ?_ | refine blockQ_o rfl ?_ | refine ret2_ii rfl rfl ?_ | refine ret2_ib rfl rfl ?_ | refine ret2_ip rfl rfl ?_ | refine ret2_is rfl rfl ?_ | refine ret2_io rfl rfl ?_ | refine ret2_bi rfl rfl ?_ | refine ret2_bb rfl rfl ?_ | refine ret2_bp rfl rfl ?_ | refine ret2_bs rfl rfl ?_ | refine ret2_bo rfl rfl ?_ | refine ret2_pi rfl rfl ?_ | refine ret2_pb rfl rfl ?_ | refine ret2_pp rfl rfl ?_ | refine ret2_ps rfl rfl ?_ | refine ret2_po rfl rfl ?_ | refine ret2_si rfl rfl ?_ | refine ret2_sb rfl rfl ?_ | refine ret2_sp rfl rfl ?_ | refine ret2_ss rfl rfl ?_ | refine ret2_so rfl rfl ?_ | refine ret2_ei rfl rfl ?_ | refine ret2_eb rfl rfl ?_ | refine ret2_ep rfl rfl ?_ | refine ret2_es rfl rfl ?_ | refine ret2_eo rfl rfl ?_ | refine ret2_ai rfl rfl ?_ | refine ret2_ab rfl rfl ?_ | refine ret2_ap rfl rfl ?_ | refine ret2_as rfl rfl ?_ | refine ret2_ao rfl rfl ?_ | refine ret2_oi rfl rfl ?_ | refine ret2_ob rfl rfl ?_ | refine ret2_op rfl rfl ?_ | refine ret2_os rfl rfl ?_ | refine ret2_oo rfl rfl ?_)
  · exact ⟨_, _, rfl, .inr ⟨fun e => by omega, rfl, rfl⟩, S.chg.below⟩
  · exact ⟨_, _, rfl, .inr ⟨fun e => by omega, rfl, rfl⟩, S.chg.below⟩
  · refine callL (scopy_at (S.all (roR (setR bs rv st hs)) (by simp))) rfl rfl ?_
    rintro e w' ⟨_, rfl, ⟨b2, rfl, g1, g2⟩, hb⟩
    replace S := S.freshSet hb g1 g2
    clear hb g1 g2
    refine ⟨_, rfl, ?_⟩
    repeat' (first | refine assign_p_l S rfl rfl ?_ | refine assign_e_l S rfl rfl ?_ | refine assign_i_l S rfl rfl ?_ | refine nilL ?_ | refine run_seq ?_ | refine run_skip ?_ | refine run_region ?_ | refine onL rfl rfl ?_ | refine offL rfl rfl rfl rfl ?_ | refine offL0 rfl rfl rfl ?_ | refine offLU rfl rfl rfl ?_ | refine move_i_l S rfl rfl ?_ | refine move_p_l S rfl rfl ?_ | refine move_e_l S rfl rfl ?_ | refine assign_b_l S rfl rfl ?_ | refine eqlP_l S rfl rfl rfl ?_ | refine eqlE_l S rfl rfl (by omega) rfl ?_ | (refine lss_l S rfl rfl rfl ?_ ?_ <;> intro hcmp <;> try (exfalso; first | omega | exact hcmp (by decide) | exact absurd hcmp (by decide))) | refine move_b_l S rfl rfl ?_ | (refine geq_l S rfl rfl rfl ?_ ?_ <;> intro hcmp <;> try (exfalso; first | omega | exact hcmp (by decide) | exact absurd hcmp (by decide))) | refine pick_tb_l S rfl rfl rfl ?_ | refine pick_fb_l S rfl rfl rfl ?_ | (apply build3_l S; (· repeat (first | exact mapN | apply mapC_i rfl | apply mapC_b rfl | apply mapC_p rfl | apply mapC_s rfl | apply mapC_e rfl | apply mapC_a rfl | apply mapC_o rfl)); (· rfl); (· rfl)) | (refine box_a S rfl rfl rfl ?_; clear S; intro b w S) | refine assign_o_l S rfl rfl ?_ | refine move_o_l S rfl rfl ?_ | refine run_block ?_ | refine run_ret ?_ | refine run_exit ?_ | refine run_cond_true rfl ?_ | refine run_cond_false rfl ?_ | refine thenQ_n ?_ | refine thenQ_r ?_ | refine thenQ_e ?_ | refine blockQ_n ?_ | refine blockQ_r ?_ | refine blockQ_s rfl ?_ | refine blockQ_o rfl ?_ | refine ret2_ii rfl rfl ?_ | refine ret2_ib rfl rfl ?_ | refine ret2_ip rfl rfl ?_ | refine ret2_is rfl rfl ?_ | refine ret2_io rfl rfl ?_ | refine ret2_bi rfl rfl ?_ | refine ret2_bb rfl rfl ?_ | refine ret2_bp rfl rfl ?_ | refine ret2_bs rfl rfl ?_ | refine ret2_bo rfl rfl ?_ | refine ret2_pi rfl rfl ?_ | refine ret2_pb rfl rfl ?_ | refine ret2_pp rfl rfl ?_ | refine ret2_ps rfl rfl ?_ | refine ret2_po rfl rfl ?_ | refine ret2_si rfl rfl ?_ | refine ret2_sb rfl rfl ?_ | refine ret2_sp rfl rfl ?_ | refine ret2_ss rfl rfl ?_ | refine ret2_so rfl rfl ?_ | refine ret2_ei rfl rfl ?_ | refine ret2_eb rfl rfl ?_ | refine ret2_ep rfl rfl ?_ | refine ret2_es rfl rfl ?_ | refine ret2_eo rfl rfl ?_ | refine ret2_ai rfl rfl ?_ | refine ret2_ab rfl rfl ?_ | refine ret2_ap rfl rfl ?_ | refine ret2_as rfl rfl ?_ | refine ret2_ao rfl rfl ?_ | refine ret2_oi rfl rfl ?_ | refine ret2_ob rfl rfl ?_ | refine ret2_op rfl rfl ?_ | refine ret2_os rfl rfl ?_ | refine ret2_oo rfl rfl ?_)
    replace S := S.turn1 (r' := blk b 3 (wtC b2 (newW thread rv st hs)) 94) S.got1 rfl (fun k e => e)
    exact ⟨_, _, rfl, .inl ⟨by omega, rfl, wt_new (W := newW thread rv st hs) (S.sub (L' := [blk b 3 (wtC b2 (newW thread rv st hs)) 94, setR b2 rv st hs]))⟩, S.chg.below⟩
end Go.Proofs.Ytnnkegmiefpgpaa
