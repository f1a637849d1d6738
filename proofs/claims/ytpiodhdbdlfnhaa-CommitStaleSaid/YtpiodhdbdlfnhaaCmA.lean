/- commit: what lies there; the small methods. -/
import Derived.Test.YtpiodhdbdlfnhaaRsSet
import Derived.Test.YtpiodhdbdlfnhaaHpF
import Derived.Test.YtpiodhdbdlfnhaaRetC
namespace Go.Proofs.Ytpiodhdbdlfnhaa
open Go.RowKit Go.Lib
set_option linter.unusedVariables false
structure CmS where
  thread : Int
  at_ : Int
  rv : Int
  st : Int
  hs : List Bool
  writes : List (Int × Int)
  owned : List Int
  wv : Int
  done : Int
  committed : Bool
  full : Bool
structure CA where
  bs : Nat
  aw : Option Addr
  cw : Nat
  ao : Option Addr
  co : Nat
def cmC (A : CA) (C : CmS) : Tm := fun i => match i with
  | 0 => .int .i64 C.thread | 1 => .int .u8 C.at_ | 2 => .pointer (some ⟨A.bs, 0, none⟩) | 3 => .slice A.aw C.writes.length A.cw | 4 => .slice A.ao C.owned.length A.co
  | 5 => .int .i64 C.wv | 6 => .int .i64 C.done | 7 => .bool C.committed | 8 => .bool C.full | _ => undef
abbrev wrR (A : CA) (C : CmS) : Res := slL A.aw A.cw 2 encP (0, 0) C.writes
abbrev owR (A : CA) (C : CmS) : Res := slL A.ao A.co 1 encI 0 C.owned
abbrev csR (A : CA) (C : CmS) : Res := roR (setR A.bs C.rv C.st C.hs)
def cmR (b : Nat) (A : CA) (C : CmS) : Res where
  foot k := k = b ∨ (csR A C).foot k ∨ (wrR A C).foot k ∨ (owR A C).foot k
  ro := false
  holds w := ((blk b 9 (cmC A C) 88).holds w ∧ (csR A C).holds w ∧ (wrR A C).holds w ∧ (owR A C).holds w) ∧ (∀ k, (csR A C).foot k → k ≠ b) ∧ (∀ k, (wrR A C).foot k → k ≠ b) ∧ (∀ k, (owR A C).foot k → k ≠ b)
  lt w k h e := by
    rcases e with rfl | e | e | e
    · exact lt_of_heap h.1.1
    · exact (csR A C).lt w k h.1.2.1 e
    · exact (wrR A C).lt w k h.1.2.2.1 e
    · exact (owR A C).lt w k h.1.2.2.2 e
  loc w w' h e := ⟨⟨(blk b 9 (cmC A C) 88).loc w w' h.1.1 (fun k hk => e k (.inl hk)), (csR A C).loc w w' h.1.2.1 (fun k hk => e k (.inr (.inl hk))), (wrR A C).loc w w' h.1.2.2.1 (fun k hk => e k (.inr (.inr (.inl hk)))), (owR A C).loc w w' h.1.2.2.2 (fun k hk => e k (.inr (.inr (.inr hk))))⟩, h.2⟩
abbrev cmL (b : Nat) (A : CA) (C : CmS) : List Res := [blk b 9 (cmC A C) 88, csR A C, wrR A C, owR A C]
theorem cm_open {b : Nat} {A : CA} {C : CmS} {w : World} (h : (cmR b A C).holds w) : Sat (cmR b A C).foot w w (cmL b A C) := by
  obtain ⟨⟨h1, h2, h3, h4⟩, g1, g2, g3⟩ := h
  refine (((((Sat.start _ w).push (r := owR A C) h4 (by simp) (fun e => by cases e)).push (r := wrR A C) h3 ?_ (fun e => by cases e)).push (r := csR A C) h2 ?_ (fun e => by cases e)).push (r := blk b 9 (cmC A C) 88) h1 ?_ (fun _ k hk _ => .inl hk))
  · intro x hx
    obtain rfl : x = owR A C := by simpa using hx
    exact .inl ⟨rfl, rfl⟩
  · intro x hx
    simp only [List.mem_cons, List.not_mem_nil, or_false] at hx
    rcases hx with rfl | rfl
    · exact .inl ⟨rfl, rfl⟩
    · exact .inl ⟨rfl, rfl⟩
  · intro x hx
    simp only [List.mem_cons, List.not_mem_nil, or_false] at hx
    rcases hx with rfl | rfl | rfl
    · exact .inr fun k e e' => g1 k e' e
    · exact .inr fun k e e' => g2 k e' e
    · exact .inr fun k e e' => g3 k e' e
theorem cm_shut {S : Nat → Prop} {w₀ w : World} {b : Nat} {A : CA} {C : CmS} (h : Sat S w₀ w (cmL b A C)) : (cmR b A C).holds w := by
  have a1 := h.all _ (List.mem_cons_self ..)
  have a2 := h.all (csR A C) (by simp)
  have a3 := h.all (wrR A C) (by simp)
  have a4 := h.all (owR A C) (by simp)
  have s := (List.pairwise_cons.1 h.sep).1
  have use : ∀ x : Res, (blk b 9 (cmC A C) 88).apart x → ∀ k, x.foot k → k ≠ b := fun x hx k h1 h2 => by
    rcases hx with e | e
    · cases e.1
    · exact e k h2 h1
  exact ⟨⟨a1, a2, a3, a4⟩, use _ (s _ (by simp)), use _ (s _ (by simp)), use _ (s _ (by simp))⟩
section
variable (L : List Res) (b : Nat) (A : CA) (C : CmS)
instance cm_B : PickB (cmR b A C :: L) b 9 (cmC A C) 88 := ⟨fun w h => (h (cmR b A C) (List.mem_cons_self ..)).1.1⟩
instance cm_SlW : PickSl (cmR b A C :: L) A.aw C.writes.length A.cw 2 (gL encP (0, 0) C.writes) := ⟨fun w h => (h (cmR b A C) (List.mem_cons_self ..)).1.2.2.1⟩
instance cm_EW : PickE (cmR b A C :: L) A.aw C.writes.length A.cw 2 (gL encP (0, 0) C.writes) := ⟨fun w h => (h (cmR b A C) (List.mem_cons_self ..)).1.2.2.1⟩
instance cm_LW : PickL (cmR b A C :: L) A.aw A.cw 2 encP (0, 0) C.writes := ⟨fun w h => (h (cmR b A C) (List.mem_cons_self ..)).1.2.2.1⟩
instance cm_SlO : PickSl (cmR b A C :: L) A.ao C.owned.length A.co 1 (gL encI 0 C.owned) := ⟨fun w h => (h (cmR b A C) (List.mem_cons_self ..)).1.2.2.2⟩
instance cm_EO : PickE (cmR b A C :: L) A.ao C.owned.length A.co 1 (gL encI 0 C.owned) := ⟨fun w h => (h (cmR b A C) (List.mem_cons_self ..)).1.2.2.2⟩
instance cm_LO : PickL (cmR b A C :: L) A.ao A.co 1 encI 0 C.owned := ⟨fun w h => (h (cmR b A C) (List.mem_cons_self ..)).1.2.2.2⟩
end
/-- What a method leaves. -/
def CmTo (b : Nat) (A : CA) (C C' : CmS) (w w' : World) : Prop := ∃ A', (cmR b A' C').holds w' ∧ Chg (cmR b A C).foot w w' ∧ ∀ k, (cmR b A' C').foot k → (cmR b A C).foot k ∨ w.heap.size ≤ k
theorem Sat.cmTo {S : Nat → Prop} {w₀ w w' : World} {L : List Res} {b : Nat} {A : CA} {C C' : CmS} (h : Sat S w₀ w (cmR b A C :: L)) (hm : CmTo b A C C' w w') : ∃ A', Sat S w₀ w' (cmR b A' C' :: L) := by
  obtain ⟨A', h1, h2, h3⟩ := hm
  exact ⟨A', h.swap (r := cmR b A C) (r' := cmR b A' C') rfl h2 h1 rfl h3⟩
/-- Only the block itself was changed. -/
theorem cm_to {w₀ w : World} {b : Nat} {A A' : CA} {C C' : CmS} (h : Sat (cmR b A C).foot w₀ w (cmL b A' C')) (hf : ∀ k, (csR A' C').foot k ∨ (wrR A' C').foot k ∨ (owR A' C').foot k → (cmR b A C).foot k ∨ w₀.heap.size ≤ k) : CmTo b A C C' w₀ w := by
  refine ⟨A', cm_shut h, h.chg, fun k hk => ?_⟩
  by_cases hlt : k < w₀.heap.size
  · rcases hk with hk | hk
    · exact .inl (h.own _ (List.mem_cons_self ..) rfl k hk hlt)
    · exact hf k hk
  · exact .inr (by omega)
section
variable {bc : Nat} {A : CA} {C : CmS} {w0 : World} (h : (cmR bc A C).holds w0)
include h
theorem cm_small : C.writes.length ≤ 9223372036854775807 ∧ C.owned.length ≤ 9223372036854775807 ∧ C.owned.length ≤ A.co ∧ C.writes.length ≤ A.cw :=
  ⟨SlOk.small h.1.2.2.1, SlOk.small h.1.2.2.2, (h.1.2.2.2 : SlOk w0 _ _ _ _ _).2.1, (h.1.2.2.1 : SlOk w0 _ _ _ _ _).2.1⟩
theorem over_at : Calls Try.prog 26 #[.pointer (some ⟨bc, 0, none⟩)] w0 fun e w' => e = .returned (.bool (decide (C.at_ = 8))) ∧ Below w0.heap.size w0 w' := by
  have S := Sat.reads h
  refine enter1 Try.func26 rfl Try.ntmps26 rfl Try.results26 ?_
  repeat' (first | refine assign_b_l S rfl rfl ?_ | refine move_p_l S rfl rfl ?_ | refine move_e_l S rfl rfl ?_ | refine nilL ?_ | refine run_seq ?_ | refine run_skip ?_ | refine run_region ?_ | refine onL rfl rfl ?_ | refine offL rfl rfl rfl rfl ?_ | refine offL0 rfl rfl rfl ?_ | refine offLU rfl rfl rfl ?_ | refine neqP_l S rfl rfl rfl ?_ | refine neqE_l S rfl rfl (by omega) rfl ?_ | refine move_b_l S rfl rfl ?_ | refine nilCheck_l S rfl rfl ?_ | refine nilCheckE_l S rfl (by first | omega | decide) rfl ?_ | refine fieldAddr_l S rfl rfl rfl ?_ | refine fieldAddrE_l S rfl (by first | omega | decide) rfl rfl ?_ | refine load_i_l S rfl rfl rfl rfl ?_ | refine loadE_i_l S rfl (by first | omega | decide) rfl rfl rfl ?_ | (refine eql_l S rfl rfl rfl ?_ ?_ <;> intro hcmp <;> try (exfalso; first | omega | exact hcmp (by decide) | exact absurd hcmp (by decide))) | refine pick_tb_l S rfl rfl rfl ?_ | refine pick_fb_l S rfl rfl rfl ?_ | refine move_o_l S rfl rfl ?_ | refine load_o_l S rfl rfl rfl rfl ?_ | refine loadE_o_l S rfl (by first | omega | decide) rfl rfl rfl ?_ | refine run_block ?_ | refine run_ret ?_ | refine run_exit ?_ | refine run_cond_true rfl ?_ | refine run_cond_false rfl ?_ | refine thenQ_n ?_ | refine thenQ_r ?_ | refine thenQ_e ?_ | refine blockQ_n ?_ | refine blockQ_r ?_ | refine blockQ_s rfl ?_ | refine blockQ_o rfl ?_ | refine ret1_i rfl ?_ | refine ret1_b rfl ?_ | refine ret1_p rfl ?_ | refine ret1_s rfl ?_ | refine ret1_e rfl ?_ | refine ret1_a rfl ?_ | refine ret1_o rfl ?_ | refine ret1n_i rfl ?_ | refine ret1n_b rfl ?_ | refine ret1n_p rfl ?_ | refine ret1n_s rfl ?_ | refine ret1n_o rfl ?_)
  · exact ⟨by rw [decide_eq_true hcmp], S.chg.below⟩
  · exact ⟨by rw [decide_eq_false hcmp], S.chg.below⟩
theorem committed_at : Calls Try.prog 17 #[.pointer (some ⟨bc, 0, none⟩)] w0 fun e w' => e = .returned (.bool C.committed) ∧ Below w0.heap.size w0 w' := by
  have S := Sat.reads h
  refine enter1 Try.func17 rfl Try.ntmps17 rfl Try.results17 ?_
  repeat' (first | refine assign_b_l S rfl rfl ?_ | refine move_p_l S rfl rfl ?_ | refine move_e_l S rfl rfl ?_ | refine nilL ?_ | refine run_seq ?_ | refine run_skip ?_ | refine run_region ?_ | refine onL rfl rfl ?_ | refine offL rfl rfl rfl rfl ?_ | refine offL0 rfl rfl rfl ?_ | refine offLU rfl rfl rfl ?_ | refine neqP_l S rfl rfl rfl ?_ | refine neqE_l S rfl rfl (by omega) rfl ?_ | refine move_b_l S rfl rfl ?_ | refine nilCheck_l S rfl rfl ?_ | refine nilCheckE_l S rfl (by first | omega | decide) rfl ?_ | refine fieldAddr_l S rfl rfl rfl ?_ | refine fieldAddrE_l S rfl (by first | omega | decide) rfl rfl ?_ | refine load_b_l S rfl rfl rfl rfl ?_ | refine loadE_b_l S rfl (by first | omega | decide) rfl rfl rfl ?_ | refine pick_tb_l S rfl rfl rfl ?_ | refine pick_fb_l S rfl rfl rfl ?_ | refine move_o_l S rfl rfl ?_ | refine load_o_l S rfl rfl rfl rfl ?_ | refine loadE_o_l S rfl (by first | omega | decide) rfl rfl rfl ?_ | refine run_block ?_ | refine run_ret ?_ | refine run_exit ?_ | refine run_cond_true rfl ?_ | refine run_cond_false rfl ?_ | refine thenQ_n ?_ | refine thenQ_r ?_ | refine thenQ_e ?_ | refine blockQ_n ?_ | refine blockQ_r ?_ | refine blockQ_s rfl ?_ | refine blockQ_o rfl ?_ | refine ret1_i rfl ?_ | refine ret1_b rfl ?_ | refine ret1_p rfl ?_ | refine ret1_s rfl ?_ | refine ret1_e rfl ?_ | refine ret1_a rfl ?_ | refine ret1_o rfl ?_ | refine ret1n_i rfl ?_ | refine ret1n_b rfl ?_ | refine ret1n_p rfl ?_ | refine ret1n_s rfl ?_ | refine ret1n_o rfl ?_)
  exact ⟨rfl, S.chg.below⟩
theorem full_at : Calls Try.prog 27 #[.pointer (some ⟨bc, 0, none⟩)] w0 fun e w' => e = .returned (.bool C.full) ∧ Below w0.heap.size w0 w' := by
  have S := Sat.reads h
  refine enter1 Try.func27 rfl Try.ntmps27 rfl Try.results27 ?_
  repeat' (first | refine assign_b_l S rfl rfl ?_ | refine move_p_l S rfl rfl ?_ | refine move_e_l S rfl rfl ?_ | refine nilL ?_ | refine run_seq ?_ | refine run_skip ?_ | refine run_region ?_ | refine onL rfl rfl ?_ | refine offL rfl rfl rfl rfl ?_ | refine offL0 rfl rfl rfl ?_ | refine offLU rfl rfl rfl ?_ | refine neqP_l S rfl rfl rfl ?_ | refine neqE_l S rfl rfl (by omega) rfl ?_ | refine move_b_l S rfl rfl ?_ | refine nilCheck_l S rfl rfl ?_ | refine nilCheckE_l S rfl (by first | omega | decide) rfl ?_ | refine fieldAddr_l S rfl rfl rfl ?_ | refine fieldAddrE_l S rfl (by first | omega | decide) rfl rfl ?_ | refine load_b_l S rfl rfl rfl rfl ?_ | refine loadE_b_l S rfl (by first | omega | decide) rfl rfl rfl ?_ | refine pick_tb_l S rfl rfl rfl ?_ | refine pick_fb_l S rfl rfl rfl ?_ | refine move_o_l S rfl rfl ?_ | refine load_o_l S rfl rfl rfl rfl ?_ | refine loadE_o_l S rfl (by first | omega | decide) rfl rfl rfl ?_ | refine run_block ?_ | refine run_ret ?_ | refine run_exit ?_ | refine run_cond_true rfl ?_ | refine run_cond_false rfl ?_ | refine thenQ_n ?_ | refine thenQ_r ?_ | refine thenQ_e ?_ | refine blockQ_n ?_ | refine blockQ_r ?_ | refine blockQ_s rfl ?_ | refine blockQ_o rfl ?_ | refine ret1_i rfl ?_ | refine ret1_b rfl ?_ | refine ret1_p rfl ?_ | refine ret1_s rfl ?_ | refine ret1_e rfl ?_ | refine ret1_a rfl ?_ | refine ret1_o rfl ?_ | refine ret1n_i rfl ?_ | refine ret1n_b rfl ?_ | refine ret1n_p rfl ?_ | refine ret1n_s rfl ?_ | refine ret1n_o rfl ?_)
  exact ⟨rfl, S.chg.below⟩
theorem wv_at : Calls Try.prog 24 #[.pointer (some ⟨bc, 0, none⟩)] w0 fun e w' => e = .returned (.int .i64 C.wv) ∧ Below w0.heap.size w0 w' := by
  have S := Sat.reads h
  refine enter1 Try.func24 rfl Try.ntmps24 rfl Try.results24 ?_
  repeat' (first | refine assign_i_l S rfl rfl ?_ | refine move_p_l S rfl rfl ?_ | refine move_e_l S rfl rfl ?_ | refine nilL ?_ | refine run_seq ?_ | refine run_skip ?_ | refine run_region ?_ | refine eqlP_l S rfl rfl rfl ?_ | refine eqlE_l S rfl rfl (by omega) rfl ?_ | refine nilCheck_l S rfl rfl ?_ | refine nilCheckE_l S rfl (by first | omega | decide) rfl ?_ | refine fieldAddr_l S rfl rfl rfl ?_ | refine fieldAddrE_l S rfl (by first | omega | decide) rfl rfl ?_ | refine load_i_l S rfl rfl rfl rfl ?_ | refine loadE_i_l S rfl (by first | omega | decide) rfl rfl rfl ?_ | refine move_o_l S rfl rfl ?_ | refine load_o_l S rfl rfl rfl rfl ?_ | refine loadE_o_l S rfl (by first | omega | decide) rfl rfl rfl ?_ | refine run_block ?_ | refine run_ret ?_ | refine run_exit ?_ | refine run_cond_true rfl ?_ | refine run_cond_false rfl ?_ | refine thenQ_n ?_ | refine thenQ_r ?_ | refine thenQ_e ?_ | refine blockQ_n ?_ | refine blockQ_r ?_ | refine blockQ_s rfl ?_ | refine blockQ_o rfl ?_ | refine ret1_i rfl ?_ | refine ret1_b rfl ?_ | refine ret1_p rfl ?_ | refine ret1_s rfl ?_ | refine ret1_e rfl ?_ | refine ret1_a rfl ?_ | refine ret1_o rfl ?_ | refine ret1n_i rfl ?_ | refine ret1n_b rfl ?_ | refine ret1n_p rfl ?_ | refine ret1n_s rfl ?_ | refine ret1n_o rfl ?_)
  exact ⟨rfl, S.chg.below⟩
theorem where_at : Calls Try.prog 25 #[.pointer (some ⟨bc, 0, none⟩)] w0 fun e w' => e = .returned (.int .u8 C.at_) ∧ Below w0.heap.size w0 w' := by
  have S := Sat.reads h
  refine enter1 Try.func25 rfl Try.ntmps25 rfl Try.results25 ?_
  repeat' (first | refine assign_i_l S rfl rfl ?_ | refine move_p_l S rfl rfl ?_ | refine move_e_l S rfl rfl ?_ | refine nilL ?_ | refine run_seq ?_ | refine run_skip ?_ | refine run_region ?_ | refine eqlP_l S rfl rfl rfl ?_ | refine eqlE_l S rfl rfl (by omega) rfl ?_ | refine nilCheck_l S rfl rfl ?_ | refine nilCheckE_l S rfl (by first | omega | decide) rfl ?_ | refine fieldAddr_l S rfl rfl rfl ?_ | refine fieldAddrE_l S rfl (by first | omega | decide) rfl rfl ?_ | refine load_i_l S rfl rfl rfl rfl ?_ | refine loadE_i_l S rfl (by first | omega | decide) rfl rfl rfl ?_ | refine move_o_l S rfl rfl ?_ | refine load_o_l S rfl rfl rfl rfl ?_ | refine loadE_o_l S rfl (by first | omega | decide) rfl rfl rfl ?_ | refine run_block ?_ | refine run_ret ?_ | refine run_exit ?_ | refine run_cond_true rfl ?_ | refine run_cond_false rfl ?_ | refine thenQ_n ?_ | refine thenQ_r ?_ | refine thenQ_e ?_ | refine blockQ_n ?_ | refine blockQ_r ?_ | refine blockQ_s rfl ?_ | refine blockQ_o rfl ?_ | refine ret1_i rfl ?_ | refine ret1_b rfl ?_ | refine ret1_p rfl ?_ | refine ret1_s rfl ?_ | refine ret1_e rfl ?_ | refine ret1_a rfl ?_ | refine ret1_o rfl ?_ | refine ret1n_i rfl ?_ | refine ret1n_b rfl ?_ | refine ret1n_p rfl ?_ | refine ret1n_s rfl ?_ | refine ret1n_o rfl ?_)
  exact ⟨rfl, S.chg.below⟩
end
end Go.Proofs.Ytpiodhdbdlfnhaa
