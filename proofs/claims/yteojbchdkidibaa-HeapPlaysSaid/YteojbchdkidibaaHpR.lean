/- heap: the document's heap. -/
import Derived.Test.YteojbchdkidibaaHpD
import Derived.Test.YteojbchdkidibaaAll
namespace Go.Proofs.Yteojbchdkidibaa
open Go.RowKit Go.Lib
set_option linter.unusedVariables false
structure RefS where
  xs : List Int
  owns : List Int
  vers : List Int
  time : Int
  limit : Int
structure RA where
  xa : Option Addr
  oa : Option Addr
  va : Option Addr
  xc : Nat
  oc : Nat
  vc : Nat
def refC (A : RA) (R : RefS) : Tm := fun i => match i with
  | 0 => .slice A.xa R.xs.length A.xc | 1 => .slice A.oa R.owns.length A.oc | 2 => .slice A.va R.vers.length A.vc | 3 => .int .i64 R.time | _ => .int .i64 R.limit
abbrev intsR (a : Option Addr) (c : Nat) (l : List Int) : Res := rowL a c 3 1 encI 0 l
def footA (a : Option Addr) (k : Nat) : Prop := ∃ x, a = some x ∧ x.block = k
def refR (b : Nat) (A : RA) (R : RefS) : Res where
  foot k := k = b ∨ footA A.xa k ∨ footA A.oa k ∨ footA A.va k
  ro := false
  holds w := ((blk b 5 (refC A R) 78).holds w ∧ (valsR A.xa A.xc R.xs).holds w ∧ (intsR A.oa A.oc R.owns).holds w ∧ (intsR A.va A.vc R.vers).holds w) ∧
    ((∀ k, footA A.xa k → k ≠ b) ∧ (∀ k, footA A.oa k → k ≠ b) ∧ (∀ k, footA A.va k → k ≠ b) ∧ (∀ k, footA A.xa k → ¬ footA A.oa k) ∧ (∀ k, footA A.xa k → ¬ footA A.va k) ∧ (∀ k, footA A.oa k → ¬ footA A.va k))
  lt w k h e := by
    rcases e with rfl | e | e | e
    · exact lt_of_heap h.1.1
    · exact (valsR A.xa A.xc R.xs).lt w k h.1.2.1 e
    · exact (intsR A.oa A.oc R.owns).lt w k h.1.2.2.1 e
    · exact (intsR A.va A.vc R.vers).lt w k h.1.2.2.2 e
  loc w w' h e := ⟨⟨(blk b 5 (refC A R) 78).loc w w' h.1.1 (fun k hk => e k (.inl hk)), (valsR A.xa A.xc R.xs).loc w w' h.1.2.1 (fun k hk => e k (.inr (.inl hk))), (intsR A.oa A.oc R.owns).loc w w' h.1.2.2.1 (fun k hk => e k (.inr (.inr (.inl hk)))), (intsR A.va A.vc R.vers).loc w w' h.1.2.2.2 (fun k hk => e k (.inr (.inr (.inr hk))))⟩, h.2⟩
abbrev refL (b : Nat) (A : RA) (R : RefS) : List Res := [blk b 5 (refC A R) 78, valsR A.xa A.xc R.xs, intsR A.oa A.oc R.owns, intsR A.va A.vc R.vers]
theorem ref_open {b : Nat} {A : RA} {R : RefS} {w : World} (h : (refR b A R).holds w) : Sat (refR b A R).foot w w (refL b A R) := by
  obtain ⟨⟨h1, h2, h3, h4⟩, g1, g2, g3, g4, g5, g6⟩ := h
  refine (((((Sat.start _ w).push (r := intsR A.va A.vc R.vers) h4 (by simp) (fun _ k hk _ => .inr (.inr (.inr hk)))).push (r := intsR A.oa A.oc R.owns) h3 ?_ (fun _ k hk _ => .inr (.inr (.inl hk)))).push (r := valsR A.xa A.xc R.xs) h2 ?_ (fun _ k hk _ => .inr (.inl hk))).push (r := blk b 5 (refC A R) 78) h1 ?_ (fun _ k hk _ => .inl hk))
  · intro x hx
    obtain rfl : x = intsR A.va A.vc R.vers := by simpa using hx
    exact .inr fun k e e' => g6 k e e'
  · intro x hx
    simp only [List.mem_cons, List.not_mem_nil, or_false] at hx
    rcases hx with rfl | rfl
    · exact .inr fun k e e' => g4 k e e'
    · exact .inr fun k e e' => g5 k e e'
  · intro x hx
    simp only [List.mem_cons, List.not_mem_nil, or_false] at hx
    rcases hx with rfl | rfl | rfl
    · exact .inr fun k e e' => g1 k e' e
    · exact .inr fun k e e' => g2 k e' e
    · exact .inr fun k e e' => g3 k e' e
theorem ref_shut {S : Nat → Prop} {w₀ w : World} {b : Nat} {A : RA} {R : RefS} (h : Sat S w₀ w (refL b A R)) : (refR b A R).holds w := by
  have a1 := h.all _ (List.mem_cons_self ..)
  have a2 := h.all (valsR A.xa A.xc R.xs) (by simp)
  have a3 := h.all (intsR A.oa A.oc R.owns) (by simp)
  have a4 := h.all (intsR A.va A.vc R.vers) (by simp)
  have s := h.sep
  simp only [List.pairwise_cons, List.mem_cons, List.not_mem_nil, or_false, forall_eq_or_imp, forall_eq] at s
  obtain ⟨⟨s1, s2, s3⟩, ⟨s4, s5⟩, s6, _⟩ := s
  have use : ∀ {r r' : Res} {k : Nat}, r.apart r' → r.ro = false → r.foot k → ¬ r'.foot k := by
    intro r r' k h h0 h1 h2
    rcases h with h | h
    · rw [h.1] at h0; cases h0
    · exact h k h1 h2
  refine ⟨⟨a1, a2, a3, a4⟩, fun k e e' => ?_, fun k e e' => ?_, fun k e e' => ?_, fun k e e' => use s4 rfl e e', fun k e e' => use s5 rfl e e', fun k e e' => use s6 rfl e e'⟩
  · exact use s1 rfl e' e
  · exact use s2 rfl e' e
  · exact use s3 rfl e' e
section
variable (L : List Res) (b : Nat) (A : RA) (R : RefS)
instance ref_B : PickB (refR b A R :: L) b 5 (refC A R) 78 := ⟨fun w h => (h (refR b A R) (List.mem_cons_self ..)).1.1⟩
instance ref_SlX : PickSl (refR b A R :: L) A.xa R.xs.length A.xc 1 (gL encI 0 R.xs) := ⟨fun w h => RowOk.sl (h (refR b A R) (List.mem_cons_self ..)).1.2.1⟩
instance ref_EX : PickE (refR b A R :: L) A.xa R.xs.length A.xc 1 (gL encI 0 R.xs) := ⟨fun w h => RowOk.sl (h (refR b A R) (List.mem_cons_self ..)).1.2.1⟩
instance ref_LX : PickL (refR b A R :: L) A.xa A.xc 1 encI 0 R.xs := ⟨fun w h => RowOk.sl (h (refR b A R) (List.mem_cons_self ..)).1.2.1⟩
instance ref_SlO : PickSl (refR b A R :: L) A.oa R.owns.length A.oc 1 (gL encI 0 R.owns) := ⟨fun w h => RowOk.sl (h (refR b A R) (List.mem_cons_self ..)).1.2.2.1⟩
instance ref_EO : PickE (refR b A R :: L) A.oa R.owns.length A.oc 1 (gL encI 0 R.owns) := ⟨fun w h => RowOk.sl (h (refR b A R) (List.mem_cons_self ..)).1.2.2.1⟩
instance ref_LO : PickL (refR b A R :: L) A.oa A.oc 1 encI 0 R.owns := ⟨fun w h => RowOk.sl (h (refR b A R) (List.mem_cons_self ..)).1.2.2.1⟩
instance ref_SlV : PickSl (refR b A R :: L) A.va R.vers.length A.vc 1 (gL encI 0 R.vers) := ⟨fun w h => RowOk.sl (h (refR b A R) (List.mem_cons_self ..)).1.2.2.2⟩
instance ref_EV : PickE (refR b A R :: L) A.va R.vers.length A.vc 1 (gL encI 0 R.vers) := ⟨fun w h => RowOk.sl (h (refR b A R) (List.mem_cons_self ..)).1.2.2.2⟩
instance ref_LV : PickL (refR b A R :: L) A.va A.vc 1 encI 0 R.vers := ⟨fun w h => RowOk.sl (h (refR b A R) (List.mem_cons_self ..)).1.2.2.2⟩
end
/-- What a method that changes the document's heap leaves. -/
def RefTo (b : Nat) (A : RA) (R R' : RefS) (w w' : World) : Prop := ∃ A', (refR b A' R').holds w' ∧ Chg (refR b A R).foot w w' ∧ ∀ k, (refR b A' R').foot k → (refR b A R).foot k ∨ w.heap.size ≤ k
theorem Sat.refTo {S : Nat → Prop} {w₀ w w' : World} {L : List Res} {b : Nat} {A : RA} {R R' : RefS} (h : Sat S w₀ w (refR b A R :: L)) (hm : RefTo b A R R' w w') : ∃ A', Sat S w₀ w' (refR b A' R' :: L) := by
  obtain ⟨A', h1, h2, h3⟩ := hm
  exact ⟨A', h.swap (r := refR b A R) (r' := refR b A' R') rfl h2 h1 rfl h3⟩
theorem ref_to {w₀ w : World} {b : Nat} {A A' : RA} {R R' : RefS} (h : Sat (refR b A R).foot w₀ w (refL b A' R')) : RefTo b A R R' w₀ w := by
  refine ⟨A', ref_shut h, h.chg, fun k hk => ?_⟩
  by_cases hlt : k < w₀.heap.size
  · refine .inl ?_
    rcases hk with hk | hk | hk | hk
    · exact h.own _ (List.mem_cons_self ..) rfl k hk hlt
    · exact h.own (valsR A'.xa A'.xc R'.xs) (by simp) rfl k hk hlt
    · exact h.own (intsR A'.oa A'.oc R'.owns) (by simp) rfl k hk hlt
    · exact h.own (intsR A'.va A'.vc R'.vers) (by simp) rfl k hk hlt
  · exact .inr (by omega)
def rValue (R : RefS) (v : Int) : Int := if v < 0 ∨ R.xs.length ≤ v then 0 else R.xs.getD v.toNat 0
def rStripe (R : RefS) (v : Int) : Int := if v < 0 ∨ R.xs.length ≤ v then -1 else v % R.owns.length
def rIs (R : RefS) (s : Int) : Prop := 0 ≤ s ∧ s < R.owns.length
instance (R : RefS) (s : Int) : Decidable (rIs R s) := by unfold rIs; exact inferInstance
def rOwner (R : RefS) (s : Int) : Int := if rIs R s then R.owns.getD s.toNat 0 else -1
def rVersion (R : RefS) (s : Int) : Int := if rIs R s then R.vers.getD s.toNat 0 else 0
section
variable {b : Nat} {A : RA} {R : RefS} {w0 : World} (h : (refR b A R).holds w0)
include h
theorem ref_small : R.xs.length ≤ 9223372036854775807 ∧ R.owns.length ≤ 9223372036854775807 ∧ R.vers.length ≤ 9223372036854775807 :=
  ⟨(RowOk.sl h.1.2.1).small, (RowOk.sl h.1.2.2.1).small, (RowOk.sl h.1.2.2.2).small⟩
theorem ris_at (s : Int) : Calls Try.prog 58 #[.pointer (some ⟨b, 0, none⟩), .int .i64 s] w0 fun e w' => e = .returned (.bool (decide (rIs R s))) ∧ Below w0.heap.size w0 w' := by
  have S := Sat.reads h
  refine enter1 Try.func58 rfl Try.ntmps58 rfl Try.results58 ?_
  repeat' (first | refine assign_b_l S rfl rfl ?_ | refine move_i_l S rfl rfl ?_ | (refine geq_l S rfl rfl rfl ?_ ?_ <;> intro hcmp <;> try (exfalso; omega)) | refine nilL ?_ | refine run_seq ?_ | refine run_skip ?_ | refine run_region ?_ | refine onL rfl rfl ?_ | refine offL rfl rfl rfl rfl ?_ | refine offL0 rfl rfl rfl ?_ | refine offLU rfl rfl rfl ?_ | refine move_b_l S rfl rfl ?_ | refine move_p_l S rfl rfl ?_ | refine move_e_l S rfl rfl ?_ | refine nilCheck_l S rfl rfl ?_ | refine nilCheckE_l S rfl (by omega) rfl ?_ | refine fieldAddr_l S rfl rfl rfl ?_ | refine fieldAddrE_l S rfl (by omega) rfl rfl ?_ | refine load_s_l S rfl rfl rfl rfl ?_ | refine loadE_s_l S rfl (by omega) rfl rfl rfl ?_ | refine len_l S rfl rfl ?_ | (refine lss_l S rfl rfl rfl ?_ ?_ <;> intro hcmp <;> try (exfalso; omega)) | refine pick_tb_l S rfl rfl rfl ?_ | refine pick_fb_l S rfl rfl rfl ?_ | refine move_o_l S rfl rfl ?_ | refine load_o_l S rfl rfl rfl rfl ?_ | refine loadE_o_l S rfl (by omega) rfl rfl rfl ?_ | refine run_block ?_ | refine run_ret ?_ | refine run_exit ?_ | refine run_cond_true rfl ?_ | refine run_cond_false rfl ?_ | refine thenQ_n ?_ | refine thenQ_r ?_ | refine thenQ_e ?_ | refine blockQ_n ?_ | refine blockQ_r ?_ | refine blockQ_s rfl ?_ | refine blockQ_o rfl ?_ | refine ret1_i rfl ?_ | refine ret1_b rfl ?_ | refine ret1_p rfl ?_ | refine ret1_s rfl ?_ | refine ret1_e rfl ?_ | refine ret1_a rfl ?_ | refine ret1_o rfl ?_ | refine ret1n_i rfl ?_ | refine ret1n_b rfl ?_ | refine ret1n_p rfl ?_ | refine ret1n_s rfl ?_ | refine ret1n_o rfl ?_)
  · exact ⟨by rw [decide_eq_true (show rIs R s from by unfold rIs; omega)], S.chg.below⟩
  · exact ⟨by rw [decide_eq_false (show ¬ rIs R s from by unfold rIs; omega)], S.chg.below⟩
  · exact ⟨by rw [decide_eq_false (show ¬ rIs R s from by unfold rIs; omega)], S.chg.below⟩
theorem rvalue_at (v : Int) : Calls Try.prog 52 #[.pointer (some ⟨b, 0, none⟩), .int .i64 v] w0 fun e w' => e = .returned (.int .i64 (rValue R v)) ∧ Below w0.heap.size w0 w' := by
  have S := Sat.reads h
  refine enter1 Try.func52 rfl Try.ntmps52 rfl Try.results52 ?_
  repeat' (first | refine assign_i_l S rfl rfl ?_ | refine move_i_l S rfl rfl ?_ | refine move_p_l S rfl rfl ?_ | refine nilL ?_ | refine run_seq ?_ | refine run_skip ?_ | refine run_region ?_ | refine onL rfl rfl ?_ | refine offL rfl rfl rfl rfl ?_ | refine offL0 rfl rfl rfl ?_ | refine offLU rfl rfl rfl ?_ | refine move_e_l S rfl rfl ?_ | refine nilCheck_l S rfl rfl ?_ | refine nilCheckE_l S rfl (by omega) rfl ?_ | refine fieldAddr_l S rfl rfl rfl ?_ | refine fieldAddrE_l S rfl (by omega) rfl rfl ?_ | refine load_s_l S rfl rfl rfl rfl ?_ | refine loadE_s_l S rfl (by omega) rfl rfl rfl ?_ | (refine lss_l S rfl rfl rfl ?_ ?_ <;> intro hcmp <;> try (exfalso; omega)) | refine move_b_l S rfl rfl ?_ | refine len_l S rfl rfl ?_ | (refine geq_l S rfl rfl rfl ?_ ?_ <;> intro hcmp <;> try (exfalso; omega)) | refine pick_tb_l S rfl rfl rfl ?_ | refine pick_fb_l S rfl rfl rfl ?_ | refine indexAddr_l S rfl rfl (idx_cast _) (by omega) rfl ?_ | refine indexAddr_l S rfl rfl (idx_eq _) (by omega) rfl ?_ | refine load_i_l S rfl rfl rfl rfl ?_ | refine loadE_i_l S rfl (by omega) rfl rfl rfl ?_ | refine load_o_l S rfl rfl rfl rfl ?_ | refine loadE_o_l S rfl (by omega) rfl rfl rfl ?_ | refine move_o_l S rfl rfl ?_ | refine run_block ?_ | refine run_ret ?_ | refine run_exit ?_ | refine run_cond_true rfl ?_ | refine run_cond_false rfl ?_ | refine thenQ_n ?_ | refine thenQ_r ?_ | refine thenQ_e ?_ | refine blockQ_n ?_ | refine blockQ_r ?_ | refine blockQ_s rfl ?_ | refine blockQ_o rfl ?_ | refine ret1_i rfl ?_ | refine ret1_b rfl ?_ | refine ret1_p rfl ?_ | refine ret1_s rfl ?_ | refine ret1_e rfl ?_ | refine ret1_a rfl ?_ | refine ret1_o rfl ?_ | refine ret1n_i rfl ?_ | refine ret1n_b rfl ?_ | refine ret1n_p rfl ?_ | refine ret1n_s rfl ?_ | refine ret1n_o rfl ?_)
  · exact ⟨by rw [rValue, if_pos (by omega)], S.chg.below⟩
  · exact ⟨by rw [rValue, if_pos (by omega)], S.chg.below⟩
  · exact ⟨by rw [rValue, if_neg (by omega)], S.chg.below⟩
theorem rstripe_at (v : Int) (hl : 0 < R.owns.length) : Calls Try.prog 53 #[.pointer (some ⟨b, 0, none⟩), .int .i64 v] w0 fun e w' => e = .returned (.int .i64 (rStripe R v)) ∧ Below w0.heap.size w0 w' := by
  have S := Sat.reads h
  refine enter1 Try.func53 rfl Try.ntmps53 rfl Try.results53 ?_
  repeat' (first | refine assign_i_l S rfl rfl ?_ | refine move_i_l S rfl rfl ?_ | refine move_p_l S rfl rfl ?_ | refine nilL ?_ | refine run_seq ?_ | refine run_skip ?_ | refine run_region ?_ | refine onL rfl rfl ?_ | refine offL rfl rfl rfl rfl ?_ | refine offL0 rfl rfl rfl ?_ | refine offLU rfl rfl rfl ?_ | refine move_e_l S rfl rfl ?_ | refine nilCheck_l S rfl rfl ?_ | refine nilCheckE_l S rfl (by omega) rfl ?_ | refine fieldAddr_l S rfl rfl rfl ?_ | refine fieldAddrE_l S rfl (by omega) rfl rfl ?_ | refine load_s_l S rfl rfl rfl rfl ?_ | refine loadE_s_l S rfl (by omega) rfl rfl rfl ?_ | refine len_l S rfl rfl ?_ | (refine lss_l S rfl rfl rfl ?_ ?_ <;> intro hcmp <;> try (exfalso; omega)) | refine move_b_l S rfl rfl ?_ | (refine geq_l S rfl rfl rfl ?_ ?_ <;> intro hcmp <;> try (exfalso; omega)) | refine pick_tb_l S rfl rfl rfl ?_ | refine pick_fb_l S rfl rfl rfl ?_ | refine rem_l S rfl rfl (by omega) rfl rfl ?_ | refine move_o_l S rfl rfl ?_ | refine load_o_l S rfl rfl rfl rfl ?_ | refine loadE_o_l S rfl (by omega) rfl rfl rfl ?_ | refine run_block ?_ | refine run_ret ?_ | refine run_exit ?_ | refine run_cond_true rfl ?_ | refine run_cond_false rfl ?_ | refine thenQ_n ?_ | refine thenQ_r ?_ | refine thenQ_e ?_ | refine blockQ_n ?_ | refine blockQ_r ?_ | refine blockQ_s rfl ?_ | refine blockQ_o rfl ?_ | refine ret1_i rfl ?_ | refine ret1_b rfl ?_ | refine ret1_p rfl ?_ | refine ret1_s rfl ?_ | refine ret1_e rfl ?_ | refine ret1_a rfl ?_ | refine ret1_o rfl ?_ | refine ret1n_i rfl ?_ | refine ret1n_b rfl ?_ | refine ret1n_p rfl ?_ | refine ret1n_s rfl ?_ | refine ret1n_o rfl ?_)
  · exact ⟨by rw [rStripe, if_pos (by omega)], S.chg.below⟩
  · exact ⟨by rw [rStripe, if_pos (by omega)], S.chg.below⟩
  · exact ⟨by rw [rStripe, if_neg (by omega), Int.tmod_eq_emod_of_nonneg (by omega)], S.chg.below⟩
theorem rowner_at (s : Int) : Calls Try.prog 54 #[.pointer (some ⟨b, 0, none⟩), .int .i64 s] w0 fun e w' => e = .returned (.int .i64 (rOwner R s)) ∧ Below w0.heap.size w0 w' := by
  have S := Sat.reads h
  refine enter1 Try.func54 rfl Try.ntmps54 rfl Try.results54 ?_
  repeat' (first | refine assign_i_l S rfl rfl ?_ | refine move_p_l S rfl rfl ?_ | refine move_e_l S rfl rfl ?_ | refine nilL ?_ | refine run_seq ?_ | refine run_skip ?_ | refine run_region ?_ | refine move_i_l S rfl rfl ?_ | refine not_l S rfl rfl ?_ | refine nilCheck_l S rfl rfl ?_ | refine nilCheckE_l S rfl (by omega) rfl ?_ | refine fieldAddr_l S rfl rfl rfl ?_ | refine fieldAddrE_l S rfl (by omega) rfl rfl ?_ | refine load_s_l S rfl rfl rfl rfl ?_ | refine loadE_s_l S rfl (by omega) rfl rfl rfl ?_ | refine indexAddr_l S rfl rfl (idx_cast _) (by omega) rfl ?_ | refine indexAddr_l S rfl rfl (idx_eq _) (by omega) rfl ?_ | refine load_i_l S rfl rfl rfl rfl ?_ | refine loadE_i_l S rfl (by omega) rfl rfl rfl ?_ | refine move_o_l S rfl rfl ?_ | refine load_o_l S rfl rfl rfl rfl ?_ | refine loadE_o_l S rfl (by omega) rfl rfl rfl ?_ | refine run_block ?_ | refine run_ret ?_ | refine run_exit ?_ | refine run_cond_true rfl ?_ | refine run_cond_false rfl ?_ | refine thenQ_n ?_ | refine thenQ_r ?_ | refine thenQ_e ?_ | refine blockQ_n ?_ | refine blockQ_r ?_ | refine blockQ_s rfl ?_ | refine blockQ_o rfl ?_ | refine ret1_i rfl ?_ | refine ret1_b rfl ?_ | refine ret1_p rfl ?_ | refine ret1_s rfl ?_ | refine ret1_e rfl ?_ | refine ret1_a rfl ?_ | refine ret1_o rfl ?_ | refine ret1n_i rfl ?_ | refine ret1n_b rfl ?_ | refine ret1n_p rfl ?_ | refine ret1n_s rfl ?_ | refine ret1n_o rfl ?_)
  (refine callL (ris_at S.got s) rfl rfl ?_; rintro e w ⟨rfl, hb⟩; replace S := S.below hb; clear hb; refine ⟨_, rfl, ?_⟩)
  by_cases hs : rIs R s
  · have hs2 := hs
    unfold rIs at hs2
    rw [decide_eq_true hs]
    repeat' (first | refine assign_i_l S rfl rfl ?_ | refine move_p_l S rfl rfl ?_ | refine move_e_l S rfl rfl ?_ | refine nilL ?_ | refine run_seq ?_ | refine run_skip ?_ | refine run_region ?_ | refine move_i_l S rfl rfl ?_ | refine not_l S rfl rfl ?_ | refine nilCheck_l S rfl rfl ?_ | refine nilCheckE_l S rfl (by omega) rfl ?_ | refine fieldAddr_l S rfl rfl rfl ?_ | refine fieldAddrE_l S rfl (by omega) rfl rfl ?_ | refine load_s_l S rfl rfl rfl rfl ?_ | refine loadE_s_l S rfl (by omega) rfl rfl rfl ?_ | refine indexAddr_l S rfl rfl (idx_cast _) (by omega) rfl ?_ | refine indexAddr_l S rfl rfl (idx_eq _) (by omega) rfl ?_ | refine load_i_l S rfl rfl rfl rfl ?_ | refine loadE_i_l S rfl (by omega) rfl rfl rfl ?_ | refine move_o_l S rfl rfl ?_ | refine load_o_l S rfl rfl rfl rfl ?_ | refine loadE_o_l S rfl (by omega) rfl rfl rfl ?_ | refine run_block ?_ | refine run_ret ?_ | refine run_exit ?_ | refine run_cond_true rfl ?_ | refine run_cond_false rfl ?_ | refine thenQ_n ?_ | refine thenQ_r ?_ | refine thenQ_e ?_ | refine blockQ_n ?_ | refine blockQ_r ?_ | refine blockQ_s rfl ?_ | refine blockQ_o rfl ?_ | refine ret1_i rfl ?_ | refine ret1_b rfl ?_ | refine ret1_p rfl ?_ | refine ret1_s rfl ?_ | refine ret1_e rfl ?_ | refine ret1_a rfl ?_ | refine ret1_o rfl ?_ | refine ret1n_i rfl ?_ | refine ret1n_b rfl ?_ | refine ret1n_p rfl ?_ | refine ret1n_s rfl ?_ | refine ret1n_o rfl ?_)
    exact ⟨by rw [rOwner, if_pos hs], S.chg.below⟩
  · rw [decide_eq_false hs]
    repeat' (first | refine assign_i_l S rfl rfl ?_ | refine move_p_l S rfl rfl ?_ | refine move_e_l S rfl rfl ?_ | refine nilL ?_ | refine run_seq ?_ | refine run_skip ?_ | refine run_region ?_ | refine move_i_l S rfl rfl ?_ | refine not_l S rfl rfl ?_ | refine nilCheck_l S rfl rfl ?_ | refine nilCheckE_l S rfl (by omega) rfl ?_ | refine fieldAddr_l S rfl rfl rfl ?_ | refine fieldAddrE_l S rfl (by omega) rfl rfl ?_ | refine load_s_l S rfl rfl rfl rfl ?_ | refine loadE_s_l S rfl (by omega) rfl rfl rfl ?_ | refine indexAddr_l S rfl rfl (idx_cast _) (by omega) rfl ?_ | refine indexAddr_l S rfl rfl (idx_eq _) (by omega) rfl ?_ | refine load_i_l S rfl rfl rfl rfl ?_ | refine loadE_i_l S rfl (by omega) rfl rfl rfl ?_ | refine move_o_l S rfl rfl ?_ | refine load_o_l S rfl rfl rfl rfl ?_ | refine loadE_o_l S rfl (by omega) rfl rfl rfl ?_ | refine run_block ?_ | refine run_ret ?_ | refine run_exit ?_ | refine run_cond_true rfl ?_ | refine run_cond_false rfl ?_ | refine thenQ_n ?_ | refine thenQ_r ?_ | refine thenQ_e ?_ | refine blockQ_n ?_ | refine blockQ_r ?_ | refine blockQ_s rfl ?_ | refine blockQ_o rfl ?_ | refine ret1_i rfl ?_ | refine ret1_b rfl ?_ | refine ret1_p rfl ?_ | refine ret1_s rfl ?_ | refine ret1_e rfl ?_ | refine ret1_a rfl ?_ | refine ret1_o rfl ?_ | refine ret1n_i rfl ?_ | refine ret1n_b rfl ?_ | refine ret1n_p rfl ?_ | refine ret1n_s rfl ?_ | refine ret1n_o rfl ?_)
    exact ⟨by rw [rOwner, if_neg hs], S.chg.below⟩
theorem rversion_at (s : Int) (hl : R.vers.length = R.owns.length) : Calls Try.prog 55 #[.pointer (some ⟨b, 0, none⟩), .int .i64 s] w0 fun e w' => e = .returned (.int .i64 (rVersion R s)) ∧ Below w0.heap.size w0 w' := by
  have S := Sat.reads h
  refine enter1 Try.func55 rfl Try.ntmps55 rfl Try.results55 ?_
  repeat' (first | refine assign_i_l S rfl rfl ?_ | refine move_p_l S rfl rfl ?_ | refine move_e_l S rfl rfl ?_ | refine nilL ?_ | refine run_seq ?_ | refine run_skip ?_ | refine run_region ?_ | refine move_i_l S rfl rfl ?_ | refine not_l S rfl rfl ?_ | refine nilCheck_l S rfl rfl ?_ | refine nilCheckE_l S rfl (by omega) rfl ?_ | refine fieldAddr_l S rfl rfl rfl ?_ | refine fieldAddrE_l S rfl (by omega) rfl rfl ?_ | refine load_s_l S rfl rfl rfl rfl ?_ | refine loadE_s_l S rfl (by omega) rfl rfl rfl ?_ | refine indexAddr_l S rfl rfl (idx_cast _) (by omega) rfl ?_ | refine indexAddr_l S rfl rfl (idx_eq _) (by omega) rfl ?_ | refine load_i_l S rfl rfl rfl rfl ?_ | refine loadE_i_l S rfl (by omega) rfl rfl rfl ?_ | refine move_o_l S rfl rfl ?_ | refine load_o_l S rfl rfl rfl rfl ?_ | refine loadE_o_l S rfl (by omega) rfl rfl rfl ?_ | refine run_block ?_ | refine run_ret ?_ | refine run_exit ?_ | refine run_cond_true rfl ?_ | refine run_cond_false rfl ?_ | refine thenQ_n ?_ | refine thenQ_r ?_ | refine thenQ_e ?_ | refine blockQ_n ?_ | refine blockQ_r ?_ | refine blockQ_s rfl ?_ | refine blockQ_o rfl ?_ | refine ret1_i rfl ?_ | refine ret1_b rfl ?_ | refine ret1_p rfl ?_ | refine ret1_s rfl ?_ | refine ret1_e rfl ?_ | refine ret1_a rfl ?_ | refine ret1_o rfl ?_ | refine ret1n_i rfl ?_ | refine ret1n_b rfl ?_ | refine ret1n_p rfl ?_ | refine ret1n_s rfl ?_ | refine ret1n_o rfl ?_)
  (refine callL (ris_at S.got s) rfl rfl ?_; rintro e w ⟨rfl, hb⟩; replace S := S.below hb; clear hb; refine ⟨_, rfl, ?_⟩)
  by_cases hs : rIs R s
  · have hs2 := hs
    unfold rIs at hs2
    rw [decide_eq_true hs]
    repeat' (first | refine assign_i_l S rfl rfl ?_ | refine move_p_l S rfl rfl ?_ | refine move_e_l S rfl rfl ?_ | refine nilL ?_ | refine run_seq ?_ | refine run_skip ?_ | refine run_region ?_ | refine move_i_l S rfl rfl ?_ | refine not_l S rfl rfl ?_ | refine nilCheck_l S rfl rfl ?_ | refine nilCheckE_l S rfl (by omega) rfl ?_ | refine fieldAddr_l S rfl rfl rfl ?_ | refine fieldAddrE_l S rfl (by omega) rfl rfl ?_ | refine load_s_l S rfl rfl rfl rfl ?_ | refine loadE_s_l S rfl (by omega) rfl rfl rfl ?_ | refine indexAddr_l S rfl rfl (idx_cast _) (by omega) rfl ?_ | refine indexAddr_l S rfl rfl (idx_eq _) (by omega) rfl ?_ | refine load_i_l S rfl rfl rfl rfl ?_ | refine loadE_i_l S rfl (by omega) rfl rfl rfl ?_ | refine move_o_l S rfl rfl ?_ | refine load_o_l S rfl rfl rfl rfl ?_ | refine loadE_o_l S rfl (by omega) rfl rfl rfl ?_ | refine run_block ?_ | refine run_ret ?_ | refine run_exit ?_ | refine run_cond_true rfl ?_ | refine run_cond_false rfl ?_ | refine thenQ_n ?_ | refine thenQ_r ?_ | refine thenQ_e ?_ | refine blockQ_n ?_ | refine blockQ_r ?_ | refine blockQ_s rfl ?_ | refine blockQ_o rfl ?_ | refine ret1_i rfl ?_ | refine ret1_b rfl ?_ | refine ret1_p rfl ?_ | refine ret1_s rfl ?_ | refine ret1_e rfl ?_ | refine ret1_a rfl ?_ | refine ret1_o rfl ?_ | refine ret1n_i rfl ?_ | refine ret1n_b rfl ?_ | refine ret1n_p rfl ?_ | refine ret1n_s rfl ?_ | refine ret1n_o rfl ?_)
    exact ⟨by rw [rVersion, if_pos hs], S.chg.below⟩
  · rw [decide_eq_false hs]
    repeat' (first | refine assign_i_l S rfl rfl ?_ | refine move_p_l S rfl rfl ?_ | refine move_e_l S rfl rfl ?_ | refine nilL ?_ | refine run_seq ?_ | refine run_skip ?_ | refine run_region ?_ | refine move_i_l S rfl rfl ?_ | refine not_l S rfl rfl ?_ | refine nilCheck_l S rfl rfl ?_ | refine nilCheckE_l S rfl (by omega) rfl ?_ | refine fieldAddr_l S rfl rfl rfl ?_ | refine fieldAddrE_l S rfl (by omega) rfl rfl ?_ | refine load_s_l S rfl rfl rfl rfl ?_ | refine loadE_s_l S rfl (by omega) rfl rfl rfl ?_ | refine indexAddr_l S rfl rfl (idx_cast _) (by omega) rfl ?_ | refine indexAddr_l S rfl rfl (idx_eq _) (by omega) rfl ?_ | refine load_i_l S rfl rfl rfl rfl ?_ | refine loadE_i_l S rfl (by omega) rfl rfl rfl ?_ | refine move_o_l S rfl rfl ?_ | refine load_o_l S rfl rfl rfl rfl ?_ | refine loadE_o_l S rfl (by omega) rfl rfl rfl ?_ | refine run_block ?_ | refine run_ret ?_ | refine run_exit ?_ | refine run_cond_true rfl ?_ | refine run_cond_false rfl ?_ | refine thenQ_n ?_ | refine thenQ_r ?_ | refine thenQ_e ?_ | refine blockQ_n ?_ | refine blockQ_r ?_ | refine blockQ_s rfl ?_ | refine blockQ_o rfl ?_ | refine ret1_i rfl ?_ | refine ret1_b rfl ?_ | refine ret1_p rfl ?_ | refine ret1_s rfl ?_ | refine ret1_e rfl ?_ | refine ret1_a rfl ?_ | refine ret1_o rfl ?_ | refine ret1n_i rfl ?_ | refine ret1n_b rfl ?_ | refine ret1n_p rfl ?_ | refine ret1n_s rfl ?_ | refine ret1n_o rfl ?_)
    exact ⟨by rw [rVersion, if_neg hs], S.chg.below⟩
end
end Go.Proofs.Yteojbchdkidibaa
