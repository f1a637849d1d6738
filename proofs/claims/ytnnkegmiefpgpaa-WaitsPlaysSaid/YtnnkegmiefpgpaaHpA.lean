/- heap: what lies there; the small methods. -/
import Derived.Test.YtnnkegmiefpgpaaGen
import Derived.Test.YtnnkegmiefpgpaaFacts
namespace Go.Proofs.Ytnnkegmiefpgpaa
open Go.RowKit Go.Lib
set_option linter.unusedVariables false
/-- A heap. -/
structure HeapS where
  locks : List (Int × Int)
  clock : Int
  limit : Int
  vals : List Int
def encP (p : Int × Int) : Nat → Value := fun j => match j with | 0 => .int .i64 p.1 | _ => .int .i64 p.2
instance plainP : Plain encP := ⟨fun z j => by cases j <;> rfl⟩
def heapC (ga va : Option Addr) (gc vc : Nat) (H : HeapS) : Tm := fun i => match i with
  | 0 => .slice ga H.locks.length gc | 1 => .int .i64 H.clock | 2 => .int .i64 H.limit | _ => .slice va H.vals.length vc
abbrev locksR (ga : Option Addr) (gc : Nat) (l : List (Int × Int)) : Res := rowL ga gc 99 2 encP (0, 0) l
abbrev valsR (va : Option Addr) (vc : Nat) (l : List Int) : Res := rowL va vc 2 1 encI 0 l
def heapR (b : Nat) (ga va : Option Addr) (gc vc : Nat) (H : HeapS) : Res where
  foot k := k = b ∨ (∃ x, ga = some x ∧ x.block = k) ∨ (∃ x, va = some x ∧ x.block = k)
  ro := false
  holds w := ((blk b 4 (heapC ga va gc vc H) 104).holds w ∧ (locksR ga gc H.locks).holds w ∧ (valsR va vc H.vals).holds w) ∧
    ((∀ x, ga = some x → x.block ≠ b) ∧ (∀ x, va = some x → x.block ≠ b) ∧ ∀ x y, ga = some x → va = some y → x.block ≠ y.block)
  lt w k h e := by
    rcases e with rfl | e | e
    · exact lt_of_heap h.1.1
    · exact (locksR ga gc H.locks).lt w k h.1.2.1 e
    · exact (valsR va vc H.vals).lt w k h.1.2.2 e
  loc w w' h e := ⟨⟨(blk b 4 (heapC ga va gc vc H) 104).loc w w' h.1.1 (fun k hk => e k (.inl hk)), (locksR ga gc H.locks).loc w w' h.1.2.1 (fun k hk => e k (.inr (.inl hk))), (valsR va vc H.vals).loc w w' h.1.2.2 (fun k hk => e k (.inr (.inr hk)))⟩, h.2⟩
abbrev heapL (b : Nat) (ga va : Option Addr) (gc vc : Nat) (H : HeapS) : List Res := [blk b 4 (heapC ga va gc vc H) 104, locksR ga gc H.locks, valsR va vc H.vals]
/-- Nothing that was there is another one: if the resources may change, but did not. -/
theorem heap_open {b : Nat} {ga va : Option Addr} {gc vc : Nat} {H : HeapS} {w : World} (h : (heapR b ga va gc vc H).holds w) : Sat (heapR b ga va gc vc H).foot w w (heapL b ga va gc vc H) := by
  obtain ⟨⟨h1, h2, h3⟩, h4, h5, h6⟩ := h
  refine ((((Sat.start _ w).push (r := valsR va vc H.vals) h3 (by simp) (fun _ k hk _ => .inr (.inr hk))).push (r := locksR ga gc H.locks) h2 ?_ (fun _ k hk _ => .inr (.inl hk))).push (r := blk b 4 (heapC ga va gc vc H) 104) h1 ?_ (fun _ k hk _ => .inl hk))
  · intro x hx
    obtain rfl : x = valsR va vc H.vals := by simpa using hx
    exact .inr fun k ⟨y, hy, e⟩ ⟨z, hz, e'⟩ => h6 y z hy hz (e.trans e'.symm)
  · intro x hx
    simp only [List.mem_cons, List.not_mem_nil, or_false] at hx
    rcases hx with rfl | rfl
    · exact .inr fun k e ⟨y, hy, e'⟩ => h4 y hy (e'.trans e)
    · exact .inr fun k e ⟨y, hy, e'⟩ => h5 y hy (e'.trans e)
theorem heap_shut {S : Nat → Prop} {w₀ w : World} {b : Nat} {ga va : Option Addr} {gc vc : Nat} {H : HeapS} (h : Sat S w₀ w (heapL b ga va gc vc H)) : (heapR b ga va gc vc H).holds w := by
  have a1 := h.all _ (List.mem_cons_self ..)
  have a2 := h.all (locksR ga gc H.locks) (by simp)
  have a3 := h.all (valsR va vc H.vals) (by simp)
  have s := h.sep
  simp only [List.pairwise_cons, List.mem_cons, List.not_mem_nil, or_false, forall_eq_or_imp, forall_eq] at s
  obtain ⟨⟨s1, s2⟩, s3, _⟩ := s
  refine ⟨⟨a1, a2, a3⟩, fun x hx e => ?_, fun x hx e => ?_, fun x y hx hy e => ?_⟩
  · rcases s1 with h | h
    · cases h.1
    · exact h b rfl ⟨x, hx, e⟩
  · rcases s2 with h | h
    · cases h.1
    · exact h b rfl ⟨x, hx, e⟩
  · rcases s3 with h | h
    · cases h.1
    · exact h x.block ⟨x, hx, rfl⟩ ⟨y, hy, e.symm⟩
section
variable (L : List Res) (b : Nat) (ga va : Option Addr) (gc vc : Nat) (H : HeapS)
instance heap_B : PickB (heapR b ga va gc vc H :: L) b 4 (heapC ga va gc vc H) 104 := ⟨fun w h => (h (heapR b ga va gc vc H) (List.mem_cons_self ..)).1.1⟩
instance heap_Sl : PickSl (heapR b ga va gc vc H :: L) ga H.locks.length gc 2 (gL encP (0, 0) H.locks) := ⟨fun w h => RowOk.sl (h (heapR b ga va gc vc H) (List.mem_cons_self ..)).1.2.1⟩
instance heap_E : PickE (heapR b ga va gc vc H :: L) ga H.locks.length gc 2 (gL encP (0, 0) H.locks) := ⟨fun w h => RowOk.sl (h (heapR b ga va gc vc H) (List.mem_cons_self ..)).1.2.1⟩
instance heap_L : PickL (heapR b ga va gc vc H :: L) ga gc 2 encP (0, 0) H.locks := ⟨fun w h => RowOk.sl (h (heapR b ga va gc vc H) (List.mem_cons_self ..)).1.2.1⟩
instance heap_SlV : PickSl (heapR b ga va gc vc H :: L) va H.vals.length vc 1 (gL encI 0 H.vals) := ⟨fun w h => RowOk.sl (h (heapR b ga va gc vc H) (List.mem_cons_self ..)).1.2.2⟩
instance heap_EV : PickE (heapR b ga va gc vc H :: L) va H.vals.length vc 1 (gL encI 0 H.vals) := ⟨fun w h => RowOk.sl (h (heapR b ga va gc vc H) (List.mem_cons_self ..)).1.2.2⟩
instance heap_LV : PickL (heapR b ga va gc vc H :: L) va vc 1 encI 0 H.vals := ⟨fun w h => RowOk.sl (h (heapR b ga va gc vc H) (List.mem_cons_self ..)).1.2.2⟩
end
section
variable {b : Nat} {ga va : Option Addr} {gc vc : Nat} {H : HeapS} {w0 : World} (h : (heapR b ga va gc vc H).holds w0)
include h
theorem heap_small : H.locks.length ≤ 9223372036854775807 ∧ H.vals.length ≤ 9223372036854775807 :=
  ⟨(RowOk.sl h.1.2.1).small, (RowOk.sl h.1.2.2).small⟩
theorem clock_at : Calls Try.prog 33 #[.pointer (some ⟨b, 0, none⟩)] w0 fun e w' => e = .returned (.int .i64 H.clock) ∧ Below w0.heap.size w0 w' := by
  have S := Sat.reads h
  refine enter1 Try.func33 rfl Try.ntmps33 rfl Try.results33 ?_
  repeat' (first | refine assign_i_l S rfl rfl ?_ | refine move_p_l S rfl rfl ?_ | refine move_e_l S rfl rfl ?_ | refine nilL ?_ | refine run_seq ?_ | refine run_skip ?_ | refine run_region ?_ | refine fieldAddr_l S rfl rfl rfl ?_ | refine fieldAddrE_l S rfl (by first | omega | decide | (simp; done) | (simp; omega)) rfl rfl ?_ | refine eqlP_l S rfl rfl rfl ?_ | refine eqlE_l S rfl rfl (by omega) rfl ?_ | refine nilCheck_l S rfl rfl ?_ | refine nilCheckE_l S rfl (by first | omega | decide | (simp; done) | (simp; omega)) rfl ?_ | refine load_i_l S rfl rfl rfl rfl ?_ | refine loadE_i_l S rfl (by first | omega | decide | (simp; done) | (simp; omega)) rfl rfl rfl ?_ | refine move_o_l S rfl rfl ?_ | refine load_o_l S rfl rfl rfl rfl ?_ | refine loadE_o_l S rfl (by first | omega | decide | (simp; done) | (simp; omega)) rfl rfl rfl ?_ | refine run_block ?_ | refine run_ret ?_ | refine run_exit ?_ | refine run_cond_true rfl ?_ | refine run_cond_false rfl ?_ | refine thenQ_n ?_ | refine thenQ_r ?_ | refine thenQ_e ?_ | refine blockQ_n ?_ | refine blockQ_r ?_ | refine blockQ_s rfl ?_ | refine blockQ_o rfl ?_ | refine ret1_i rfl ?_ | refine ret1_b rfl ?_ | refine ret1_p rfl ?_ | refine ret1_s rfl ?_ | refine ret1_e rfl ?_ | refine ret1_a rfl ?_ | refine ret1_o rfl ?_ | refine ret1n_i rfl ?_ | refine ret1n_b rfl ?_ | refine ret1n_p rfl ?_ | refine ret1n_s rfl ?_ | refine ret1n_o rfl ?_)
  exact ⟨rfl, Below.refl _ _⟩
theorem stripes_at : Calls Try.prog 87 #[.pointer (some ⟨b, 0, none⟩)] w0 fun e w' => e = .returned (.int .i64 H.locks.length) ∧ Below w0.heap.size w0 w' := by
  have S := Sat.reads h
  refine enter1 Try.func87 rfl Try.ntmps87 rfl Try.results87 ?_
  repeat' (first | refine assign_i_l S rfl rfl ?_ | refine move_p_l S rfl rfl ?_ | refine move_e_l S rfl rfl ?_ | refine nilL ?_ | refine run_seq ?_ | refine run_skip ?_ | refine run_region ?_ | refine fieldAddr_l S rfl rfl rfl ?_ | refine fieldAddrE_l S rfl (by first | omega | decide | (simp; done) | (simp; omega)) rfl rfl ?_ | refine eqlP_l S rfl rfl rfl ?_ | refine eqlE_l S rfl rfl (by omega) rfl ?_ | refine nilCheck_l S rfl rfl ?_ | refine nilCheckE_l S rfl (by first | omega | decide | (simp; done) | (simp; omega)) rfl ?_ | refine load_s_l S rfl rfl rfl rfl ?_ | refine loadE_s_l S rfl (by first | omega | decide | (simp; done) | (simp; omega)) rfl rfl rfl ?_ | refine len_l S rfl rfl ?_ | refine move_o_l S rfl rfl ?_ | refine load_o_l S rfl rfl rfl rfl ?_ | refine loadE_o_l S rfl (by first | omega | decide | (simp; done) | (simp; omega)) rfl rfl rfl ?_ | refine run_block ?_ | refine run_ret ?_ | refine run_exit ?_ | refine run_cond_true rfl ?_ | refine run_cond_false rfl ?_ | refine thenQ_n ?_ | refine thenQ_r ?_ | refine thenQ_e ?_ | refine blockQ_n ?_ | refine blockQ_r ?_ | refine blockQ_s rfl ?_ | refine blockQ_o rfl ?_ | refine ret1_i rfl ?_ | refine ret1_b rfl ?_ | refine ret1_p rfl ?_ | refine ret1_s rfl ?_ | refine ret1_e rfl ?_ | refine ret1_a rfl ?_ | refine ret1_o rfl ?_ | refine ret1n_i rfl ?_ | refine ret1n_b rfl ?_ | refine ret1n_p rfl ?_ | refine ret1n_s rfl ?_ | refine ret1n_o rfl ?_)
  exact ⟨rfl, Below.refl _ _⟩
def stripeV (H : HeapS) (v : Int) : Int := if v < 0 ∨ H.vals.length ≤ v then -1 else v % H.locks.length
/-- A value, if there is one. -/
def valueV (H : HeapS) (v : Int) : Int := if v < 0 ∨ H.vals.length ≤ v then 0 else H.vals.getD v.toNat 0
/-- There is such a stripe. -/
def isS (H : HeapS) (s : Int) : Prop := 0 ≤ s ∧ s < H.locks.length
theorem at_yes (s : Int) (hs : isS H s) : Calls Try.prog 72 #[.pointer (some ⟨b, 0, none⟩), .int .i64 s] w0 fun e w' => e = .returned (ePtr ga s.toNat 2 0) ∧ Below w0.heap.size w0 w' := by
  unfold isS at hs
  have S := Sat.reads h
  refine enter1 Try.func72 rfl Try.ntmps72 rfl Try.results72 ?_
  repeat' (first | refine assign_p_l S rfl rfl ?_ | refine assign_e_l S rfl rfl ?_ | refine move_i_l S rfl rfl ?_ | refine nilL ?_ | refine run_seq ?_ | refine run_skip ?_ | refine run_region ?_ | refine onL rfl rfl ?_ | refine offL rfl rfl rfl rfl ?_ | refine offL0 rfl rfl rfl ?_ | refine offLU rfl rfl rfl ?_ | refine move_p_l S rfl rfl ?_ | refine move_e_l S rfl rfl ?_ | refine nilCheck_l S rfl rfl ?_ | refine nilCheckE_l S rfl (by first | omega | decide | (simp; done) | (simp; omega)) rfl ?_ | refine fieldAddr_l S rfl rfl rfl ?_ | refine fieldAddrE_l S rfl (by first | omega | decide | (simp; done) | (simp; omega)) rfl rfl ?_ | refine load_s_l S rfl rfl rfl rfl ?_ | refine loadE_s_l S rfl (by first | omega | decide | (simp; done) | (simp; omega)) rfl rfl rfl ?_ | (refine lss_l S rfl rfl rfl ?_ ?_ <;> intro hcmp <;> try (exfalso; first | omega | exact hcmp (by decide) | exact absurd hcmp (by decide))) | refine move_b_l S rfl rfl ?_ | refine len_l S rfl rfl ?_ | (refine geq_l S rfl rfl rfl ?_ ?_ <;> intro hcmp <;> try (exfalso; first | omega | exact hcmp (by decide) | exact absurd hcmp (by decide))) | refine pick_tb_l S rfl rfl rfl ?_ | refine pick_fb_l S rfl rfl rfl ?_ | refine indexAddr_l S rfl rfl (idx_cast _) (by first | omega | decide | (simp; done) | (simp; omega)) rfl ?_ | refine indexAddr_l S rfl rfl (idx_eq _) (by first | omega | decide | (simp; done) | (simp; omega)) rfl ?_ | refine assign_o_l S rfl rfl ?_ | refine move_o_l S rfl rfl ?_ | refine load_o_l S rfl rfl rfl rfl ?_ | refine loadE_o_l S rfl (by first | omega | decide | (simp; done) | (simp; omega)) rfl rfl rfl ?_ | refine run_block ?_ | refine run_ret ?_ | refine run_exit ?_ | refine run_cond_true rfl ?_ | refine run_cond_false rfl ?_ | refine thenQ_n ?_ | refine thenQ_r ?_ | refine thenQ_e ?_ | refine blockQ_n ?_ | refine blockQ_r ?_ | refine blockQ_s rfl ?_ | refine blockQ_o rfl ?_ | refine ret1_i rfl ?_ | refine ret1_b rfl ?_ | refine ret1_p rfl ?_ | refine ret1_s rfl ?_ | refine ret1_e rfl ?_ | refine ret1_a rfl ?_ | refine ret1_o rfl ?_ | refine ret1n_i rfl ?_ | refine ret1n_b rfl ?_ | refine ret1n_p rfl ?_ | refine ret1n_s rfl ?_ | refine ret1n_o rfl ?_)
  exact ⟨rfl, S.chg.below⟩
theorem at_no (s : Int) (hs : ¬ isS H s) : Calls Try.prog 72 #[.pointer (some ⟨b, 0, none⟩), .int .i64 s] w0 fun e w' => e = .returned (.pointer none) ∧ Below w0.heap.size w0 w' := by
  unfold isS at hs
  have S := Sat.reads h
  refine enter1 Try.func72 rfl Try.ntmps72 rfl Try.results72 ?_
  repeat' (first | refine assign_p_l S rfl rfl ?_ | refine assign_e_l S rfl rfl ?_ | refine move_i_l S rfl rfl ?_ | refine nilL ?_ | refine run_seq ?_ | refine run_skip ?_ | refine run_region ?_ | refine onL rfl rfl ?_ | refine offL rfl rfl rfl rfl ?_ | refine offL0 rfl rfl rfl ?_ | refine offLU rfl rfl rfl ?_ | refine move_p_l S rfl rfl ?_ | refine move_e_l S rfl rfl ?_ | refine nilCheck_l S rfl rfl ?_ | refine nilCheckE_l S rfl (by first | omega | decide | (simp; done) | (simp; omega)) rfl ?_ | refine fieldAddr_l S rfl rfl rfl ?_ | refine fieldAddrE_l S rfl (by first | omega | decide | (simp; done) | (simp; omega)) rfl rfl ?_ | refine load_s_l S rfl rfl rfl rfl ?_ | refine loadE_s_l S rfl (by first | omega | decide | (simp; done) | (simp; omega)) rfl rfl rfl ?_ | (refine lss_l S rfl rfl rfl ?_ ?_ <;> intro hcmp <;> try (exfalso; first | omega | exact hcmp (by decide) | exact absurd hcmp (by decide))) | refine move_b_l S rfl rfl ?_ | refine len_l S rfl rfl ?_ | (refine geq_l S rfl rfl rfl ?_ ?_ <;> intro hcmp <;> try (exfalso; first | omega | exact hcmp (by decide) | exact absurd hcmp (by decide))) | refine pick_tb_l S rfl rfl rfl ?_ | refine pick_fb_l S rfl rfl rfl ?_ | refine indexAddr_l S rfl rfl (idx_cast _) (by first | omega | decide | (simp; done) | (simp; omega)) rfl ?_ | refine indexAddr_l S rfl rfl (idx_eq _) (by first | omega | decide | (simp; done) | (simp; omega)) rfl ?_ | refine assign_o_l S rfl rfl ?_ | refine move_o_l S rfl rfl ?_ | refine load_o_l S rfl rfl rfl rfl ?_ | refine loadE_o_l S rfl (by first | omega | decide | (simp; done) | (simp; omega)) rfl rfl rfl ?_ | refine run_block ?_ | refine run_ret ?_ | refine run_exit ?_ | refine run_cond_true rfl ?_ | refine run_cond_false rfl ?_ | refine thenQ_n ?_ | refine thenQ_r ?_ | refine thenQ_e ?_ | refine blockQ_n ?_ | refine blockQ_r ?_ | refine blockQ_s rfl ?_ | refine blockQ_o rfl ?_ | refine ret1_i rfl ?_ | refine ret1_b rfl ?_ | refine ret1_p rfl ?_ | refine ret1_s rfl ?_ | refine ret1_e rfl ?_ | refine ret1_a rfl ?_ | refine ret1_o rfl ?_ | refine ret1n_i rfl ?_ | refine ret1n_b rfl ?_ | refine ret1n_p rfl ?_ | refine ret1n_s rfl ?_ | refine ret1n_o rfl ?_)
  all_goals exact ⟨rfl, S.chg.below⟩
theorem lock_yes (s : Int) (hs : isS H s) : Calls Try.prog 45 #[.pointer (some ⟨b, 0, none⟩), .int .i64 s] w0 fun e w' => e = .returned (ePtr ga s.toNat 2 0) ∧ Below w0.heap.size w0 w' := by
  have S := Sat.reads h
  refine enter1 Try.func45 rfl Try.ntmps45 rfl Try.results45 ?_
  repeat' (first | refine assign_p_l S rfl rfl ?_ | refine assign_e_l S rfl rfl ?_ | refine move_p_l S rfl rfl ?_ | refine nilL ?_ | refine run_seq ?_ | refine run_skip ?_ | refine run_region ?_ | refine move_e_l S rfl rfl ?_ | refine eqlP_l S rfl rfl rfl ?_ | refine eqlE_l S rfl rfl (by omega) rfl ?_ | refine nilCheck_l S rfl rfl ?_ | refine nilCheckE_l S rfl (by first | omega | decide | (simp; done) | (simp; omega)) rfl ?_ | refine fieldAddr_l S rfl rfl rfl ?_ | refine fieldAddrE_l S rfl (by first | omega | decide | (simp; done) | (simp; omega)) rfl rfl ?_ | refine move_i_l S rfl rfl ?_ | refine assign_o_l S rfl rfl ?_ | refine move_o_l S rfl rfl ?_ | refine run_block ?_ | refine run_ret ?_ | refine run_exit ?_ | refine run_cond_true rfl ?_ | refine run_cond_false rfl ?_ | refine thenQ_n ?_ | refine thenQ_r ?_ | refine thenQ_e ?_ | refine blockQ_n ?_ | refine blockQ_r ?_ | refine blockQ_s rfl ?_ | refine blockQ_o rfl ?_ | refine ret1_i rfl ?_ | refine ret1_b rfl ?_ | refine ret1_p rfl ?_ | refine ret1_s rfl ?_ | refine ret1_e rfl ?_ | refine ret1_a rfl ?_ | refine ret1_o rfl ?_ | refine ret1n_i rfl ?_ | refine ret1n_b rfl ?_ | refine ret1n_p rfl ?_ | refine ret1n_s rfl ?_ | refine ret1n_o rfl ?_)
  (refine callL (at_yes (S.got) s hs) rfl rfl ?_; rintro e w ⟨rfl, hb⟩; replace S := S.below hb; clear hb; refine ⟨_, rfl, ?_⟩)
  repeat' (first | refine assign_p_l S rfl rfl ?_ | refine assign_e_l S rfl rfl ?_ | refine move_p_l S rfl rfl ?_ | refine nilL ?_ | refine run_seq ?_ | refine run_skip ?_ | refine run_region ?_ | refine move_e_l S rfl rfl ?_ | refine eqlP_l S rfl rfl rfl ?_ | refine eqlE_l S rfl rfl (by omega) rfl ?_ | refine nilCheck_l S rfl rfl ?_ | refine nilCheckE_l S rfl (by first | omega | decide | (simp; done) | (simp; omega)) rfl ?_ | refine fieldAddr_l S rfl rfl rfl ?_ | refine fieldAddrE_l S rfl (by first | omega | decide | (simp; done) | (simp; omega)) rfl rfl ?_ | refine move_i_l S rfl rfl ?_ | refine assign_o_l S rfl rfl ?_ | refine move_o_l S rfl rfl ?_ | refine run_block ?_ | refine run_ret ?_ | refine run_exit ?_ | refine run_cond_true rfl ?_ | refine run_cond_false rfl ?_ | refine thenQ_n ?_ | refine thenQ_r ?_ | refine thenQ_e ?_ | refine blockQ_n ?_ | refine blockQ_r ?_ | refine blockQ_s rfl ?_ | refine blockQ_o rfl ?_ | refine ret1_i rfl ?_ | refine ret1_b rfl ?_ | refine ret1_p rfl ?_ | refine ret1_s rfl ?_ | refine ret1_e rfl ?_ | refine ret1_a rfl ?_ | refine ret1_o rfl ?_ | refine ret1n_i rfl ?_ | refine ret1n_b rfl ?_ | refine ret1n_p rfl ?_ | refine ret1n_s rfl ?_ | refine ret1n_o rfl ?_)
  exact ⟨rfl, S.chg.below⟩
theorem lock_no (s : Int) (hs : ¬ isS H s) : Calls Try.prog 45 #[.pointer (some ⟨b, 0, none⟩), .int .i64 s] w0 fun e w' => e = .returned (.pointer none) ∧ Below w0.heap.size w0 w' := by
  have S := Sat.reads h
  refine enter1 Try.func45 rfl Try.ntmps45 rfl Try.results45 ?_
  repeat' (first | refine assign_p_l S rfl rfl ?_ | refine assign_e_l S rfl rfl ?_ | refine move_p_l S rfl rfl ?_ | refine nilL ?_ | refine run_seq ?_ | refine run_skip ?_ | refine run_region ?_ | refine move_e_l S rfl rfl ?_ | refine eqlP_l S rfl rfl rfl ?_ | refine eqlE_l S rfl rfl (by omega) rfl ?_ | refine nilCheck_l S rfl rfl ?_ | refine nilCheckE_l S rfl (by first | omega | decide | (simp; done) | (simp; omega)) rfl ?_ | refine fieldAddr_l S rfl rfl rfl ?_ | refine fieldAddrE_l S rfl (by first | omega | decide | (simp; done) | (simp; omega)) rfl rfl ?_ | refine move_i_l S rfl rfl ?_ | refine assign_o_l S rfl rfl ?_ | refine move_o_l S rfl rfl ?_ | refine run_block ?_ | refine run_ret ?_ | refine run_exit ?_ | refine run_cond_true rfl ?_ | refine run_cond_false rfl ?_ | refine thenQ_n ?_ | refine thenQ_r ?_ | refine thenQ_e ?_ | refine blockQ_n ?_ | refine blockQ_r ?_ | refine blockQ_s rfl ?_ | refine blockQ_o rfl ?_ | refine ret1_i rfl ?_ | refine ret1_b rfl ?_ | refine ret1_p rfl ?_ | refine ret1_s rfl ?_ | refine ret1_e rfl ?_ | refine ret1_a rfl ?_ | refine ret1_o rfl ?_ | refine ret1n_i rfl ?_ | refine ret1n_b rfl ?_ | refine ret1n_p rfl ?_ | refine ret1n_s rfl ?_ | refine ret1n_o rfl ?_)
  (refine callL (at_no (S.got) s hs) rfl rfl ?_; rintro e w ⟨rfl, hb⟩; replace S := S.below hb; clear hb; refine ⟨_, rfl, ?_⟩)
  repeat' (first | refine assign_p_l S rfl rfl ?_ | refine assign_e_l S rfl rfl ?_ | refine move_p_l S rfl rfl ?_ | refine nilL ?_ | refine run_seq ?_ | refine run_skip ?_ | refine run_region ?_ | refine move_e_l S rfl rfl ?_ | refine eqlP_l S rfl rfl rfl ?_ | refine eqlE_l S rfl rfl (by omega) rfl ?_ | refine nilCheck_l S rfl rfl ?_ | refine nilCheckE_l S rfl (by first | omega | decide | (simp; done) | (simp; omega)) rfl ?_ | refine fieldAddr_l S rfl rfl rfl ?_ | refine fieldAddrE_l S rfl (by first | omega | decide | (simp; done) | (simp; omega)) rfl rfl ?_ | refine move_i_l S rfl rfl ?_ | refine assign_o_l S rfl rfl ?_ | refine move_o_l S rfl rfl ?_ | refine run_block ?_ | refine run_ret ?_ | refine run_exit ?_ | refine run_cond_true rfl ?_ | refine run_cond_false rfl ?_ | refine thenQ_n ?_ | refine thenQ_r ?_ | refine thenQ_e ?_ | refine blockQ_n ?_ | refine blockQ_r ?_ | refine blockQ_s rfl ?_ | refine blockQ_o rfl ?_ | refine ret1_i rfl ?_ | refine ret1_b rfl ?_ | refine ret1_p rfl ?_ | refine ret1_s rfl ?_ | refine ret1_e rfl ?_ | refine ret1_a rfl ?_ | refine ret1_o rfl ?_ | refine ret1n_i rfl ?_ | refine ret1n_b rfl ?_ | refine ret1n_p rfl ?_ | refine ret1n_s rfl ?_ | refine ret1n_o rfl ?_)
  exact ⟨rfl, S.chg.below⟩
def ownerV (H : HeapS) (s : Int) : Int := if 0 ≤ s ∧ s < H.locks.length then (H.locks.getD s.toNat (0, 0)).1 else -1
def versionV (H : HeapS) (s : Int) : Int := if 0 ≤ s ∧ s < H.locks.length then (H.locks.getD s.toNat (0, 0)).2 else 0
theorem version_at (s : Int) : Calls Try.prog 34 #[.pointer (some ⟨b, 0, none⟩), .int .i64 s] w0 fun e w' => e = .returned (.int .i64 (versionV H s)) ∧ Below w0.heap.size w0 w' := by
  have S := Sat.reads h
  refine enter1 Try.func34 rfl Try.ntmps34 rfl Try.results34 ?_
  repeat' (first | refine assign_i_l S rfl rfl ?_ | refine move_p_l S rfl rfl ?_ | refine move_e_l S rfl rfl ?_ | refine nilL ?_ | refine run_seq ?_ | refine run_skip ?_ | refine run_region ?_ | refine move_i_l S rfl rfl ?_ | refine assign_p_l S rfl rfl ?_ | refine assign_e_l S rfl rfl ?_ | refine neqP_l S rfl rfl rfl ?_ | refine neqE_l S rfl rfl (by omega) rfl ?_ | refine nilCheck_l S rfl rfl ?_ | refine nilCheckE_l S rfl (by first | omega | decide | (simp; done) | (simp; omega)) rfl ?_ | refine fieldAddr_l S rfl rfl rfl ?_ | refine fieldAddrE_l S rfl (by first | omega | decide | (simp; done) | (simp; omega)) rfl rfl ?_ | refine load_i_l S rfl rfl rfl rfl ?_ | refine loadE_i_l S rfl (by first | omega | decide | (simp; done) | (simp; omega)) rfl rfl rfl ?_ | refine move_o_l S rfl rfl ?_ | refine assign_o_l S rfl rfl ?_ | refine load_o_l S rfl rfl rfl rfl ?_ | refine loadE_o_l S rfl (by first | omega | decide | (simp; done) | (simp; omega)) rfl rfl rfl ?_ | refine run_block ?_ | refine run_ret ?_ | refine run_exit ?_ | refine run_cond_true rfl ?_ | refine run_cond_false rfl ?_ | refine thenQ_n ?_ | refine thenQ_r ?_ | refine thenQ_e ?_ | refine blockQ_n ?_ | refine blockQ_r ?_ | refine blockQ_s rfl ?_ | refine blockQ_o rfl ?_ | refine ret1_i rfl ?_ | refine ret1_b rfl ?_ | refine ret1_p rfl ?_ | refine ret1_s rfl ?_ | refine ret1_e rfl ?_ | refine ret1_a rfl ?_ | refine ret1_o rfl ?_ | refine ret1n_i rfl ?_ | refine ret1n_b rfl ?_ | refine ret1n_p rfl ?_ | refine ret1n_s rfl ?_ | refine ret1n_o rfl ?_)
  by_cases hs : 0 ≤ s ∧ s < H.locks.length
  · (refine callL (lock_yes (S.got) s hs) rfl rfl ?_; rintro e w ⟨rfl, hb⟩; replace S := S.below hb; clear hb; refine ⟨_, rfl, ?_⟩)
    have hs' : s.toNat < H.locks.length := by omega
    repeat' (first | refine assign_i_l S rfl rfl ?_ | refine move_p_l S rfl rfl ?_ | refine move_e_l S rfl rfl ?_ | refine nilL ?_ | refine run_seq ?_ | refine run_skip ?_ | refine run_region ?_ | refine move_i_l S rfl rfl ?_ | refine assign_p_l S rfl rfl ?_ | refine assign_e_l S rfl rfl ?_ | refine neqP_l S rfl rfl rfl ?_ | refine neqE_l S rfl rfl (by omega) rfl ?_ | refine nilCheck_l S rfl rfl ?_ | refine nilCheckE_l S rfl (by first | omega | decide | (simp; done) | (simp; omega)) rfl ?_ | refine fieldAddr_l S rfl rfl rfl ?_ | refine fieldAddrE_l S rfl (by first | omega | decide | (simp; done) | (simp; omega)) rfl rfl ?_ | refine load_i_l S rfl rfl rfl rfl ?_ | refine loadE_i_l S rfl (by first | omega | decide | (simp; done) | (simp; omega)) rfl rfl rfl ?_ | refine move_o_l S rfl rfl ?_ | refine assign_o_l S rfl rfl ?_ | refine load_o_l S rfl rfl rfl rfl ?_ | refine loadE_o_l S rfl (by first | omega | decide | (simp; done) | (simp; omega)) rfl rfl rfl ?_ | refine run_block ?_ | refine run_ret ?_ | refine run_exit ?_ | refine run_cond_true rfl ?_ | refine run_cond_false rfl ?_ | refine thenQ_n ?_ | refine thenQ_r ?_ | refine thenQ_e ?_ | refine blockQ_n ?_ | refine blockQ_r ?_ | refine blockQ_s rfl ?_ | refine blockQ_o rfl ?_ | refine ret1_i rfl ?_ | refine ret1_b rfl ?_ | refine ret1_p rfl ?_ | refine ret1_s rfl ?_ | refine ret1_e rfl ?_ | refine ret1_a rfl ?_ | refine ret1_o rfl ?_ | refine ret1n_i rfl ?_ | refine ret1n_b rfl ?_ | refine ret1n_p rfl ?_ | refine ret1n_s rfl ?_ | refine ret1n_o rfl ?_)
    exact ⟨by rw [versionV, if_pos hs], S.chg.below⟩
  · (refine callL (lock_no (S.got) s hs) rfl rfl ?_; rintro e w ⟨rfl, hb⟩; replace S := S.below hb; clear hb; refine ⟨_, rfl, ?_⟩)
    repeat' (first | refine assign_i_l S rfl rfl ?_ | refine move_p_l S rfl rfl ?_ | refine move_e_l S rfl rfl ?_ | refine nilL ?_ | refine run_seq ?_ | refine run_skip ?_ | refine run_region ?_ | refine move_i_l S rfl rfl ?_ | refine assign_p_l S rfl rfl ?_ | refine assign_e_l S rfl rfl ?_ | refine neqP_l S rfl rfl rfl ?_ | refine neqE_l S rfl rfl (by omega) rfl ?_ | refine nilCheck_l S rfl rfl ?_ | refine nilCheckE_l S rfl (by first | omega | decide | (simp; done) | (simp; omega)) rfl ?_ | refine fieldAddr_l S rfl rfl rfl ?_ | refine fieldAddrE_l S rfl (by first | omega | decide | (simp; done) | (simp; omega)) rfl rfl ?_ | refine load_i_l S rfl rfl rfl rfl ?_ | refine loadE_i_l S rfl (by first | omega | decide | (simp; done) | (simp; omega)) rfl rfl rfl ?_ | refine move_o_l S rfl rfl ?_ | refine assign_o_l S rfl rfl ?_ | refine load_o_l S rfl rfl rfl rfl ?_ | refine loadE_o_l S rfl (by first | omega | decide | (simp; done) | (simp; omega)) rfl rfl rfl ?_ | refine run_block ?_ | refine run_ret ?_ | refine run_exit ?_ | refine run_cond_true rfl ?_ | refine run_cond_false rfl ?_ | refine thenQ_n ?_ | refine thenQ_r ?_ | refine thenQ_e ?_ | refine blockQ_n ?_ | refine blockQ_r ?_ | refine blockQ_s rfl ?_ | refine blockQ_o rfl ?_ | refine ret1_i rfl ?_ | refine ret1_b rfl ?_ | refine ret1_p rfl ?_ | refine ret1_s rfl ?_ | refine ret1_e rfl ?_ | refine ret1_a rfl ?_ | refine ret1_o rfl ?_ | refine ret1n_i rfl ?_ | refine ret1n_b rfl ?_ | refine ret1n_p rfl ?_ | refine ret1n_s rfl ?_ | refine ret1n_o rfl ?_)
    exact ⟨by rw [versionV, if_neg hs], S.chg.below⟩
end
end Go.Proofs.Ytnnkegmiefpgpaa
