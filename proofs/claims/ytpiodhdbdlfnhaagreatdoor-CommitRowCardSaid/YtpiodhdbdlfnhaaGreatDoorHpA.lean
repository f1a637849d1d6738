/- heap: what lies there; the small methods. -/
import Derived.Test.YtpiodhdbdlfnhaaGreatDoorGen
import Derived.Test.YtpiodhdbdlfnhaaGreatDoorFacts
namespace Go.Proofs.YtpiodhdbdlfnhaaGreatDoor
open Go.RowKit Go.Lib
set_option linter.unusedVariables false
/-- A heap. -/
structure HeapS where
  locks : List (Int × Int)
  clock : Int
  limit : Int
  vals : List Int
def encP (p : Int × Int) : Nat → Value := fun j => match j with | 0 => .int .i64 p.1 | _ => .int .i64 p.2
instance plainP : Plain encP := ⟨fun z j => by cases j <;> rfl⟩
def heapC (ga va : Option Addr) (gc vc : Nat) (H : HeapS) : Tm := fun i => match i with
  | 0 => .slice ga H.locks.length gc | 1 => .int .i64 H.clock | 2 => .int .i64 H.limit | _ => .slice va H.vals.length vc
abbrev locksR (ga : Option Addr) (gc : Nat) (l : List (Int × Int)) : Res := rowL ga gc 64 2 encP (0, 0) l
abbrev valsR (va : Option Addr) (vc : Nat) (l : List Int) : Res := rowL va vc 2 1 encI 0 l
def heapR (b : Nat) (ga va : Option Addr) (gc vc : Nat) (H : HeapS) : Res where
  foot k := k = b ∨ (∃ x, ga = some x ∧ x.block = k) ∨ (∃ x, va = some x ∧ x.block = k)
  ro := false
  holds w := ((blk b 4 (heapC ga va gc vc H) 69).holds w ∧ (locksR ga gc H.locks).holds w ∧ (valsR va vc H.vals).holds w) ∧
    ((∀ x, ga = some x → x.block ≠ b) ∧ (∀ x, va = some x → x.block ≠ b) ∧ ∀ x y, ga = some x → va = some y → x.block ≠ y.block)
  lt w k h e := by
    rcases e with rfl | e | e
    · exact lt_of_heap h.1.1
    · exact (locksR ga gc H.locks).lt w k h.1.2.1 e
    · exact (valsR va vc H.vals).lt w k h.1.2.2 e
  loc w w' h e := ⟨⟨(blk b 4 (heapC ga va gc vc H) 69).loc w w' h.1.1 (fun k hk => e k (.inl hk)), (locksR ga gc H.locks).loc w w' h.1.2.1 (fun k hk => e k (.inr (.inl hk))), (valsR va vc H.vals).loc w w' h.1.2.2 (fun k hk => e k (.inr (.inr hk)))⟩, h.2⟩
abbrev heapL (b : Nat) (ga va : Option Addr) (gc vc : Nat) (H : HeapS) : List Res := [blk b 4 (heapC ga va gc vc H) 69, locksR ga gc H.locks, valsR va vc H.vals]
/-- Nothing that was there is another one: if the resources may change, but did not. -/
theorem heap_open {b : Nat} {ga va : Option Addr} {gc vc : Nat} {H : HeapS} {w : World} (h : (heapR b ga va gc vc H).holds w) : Sat (heapR b ga va gc vc H).foot w w (heapL b ga va gc vc H) := by
  obtain ⟨⟨h1, h2, h3⟩, h4, h5, h6⟩ := h
  refine ((((Sat.start _ w).push (r := valsR va vc H.vals) h3 (by simp) (fun _ k hk _ => .inr (.inr hk))).push (r := locksR ga gc H.locks) h2 ?_ (fun _ k hk _ => .inr (.inl hk))).push (r := blk b 4 (heapC ga va gc vc H) 69) h1 ?_ (fun _ k hk _ => .inl hk))
  · intro x hx
    obtain rfl : x = valsR va vc H.vals := by simpa using hx
    exact .inr fun k ⟨y, hy, e⟩ ⟨z, hz, e'⟩ => h6 y z hy hz (e.trans e'.symm)
  · intro x hx
    simp only [List.mem_cons, List.not_mem_nil, or_false] at hx
    rcases hx with rfl | rfl
    · exact .inr fun k e ⟨y, hy, e'⟩ => h4 y hy (e'.trans e)
    · exact .inr fun k e ⟨y, hy, e'⟩ => h5 y hy (e'.trans e)
theorem heap_shut {S : Nat → Prop} {w₀ w : World} {b : Nat} {ga va : Option Addr} {gc vc : Nat} {H : HeapS} (h : Sat S w₀ w (heapL b ga va gc vc H)) : (heapR b ga va gc vc H).holds w := by
  have a1 := h.all _ (List.mem_cons_self ..)
  have a2 := h.all (locksR ga gc H.locks) (by simp)
  have a3 := h.all (valsR va vc H.vals) (by simp)
  have s := h.sep
  simp only [List.pairwise_cons, List.mem_cons, List.not_mem_nil, or_false, forall_eq_or_imp, forall_eq] at s
  obtain ⟨⟨s1, s2⟩, s3, _⟩ := s
  refine ⟨⟨a1, a2, a3⟩, fun x hx e => ?_, fun x hx e => ?_, fun x y hx hy e => ?_⟩
  · rcases s1 with h | h
    · cases h.1
    · exact h b rfl ⟨x, hx, e⟩
  · rcases s2 with h | h
    · cases h.1
    · exact h b rfl ⟨x, hx, e⟩
  · rcases s3 with h | h
    · cases h.1
    · exact h x.block ⟨x, hx, rfl⟩ ⟨y, hy, e.symm⟩
section
variable (L : List Res) (b : Nat) (ga va : Option Addr) (gc vc : Nat) (H : HeapS)
instance heap_B : PickB (heapR b ga va gc vc H :: L) b 4 (heapC ga va gc vc H) 69 := ⟨fun w h => (h (heapR b ga va gc vc H) (List.mem_cons_self ..)).1.1⟩
instance heap_Sl : PickSl (heapR b ga va gc vc H :: L) ga H.locks.length gc 2 (gL encP (0, 0) H.locks) := ⟨fun w h => RowOk.sl (h (heapR b ga va gc vc H) (List.mem_cons_self ..)).1.2.1⟩
instance heap_E : PickE (heapR b ga va gc vc H :: L) ga H.locks.length gc 2 (gL encP (0, 0) H.locks) := ⟨fun w h => RowOk.sl (h (heapR b ga va gc vc H) (List.mem_cons_self ..)).1.2.1⟩
instance heap_SlV : PickSl (heapR b ga va gc vc H :: L) va H.vals.length vc 1 (gL encI 0 H.vals) := ⟨fun w h => RowOk.sl (h (heapR b ga va gc vc H) (List.mem_cons_self ..)).1.2.2⟩
instance heap_EV : PickE (heapR b ga va gc vc H :: L) va H.vals.length vc 1 (gL encI 0 H.vals) := ⟨fun w h => RowOk.sl (h (heapR b ga va gc vc H) (List.mem_cons_self ..)).1.2.2⟩
end
section
variable {b : Nat} {ga va : Option Addr} {gc vc : Nat} {H : HeapS} {w0 : World} (h : (heapR b ga va gc vc H).holds w0)
include h
theorem heap_small : H.locks.length ≤ 9223372036854775807 ∧ H.vals.length ≤ 9223372036854775807 :=
  ⟨(RowOk.sl h.1.2.1).small, (RowOk.sl h.1.2.2).small⟩
theorem vars_at : Calls Tryz.prog 49 #[.pointer (some ⟨b, 0, none⟩)] w0 fun e w' => e = .returned (.int .i64 H.vals.length) ∧ Below w0.heap.size w0 w' := by
  have S := Sat.reads h
  refine enter1 Tryz.func49 rfl Tryz.ntmps49 rfl Tryz.results49 ?_
  repeat' (first | refine assign_i_l S rfl rfl ?_ | refine move_p_l S rfl rfl ?_ | refine nilL ?_ | refine run_seq ?_ | refine run_skip ?_ | refine run_region ?_ | refine eqlP_l S rfl rfl rfl ?_ | refine nilCheck_l S rfl rfl ?_ | refine fieldAddr_l S rfl rfl rfl ?_ | refine len_l S rfl rfl ?_ | refine load_o_l S rfl rfl rfl rfl ?_ | refine run_ret ?_ | refine run_cond_false rfl ?_ | refine thenQ_n ?_ | refine ret1_i rfl ?_)
  exact ⟨rfl, Below.refl _ _⟩
theorem stripes_at : Calls Tryz.prog 78 #[.pointer (some ⟨b, 0, none⟩)] w0 fun e w' => e = .returned (.int .i64 H.locks.length) ∧ Below w0.heap.size w0 w' := by
  have S := Sat.reads h
  refine enter1 Tryz.func78 rfl Tryz.ntmps78 rfl Tryz.results78 ?_
  repeat' (first | refine assign_i_l S rfl rfl ?_ | refine move_p_l S rfl rfl ?_ | refine nilL ?_ | refine run_seq ?_ | refine run_skip ?_ | refine run_region ?_ | refine fieldAddr_l S rfl rfl rfl ?_ | refine eqlP_l S rfl rfl rfl ?_ | refine nilCheck_l S rfl rfl ?_ | refine len_l S rfl rfl ?_ | refine load_o_l S rfl rfl rfl rfl ?_ | refine run_ret ?_ | refine run_cond_false rfl ?_ | refine thenQ_n ?_ | refine ret1_i rfl ?_)
  exact ⟨rfl, Below.refl _ _⟩
def stripeV (H : HeapS) (v : Int) : Int := if v < 0 ∨ H.vals.length ≤ v then -1 else v % H.locks.length
theorem stripe_at (v : Int) (hl : 0 < H.locks.length) : Calls Tryz.prog 79 #[.pointer (some ⟨b, 0, none⟩), .int .i64 v] w0 fun e w' => e = .returned (.int .i64 (stripeV H v)) ∧ Below w0.heap.size w0 w' := by
  have S := Sat.reads h
  refine enter1 Tryz.func79 rfl Tryz.ntmps79 rfl Tryz.results79 ?_
  repeat' (first | refine assign_i_l S rfl rfl ?_ | refine move_i_l S rfl rfl ?_ | refine move_p_l S rfl rfl ?_ | refine nilL ?_ | refine run_seq ?_ | refine run_region ?_ | refine onL rfl rfl ?_ | refine offL rfl rfl rfl rfl ?_ | (refine lss_l S rfl rfl rfl ?_ ?_ <;> intro hcmp <;> try (exfalso; first | omega | exact hcmp (by decide) | exact absurd hcmp (by decide))) | refine move_b_l S rfl rfl ?_ | refine pick_tb_l S rfl rfl rfl ?_ | refine run_ret ?_ | refine run_cond_true rfl ?_ | refine thenQ_n ?_ | refine thenQ_r ?_ | refine ret1_i rfl ?_)
  · exact ⟨by rw [stripeV, if_pos (.inl hcmp)], Below.refl _ _⟩
  · (refine callL (vars_at (S.got)) rfl rfl ?_; rintro e w ⟨rfl, hb⟩; replace S := S.below hb; clear hb; refine ⟨_, rfl, ?_⟩)
    repeat' (first | refine assign_i_l S rfl rfl ?_ | refine move_i_l S rfl rfl ?_ | refine move_p_l S rfl rfl ?_ | refine nilL ?_ | refine run_seq ?_ | refine run_skip ?_ | refine run_region ?_ | refine onL rfl rfl ?_ | refine fieldAddr_l S rfl rfl rfl ?_ | (refine geq_l S rfl rfl rfl ?_ ?_ <;> intro hcmp <;> try (exfalso; first | omega | exact hcmp (by decide) | exact absurd hcmp (by decide))) | refine pick_fb_l S rfl rfl rfl ?_ | refine nilCheck_l S rfl rfl ?_ | refine len_l S rfl rfl ?_ | refine rem_l S rfl rfl (by omega) rfl rfl ?_ | refine load_o_l S rfl rfl rfl rfl ?_ | refine run_ret ?_ | refine run_cond_true rfl ?_ | refine run_cond_false rfl ?_ | refine thenQ_n ?_ | refine thenQ_r ?_ | refine ret1_i rfl ?_)
    · exact ⟨by rw [stripeV, if_pos (.inr hcmp)], S.chg.below⟩
    · exact ⟨by rw [stripeV, if_neg (by omega), Int.tmod_eq_emod_of_nonneg (by omega)], S.chg.below⟩
/-- A value, if there is one. -/
def valueV (H : HeapS) (v : Int) : Int := if v < 0 ∨ H.vals.length ≤ v then 0 else H.vals.getD v.toNat 0
theorem value_at (v : Int) : Calls Tryz.prog 20 #[.pointer (some ⟨b, 0, none⟩), .int .i64 v] w0 fun e w' => e = .returned (.int .i64 (valueV H v)) ∧ Below w0.heap.size w0 w' := by
  have S := Sat.reads h
  refine enter1 Tryz.func20 rfl Tryz.ntmps20 rfl Tryz.results20 ?_
  repeat' (first | refine assign_i_l S rfl rfl ?_ | refine move_i_l S rfl rfl ?_ | refine move_p_l S rfl rfl ?_ | refine nilL ?_ | refine run_seq ?_ | refine run_region ?_ | refine onL rfl rfl ?_ | refine offL rfl rfl rfl rfl ?_ | (refine lss_l S rfl rfl rfl ?_ ?_ <;> intro hcmp <;> try (exfalso; first | omega | exact hcmp (by decide) | exact absurd hcmp (by decide))) | refine move_b_l S rfl rfl ?_ | refine pick_tb_l S rfl rfl rfl ?_ | refine run_ret ?_ | refine run_cond_true rfl ?_ | refine thenQ_n ?_ | refine thenQ_r ?_ | refine ret1_i rfl ?_)
  · exact ⟨by rw [valueV, if_pos (.inl hcmp)], Below.refl _ _⟩
  · (refine callL (vars_at (S.got)) rfl rfl ?_; rintro e w ⟨rfl, hb⟩; replace S := S.below hb; clear hb; refine ⟨_, rfl, ?_⟩)
    repeat' (first | refine assign_i_l S rfl rfl ?_ | refine move_i_l S rfl rfl ?_ | refine move_p_l S rfl rfl ?_ | refine nilL ?_ | refine run_seq ?_ | refine run_skip ?_ | refine run_region ?_ | refine onL rfl rfl ?_ | (refine geq_l S rfl rfl rfl ?_ ?_ <;> intro hcmp <;> try (exfalso; first | omega | exact hcmp (by decide) | exact absurd hcmp (by decide))) | refine pick_fb_l S rfl rfl rfl ?_ | refine nilCheck_l S rfl rfl ?_ | refine fieldAddr_l S rfl rfl rfl ?_ | refine indexAddr_l S rfl rfl (idx_eq _) (by first | omega | decide | (simp; done) | (simp; omega)) rfl ?_ | refine loadE_i_l S rfl (by first | omega | decide | (simp; done) | (simp; omega)) rfl rfl rfl ?_ | refine load_o_l S rfl rfl rfl rfl ?_ | refine run_ret ?_ | refine run_cond_true rfl ?_ | refine run_cond_false rfl ?_ | refine thenQ_n ?_ | refine thenQ_r ?_ | refine ret1_i rfl ?_)
    · exact ⟨by rw [valueV, if_pos (.inr hcmp)], S.chg.below⟩
    · exact ⟨by rw [valueV, if_neg (by omega)], S.chg.below⟩
/-- There is such a stripe. -/
def isS (H : HeapS) (s : Int) : Prop := 0 ≤ s ∧ s < H.locks.length
theorem at_yes (s : Int) (hs : isS H s) : Calls Tryz.prog 61 #[.pointer (some ⟨b, 0, none⟩), .int .i64 s] w0 fun e w' => e = .returned (ePtr ga s.toNat 2 0) ∧ Below w0.heap.size w0 w' := by
  unfold isS at hs
  have S := Sat.reads h
  refine enter1 Tryz.func61 rfl Tryz.ntmps61 rfl Tryz.results61 ?_
  repeat' (first | refine assign_p_l S rfl rfl ?_ | refine assign_e_l S rfl rfl ?_ | refine move_i_l S rfl rfl ?_ | refine nilL ?_ | refine run_seq ?_ | refine run_skip ?_ | refine run_region ?_ | refine onL rfl rfl ?_ | refine move_p_l S rfl rfl ?_ | refine nilCheck_l S rfl rfl ?_ | refine fieldAddr_l S rfl rfl rfl ?_ | (refine lss_l S rfl rfl rfl ?_ ?_ <;> intro hcmp <;> try (exfalso; first | omega | exact hcmp (by decide) | exact absurd hcmp (by decide))) | refine move_b_l S rfl rfl ?_ | refine len_l S rfl rfl ?_ | (refine geq_l S rfl rfl rfl ?_ ?_ <;> intro hcmp <;> try (exfalso; first | omega | exact hcmp (by decide) | exact absurd hcmp (by decide))) | refine pick_fb_l S rfl rfl rfl ?_ | refine indexAddr_l S rfl rfl (idx_eq _) (by first | omega | decide | (simp; done) | (simp; omega)) rfl ?_ | refine load_o_l S rfl rfl rfl rfl ?_ | refine run_ret ?_ | refine run_cond_false rfl ?_ | refine thenQ_n ?_ | refine ret1_e rfl ?_)
  exact ⟨rfl, S.chg.below⟩
theorem at_no (s : Int) (hs : ¬ isS H s) : Calls Tryz.prog 61 #[.pointer (some ⟨b, 0, none⟩), .int .i64 s] w0 fun e w' => e = .returned (.pointer none) ∧ Below w0.heap.size w0 w' := by
  unfold isS at hs
  have S := Sat.reads h
  refine enter1 Tryz.func61 rfl Tryz.ntmps61 rfl Tryz.results61 ?_
  repeat' (first | refine assign_p_l S rfl rfl ?_ | refine move_i_l S rfl rfl ?_ | refine nilL ?_ | refine run_seq ?_ | refine run_region ?_ | refine onL rfl rfl ?_ | refine offL rfl rfl rfl rfl ?_ | refine move_p_l S rfl rfl ?_ | refine nilCheck_l S rfl rfl ?_ | refine fieldAddr_l S rfl rfl rfl ?_ | (refine lss_l S rfl rfl rfl ?_ ?_ <;> intro hcmp <;> try (exfalso; first | omega | exact hcmp (by decide) | exact absurd hcmp (by decide))) | refine move_b_l S rfl rfl ?_ | refine len_l S rfl rfl ?_ | (refine geq_l S rfl rfl rfl ?_ ?_ <;> intro hcmp <;> try (exfalso; first | omega | exact hcmp (by decide) | exact absurd hcmp (by decide))) | refine pick_tb_l S rfl rfl rfl ?_ | refine pick_fb_l S rfl rfl rfl ?_ | refine load_o_l S rfl rfl rfl rfl ?_ | refine run_ret ?_ | refine run_cond_true rfl ?_ | refine thenQ_n ?_ | refine thenQ_r ?_ | refine ret1_p rfl ?_)
  all_goals exact ⟨rfl, S.chg.below⟩
theorem lock_yes (s : Int) (hs : isS H s) : Calls Tryz.prog 39 #[.pointer (some ⟨b, 0, none⟩), .int .i64 s] w0 fun e w' => e = .returned (ePtr ga s.toNat 2 0) ∧ Below w0.heap.size w0 w' := by
  have S := Sat.reads h
  refine enter1 Tryz.func39 rfl Tryz.ntmps39 rfl Tryz.results39 ?_
  repeat' (first | refine assign_p_l S rfl rfl ?_ | refine move_p_l S rfl rfl ?_ | refine nilL ?_ | refine run_seq ?_ | refine run_skip ?_ | refine run_region ?_ | refine eqlP_l S rfl rfl rfl ?_ | refine nilCheck_l S rfl rfl ?_ | refine fieldAddr_l S rfl rfl rfl ?_ | refine move_i_l S rfl rfl ?_ | refine run_cond_false rfl ?_ | refine thenQ_n ?_)
  (refine callL (at_yes (S.got) s hs) rfl rfl ?_; rintro e w ⟨rfl, hb⟩; replace S := S.below hb; clear hb; refine ⟨_, rfl, ?_⟩)
  repeat' (first | refine assign_e_l S rfl rfl ?_ | refine nilL ?_ | refine run_ret ?_ | refine thenQ_n ?_ | refine ret1_e rfl ?_)
  exact ⟨rfl, S.chg.below⟩
theorem lock_no (s : Int) (hs : ¬ isS H s) : Calls Tryz.prog 39 #[.pointer (some ⟨b, 0, none⟩), .int .i64 s] w0 fun e w' => e = .returned (.pointer none) ∧ Below w0.heap.size w0 w' := by
  have S := Sat.reads h
  refine enter1 Tryz.func39 rfl Tryz.ntmps39 rfl Tryz.results39 ?_
  repeat' (first | refine assign_p_l S rfl rfl ?_ | refine move_p_l S rfl rfl ?_ | refine nilL ?_ | refine run_seq ?_ | refine run_skip ?_ | refine run_region ?_ | refine eqlP_l S rfl rfl rfl ?_ | refine nilCheck_l S rfl rfl ?_ | refine fieldAddr_l S rfl rfl rfl ?_ | refine move_i_l S rfl rfl ?_ | refine run_cond_false rfl ?_ | refine thenQ_n ?_)
  (refine callL (at_no (S.got) s hs) rfl rfl ?_; rintro e w ⟨rfl, hb⟩; replace S := S.below hb; clear hb; refine ⟨_, rfl, ?_⟩)
  repeat' (first | refine assign_p_l S rfl rfl ?_ | refine nilL ?_ | refine run_ret ?_ | refine thenQ_n ?_ | refine ret1_p rfl ?_)
  exact ⟨rfl, S.chg.below⟩
def ownerV (H : HeapS) (s : Int) : Int := if 0 ≤ s ∧ s < H.locks.length then (H.locks.getD s.toNat (0, 0)).1 else -1
def versionV (H : HeapS) (s : Int) : Int := if 0 ≤ s ∧ s < H.locks.length then (H.locks.getD s.toNat (0, 0)).2 else 0
theorem owner_at (s : Int) : Calls Tryz.prog 82 #[.pointer (some ⟨b, 0, none⟩), .int .i64 s] w0 fun e w' => e = .returned (.int .i64 (ownerV H s)) ∧ Below w0.heap.size w0 w' := by
  have S := Sat.reads h
  refine enter1 Tryz.func82 rfl Tryz.ntmps82 rfl Tryz.results82 ?_
  repeat' (first | refine assign_i_l S rfl rfl ?_ | refine move_p_l S rfl rfl ?_ | refine nilL ?_ | refine run_seq ?_ | refine run_region ?_ | refine move_i_l S rfl rfl ?_ | refine thenQ_n ?_)
  by_cases hs : 0 ≤ s ∧ s < H.locks.length
  · (refine callL (lock_yes (S.got) s hs) rfl rfl ?_; rintro e w ⟨rfl, hb⟩; replace S := S.below hb; clear hb; refine ⟨_, rfl, ?_⟩)
    have hs' : s.toNat < H.locks.length := by omega
    repeat' (first | refine assign_i_l S rfl rfl ?_ | refine move_e_l S rfl rfl ?_ | refine nilL ?_ | refine run_seq ?_ | refine run_region ?_ | refine assign_e_l S rfl rfl ?_ | refine neqE_l S rfl rfl (by omega) rfl ?_ | refine nilCheckE_l S rfl (by first | omega | decide | (simp; done) | (simp; omega)) rfl ?_ | refine fieldAddrE_l S rfl (by first | omega | decide | (simp; done) | (simp; omega)) rfl rfl ?_ | refine loadE_i_l S rfl (by first | omega | decide | (simp; done) | (simp; omega)) rfl rfl rfl ?_ | refine run_ret ?_ | refine run_cond_true rfl ?_ | refine thenQ_n ?_ | refine thenQ_r ?_ | refine ret1_i rfl ?_)
    exact ⟨by rw [ownerV, if_pos hs], S.chg.below⟩
  · (refine callL (lock_no (S.got) s hs) rfl rfl ?_; rintro e w ⟨rfl, hb⟩; replace S := S.below hb; clear hb; refine ⟨_, rfl, ?_⟩)
    repeat' (first | refine assign_i_l S rfl rfl ?_ | refine move_p_l S rfl rfl ?_ | refine nilL ?_ | refine run_seq ?_ | refine run_skip ?_ | refine run_region ?_ | refine assign_p_l S rfl rfl ?_ | refine neqP_l S rfl rfl rfl ?_ | refine run_ret ?_ | refine run_cond_false rfl ?_ | refine thenQ_n ?_ | refine ret1_i rfl ?_)
    exact ⟨by rw [ownerV, if_neg hs], S.chg.below⟩
theorem version_at (s : Int) : Calls Tryz.prog 21 #[.pointer (some ⟨b, 0, none⟩), .int .i64 s] w0 fun e w' => e = .returned (.int .i64 (versionV H s)) ∧ Below w0.heap.size w0 w' := by
  have S := Sat.reads h
  refine enter1 Tryz.func21 rfl Tryz.ntmps21 rfl Tryz.results21 ?_
  repeat' (first | refine assign_i_l S rfl rfl ?_ | refine move_p_l S rfl rfl ?_ | refine nilL ?_ | refine run_seq ?_ | refine run_region ?_ | refine move_i_l S rfl rfl ?_ | refine thenQ_n ?_)
  by_cases hs : 0 ≤ s ∧ s < H.locks.length
  · (refine callL (lock_yes (S.got) s hs) rfl rfl ?_; rintro e w ⟨rfl, hb⟩; replace S := S.below hb; clear hb; refine ⟨_, rfl, ?_⟩)
    have hs' : s.toNat < H.locks.length := by omega
    repeat' (first | refine assign_i_l S rfl rfl ?_ | refine move_e_l S rfl rfl ?_ | refine nilL ?_ | refine run_seq ?_ | refine run_region ?_ | refine assign_e_l S rfl rfl ?_ | refine neqE_l S rfl rfl (by omega) rfl ?_ | refine nilCheckE_l S rfl (by first | omega | decide | (simp; done) | (simp; omega)) rfl ?_ | refine fieldAddrE_l S rfl (by first | omega | decide | (simp; done) | (simp; omega)) rfl rfl ?_ | refine loadE_i_l S rfl (by first | omega | decide | (simp; done) | (simp; omega)) rfl rfl rfl ?_ | refine run_ret ?_ | refine run_cond_true rfl ?_ | refine thenQ_n ?_ | refine thenQ_r ?_ | refine ret1_i rfl ?_)
    exact ⟨by rw [versionV, if_pos hs], S.chg.below⟩
  · (refine callL (lock_no (S.got) s hs) rfl rfl ?_; rintro e w ⟨rfl, hb⟩; replace S := S.below hb; clear hb; refine ⟨_, rfl, ?_⟩)
    repeat' (first | refine assign_i_l S rfl rfl ?_ | refine move_p_l S rfl rfl ?_ | refine nilL ?_ | refine run_seq ?_ | refine run_skip ?_ | refine run_region ?_ | refine assign_p_l S rfl rfl ?_ | refine neqP_l S rfl rfl rfl ?_ | refine run_ret ?_ | refine run_cond_false rfl ?_ | refine thenQ_n ?_ | refine ret1_i rfl ?_)
    exact ⟨by rw [versionV, if_neg hs], S.chg.below⟩
end
end Go.Proofs.YtpiodhdbdlfnhaaGreatDoor
