/- readset: the document's set; copies. ReadsetPlays. -/
import Derived.Test.YtnnkegmiefpgpaaRsSet
namespace Go.Proofs.Ytnnkegmiefpgpaa
open Go.RowKit Go.Lib
set_option linter.unusedVariables false
def footA (a : Option Addr) (k : Nat) : Prop := ∃ x, a = some x ∧ x.block = k
abbrev intsR (a : Option Addr) (c : Nat) (l : List Int) : Res := rowL a c 3 1 encI 0 l
def docC (a : Option Addr) (c : Nat) (rv st : Int) (l : List Int) : Tm := fun i => match i with
  | 0 => .int .i64 rv | 1 => .int .i64 st | 2 => .slice a l.length c | _ => undef
def docR (b : Nat) (a : Option Addr) (c : Nat) (rv st : Int) (l : List Int) : Res where
  foot k := k = b ∨ footA a k
  ro := false
  holds w := ((blk b 3 (docC a c rv st l) 87).holds w ∧ (intsR a c l).holds w) ∧ ∀ k, footA a k → k ≠ b
  lt w k h e := by
    rcases e with rfl | e
    · exact lt_of_heap h.1.1
    · exact (intsR a c l).lt w k h.1.2 e
  loc w w' h e := ⟨⟨(blk b 3 (docC a c rv st l) 87).loc w w' h.1.1 (fun k hk => e k (.inl hk)), (intsR a c l).loc w w' h.1.2 (fun k hk => e k (.inr hk))⟩, h.2⟩
abbrev docL (b : Nat) (a : Option Addr) (c : Nat) (rv st : Int) (l : List Int) : List Res := [blk b 3 (docC a c rv st l) 87, intsR a c l]
theorem doc_open {b : Nat} {a : Option Addr} {c : Nat} {rv st : Int} {l : List Int} {w : World} (h : (docR b a c rv st l).holds w) : Sat (docR b a c rv st l).foot w w (docL b a c rv st l) := by
  obtain ⟨⟨h1, h2⟩, g1⟩ := h
  refine (((Sat.start _ w).push (r := intsR a c l) h2 (by simp) (fun _ k hk _ => .inr hk)).push (r := blk b 3 (docC a c rv st l) 87) h1 ?_ (fun _ k hk _ => .inl hk))
  intro x hx
  obtain rfl : x = intsR a c l := by simpa using hx
  exact .inr fun k e e' => g1 k e' e
theorem doc_shut {S : Nat → Prop} {w₀ w : World} {b : Nat} {a : Option Addr} {c : Nat} {rv st : Int} {l : List Int} (h : Sat S w₀ w (docL b a c rv st l)) : (docR b a c rv st l).holds w := by
  have a1 := h.all _ (List.mem_cons_self ..)
  have a2 := h.all (intsR a c l) (by simp)
  have s := h.sep
  simp only [List.pairwise_cons, List.mem_cons, List.not_mem_nil, or_false, forall_eq] at s
  refine ⟨⟨a1, a2⟩, fun k e e' => ?_⟩
  rcases s.1 with h | h
  · cases h.1
  · exact h k e' e
section
variable (L : List Res) (b : Nat) (a : Option Addr) (c : Nat) (rv st : Int) (l : List Int)
instance doc_B : PickB (docR b a c rv st l :: L) b 3 (docC a c rv st l) 87 := ⟨fun w h => (h (docR b a c rv st l) (List.mem_cons_self ..)).1.1⟩
instance doc_Sl : PickSl (docR b a c rv st l :: L) a l.length c 1 (gL encI 0 l) := ⟨fun w h => RowOk.sl (h (docR b a c rv st l) (List.mem_cons_self ..)).1.2⟩
instance doc_E : PickE (docR b a c rv st l :: L) a l.length c 1 (gL encI 0 l) := ⟨fun w h => RowOk.sl (h (docR b a c rv st l) (List.mem_cons_self ..)).1.2⟩
instance doc_L : PickL (docR b a c rv st l :: L) a c 1 encI 0 l := ⟨fun w h => RowOk.sl (h (docR b a c rv st l) (List.mem_cons_self ..)).1.2⟩
end
def DocTo (b : Nat) (a : Option Addr) (c : Nat) (rv st : Int) (l l' : List Int) (w w' : World) : Prop := ∃ a' c', (docR b a' c' rv st l').holds w' ∧ Chg (docR b a c rv st l).foot w w' ∧ ∀ k, (docR b a' c' rv st l').foot k → (docR b a c rv st l).foot k ∨ w.heap.size ≤ k
theorem doc_to {w₀ w : World} {b : Nat} {a a' : Option Addr} {c c' : Nat} {rv st : Int} {l l' : List Int} (h : Sat (docR b a c rv st l).foot w₀ w (docL b a' c' rv st l')) : DocTo b a c rv st l l' w₀ w := by
  refine ⟨a', c', doc_shut h, h.chg, fun k hk => ?_⟩
  by_cases hlt : k < w₀.heap.size
  · refine .inl ?_
    rcases hk with hk | hk
    · exact h.own _ (List.mem_cons_self ..) rfl k hk hlt
    · exact h.own (intsR a' c' l') (by simp) rfl k hk hlt
  · exact .inr (by omega)
def NewDoc (w0 w' : World) (rv st : Int) (l : List Int) (v : Value) : Prop := ∃ b a c, v = .pointer (some ⟨b, 0, none⟩) ∧ (docR b a c rv st l).holds w' ∧ ∀ k, (docR b a c rv st l).foot k → w0.heap.size ≤ k
theorem doc_new {w₀ w : World} {b : Nat} {a : Option Addr} {c : Nat} {rv st : Int} {l : List Int} (h : Sat (fun _ => False) w₀ w (docL b a c rv st l)) : NewDoc w₀ w rv st l (.pointer (some ⟨b, 0, none⟩)) := by
  refine ⟨b, a, c, rfl, doc_shut h, fun k hk => Nat.le_of_not_lt fun hlt => ?_⟩
  rcases hk with hk | hk
  · exact h.own _ (List.mem_cons_self ..) rfl k hk hlt
  · exact h.own (intsR a c l) (by simp) rfl k hk hlt
theorem dnew_ok (rv st : Int) (hg : 0 ≤ rv ∧ rv ≤ 1099511627776 ∧ 1 ≤ st ∧ st ≤ 32) (w0 : World) :
    Calls Try.prog 35 #[.int .i64 rv, .int .i64 st] w0 fun e w' => ∃ p, e = .returned (.tuple #[p, .int .i64 0]) ∧ NewDoc w0 w' rv st [] p ∧ Below w0.heap.size w0 w' := by
  have S := Sat.start (fun _ => False) w0
  refine enter2 Try.func35 rfl Try.ntmps35 rfl Try.results35 ?_
  repeat' (first | refine move_i_l S rfl rfl ?_ | refine assign_p_l S rfl rfl ?_ | refine assign_e_l S rfl rfl ?_ | refine nilL ?_ | refine run_seq ?_ | refine run_skip ?_ | refine run_region ?_ | refine onL rfl rfl ?_ | refine offL rfl rfl rfl rfl ?_ | refine offL0 rfl rfl rfl ?_ | refine offLU rfl rfl rfl ?_ | refine assign_i_l S rfl rfl ?_ | refine move_b_l S rfl rfl ?_ | refine pick_tb_l S rfl rfl rfl ?_ | refine pick_fb_l S rfl rfl rfl ?_ | (refine lss_l S rfl rfl rfl ?_ ?_ <;> intro hcmp <;> try (exfalso; first | omega | exact hcmp (by decide) | exact absurd hcmp (by decide))) | (refine gtr_l S rfl rfl rfl ?_ ?_ <;> intro hcmp <;> try (exfalso; first | omega | exact hcmp (by decide) | exact absurd hcmp (by decide))) | (apply build3_l S; (· repeat (first | exact mapN | apply mapC_i rfl | apply mapC_b rfl | apply mapC_p rfl | apply mapC_s rfl | apply mapC_e rfl | apply mapC_a rfl | apply mapC_o rfl)); (· rfl); (· rfl)) | (refine box_a S rfl rfl rfl ?_; clear S; intro b w S) | refine assign_o_l S rfl rfl ?_ | refine run_block ?_ | refine run_ret ?_ | refine run_exit ?_ | refine run_cond_true rfl ?_ | refine run_cond_false rfl ?_ | refine thenQ_n ?_ | refine thenQ_r ?_ | refine thenQ_e ?_ | refine blockQ_n ?_ | refine blockQ_r ?_ | refine blockQ_s rfl ?_ | refine blockQ_o rfl ?_ | refine ret2_ii rfl rfl ?_ | refine ret2_ib rfl rfl ?_ | refine ret2_ip rfl rfl ?_ | refine ret2_is rfl rfl ?_ | refine ret2_io rfl rfl ?_ | refine ret2_bi rfl rfl ?_ | refine ret2_bb rfl rfl ?_ | refine ret2_bp rfl rfl ?_ | refine ret2_bs rfl rfl ?_ | refine ret2_bo rfl rfl ?_ | refine ret2_pi rfl rfl ?_ | refine ret2_pb rfl rfl ?_ | refine ret2_pp rfl rfl ?_ | refine ret2_ps rfl rfl ?_ | refine ret2_po rfl rfl ?_ | refine ret2_si rfl rfl ?_ | refine ret2_sb rfl rfl ?_ | refine ret2_sp rfl rfl ?_ | refine ret2_ss rfl rfl ?_ | refine ret2_so rfl rfl ?_ | refine ret2_ei rfl rfl ?_ | refine ret2_eb rfl rfl ?_ | refine ret2_ep rfl rfl ?_ | refine ret2_es rfl rfl ?_ | refine ret2_eo rfl rfl ?_ | refine ret2_ai rfl rfl ?_ | refine ret2_ab rfl rfl ?_ | refine ret2_ap rfl rfl ?_ | refine ret2_as rfl rfl ?_ | refine ret2_ao rfl rfl ?_ | refine ret2_oi rfl rfl ?_ | refine ret2_ob rfl rfl ?_ | refine ret2_op rfl rfl ?_ | refine ret2_os rfl rfl ?_ | refine ret2_oo rfl rfl ?_)
  have S2 := (S.turn1 (r' := blk b 3 (docC none 0 rv st []) 87) S.got1 rfl (fun k e => e))
  have S3 : Sat (fun _ => False) w0 w (intsR none 0 [] :: _) := S2.push (r := intsR none 0 []) ⟨by decide, .inl ⟨rfl, rfl, rfl⟩⟩ (fun x hx => .inr (fun k ⟨y, hy, _⟩ => by cases hy)) (fun _ k ⟨y, hy, _⟩ => by cases hy)
  exact ⟨_, rfl, doc_new (S3.perm (List.Perm.swap _ _ _)), S.chg.below⟩
theorem dnew_no (rv st : Int) (hg : ¬ (0 ≤ rv ∧ rv ≤ 1099511627776 ∧ 1 ≤ st ∧ st ≤ 32)) (w0 : World) :
    Calls Try.prog 35 #[.int .i64 rv, .int .i64 st] w0 fun e w' => e = .returned (.tuple #[.pointer none, .int .i64 1]) ∧ Below w0.heap.size w0 w' := by
  have S := Sat.start (fun _ => False) w0
  refine enter2 Try.func35 rfl Try.ntmps35 rfl Try.results35 ?_
  repeat' (first | refine move_i_l S rfl rfl ?_ | refine assign_p_l S rfl rfl ?_ | refine assign_e_l S rfl rfl ?_ | refine nilL ?_ | refine run_seq ?_ | refine run_skip ?_ | refine run_region ?_ | refine onL rfl rfl ?_ | refine offL rfl rfl rfl rfl ?_ | refine offL0 rfl rfl rfl ?_ | refine offLU rfl rfl rfl ?_ | refine assign_i_l S rfl rfl ?_ | refine move_b_l S rfl rfl ?_ | refine pick_tb_l S rfl rfl rfl ?_ | refine pick_fb_l S rfl rfl rfl ?_ | (refine lss_l S rfl rfl rfl ?_ ?_ <;> intro hcmp <;> try (exfalso; first | omega | exact hcmp (by decide) | exact absurd hcmp (by decide))) | (refine gtr_l S rfl rfl rfl ?_ ?_ <;> intro hcmp <;> try (exfalso; first | omega | exact hcmp (by decide) | exact absurd hcmp (by decide))) | (apply build3_l S; (· repeat (first | exact mapN | apply mapC_i rfl | apply mapC_b rfl | apply mapC_p rfl | apply mapC_s rfl | apply mapC_e rfl | apply mapC_a rfl | apply mapC_o rfl)); (· rfl); (· rfl)) | (refine box_a S rfl rfl rfl ?_; clear S; intro b w S) | refine assign_o_l S rfl rfl ?_ | refine run_block ?_ | refine run_ret ?_ | refine run_exit ?_ | refine run_cond_true rfl ?_ | refine run_cond_false rfl ?_ | refine thenQ_n ?_ | refine thenQ_r ?_ | refine thenQ_e ?_ | refine blockQ_n ?_ | refine blockQ_r ?_ | refine blockQ_s rfl ?_ | refine blockQ_o rfl ?_ | refine ret2_ii rfl rfl ?_ | refine ret2_ib rfl rfl ?_ | refine ret2_ip rfl rfl ?_ | refine ret2_is rfl rfl ?_ | refine ret2_io rfl rfl ?_ | refine ret2_bi rfl rfl ?_ | refine ret2_bb rfl rfl ?_ | refine ret2_bp rfl rfl ?_ | refine ret2_bs rfl rfl ?_ | refine ret2_bo rfl rfl ?_ | refine ret2_pi rfl rfl ?_ | refine ret2_pb rfl rfl ?_ | refine ret2_pp rfl rfl ?_ | refine ret2_ps rfl rfl ?_ | refine ret2_po rfl rfl ?_ | refine ret2_si rfl rfl ?_ | refine ret2_sb rfl rfl ?_ | refine ret2_sp rfl rfl ?_ | refine ret2_ss rfl rfl ?_ | refine ret2_so rfl rfl ?_ | refine ret2_ei rfl rfl ?_ | refine ret2_eb rfl rfl ?_ | refine ret2_ep rfl rfl ?_ | refine ret2_es rfl rfl ?_ | refine ret2_eo rfl rfl ?_ | refine ret2_ai rfl rfl ?_ | refine ret2_ab rfl rfl ?_ | refine ret2_ap rfl rfl ?_ | refine ret2_as rfl rfl ?_ | refine ret2_ao rfl rfl ?_ | refine ret2_oi rfl rfl ?_ | refine ret2_ob rfl rfl ?_ | refine ret2_op rfl rfl ?_ | refine ret2_os rfl rfl ?_ | refine ret2_oo rfl rfl ?_)
  all_goals exact ⟨rfl, S.chg.below⟩
section
variable {bd : Nat} {a : Option Addr} {c : Nat} {rv st : Int} {l : List Int} {w0 : World} (h : (docR bd a c rv st l).holds w0)
include h
theorem doc_small : l.length ≤ 9223372036854775807 ∧ l.length ≤ c := ⟨(RowOk.sl h.1.2).small, (RowOk.sl h.1.2).2.1⟩
theorem dhas_at (n : Int) : Calls Try.prog 62 #[.pointer (some ⟨bd, 0, none⟩), .int .i64 n] w0 fun e w' => e = .returned (.bool (decide (n ∈ l))) ∧ Below w0.heap.size w0 w' := by
  have S := Sat.reads h
  have hm := doc_small h
  refine enter1 Try.func62 rfl Try.ntmps62 rfl Try.results62 ?_
  repeat' (first | refine move_i_l S rfl rfl ?_ | refine assign_b_l S rfl rfl ?_ | refine assign_i_l S rfl rfl ?_ | refine nilL ?_ | refine run_seq ?_ | refine run_skip ?_ | refine run_region ?_ | refine move_p_l S rfl rfl ?_ | refine move_e_l S rfl rfl ?_ | refine nilCheck_l S rfl rfl ?_ | refine nilCheckE_l S rfl (by first | omega | decide | (simp; done) | (simp; omega)) rfl ?_ | refine fieldAddr_l S rfl rfl rfl ?_ | refine fieldAddrE_l S rfl (by first | omega | decide | (simp; done) | (simp; omega)) rfl rfl ?_ | refine load_s_l S rfl rfl rfl rfl ?_ | refine loadE_s_l S rfl (by first | omega | decide | (simp; done) | (simp; omega)) rfl rfl rfl ?_ | refine len_l S rfl rfl ?_ | (refine lss_l S rfl rfl rfl ?_ ?_ <;> intro hcmp <;> try (exfalso; first | omega | exact hcmp (by decide) | exact absurd hcmp (by decide))) | refine indexAddr_l S rfl rfl (idx_cast _) (by first | omega | decide | (simp; done) | (simp; omega)) rfl ?_ | refine indexAddr_l S rfl rfl (idx_eq _) (by first | omega | decide | (simp; done) | (simp; omega)) rfl ?_ | refine load_i_l S rfl rfl rfl rfl ?_ | refine loadE_i_l S rfl (by first | omega | decide | (simp; done) | (simp; omega)) rfl rfl rfl ?_ | (refine eql_l S rfl rfl rfl ?_ ?_ <;> intro hcmp <;> try (exfalso; first | omega | exact hcmp (by decide) | exact absurd hcmp (by decide))) | refine add_l S rfl rfl (wrap_in (by omega)) rfl ?_ | refine add_l S rfl rfl rfl rfl ?_ | refine load_o_l S rfl rfl rfl rfl ?_ | refine loadE_o_l S rfl (by first | omega | decide | (simp; done) | (simp; omega)) rfl rfl rfl ?_ | refine move_o_l S rfl rfl ?_ | refine run_block ?_ | refine run_ret ?_ | refine run_exit ?_ | refine run_cond_true rfl ?_ | refine run_cond_false rfl ?_ | refine thenQ_n ?_ | refine thenQ_r ?_ | refine thenQ_e ?_ | refine blockQ_n ?_ | refine blockQ_r ?_ | refine blockQ_s rfl ?_ | refine blockQ_o rfl ?_ | refine ret1_i rfl ?_ | refine ret1_b rfl ?_ | refine ret1_p rfl ?_ | refine ret1_s rfl ?_ | refine ret1_e rfl ?_ | refine ret1_a rfl ?_ | refine ret1_o rfl ?_ | refine ret1n_i rfl ?_ | refine ret1n_b rfl ?_ | refine ret1n_p rfl ?_ | refine ret1n_s rfl ?_ | refine ret1n_o rfl ?_)
  refine run_while [4, 6, 7, 8, 9, 10, 11, 12, 13, 14, 15, 16, 17, 18, 19, 20, 21, 22, 23] (fun (q : Nat) t => upd t 5 (.int .i64 q)) (fun q w' => q ≤ l.length ∧ (∀ i, i < q → ¬ l.getD i 0 = n) ∧ Sat (fun _ => False) w0 w' [roR (docR bd a c rv st l)]) (fun q => l.length - q) 0 ?_ ?_ ?_
  · (repeat (first | exact agree_refl | refine agree_r rfl ?_ | refine agree_l rfl ?_ | refine agree_hv rfl ?_))
  · exact ⟨Nat.zero_le _, fun i hi => by omega, S⟩
  clear S
  rintro q j w ⟨hq, hall, S⟩
  by_cases hql : q < l.length
  · repeat' (first | refine move_i_l S rfl rfl ?_ | refine assign_b_l S rfl rfl ?_ | refine assign_i_l S rfl rfl ?_ | refine nilL ?_ | refine run_seq ?_ | refine run_skip ?_ | refine run_region ?_ | refine move_p_l S rfl rfl ?_ | refine move_e_l S rfl rfl ?_ | refine nilCheck_l S rfl rfl ?_ | refine nilCheckE_l S rfl (by first | omega | decide | (simp; done) | (simp; omega)) rfl ?_ | refine fieldAddr_l S rfl rfl rfl ?_ | refine fieldAddrE_l S rfl (by first | omega | decide | (simp; done) | (simp; omega)) rfl rfl ?_ | refine load_s_l S rfl rfl rfl rfl ?_ | refine loadE_s_l S rfl (by first | omega | decide | (simp; done) | (simp; omega)) rfl rfl rfl ?_ | refine len_l S rfl rfl ?_ | (refine lss_l S rfl rfl rfl ?_ ?_ <;> intro hcmp <;> try (exfalso; first | omega | exact hcmp (by decide) | exact absurd hcmp (by decide))) | refine indexAddr_l S rfl rfl (idx_cast _) (by first | omega | decide | (simp; done) | (simp; omega)) rfl ?_ | refine indexAddr_l S rfl rfl (idx_eq _) (by first | omega | decide | (simp; done) | (simp; omega)) rfl ?_ | refine load_i_l S rfl rfl rfl rfl ?_ | refine loadE_i_l S rfl (by first | omega | decide | (simp; done) | (simp; omega)) rfl rfl rfl ?_ | (refine eql_l S rfl rfl rfl ?_ ?_ <;> intro hcmp <;> try (exfalso; first | omega | exact hcmp (by decide) | exact absurd hcmp (by decide))) | refine add_l S rfl rfl (wrap_in (by omega)) rfl ?_ | refine add_l S rfl rfl rfl rfl ?_ | refine load_o_l S rfl rfl rfl rfl ?_ | refine loadE_o_l S rfl (by first | omega | decide | (simp; done) | (simp; omega)) rfl rfl rfl ?_ | refine move_o_l S rfl rfl ?_ | refine run_block ?_ | refine run_ret ?_ | refine run_exit ?_ | refine run_cond_true rfl ?_ | refine run_cond_false rfl ?_ | refine thenQ_n ?_ | refine thenQ_r ?_ | refine thenQ_e ?_ | refine blockQ_n ?_ | refine blockQ_r ?_ | refine blockQ_s rfl ?_ | refine blockQ_o rfl ?_ | refine ret1_i rfl ?_ | refine ret1_b rfl ?_ | refine ret1_p rfl ?_ | refine ret1_s rfl ?_ | refine ret1_e rfl ?_ | refine ret1_a rfl ?_ | refine ret1_o rfl ?_ | refine ret1n_i rfl ?_ | refine ret1n_b rfl ?_ | refine ret1n_p rfl ?_ | refine ret1n_s rfl ?_ | refine ret1n_o rfl ?_)
    · exact ⟨by rw [decide_eq_true ((getD_mem_iff l n).2 ⟨q, hql, hcmp⟩)], S.chg.below⟩
    · refine ⟨q + 1, ?_, ⟨by omega, fun i hi => ?_, S⟩, by omega⟩
      · rw [Int.natCast_add]
        (repeat (first | exact agree_refl | refine agree_r rfl ?_ | refine agree_l rfl ?_ | refine agree_hv rfl ?_))
      · rcases Nat.lt_or_ge i q with h | h
        · exact hall i h
        · obtain rfl : i = q := by omega
          exact hcmp
  · repeat' (first | refine move_i_l S rfl rfl ?_ | refine assign_b_l S rfl rfl ?_ | refine assign_i_l S rfl rfl ?_ | refine nilL ?_ | refine run_seq ?_ | refine run_skip ?_ | refine run_region ?_ | refine move_p_l S rfl rfl ?_ | refine move_e_l S rfl rfl ?_ | refine nilCheck_l S rfl rfl ?_ | refine nilCheckE_l S rfl (by first | omega | decide | (simp; done) | (simp; omega)) rfl ?_ | refine fieldAddr_l S rfl rfl rfl ?_ | refine fieldAddrE_l S rfl (by first | omega | decide | (simp; done) | (simp; omega)) rfl rfl ?_ | refine load_s_l S rfl rfl rfl rfl ?_ | refine loadE_s_l S rfl (by first | omega | decide | (simp; done) | (simp; omega)) rfl rfl rfl ?_ | refine len_l S rfl rfl ?_ | (refine lss_l S rfl rfl rfl ?_ ?_ <;> intro hcmp <;> try (exfalso; first | omega | exact hcmp (by decide) | exact absurd hcmp (by decide))) | refine indexAddr_l S rfl rfl (idx_cast _) (by first | omega | decide | (simp; done) | (simp; omega)) rfl ?_ | refine indexAddr_l S rfl rfl (idx_eq _) (by first | omega | decide | (simp; done) | (simp; omega)) rfl ?_ | refine load_i_l S rfl rfl rfl rfl ?_ | refine loadE_i_l S rfl (by first | omega | decide | (simp; done) | (simp; omega)) rfl rfl rfl ?_ | (refine eql_l S rfl rfl rfl ?_ ?_ <;> intro hcmp <;> try (exfalso; first | omega | exact hcmp (by decide) | exact absurd hcmp (by decide))) | refine add_l S rfl rfl (wrap_in (by omega)) rfl ?_ | refine add_l S rfl rfl rfl rfl ?_ | refine load_o_l S rfl rfl rfl rfl ?_ | refine loadE_o_l S rfl (by first | omega | decide | (simp; done) | (simp; omega)) rfl rfl rfl ?_ | refine move_o_l S rfl rfl ?_ | refine run_block ?_ | refine run_ret ?_ | refine run_exit ?_ | refine run_cond_true rfl ?_ | refine run_cond_false rfl ?_ | refine thenQ_n ?_ | refine thenQ_r ?_ | refine thenQ_e ?_ | refine blockQ_n ?_ | refine blockQ_r ?_ | refine blockQ_s rfl ?_ | refine blockQ_o rfl ?_ | refine ret1_i rfl ?_ | refine ret1_b rfl ?_ | refine ret1_p rfl ?_ | refine ret1_s rfl ?_ | refine ret1_e rfl ?_ | refine ret1_a rfl ?_ | refine ret1_o rfl ?_ | refine ret1n_i rfl ?_ | refine ret1n_b rfl ?_ | refine ret1n_p rfl ?_ | refine ret1n_s rfl ?_ | refine ret1n_o rfl ?_)
    refine ⟨?_, S.chg.below⟩
    rw [decide_eq_false (fun hmem => by
      obtain ⟨i, hi, e⟩ := (getD_mem_iff l n).1 hmem
      exact hall i (by omega) e)]
theorem dcopy_at (hn : l.length ≤ 1000) : Calls Try.prog 63 #[.pointer (some ⟨bd, 0, none⟩)] w0 fun e w' => ∃ p, e = .returned p ∧ NewDoc w0 w' rv st l p ∧ Below w0.heap.size w0 w' := by
  have S := Sat.reads h
  have hm := doc_small h
  refine enter1 Try.func63 rfl Try.ntmps63 rfl Try.results63 ?_
  repeat' (first | refine assign_p_l S rfl rfl ?_ | refine assign_e_l S rfl rfl ?_ | refine assign_o_l S rfl rfl ?_ | refine nilL ?_ | refine run_seq ?_ | refine run_skip ?_ | refine run_region ?_ | refine run_block ?_ | refine run_ret ?_ | refine run_exit ?_ | refine run_cond_true rfl ?_ | refine run_cond_false rfl ?_ | refine thenQ_n ?_ | refine thenQ_r ?_ | refine thenQ_e ?_ | refine blockQ_n ?_ | refine blockQ_r ?_ | refine blockQ_s rfl ?_ | refine blockQ_o rfl ?_ | refine ret1_i rfl ?_ | refine ret1_b rfl ?_ | refine ret1_p rfl ?_ | refine ret1_s rfl ?_ | refine ret1_e rfl ?_ | refine ret1_a rfl ?_ | refine ret1_o rfl ?_ | refine ret1n_i rfl ?_ | refine ret1n_b rfl ?_ | refine ret1n_p rfl ?_ | refine ret1n_s rfl ?_ | refine ret1n_o rfl ?_)
  refine run_any S (L' := [roR (docR bd a c rv st l)]) (f := 17) mixed rfl ?_
  clear S
  intro w S1
  have S : Sat _ _ w [roR (docR bd a c rv st l)] := S1.sub
  all_goals (refine any_pure (i := 0) rfl (by kernel_rfl) S ?_; (first | refine move_p_x rfl rfl ?_ | refine move_e_x rfl rfl ?_ | refine move_o_x rfl rfl ?_))
  all_goals (refine any_pure (i := 1) rfl (by kernel_rfl) S ?_; (first | refine nilCheck_x rfl rfl ?_ | refine nilCheckE_x rfl (by first | omega | decide | (simp; done) | (simp; omega)) rfl ?_))
  all_goals (refine any_pure (i := 2) rfl (by kernel_rfl) S ?_; (first | refine fieldAddr_x rfl rfl rfl ?_ | refine fieldAddrE_x rfl (by first | omega | decide | (simp; done) | (simp; omega)) rfl rfl ?_))
  all_goals (refine any_pure (i := 3) rfl (by kernel_rfl) S ?_; (first | refine load_i_x rfl rfl rfl rfl ?_ | refine load_o_x rfl rfl rfl rfl ?_ | refine loadE_i_x rfl (by first | omega | decide | (simp; done) | (simp; omega)) rfl rfl rfl ?_ | refine loadE_o_x rfl (by first | omega | decide | (simp; done) | (simp; omega)) rfl rfl rfl ?_))
  all_goals (refine any_pure (i := 4) rfl (by kernel_rfl) S ?_; (first | refine move_p_x rfl rfl ?_ | refine move_e_x rfl rfl ?_ | refine move_o_x rfl rfl ?_))
  all_goals (refine any_pure (i := 5) rfl (by kernel_rfl) S ?_; (first | refine nilCheck_x rfl rfl ?_ | refine nilCheckE_x rfl (by first | omega | decide | (simp; done) | (simp; omega)) rfl ?_))
  all_goals (refine any_pure (i := 6) rfl (by kernel_rfl) S ?_; (first | refine fieldAddr_x rfl rfl rfl ?_ | refine fieldAddrE_x rfl (by first | omega | decide | (simp; done) | (simp; omega)) rfl rfl ?_))
  all_goals (refine any_pure (i := 7) rfl (by kernel_rfl) S ?_; (first | refine load_i_x rfl rfl rfl rfl ?_ | refine load_o_x rfl rfl rfl rfl ?_ | refine loadE_i_x rfl (by first | omega | decide | (simp; done) | (simp; omega)) rfl rfl rfl ?_ | refine loadE_o_x rfl (by first | omega | decide | (simp; done) | (simp; omega)) rfl rfl rfl ?_))
  all_goals (refine any_pure (i := 9) rfl (by kernel_rfl) S ?_; (first | refine move_p_x rfl rfl ?_ | refine move_e_x rfl rfl ?_ | refine move_o_x rfl rfl ?_))
  all_goals (refine any_pure (i := 10) rfl (by kernel_rfl) S ?_; (first | refine nilCheck_x rfl rfl ?_ | refine nilCheckE_x rfl (by first | omega | decide | (simp; done) | (simp; omega)) rfl ?_))
  all_goals (refine any_pure (i := 11) rfl (by kernel_rfl) S ?_; (first | refine fieldAddr_x rfl rfl rfl ?_ | refine fieldAddrE_x rfl (by first | omega | decide | (simp; done) | (simp; omega)) rfl rfl ?_))
  all_goals (refine any_pure (i := 12) rfl (by kernel_rfl) S ?_; (first | refine load_s_x rfl rfl rfl rfl ?_ | refine load_o_x rfl rfl rfl rfl ?_ | refine loadE_s_x rfl (by first | omega | decide | (simp; done) | (simp; omega)) rfl rfl rfl ?_ | refine loadE_o_x rfl (by first | omega | decide | (simp; done) | (simp; omega)) rfl rfl rfl ?_))
  all_goals (refine any_step (i := 8) rfl (by kernel_rfl) ?_; replace S := S1; clear S1; (refine buildSliceN_l S (vs := []) rfl rfl rfl rfl rfl rfl ?_; clear S; intro b w S); refine nilL ?_; refine ⟨S.sub, ?_⟩; have S1 := S; replace S : Sat _ _ _ [roR (docR bd a c rv st l)] := S1.sub)
  all_goals (refine any_step (i := 13) rfl (by kernel_rfl) ?_; replace S := S1; clear S1; (first | (refine append_l S rfl rfl (by omega) rfl ?_; clear S; intro a' cap' w S) | (refine append0_l S rfl rfl (by omega) rfl ?_; clear S; intro a' cap' w S) | (refine append1_i S rfl rfl rfl (by omega) rfl ?_; clear S; intro a' cap' w S) | (refine append2_i S rfl rfl rfl rfl (by omega) rfl ?_; clear S; intro a' cap' w S) | (refine appendPre_i S rfl rfl (by omega) (by omega) rfl ?_; clear S; intro a' cap' w S) | (refine appendSuf_i S rfl rfl (by omega) (by omega) rfl ?_; clear S; intro a' cap' w S)); refine nilL ?_; refine ⟨S.sub, ?_⟩; have S1 := S; replace S : Sat _ _ _ [roR (docR bd a c rv st l)] := S1.sub)
  all_goals (refine any_pure (i := 14) rfl (by kernel_rfl) S ?_; (apply build3_x; (· repeat (first | exact mapN | apply mapC_i rfl | apply mapC_b rfl | apply mapC_p rfl | apply mapC_s rfl | apply mapC_e rfl | apply mapC_a rfl | apply mapC_o rfl)); (· rfl); (· rfl)))
  all_goals (refine any_step (i := 15) rfl (by kernel_rfl) ?_; replace S := S1; clear S1; (refine box_a S rfl rfl rfl ?_; clear S; intro b w S); refine nilL ?_; refine ⟨S.sub, ?_⟩; have S1 := S; replace S : Sat _ _ _ [roR (docR bd a c rv st l)] := S1.sub)
  all_goals (refine any_pure (i := 16) rfl (by kernel_rfl) S ?_; (first | refine assign_p_x rfl rfl ?_ | refine assign_e_x rfl rfl ?_ | refine assign_o_x rfl rfl ?_))
  all_goals refine any_end (by kernel_rfl) ?_
  repeat' (first | refine assign_p_l S rfl rfl ?_ | refine assign_e_l S rfl rfl ?_ | refine assign_o_l S rfl rfl ?_ | refine nilL ?_ | refine run_seq ?_ | refine run_skip ?_ | refine run_region ?_ | refine run_block ?_ | refine run_ret ?_ | refine run_exit ?_ | refine run_cond_true rfl ?_ | refine run_cond_false rfl ?_ | refine thenQ_n ?_ | refine thenQ_r ?_ | refine thenQ_e ?_ | refine blockQ_n ?_ | refine blockQ_r ?_ | refine blockQ_s rfl ?_ | refine blockQ_o rfl ?_ | refine ret1_i rfl ?_ | refine ret1_b rfl ?_ | refine ret1_p rfl ?_ | refine ret1_s rfl ?_ | refine ret1_e rfl ?_ | refine ret1_a rfl ?_ | refine ret1_o rfl ?_ | refine ret1n_i rfl ?_ | refine ret1n_b rfl ?_ | refine ret1n_p rfl ?_ | refine ret1n_s rfl ?_ | refine ret1n_o rfl ?_)
  have S2 := S1.turn1 (r' := blk b 3 (docC a' cap' rv st l) 87) S1.got1 rfl (fun k e => e)
  exact ⟨_, rfl, doc_new (S2.sub (L' := docL b a' cap' rv st l)), S2.chg.below⟩
omit h in
theorem docC_l (a' : Option Addr) (c' : Nat) (l' : List Int) : upd (docC a c rv st l) (0 + 2) (.slice a' l'.length c') = docC a' c' rv st l' := by
  funext i
  match i with
  | 0 => rfl
  | 1 => rfl
  | 2 => rfl
  | _ + 3 => rfl
/-- What Add leaves. -/
def AddSpec (st : Int) (l : List Int) (n : Int) (l' : List Int) : Prop := ((n < 0 ∨ st ≤ n ∨ n ∈ l) ∧ l' = l) ∨ (¬ (n < 0 ∨ st ≤ n ∨ n ∈ l) ∧ ∃ k, k ≤ l.length ∧ (∀ i, i < k → l.getD i 0 < n) ∧ (k = l.length ∨ ¬ l.getD k 0 < n) ∧ l' = l.take k ++ [n] ++ l.drop k)
set_option maxHeartbeats 2000000 in
theorem dadd_at (n : Int) (hn : l.length ≤ 1000) : Calls Try.prog 37 #[.pointer (some ⟨bd, 0, none⟩), .int .i64 n] w0 fun e w' => e = .returned (.int .i64 (if n < 0 ∨ st ≤ n then 1 else 0)) ∧ ∃ l', AddSpec st l n l' ∧ DocTo bd a c rv st l l' w0 w' := by
  have S := doc_open h
  have hm := doc_small h
  refine enter1 Try.func37 rfl Try.ntmps37 rfl Try.results37 ?_
  repeat' (first | refine move_i_l S rfl rfl ?_ | refine assign_i_l S rfl rfl ?_ | refine move_p_l S rfl rfl ?_ | refine nilL ?_ | refine run_seq ?_ | refine run_skip ?_ | refine run_region ?_ | refine onL rfl rfl ?_ | refine offL rfl rfl rfl rfl ?_ | refine offL0 rfl rfl rfl ?_ | refine offLU rfl rfl rfl ?_ | refine move_e_l S rfl rfl ?_ | (refine lss_l S rfl rfl rfl ?_ ?_ <;> intro hcmp <;> try (exfalso; first | omega | exact hcmp (by decide) | exact absurd hcmp (by decide))) | refine nilCheck_l S rfl rfl ?_ | refine nilCheckE_l S rfl (by first | omega | decide | (simp; done) | (simp; omega)) rfl ?_ | refine fieldAddr_l S rfl rfl rfl ?_ | refine fieldAddrE_l S rfl (by first | omega | decide | (simp; done) | (simp; omega)) rfl rfl ?_ | refine move_b_l S rfl rfl ?_ | refine load_i_l S rfl rfl rfl rfl ?_ | refine loadE_i_l S rfl (by first | omega | decide | (simp; done) | (simp; omega)) rfl rfl rfl ?_ | refine pick_tb_l S rfl rfl rfl ?_ | refine pick_fb_l S rfl rfl rfl ?_ | refine load_s_l S rfl rfl rfl rfl ?_ | refine loadE_s_l S rfl (by first | omega | decide | (simp; done) | (simp; omega)) rfl rfl rfl ?_ | (refine geq_l S rfl rfl rfl ?_ ?_ <;> intro hcmp <;> try (exfalso; first | omega | exact hcmp (by decide) | exact absurd hcmp (by decide))) | refine len_l S rfl rfl ?_ | refine indexAddr_l S rfl rfl (idx_cast _) (by first | omega | decide | (simp; done) | (simp; omega)) rfl ?_ | refine indexAddr_l S rfl rfl (idx_eq _) (by first | omega | decide | (simp; done) | (simp; omega)) rfl ?_ | refine add_l S rfl rfl (wrap_in (by omega)) rfl ?_ | refine add_l S rfl rfl rfl rfl ?_ | refine move_o_l S rfl rfl ?_ | refine load_o_l S rfl rfl rfl rfl ?_ | refine loadE_o_l S rfl (by first | omega | decide | (simp; done) | (simp; omega)) rfl rfl rfl ?_ | refine run_block ?_ | refine run_ret ?_ | refine run_exit ?_ | refine run_cond_true rfl ?_ | refine run_cond_false rfl ?_ | refine thenQ_n ?_ | refine thenQ_r ?_ | refine thenQ_e ?_ | refine blockQ_n ?_ | refine blockQ_r ?_ | refine blockQ_s rfl ?_ | refine blockQ_o rfl ?_ | refine ret1_i rfl ?_ | refine ret1_b rfl ?_ | refine ret1_p rfl ?_ | refine ret1_s rfl ?_ | refine ret1_e rfl ?_ | refine ret1_a rfl ?_ | refine ret1_o rfl ?_ | refine ret1n_i rfl ?_ | refine ret1n_b rfl ?_ | refine ret1n_p rfl ?_ | refine ret1n_s rfl ?_ | refine ret1n_o rfl ?_)
  · exact ⟨by rw [if_pos (.inl hcmp)], l, .inl ⟨.inl hcmp, rfl⟩, doc_to S⟩
  · exact ⟨by rw [if_pos (.inr hcmp)], l, .inl ⟨.inr (.inl hcmp), rfl⟩, doc_to S⟩
  (refine callL (dhas_at (doc_shut S) n) rfl rfl ?_; rintro e w ⟨rfl, hb⟩; replace S := S.below hb; clear hb; refine ⟨_, rfl, ?_⟩)
  by_cases hmem : n ∈ l
  · rw [decide_eq_true hmem]
    repeat' (first | refine move_i_l S rfl rfl ?_ | refine assign_i_l S rfl rfl ?_ | refine move_p_l S rfl rfl ?_ | refine nilL ?_ | refine run_seq ?_ | refine run_skip ?_ | refine run_region ?_ | refine onL rfl rfl ?_ | refine offL rfl rfl rfl rfl ?_ | refine offL0 rfl rfl rfl ?_ | refine offLU rfl rfl rfl ?_ | refine move_e_l S rfl rfl ?_ | (refine lss_l S rfl rfl rfl ?_ ?_ <;> intro hcmp <;> try (exfalso; first | omega | exact hcmp (by decide) | exact absurd hcmp (by decide))) | refine nilCheck_l S rfl rfl ?_ | refine nilCheckE_l S rfl (by first | omega | decide | (simp; done) | (simp; omega)) rfl ?_ | refine fieldAddr_l S rfl rfl rfl ?_ | refine fieldAddrE_l S rfl (by first | omega | decide | (simp; done) | (simp; omega)) rfl rfl ?_ | refine move_b_l S rfl rfl ?_ | refine load_i_l S rfl rfl rfl rfl ?_ | refine loadE_i_l S rfl (by first | omega | decide | (simp; done) | (simp; omega)) rfl rfl rfl ?_ | refine pick_tb_l S rfl rfl rfl ?_ | refine pick_fb_l S rfl rfl rfl ?_ | refine load_s_l S rfl rfl rfl rfl ?_ | refine loadE_s_l S rfl (by first | omega | decide | (simp; done) | (simp; omega)) rfl rfl rfl ?_ | (refine geq_l S rfl rfl rfl ?_ ?_ <;> intro hcmp <;> try (exfalso; first | omega | exact hcmp (by decide) | exact absurd hcmp (by decide))) | refine len_l S rfl rfl ?_ | refine indexAddr_l S rfl rfl (idx_cast _) (by first | omega | decide | (simp; done) | (simp; omega)) rfl ?_ | refine indexAddr_l S rfl rfl (idx_eq _) (by first | omega | decide | (simp; done) | (simp; omega)) rfl ?_ | refine add_l S rfl rfl (wrap_in (by omega)) rfl ?_ | refine add_l S rfl rfl rfl rfl ?_ | refine move_o_l S rfl rfl ?_ | refine load_o_l S rfl rfl rfl rfl ?_ | refine loadE_o_l S rfl (by first | omega | decide | (simp; done) | (simp; omega)) rfl rfl rfl ?_ | refine run_block ?_ | refine run_ret ?_ | refine run_exit ?_ | refine run_cond_true rfl ?_ | refine run_cond_false rfl ?_ | refine thenQ_n ?_ | refine thenQ_r ?_ | refine thenQ_e ?_ | refine blockQ_n ?_ | refine blockQ_r ?_ | refine blockQ_s rfl ?_ | refine blockQ_o rfl ?_ | refine ret1_i rfl ?_ | refine ret1_b rfl ?_ | refine ret1_p rfl ?_ | refine ret1_s rfl ?_ | refine ret1_e rfl ?_ | refine ret1_a rfl ?_ | refine ret1_o rfl ?_ | refine ret1n_i rfl ?_ | refine ret1n_b rfl ?_ | refine ret1n_p rfl ?_ | refine ret1n_s rfl ?_ | refine ret1n_o rfl ?_)
    exact ⟨by rw [if_neg (by omega)], l, .inl ⟨.inr (.inr hmem), rfl⟩, doc_to S⟩
  rw [decide_eq_false hmem]
  repeat' (first | refine move_i_l S rfl rfl ?_ | refine assign_i_l S rfl rfl ?_ | refine move_p_l S rfl rfl ?_ | refine nilL ?_ | refine run_seq ?_ | refine run_skip ?_ | refine run_region ?_ | refine onL rfl rfl ?_ | refine offL rfl rfl rfl rfl ?_ | refine offL0 rfl rfl rfl ?_ | refine offLU rfl rfl rfl ?_ | refine move_e_l S rfl rfl ?_ | (refine lss_l S rfl rfl rfl ?_ ?_ <;> intro hcmp <;> try (exfalso; first | omega | exact hcmp (by decide) | exact absurd hcmp (by decide))) | refine nilCheck_l S rfl rfl ?_ | refine nilCheckE_l S rfl (by first | omega | decide | (simp; done) | (simp; omega)) rfl ?_ | refine fieldAddr_l S rfl rfl rfl ?_ | refine fieldAddrE_l S rfl (by first | omega | decide | (simp; done) | (simp; omega)) rfl rfl ?_ | refine move_b_l S rfl rfl ?_ | refine load_i_l S rfl rfl rfl rfl ?_ | refine loadE_i_l S rfl (by first | omega | decide | (simp; done) | (simp; omega)) rfl rfl rfl ?_ | refine pick_tb_l S rfl rfl rfl ?_ | refine pick_fb_l S rfl rfl rfl ?_ | refine load_s_l S rfl rfl rfl rfl ?_ | refine loadE_s_l S rfl (by first | omega | decide | (simp; done) | (simp; omega)) rfl rfl rfl ?_ | (refine geq_l S rfl rfl rfl ?_ ?_ <;> intro hcmp <;> try (exfalso; first | omega | exact hcmp (by decide) | exact absurd hcmp (by decide))) | refine len_l S rfl rfl ?_ | refine indexAddr_l S rfl rfl (idx_cast _) (by first | omega | decide | (simp; done) | (simp; omega)) rfl ?_ | refine indexAddr_l S rfl rfl (idx_eq _) (by first | omega | decide | (simp; done) | (simp; omega)) rfl ?_ | refine add_l S rfl rfl (wrap_in (by omega)) rfl ?_ | refine add_l S rfl rfl rfl rfl ?_ | refine move_o_l S rfl rfl ?_ | refine load_o_l S rfl rfl rfl rfl ?_ | refine loadE_o_l S rfl (by first | omega | decide | (simp; done) | (simp; omega)) rfl rfl rfl ?_ | refine run_block ?_ | refine run_ret ?_ | refine run_exit ?_ | refine run_cond_true rfl ?_ | refine run_cond_false rfl ?_ | refine thenQ_n ?_ | refine thenQ_r ?_ | refine thenQ_e ?_ | refine blockQ_n ?_ | refine blockQ_r ?_ | refine blockQ_s rfl ?_ | refine blockQ_o rfl ?_ | refine ret1_i rfl ?_ | refine ret1_b rfl ?_ | refine ret1_p rfl ?_ | refine ret1_s rfl ?_ | refine ret1_e rfl ?_ | refine ret1_a rfl ?_ | refine ret1_o rfl ?_ | refine ret1n_i rfl ?_ | refine ret1n_b rfl ?_ | refine ret1n_p rfl ?_ | refine ret1n_s rfl ?_ | refine ret1n_o rfl ?_)
  refine run_while [19, 20, 21, 22, 23, 24, 25, 26, 27, 28, 29, 30, 31, 32, 33, 34, 35, 36, 37, 38] (fun (q : Nat) t => upd t 5 (.int .i64 q)) (fun q w' => q ≤ l.length ∧ (∀ i, i < q → l.getD i 0 < n) ∧ Sat (docR bd a c rv st l).foot w0 w' (docL bd a c rv st l)) (fun q => l.length - q) 0 ?_ ?_ ?_
  · (repeat (first | exact agree_refl | refine agree_r rfl ?_ | refine agree_l rfl ?_ | refine agree_hv rfl ?_))
  · exact ⟨Nat.zero_le _, fun i hi => by omega, S⟩
  clear S
  rintro q j w ⟨hq, hall, S⟩
  repeat' (first | refine move_i_l S rfl rfl ?_ | refine assign_i_l S rfl rfl ?_ | refine move_p_l S rfl rfl ?_ | refine nilL ?_ | refine run_seq ?_ | refine run_skip ?_ | refine run_region ?_ | refine onL rfl rfl ?_ | refine offL rfl rfl rfl rfl ?_ | refine offL0 rfl rfl rfl ?_ | refine offLU rfl rfl rfl ?_ | refine move_e_l S rfl rfl ?_ | (refine lss_l S rfl rfl rfl ?_ ?_ <;> intro hcmp <;> try (exfalso; first | omega | exact hcmp (by decide) | exact absurd hcmp (by decide))) | refine nilCheck_l S rfl rfl ?_ | refine nilCheckE_l S rfl (by first | omega | decide | (simp; done) | (simp; omega)) rfl ?_ | refine fieldAddr_l S rfl rfl rfl ?_ | refine fieldAddrE_l S rfl (by first | omega | decide | (simp; done) | (simp; omega)) rfl rfl ?_ | refine move_b_l S rfl rfl ?_ | refine load_i_l S rfl rfl rfl rfl ?_ | refine loadE_i_l S rfl (by first | omega | decide | (simp; done) | (simp; omega)) rfl rfl rfl ?_ | refine pick_tb_l S rfl rfl rfl ?_ | refine pick_fb_l S rfl rfl rfl ?_ | refine load_s_l S rfl rfl rfl rfl ?_ | refine loadE_s_l S rfl (by first | omega | decide | (simp; done) | (simp; omega)) rfl rfl rfl ?_ | (refine geq_l S rfl rfl rfl ?_ ?_ <;> intro hcmp <;> try (exfalso; first | omega | exact hcmp (by decide) | exact absurd hcmp (by decide))) | refine len_l S rfl rfl ?_ | refine indexAddr_l S rfl rfl (idx_cast _) (by first | omega | decide | (simp; done) | (simp; omega)) rfl ?_ | refine indexAddr_l S rfl rfl (idx_eq _) (by first | omega | decide | (simp; done) | (simp; omega)) rfl ?_ | refine add_l S rfl rfl (wrap_in (by omega)) rfl ?_ | refine add_l S rfl rfl rfl rfl ?_ | refine move_o_l S rfl rfl ?_ | refine load_o_l S rfl rfl rfl rfl ?_ | refine loadE_o_l S rfl (by first | omega | decide | (simp; done) | (simp; omega)) rfl rfl rfl ?_ | refine run_block ?_ | refine run_ret ?_ | refine run_exit ?_ | refine run_cond_true rfl ?_ | refine run_cond_false rfl ?_ | refine thenQ_n ?_ | refine thenQ_r ?_ | refine thenQ_e ?_ | refine blockQ_n ?_ | refine blockQ_r ?_ | refine blockQ_s rfl ?_ | refine blockQ_o rfl ?_ | refine ret1_i rfl ?_ | refine ret1_b rfl ?_ | refine ret1_p rfl ?_ | refine ret1_s rfl ?_ | refine ret1_e rfl ?_ | refine ret1_a rfl ?_ | refine ret1_o rfl ?_ | refine ret1n_i rfl ?_ | refine ret1n_b rfl ?_ | refine ret1n_p rfl ?_ | refine ret1n_s rfl ?_ | refine ret1n_o rfl ?_)
  focus
    refine ⟨q + 1, ?_, ⟨by omega, fun i hi => ?_, S⟩, by omega⟩
    · rw [Int.natCast_add]
      (repeat (first | exact agree_refl | refine agree_r rfl ?_ | refine agree_l rfl ?_ | refine agree_hv rfl ?_))
    · rcases Nat.lt_or_ge i q with h | h
      · exact hall i h
      · obtain rfl : i = q := by omega
        exact hcmp
  all_goals
    have hk : q = l.length ∨ ¬ l.getD q 0 < n := by first | exact .inr hcmp | exact .inl (by omega)
    have htl : (l.take q).length = q := by rw [List.length_take]; omega
    have htl2 : (l.take q ++ [n]).length = q + 1 := by rw [List.length_append, htl]; rfl
    refine run_anyB_at (c := 21) (f := 22) (L' := docL bd a c rv st l) [39, 40, 41, 42, 43, 44, 45, 46, 47, 48, 49, 50, 51, 52, 53, 54, 55, 56, 57, 58, 59] (fun (s : Option Addr × Nat) t => t) (fun s w' => Sat (docR bd a c rv st l).foot w0 w' (docL bd s.1 s.2 rv st (l.take q ++ [n] ++ l.drop q))) S mixed rfl ?_ ?_
    · clear S
      intro w S1
      have S : Sat _ _ w (docL bd a c rv st l) := S1
      (refine anyB_pure (i := 0) rfl (by kernel_rfl) S ?_; (first | refine move_p_x rfl rfl ?_ | refine move_e_x rfl rfl ?_ | refine move_o_x rfl rfl ?_))
      (refine anyB_pure (i := 2) rfl (by kernel_rfl) S ?_; (first | refine move_p_x rfl rfl ?_ | refine move_e_x rfl rfl ?_ | refine move_o_x rfl rfl ?_))
      (refine anyB_pure (i := 3) rfl (by kernel_rfl) S ?_; (first | refine nilCheck_x rfl rfl ?_ | refine nilCheckE_x rfl (by first | omega | decide | (simp; done) | (simp; omega)) rfl ?_))
      (refine anyB_pure (i := 4) rfl (by kernel_rfl) S ?_; (first | refine fieldAddr_x rfl rfl rfl ?_ | refine fieldAddrE_x rfl (by first | omega | decide | (simp; done) | (simp; omega)) rfl rfl ?_))
      (refine anyB_pure (i := 5) rfl (by kernel_rfl) S ?_; (first | refine load_s_x rfl rfl rfl rfl ?_ | refine load_o_x rfl rfl rfl rfl ?_ | refine loadE_s_x rfl (by first | omega | decide | (simp; done) | (simp; omega)) rfl rfl rfl ?_ | refine loadE_o_x rfl (by first | omega | decide | (simp; done) | (simp; omega)) rfl rfl rfl ?_))
      (refine anyB_pure (i := 6) rfl (by kernel_rfl) S ?_; refine move_i_x rfl rfl ?_)
      (refine anyB_pure (i := 7) rfl (by kernel_rfl) S ?_; refine slicePre_x rfl rfl (by omega) rfl ?_)
      (refine anyB_pure (i := 9) rfl (by kernel_rfl) S ?_; refine move_i_x rfl rfl ?_)
      (refine anyB_pure (i := 12) rfl (by kernel_rfl) S ?_; (first | refine move_p_x rfl rfl ?_ | refine move_e_x rfl rfl ?_ | refine move_o_x rfl rfl ?_))
      (refine anyB_pure (i := 13) rfl (by kernel_rfl) S ?_; (first | refine nilCheck_x rfl rfl ?_ | refine nilCheckE_x rfl (by first | omega | decide | (simp; done) | (simp; omega)) rfl ?_))
      (refine anyB_pure (i := 14) rfl (by kernel_rfl) S ?_; (first | refine fieldAddr_x rfl rfl rfl ?_ | refine fieldAddrE_x rfl (by first | omega | decide | (simp; done) | (simp; omega)) rfl rfl ?_))
      (refine anyB_pure (i := 15) rfl (by kernel_rfl) S ?_; (first | refine load_s_x rfl rfl rfl rfl ?_ | refine load_o_x rfl rfl rfl rfl ?_ | refine loadE_s_x rfl (by first | omega | decide | (simp; done) | (simp; omega)) rfl rfl rfl ?_ | refine loadE_o_x rfl (by first | omega | decide | (simp; done) | (simp; omega)) rfl rfl rfl ?_))
      (refine anyB_pure (i := 16) rfl (by kernel_rfl) S ?_; refine move_i_x rfl rfl ?_)
      (refine anyB_pure (i := 17) rfl (by kernel_rfl) S ?_; refine sliceSuf_x rfl rfl (by omega) rfl ?_)
      refine anyB_all (l := [1, 10]) (by kernel_rfl) (by decide) ?_
      intro i hi
      simp only [List.mem_cons, List.not_mem_nil, or_false] at hi
      rcases hi with rfl | rfl
      · (refine ⟨_, rfl, ?_⟩; replace S := S1; clear S1; (refine buildSliceN_l S (vs := []) rfl rfl rfl rfl rfl rfl ?_; clear S; intro b w S); refine nilL ?_; refine ⟨fun _ => S.sub, ?_⟩; have S1 := S; replace S : Sat _ _ _ (docL bd a c rv st l) := S1.sub)
        refine anyB_all (l := [8, 10]) (by kernel_rfl) (by decide) ?_
        intro i hi
        simp only [List.mem_cons, List.not_mem_nil, or_false] at hi
        rcases hi with rfl | rfl
        · (refine ⟨_, rfl, ?_⟩; replace S := S1; clear S1; (first | (refine append_l S rfl rfl (by omega) rfl ?_; clear S; intro a' cap' w S) | (refine append0_l S rfl rfl (by omega) rfl ?_; clear S; intro a' cap' w S) | (refine append1_i S rfl rfl rfl (by omega) rfl ?_; clear S; intro a' cap' w S) | (refine append2_i S rfl rfl rfl rfl (by omega) rfl ?_; clear S; intro a' cap' w S) | (refine appendPre_i S rfl rfl (by omega) (by omega) rfl ?_; clear S; intro a' cap' w S) | (refine appendSuf_i S rfl rfl (by omega) (by omega) rfl ?_; clear S; intro a' cap' w S)); refine nilL ?_; refine ⟨fun _ => S.sub, ?_⟩; have S1 := S; replace S : Sat _ _ _ (docL bd a c rv st l) := S1.sub)
          refine anyB_all (l := [10]) (by kernel_rfl) (by decide) ?_
          intro i hi
          simp only [List.mem_cons, List.not_mem_nil, or_false] at hi
          subst hi
          (refine ⟨_, rfl, ?_⟩; replace S := S1; clear S1; (first | (refine buildSlice_l S rfl rfl rfl rfl rfl ?_; clear S; intro b w S) | (apply buildSliceN_l S; (· repeat (first | exact vsN | apply vsC rfl)); (· rfl); (· rfl); (· rfl); (· rfl); (· rfl); clear S; intro b w S)); refine nilL ?_; refine ⟨fun _ => S.sub, ?_⟩; have S1 := S; replace S : Sat _ _ _ (docL bd a c rv st l) := S1.sub)
          refine anyB_all (l := [11]) (by kernel_rfl) (by decide) ?_
          intro i hi
          simp only [List.mem_cons, List.not_mem_nil, or_false] at hi
          subst hi
          (refine ⟨_, rfl, ?_⟩; replace S := S1; clear S1; (first | (refine append_l S rfl rfl (by omega) rfl ?_; clear S; intro a' cap' w S) | (refine append0_l S rfl rfl (by omega) rfl ?_; clear S; intro a' cap' w S) | (refine append1_i S rfl rfl rfl (by omega) rfl ?_; clear S; intro a' cap' w S) | (refine append2_i S rfl rfl rfl rfl (by omega) rfl ?_; clear S; intro a' cap' w S) | (refine appendPre_i S rfl rfl (by omega) (by omega) rfl ?_; clear S; intro a' cap' w S) | (refine appendSuf_i S rfl rfl (by omega) (by omega) rfl ?_; clear S; intro a' cap' w S)); refine nilL ?_; refine ⟨fun _ => S.sub, ?_⟩; have S1 := S; replace S : Sat _ _ _ (docL bd a c rv st l) := S1.sub)
          refine anyB_all (l := [18]) (by kernel_rfl) (by decide) ?_
          intro i hi
          simp only [List.mem_cons, List.not_mem_nil, or_false] at hi
          subst hi
          (refine ⟨_, rfl, ?_⟩; replace S := S1; clear S1; (first | (refine append_l S rfl rfl (by omega) rfl ?_; clear S; intro a' cap' w S) | (refine append0_l S rfl rfl (by omega) rfl ?_; clear S; intro a' cap' w S) | (refine append1_i S rfl rfl rfl (by omega) rfl ?_; clear S; intro a' cap' w S) | (refine append2_i S rfl rfl rfl rfl (by omega) rfl ?_; clear S; intro a' cap' w S) | (refine appendPre_i S rfl rfl (by omega) (by omega) rfl ?_; clear S; intro a' cap' w S) | (refine appendSuf_i S rfl rfl (by omega) (by omega) rfl ?_; clear S; intro a' cap' w S)); refine nilL ?_; refine ⟨fun _ => S.sub, ?_⟩; have S1 := S; replace S : Sat _ _ _ (docL bd a c rv st l) := S1.sub)
          refine anyB_all (l := [19]) (by kernel_rfl) (by decide) ?_
          intro i hi
          simp only [List.mem_cons, List.not_mem_nil, or_false] at hi
          subst hi
          (refine ⟨_, rfl, ?_⟩; replace S := S1; clear S1; (first | refine nilCheck_l S rfl rfl ?_ | refine nilCheckE_l S rfl (by first | omega | decide | (simp; done) | (simp; omega)) rfl ?_); refine nilL ?_; refine ⟨fun _ => S.sub, ?_⟩; have S1 := S; replace S : Sat _ _ _ (docL bd a c rv st l) := S1.sub)
          (refine anyB_pure (i := 20) rfl (by kernel_rfl) S ?_; (first | refine fieldAddr_x rfl rfl rfl ?_ | refine fieldAddrE_x rfl (by first | omega | decide | (simp; done) | (simp; omega)) rfl rfl ?_))
          refine anyB_all (l := [21]) (by kernel_rfl) (by decide) ?_
          intro i hi
          simp only [List.mem_cons, List.not_mem_nil, or_false] at hi
          subst hi
          (refine ⟨_, rfl, ?_⟩; replace S := S1; clear S1; (first | (refine store_s S rfl rfl rfl ?_; clear S; intro w S) | (refine storeE_s S rfl rfl (by omega) rfl ?_; clear S; intro w S)); refine nilL ?_; refine ⟨nope (by kernel_rfl), ?_⟩; have S1 := S)
          refine anyB_end (by kernel_rfl) ?_
          rw [docC_l] at S1; exact ⟨(a', cap'), (by (repeat (first | exact agree_refl | refine agree_r rfl ?_ | refine agree_l rfl ?_ | refine agree_hv rfl ?_))), (by first | exact S1.sub (L' := docL bd a' cap' rv st (l.take q ++ [n] ++ l.drop q)) | exact (S1.sub (L' := [intsR a' cap' (l.take q ++ [n] ++ l.drop q), blk bd 3 (docC a' cap' rv st (l.take q ++ [n] ++ l.drop q)) 87])).perm (List.Perm.swap _ _ _))⟩
        · (refine ⟨_, rfl, ?_⟩; replace S := S1; clear S1; (first | (refine buildSlice_l S rfl rfl rfl rfl rfl ?_; clear S; intro b w S) | (apply buildSliceN_l S; (· repeat (first | exact vsN | apply vsC rfl)); (· rfl); (· rfl); (· rfl); (· rfl); (· rfl); clear S; intro b w S)); refine nilL ?_; refine ⟨fun _ => S.sub, ?_⟩; have S1 := S; replace S : Sat _ _ _ (docL bd a c rv st l) := S1.sub)
          refine anyB_all (l := [8]) (by kernel_rfl) (by decide) ?_
          intro i hi
          simp only [List.mem_cons, List.not_mem_nil, or_false] at hi
          subst hi
          (refine ⟨_, rfl, ?_⟩; replace S := S1; clear S1; (first | (refine append_l S rfl rfl (by omega) rfl ?_; clear S; intro a' cap' w S) | (refine append0_l S rfl rfl (by omega) rfl ?_; clear S; intro a' cap' w S) | (refine append1_i S rfl rfl rfl (by omega) rfl ?_; clear S; intro a' cap' w S) | (refine append2_i S rfl rfl rfl rfl (by omega) rfl ?_; clear S; intro a' cap' w S) | (refine appendPre_i S rfl rfl (by omega) (by omega) rfl ?_; clear S; intro a' cap' w S) | (refine appendSuf_i S rfl rfl (by omega) (by omega) rfl ?_; clear S; intro a' cap' w S)); refine nilL ?_; refine ⟨fun _ => S.sub, ?_⟩; have S1 := S; replace S : Sat _ _ _ (docL bd a c rv st l) := S1.sub)
          refine anyB_all (l := [11]) (by kernel_rfl) (by decide) ?_
          intro i hi
          simp only [List.mem_cons, List.not_mem_nil, or_false] at hi
          subst hi
          (refine ⟨_, rfl, ?_⟩; replace S := S1; clear S1; (first | (refine append_l S rfl rfl (by omega) rfl ?_; clear S; intro a' cap' w S) | (refine append0_l S rfl rfl (by omega) rfl ?_; clear S; intro a' cap' w S) | (refine append1_i S rfl rfl rfl (by omega) rfl ?_; clear S; intro a' cap' w S) | (refine append2_i S rfl rfl rfl rfl (by omega) rfl ?_; clear S; intro a' cap' w S) | (refine appendPre_i S rfl rfl (by omega) (by omega) rfl ?_; clear S; intro a' cap' w S) | (refine appendSuf_i S rfl rfl (by omega) (by omega) rfl ?_; clear S; intro a' cap' w S)); refine nilL ?_; refine ⟨fun _ => S.sub, ?_⟩; have S1 := S; replace S : Sat _ _ _ (docL bd a c rv st l) := S1.sub)
          refine anyB_all (l := [18]) (by kernel_rfl) (by decide) ?_
          intro i hi
          simp only [List.mem_cons, List.not_mem_nil, or_false] at hi
          subst hi
          (refine ⟨_, rfl, ?_⟩; replace S := S1; clear S1; (first | (refine append_l S rfl rfl (by omega) rfl ?_; clear S; intro a' cap' w S) | (refine append0_l S rfl rfl (by omega) rfl ?_; clear S; intro a' cap' w S) | (refine append1_i S rfl rfl rfl (by omega) rfl ?_; clear S; intro a' cap' w S) | (refine append2_i S rfl rfl rfl rfl (by omega) rfl ?_; clear S; intro a' cap' w S) | (refine appendPre_i S rfl rfl (by omega) (by omega) rfl ?_; clear S; intro a' cap' w S) | (refine appendSuf_i S rfl rfl (by omega) (by omega) rfl ?_; clear S; intro a' cap' w S)); refine nilL ?_; refine ⟨fun _ => S.sub, ?_⟩; have S1 := S; replace S : Sat _ _ _ (docL bd a c rv st l) := S1.sub)
          refine anyB_all (l := [19]) (by kernel_rfl) (by decide) ?_
          intro i hi
          simp only [List.mem_cons, List.not_mem_nil, or_false] at hi
          subst hi
          (refine ⟨_, rfl, ?_⟩; replace S := S1; clear S1; (first | refine nilCheck_l S rfl rfl ?_ | refine nilCheckE_l S rfl (by first | omega | decide | (simp; done) | (simp; omega)) rfl ?_); refine nilL ?_; refine ⟨fun _ => S.sub, ?_⟩; have S1 := S; replace S : Sat _ _ _ (docL bd a c rv st l) := S1.sub)
          (refine anyB_pure (i := 20) rfl (by kernel_rfl) S ?_; (first | refine fieldAddr_x rfl rfl rfl ?_ | refine fieldAddrE_x rfl (by first | omega | decide | (simp; done) | (simp; omega)) rfl rfl ?_))
          refine anyB_all (l := [21]) (by kernel_rfl) (by decide) ?_
          intro i hi
          simp only [List.mem_cons, List.not_mem_nil, or_false] at hi
          subst hi
          (refine ⟨_, rfl, ?_⟩; replace S := S1; clear S1; (first | (refine store_s S rfl rfl rfl ?_; clear S; intro w S) | (refine storeE_s S rfl rfl (by omega) rfl ?_; clear S; intro w S)); refine nilL ?_; refine ⟨nope (by kernel_rfl), ?_⟩; have S1 := S)
          refine anyB_end (by kernel_rfl) ?_
          rw [docC_l] at S1; exact ⟨(a', cap'), (by (repeat (first | exact agree_refl | refine agree_r rfl ?_ | refine agree_l rfl ?_ | refine agree_hv rfl ?_))), (by first | exact S1.sub (L' := docL bd a' cap' rv st (l.take q ++ [n] ++ l.drop q)) | exact (S1.sub (L' := [intsR a' cap' (l.take q ++ [n] ++ l.drop q), blk bd 3 (docC a' cap' rv st (l.take q ++ [n] ++ l.drop q)) 87])).perm (List.Perm.swap _ _ _))⟩
      · (refine ⟨_, rfl, ?_⟩; replace S := S1; clear S1; (first | (refine buildSlice_l S rfl rfl rfl rfl rfl ?_; clear S; intro b w S) | (apply buildSliceN_l S; (· repeat (first | exact vsN | apply vsC rfl)); (· rfl); (· rfl); (· rfl); (· rfl); (· rfl); clear S; intro b w S)); refine nilL ?_; refine ⟨fun _ => S.sub, ?_⟩; have S1 := S; replace S : Sat _ _ _ (docL bd a c rv st l) := S1.sub)
        refine anyB_all (l := [1]) (by kernel_rfl) (by decide) ?_
        intro i hi
        simp only [List.mem_cons, List.not_mem_nil, or_false] at hi
        subst hi
        (refine ⟨_, rfl, ?_⟩; replace S := S1; clear S1; (refine buildSliceN_l S (vs := []) rfl rfl rfl rfl rfl rfl ?_; clear S; intro b w S); refine nilL ?_; refine ⟨fun _ => S.sub, ?_⟩; have S1 := S; replace S : Sat _ _ _ (docL bd a c rv st l) := S1.sub)
        refine anyB_all (l := [8]) (by kernel_rfl) (by decide) ?_
        intro i hi
        simp only [List.mem_cons, List.not_mem_nil, or_false] at hi
        subst hi
        (refine ⟨_, rfl, ?_⟩; replace S := S1; clear S1; (first | (refine append_l S rfl rfl (by omega) rfl ?_; clear S; intro a' cap' w S) | (refine append0_l S rfl rfl (by omega) rfl ?_; clear S; intro a' cap' w S) | (refine append1_i S rfl rfl rfl (by omega) rfl ?_; clear S; intro a' cap' w S) | (refine append2_i S rfl rfl rfl rfl (by omega) rfl ?_; clear S; intro a' cap' w S) | (refine appendPre_i S rfl rfl (by omega) (by omega) rfl ?_; clear S; intro a' cap' w S) | (refine appendSuf_i S rfl rfl (by omega) (by omega) rfl ?_; clear S; intro a' cap' w S)); refine nilL ?_; refine ⟨fun _ => S.sub, ?_⟩; have S1 := S; replace S : Sat _ _ _ (docL bd a c rv st l) := S1.sub)
        refine anyB_all (l := [11]) (by kernel_rfl) (by decide) ?_
        intro i hi
        simp only [List.mem_cons, List.not_mem_nil, or_false] at hi
        subst hi
        (refine ⟨_, rfl, ?_⟩; replace S := S1; clear S1; (first | (refine append_l S rfl rfl (by omega) rfl ?_; clear S; intro a' cap' w S) | (refine append0_l S rfl rfl (by omega) rfl ?_; clear S; intro a' cap' w S) | (refine append1_i S rfl rfl rfl (by omega) rfl ?_; clear S; intro a' cap' w S) | (refine append2_i S rfl rfl rfl rfl (by omega) rfl ?_; clear S; intro a' cap' w S) | (refine appendPre_i S rfl rfl (by omega) (by omega) rfl ?_; clear S; intro a' cap' w S) | (refine appendSuf_i S rfl rfl (by omega) (by omega) rfl ?_; clear S; intro a' cap' w S)); refine nilL ?_; refine ⟨fun _ => S.sub, ?_⟩; have S1 := S; replace S : Sat _ _ _ (docL bd a c rv st l) := S1.sub)
        refine anyB_all (l := [18]) (by kernel_rfl) (by decide) ?_
        intro i hi
        simp only [List.mem_cons, List.not_mem_nil, or_false] at hi
        subst hi
        (refine ⟨_, rfl, ?_⟩; replace S := S1; clear S1; (first | (refine append_l S rfl rfl (by omega) rfl ?_; clear S; intro a' cap' w S) | (refine append0_l S rfl rfl (by omega) rfl ?_; clear S; intro a' cap' w S) | (refine append1_i S rfl rfl rfl (by omega) rfl ?_; clear S; intro a' cap' w S) | (refine append2_i S rfl rfl rfl rfl (by omega) rfl ?_; clear S; intro a' cap' w S) | (refine appendPre_i S rfl rfl (by omega) (by omega) rfl ?_; clear S; intro a' cap' w S) | (refine appendSuf_i S rfl rfl (by omega) (by omega) rfl ?_; clear S; intro a' cap' w S)); refine nilL ?_; refine ⟨fun _ => S.sub, ?_⟩; have S1 := S; replace S : Sat _ _ _ (docL bd a c rv st l) := S1.sub)
        refine anyB_all (l := [19]) (by kernel_rfl) (by decide) ?_
        intro i hi
        simp only [List.mem_cons, List.not_mem_nil, or_false] at hi
        subst hi
        (refine ⟨_, rfl, ?_⟩; replace S := S1; clear S1; (first | refine nilCheck_l S rfl rfl ?_ | refine nilCheckE_l S rfl (by first | omega | decide | (simp; done) | (simp; omega)) rfl ?_); refine nilL ?_; refine ⟨fun _ => S.sub, ?_⟩; have S1 := S; replace S : Sat _ _ _ (docL bd a c rv st l) := S1.sub)
        (refine anyB_pure (i := 20) rfl (by kernel_rfl) S ?_; (first | refine fieldAddr_x rfl rfl rfl ?_ | refine fieldAddrE_x rfl (by first | omega | decide | (simp; done) | (simp; omega)) rfl rfl ?_))
        refine anyB_all (l := [21]) (by kernel_rfl) (by decide) ?_
        intro i hi
        simp only [List.mem_cons, List.not_mem_nil, or_false] at hi
        subst hi
        (refine ⟨_, rfl, ?_⟩; replace S := S1; clear S1; (first | (refine store_s S rfl rfl rfl ?_; clear S; intro w S) | (refine storeE_s S rfl rfl (by omega) rfl ?_; clear S; intro w S)); refine nilL ?_; refine ⟨nope (by kernel_rfl), ?_⟩; have S1 := S)
        refine anyB_end (by kernel_rfl) ?_
        rw [docC_l] at S1; exact ⟨(a', cap'), (by (repeat (first | exact agree_refl | refine agree_r rfl ?_ | refine agree_l rfl ?_ | refine agree_hv rfl ?_))), (by first | exact S1.sub (L' := docL bd a' cap' rv st (l.take q ++ [n] ++ l.drop q)) | exact (S1.sub (L' := [intsR a' cap' (l.take q ++ [n] ++ l.drop q), blk bd 3 (docC a' cap' rv st (l.take q ++ [n] ++ l.drop q)) 87])).perm (List.Perm.swap _ _ _))⟩
    · clear S
      rintro ⟨a', c'⟩ j2 w S
      simp only at S ⊢
      repeat' (first | refine move_i_l S rfl rfl ?_ | refine assign_i_l S rfl rfl ?_ | refine move_p_l S rfl rfl ?_ | refine nilL ?_ | refine run_seq ?_ | refine run_skip ?_ | refine run_region ?_ | refine onL rfl rfl ?_ | refine offL rfl rfl rfl rfl ?_ | refine offL0 rfl rfl rfl ?_ | refine offLU rfl rfl rfl ?_ | refine move_e_l S rfl rfl ?_ | (refine lss_l S rfl rfl rfl ?_ ?_ <;> intro hcmp <;> try (exfalso; first | omega | exact hcmp (by decide) | exact absurd hcmp (by decide))) | refine nilCheck_l S rfl rfl ?_ | refine nilCheckE_l S rfl (by first | omega | decide | (simp; done) | (simp; omega)) rfl ?_ | refine fieldAddr_l S rfl rfl rfl ?_ | refine fieldAddrE_l S rfl (by first | omega | decide | (simp; done) | (simp; omega)) rfl rfl ?_ | refine move_b_l S rfl rfl ?_ | refine load_i_l S rfl rfl rfl rfl ?_ | refine loadE_i_l S rfl (by first | omega | decide | (simp; done) | (simp; omega)) rfl rfl rfl ?_ | refine pick_tb_l S rfl rfl rfl ?_ | refine pick_fb_l S rfl rfl rfl ?_ | refine load_s_l S rfl rfl rfl rfl ?_ | refine loadE_s_l S rfl (by first | omega | decide | (simp; done) | (simp; omega)) rfl rfl rfl ?_ | (refine geq_l S rfl rfl rfl ?_ ?_ <;> intro hcmp <;> try (exfalso; first | omega | exact hcmp (by decide) | exact absurd hcmp (by decide))) | refine len_l S rfl rfl ?_ | refine indexAddr_l S rfl rfl (idx_cast _) (by first | omega | decide | (simp; done) | (simp; omega)) rfl ?_ | refine indexAddr_l S rfl rfl (idx_eq _) (by first | omega | decide | (simp; done) | (simp; omega)) rfl ?_ | refine add_l S rfl rfl (wrap_in (by omega)) rfl ?_ | refine add_l S rfl rfl rfl rfl ?_ | refine move_o_l S rfl rfl ?_ | refine load_o_l S rfl rfl rfl rfl ?_ | refine loadE_o_l S rfl (by first | omega | decide | (simp; done) | (simp; omega)) rfl rfl rfl ?_ | refine run_block ?_ | refine run_ret ?_ | refine run_exit ?_ | refine run_cond_true rfl ?_ | refine run_cond_false rfl ?_ | refine thenQ_n ?_ | refine thenQ_r ?_ | refine thenQ_e ?_ | refine blockQ_n ?_ | refine blockQ_r ?_ | refine blockQ_s rfl ?_ | refine blockQ_o rfl ?_ | refine ret1_i rfl ?_ | refine ret1_b rfl ?_ | refine ret1_p rfl ?_ | refine ret1_s rfl ?_ | refine ret1_e rfl ?_ | refine ret1_a rfl ?_ | refine ret1_o rfl ?_ | refine ret1n_i rfl ?_ | refine ret1n_b rfl ?_ | refine ret1n_p rfl ?_ | refine ret1n_s rfl ?_ | refine ret1n_o rfl ?_)
      exact ⟨by rw [if_neg (by omega)], _, .inr ⟨fun hx => by rcases hx with hx | hx | hx <;> first | omega | exact hmem hx, q, hq, hall, hk, rfl⟩, doc_to S⟩
end
end Go.Proofs.Ytnnkegmiefpgpaa
namespace Go.Proofs.Ytnnkegmiefpgpaa
open Go.RowKit Go.Lib
set_option linter.unusedVariables false
theorem add_spec {st : Int} (h1 : 1 ≤ st ∧ st ≤ 32) {hs : List Bool} (hl : hs.length = 32) {n : Int} {l' : List Int} (h : AddSpec st (allI st hs) n l') : l' = allI st (addH st hs n) := by
  rcases h with ⟨hc, rfl⟩ | ⟨hc, k, hk, hlt, hge, rfl⟩
  · refine sorted_ext _ _ (allI_sorted _ _) (allI_sorted _ _) fun x => ?_
    rw [mem_allI h1, mem_allI h1, addS_has h1 hl]
    refine ⟨.inl, fun h => h.elim id fun h => ?_⟩
    obtain ⟨rfl, h2, h3⟩ := h
    rcases hc with hc | hc | hc
    · omega
    · omega
    · exact (mem_allI h1 hs x).1 hc
  · have hsort := allI_sorted st hs
    generalize hL : allI st hs = l at *
    have hn : n ∉ l := fun h => hc (.inr (.inr h))
    have htake : ∀ x ∈ l.take k, x < n := fun x hx => by
      obtain ⟨i, hi, e⟩ := (getD_mem_iff _ _).1 hx
      rw [List.length_take] at hi
      rw [getD_take (by omega)] at e
      have := hlt i (by omega)
      omega
    have hdrop : ∀ x ∈ l.drop k, n < x := fun x hx => by
      rcases hge with hge | hge
      · rw [hge, List.drop_length] at hx; cases hx
      · obtain ⟨i, hi, e⟩ := List.mem_iff_getElem.1 hx
        rw [List.length_drop] at hi
        rw [List.getElem_drop] at e
        have hk2 : k < l.length := by omega
        have hkv : l.getD k 0 = l[k] := by rw [List.getD_eq_getElem?_getD, List.getElem?_eq_getElem hk2]; rfl
        have hne : l[k] ≠ n := fun e => hn (e ▸ List.getElem_mem hk2)
        have hle : l[k] ≤ x := by
          rw [← e]
          by_cases h0 : i = 0
          · subst h0; exact Int.le_refl _
          · exact Int.le_of_lt (List.pairwise_iff_getElem.1 hsort k (k + i) hk2 (by omega) (by omega))
        omega
    refine sorted_ext _ _ ?_ (allI_sorted _ _) fun x => ?_
    · rw [List.append_assoc, List.pairwise_append]
      refine ⟨hsort.sublist (List.take_sublist _ _), ?_, ?_⟩
      · rw [List.singleton_append, List.pairwise_cons]
        exact ⟨hdrop, hsort.sublist (List.drop_sublist _ _)⟩
      · intro x hx y hy
        rw [List.singleton_append, List.mem_cons] at hy
        have h2 := htake x hx
        rcases hy with rfl | hy
        · exact h2
        · have := hdrop y hy; omega
    · have hmem : x ∈ l ↔ x ∈ l.take k ∨ x ∈ l.drop k := by rw [← List.mem_append, List.take_append_drop]
      rw [mem_allI h1, addS_has h1 hl, ← mem_allI h1, hL, hmem]
      simp only [List.mem_append, List.mem_singleton]
      constructor
      · rintro ((h | h) | h)
        · exact .inl (.inl h)
        · exact .inr ⟨h, by omega, by omega⟩
        · exact .inl (.inr h)
      · rintro ((h | h) | h)
        · exact .inl (.inl h)
        · exact .inr h
        · exact .inl (.inr h.1)
end Go.Proofs.Ytnnkegmiefpgpaa
