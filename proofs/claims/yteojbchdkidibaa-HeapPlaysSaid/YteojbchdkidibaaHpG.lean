/- heap: steps. -/
import Derived.Test.YteojbchdkidibaaHpF
namespace Go.Proofs.Yteojbchdkidibaa
open Go.RowKit Go.Lib
set_option linter.unusedVariables false
structure StepS where
  k : Int
  at_ : Int
  who : Int
  ver : Int
  z : Int
def encS (s : StepS) : Nat → Value := fun j => match j with | 0 => .int .u8 s.k | 1 => .int .i64 s.at_ | 2 => .int .i64 s.who | 3 => .int .i64 s.ver | _ => .int .i64 s.z
def stepE (H : HeapS) (s : StepS) : Int := if s.k = 0 then ownE H s.at_ s.who else if s.k = 1 then letE H s.at_ s.who else if s.k = 2 then freeE H s.at_ s.who s.ver else if s.k = 3 then bumpE H else setE H s.at_
def stepN (H : HeapS) (s : StepS) : Int := if s.k = 3 then bumpN H else 0
def stepH (H : HeapS) (s : StepS) : HeapS := if s.k = 0 then ownH H s.at_ s.who else if s.k = 1 then letH H s.at_ s.who else if s.k = 2 then freeH H s.at_ s.who s.ver else if s.k = 3 then bumpH H else setH H s.at_ s.z
section
variable {bh : Nat} {ga va : Option Addr} {gc vc : Nat} {H : HeapS} {w0 : World} (h : (heapR bh ga va gc vc H).holds w0)
include h
theorem do_at (s : StepS) (hc : H.clock ≤ 1099511627776 ∧ -1099511627776 ≤ H.clock) : Calls Try.prog 25 #[aggV [.int .u8 s.k, .int .i64 s.at_, .int .i64 s.who, .int .i64 s.ver, .int .i64 s.z], .pointer (some ⟨bh, 0, none⟩)] w0 fun e w' => e = .returned (.tuple #[.int .i64 (stepN H s), .int .i64 (stepE H s)]) ∧ HeapTo bh ga va gc vc H (stepH H s) w0 w' := by
  have S : Sat (heapR bh ga va gc vc H).foot w0 w0 [heapR bh ga va gc vc H] := (Sat.start _ w0).push h (by simp) (fun _ k hk _ => hk)
  refine enter2 Try.func25 rfl Try.ntmps25 rfl Try.results25 ?_
  repeat' (first | refine assign_i_l S rfl rfl ?_ | refine fieldAddr_l S rfl rfl rfl ?_ | refine fieldAddrE_l S rfl (by omega) rfl rfl ?_ | refine nilL ?_ | refine run_seq ?_ | refine run_skip ?_ | refine run_region ?_ | refine load_i_l S rfl rfl rfl rfl ?_ | refine loadE_i_l S rfl (by omega) rfl rfl rfl ?_ | refine move_p_l S rfl rfl ?_ | refine move_e_l S rfl rfl ?_ | (refine eql_l S rfl rfl rfl ?_ ?_ <;> intro hcmp <;> try (exfalso; omega)) | refine assign_b_l S rfl rfl ?_ | refine extract_i_l S rfl rfl rfl ?_ | (refine box_a S rfl rfl rfl ?_; clear S; intro b w S) | refine load_o_l S rfl rfl rfl rfl ?_ | refine loadE_o_l S rfl (by omega) rfl rfl rfl ?_ | refine move_o_l S rfl rfl ?_ | refine run_block ?_ | refine run_ret ?_ | refine run_exit ?_ | refine run_cond_true rfl ?_ | refine run_cond_false rfl ?_ | refine thenQ_n ?_ | refine thenQ_r ?_ | refine thenQ_e ?_ | refine blockQ_n ?_ | refine blockQ_r ?_ | refine blockQ_s rfl ?_ | refine blockQ_o rfl ?_ | refine ret2_ii rfl rfl ?_ | refine ret2_ib rfl rfl ?_ | refine ret2_ip rfl rfl ?_ | refine ret2_is rfl rfl ?_ | refine ret2_io rfl rfl ?_ | refine ret2_bi rfl rfl ?_ | refine ret2_bb rfl rfl ?_ | refine ret2_bp rfl rfl ?_ | refine ret2_bs rfl rfl ?_ | refine ret2_bo rfl rfl ?_ | refine ret2_pi rfl rfl ?_ | refine ret2_pb rfl rfl ?_ | refine ret2_pp rfl rfl ?_ | refine ret2_ps rfl rfl ?_ | refine ret2_po rfl rfl ?_ | refine ret2_si rfl rfl ?_ | refine ret2_sb rfl rfl ?_ | refine ret2_sp rfl rfl ?_ | refine ret2_ss rfl rfl ?_ | refine ret2_so rfl rfl ?_ | refine ret2_ei rfl rfl ?_ | refine ret2_eb rfl rfl ?_ | refine ret2_ep rfl rfl ?_ | refine ret2_es rfl rfl ?_ | refine ret2_eo rfl rfl ?_ | refine ret2_ai rfl rfl ?_ | refine ret2_ab rfl rfl ?_ | refine ret2_ap rfl rfl ?_ | refine ret2_as rfl rfl ?_ | refine ret2_ao rfl rfl ?_ | refine ret2_oi rfl rfl ?_ | refine ret2_ob rfl rfl ?_ | refine ret2_op rfl rfl ?_ | refine ret2_os rfl rfl ?_ | refine ret2_oo rfl rfl ?_)
  · replace S := S.sub (L' := [heapR bh ga va gc vc H])
    (refine callL (own_at S.got1 s.at_ s.who) rfl rfl ?_; rintro e w ⟨rfl, hm⟩; replace S := S.heapTo hm; clear hm; refine ⟨_, rfl, ?_⟩)
    repeat' (first | refine assign_i_l S rfl rfl ?_ | refine fieldAddr_l S rfl rfl rfl ?_ | refine fieldAddrE_l S rfl (by omega) rfl rfl ?_ | refine nilL ?_ | refine run_seq ?_ | refine run_skip ?_ | refine run_region ?_ | refine load_i_l S rfl rfl rfl rfl ?_ | refine loadE_i_l S rfl (by omega) rfl rfl rfl ?_ | refine move_p_l S rfl rfl ?_ | refine move_e_l S rfl rfl ?_ | (refine eql_l S rfl rfl rfl ?_ ?_ <;> intro hcmp <;> try (exfalso; omega)) | refine assign_b_l S rfl rfl ?_ | refine extract_i_l S rfl rfl rfl ?_ | (refine box_a S rfl rfl rfl ?_; clear S; intro b w S) | refine load_o_l S rfl rfl rfl rfl ?_ | refine loadE_o_l S rfl (by omega) rfl rfl rfl ?_ | refine move_o_l S rfl rfl ?_ | refine run_block ?_ | refine run_ret ?_ | refine run_exit ?_ | refine run_cond_true rfl ?_ | refine run_cond_false rfl ?_ | refine thenQ_n ?_ | refine thenQ_r ?_ | refine thenQ_e ?_ | refine blockQ_n ?_ | refine blockQ_r ?_ | refine blockQ_s rfl ?_ | refine blockQ_o rfl ?_ | refine ret2_ii rfl rfl ?_ | refine ret2_ib rfl rfl ?_ | refine ret2_ip rfl rfl ?_ | refine ret2_is rfl rfl ?_ | refine ret2_io rfl rfl ?_ | refine ret2_bi rfl rfl ?_ | refine ret2_bb rfl rfl ?_ | refine ret2_bp rfl rfl ?_ | refine ret2_bs rfl rfl ?_ | refine ret2_bo rfl rfl ?_ | refine ret2_pi rfl rfl ?_ | refine ret2_pb rfl rfl ?_ | refine ret2_pp rfl rfl ?_ | refine ret2_ps rfl rfl ?_ | refine ret2_po rfl rfl ?_ | refine ret2_si rfl rfl ?_ | refine ret2_sb rfl rfl ?_ | refine ret2_sp rfl rfl ?_ | refine ret2_ss rfl rfl ?_ | refine ret2_so rfl rfl ?_ | refine ret2_ei rfl rfl ?_ | refine ret2_eb rfl rfl ?_ | refine ret2_ep rfl rfl ?_ | refine ret2_es rfl rfl ?_ | refine ret2_eo rfl rfl ?_ | refine ret2_ai rfl rfl ?_ | refine ret2_ab rfl rfl ?_ | refine ret2_ap rfl rfl ?_ | refine ret2_as rfl rfl ?_ | refine ret2_ao rfl rfl ?_ | refine ret2_oi rfl rfl ?_ | refine ret2_ob rfl rfl ?_ | refine ret2_op rfl rfl ?_ | refine ret2_os rfl rfl ?_ | refine ret2_oo rfl rfl ?_)
    exact ⟨by rw [stepN, stepE, if_neg (by omega), if_pos hcmp], by rw [stepH, if_pos hcmp]; exact S.got1, S.chg⟩
  · replace S := S.sub (L' := [heapR bh ga va gc vc H])
    (refine callL (let_at S.got1 s.at_ s.who) rfl rfl ?_; rintro e w ⟨rfl, hm⟩; replace S := S.heapTo hm; clear hm; refine ⟨_, rfl, ?_⟩)
    repeat' (first | refine assign_i_l S rfl rfl ?_ | refine fieldAddr_l S rfl rfl rfl ?_ | refine fieldAddrE_l S rfl (by omega) rfl rfl ?_ | refine nilL ?_ | refine run_seq ?_ | refine run_skip ?_ | refine run_region ?_ | refine load_i_l S rfl rfl rfl rfl ?_ | refine loadE_i_l S rfl (by omega) rfl rfl rfl ?_ | refine move_p_l S rfl rfl ?_ | refine move_e_l S rfl rfl ?_ | (refine eql_l S rfl rfl rfl ?_ ?_ <;> intro hcmp <;> try (exfalso; omega)) | refine assign_b_l S rfl rfl ?_ | refine extract_i_l S rfl rfl rfl ?_ | (refine box_a S rfl rfl rfl ?_; clear S; intro b w S) | refine load_o_l S rfl rfl rfl rfl ?_ | refine loadE_o_l S rfl (by omega) rfl rfl rfl ?_ | refine move_o_l S rfl rfl ?_ | refine run_block ?_ | refine run_ret ?_ | refine run_exit ?_ | refine run_cond_true rfl ?_ | refine run_cond_false rfl ?_ | refine thenQ_n ?_ | refine thenQ_r ?_ | refine thenQ_e ?_ | refine blockQ_n ?_ | refine blockQ_r ?_ | refine blockQ_s rfl ?_ | refine blockQ_o rfl ?_ | refine ret2_ii rfl rfl ?_ | refine ret2_ib rfl rfl ?_ | refine ret2_ip rfl rfl ?_ | refine ret2_is rfl rfl ?_ | refine ret2_io rfl rfl ?_ | refine ret2_bi rfl rfl ?_ | refine ret2_bb rfl rfl ?_ | refine ret2_bp rfl rfl ?_ | refine ret2_bs rfl rfl ?_ | refine ret2_bo rfl rfl ?_ | refine ret2_pi rfl rfl ?_ | refine ret2_pb rfl rfl ?_ | refine ret2_pp rfl rfl ?_ | refine ret2_ps rfl rfl ?_ | refine ret2_po rfl rfl ?_ | refine ret2_si rfl rfl ?_ | refine ret2_sb rfl rfl ?_ | refine ret2_sp rfl rfl ?_ | refine ret2_ss rfl rfl ?_ | refine ret2_so rfl rfl ?_ | refine ret2_ei rfl rfl ?_ | refine ret2_eb rfl rfl ?_ | refine ret2_ep rfl rfl ?_ | refine ret2_es rfl rfl ?_ | refine ret2_eo rfl rfl ?_ | refine ret2_ai rfl rfl ?_ | refine ret2_ab rfl rfl ?_ | refine ret2_ap rfl rfl ?_ | refine ret2_as rfl rfl ?_ | refine ret2_ao rfl rfl ?_ | refine ret2_oi rfl rfl ?_ | refine ret2_ob rfl rfl ?_ | refine ret2_op rfl rfl ?_ | refine ret2_os rfl rfl ?_ | refine ret2_oo rfl rfl ?_)
    exact ⟨by rw [stepN, stepE, if_neg (by omega), if_neg (by omega), if_pos hcmp], by rw [stepH, if_neg (by omega), if_pos hcmp]; exact S.got1, S.chg⟩
  · replace S := S.sub (L' := [heapR bh ga va gc vc H])
    (refine callL (free_at S.got1 s.at_ s.who s.ver) rfl rfl ?_; rintro e w ⟨rfl, hm⟩; replace S := S.heapTo hm; clear hm; refine ⟨_, rfl, ?_⟩)
    repeat' (first | refine assign_i_l S rfl rfl ?_ | refine fieldAddr_l S rfl rfl rfl ?_ | refine fieldAddrE_l S rfl (by omega) rfl rfl ?_ | refine nilL ?_ | refine run_seq ?_ | refine run_skip ?_ | refine run_region ?_ | refine load_i_l S rfl rfl rfl rfl ?_ | refine loadE_i_l S rfl (by omega) rfl rfl rfl ?_ | refine move_p_l S rfl rfl ?_ | refine move_e_l S rfl rfl ?_ | (refine eql_l S rfl rfl rfl ?_ ?_ <;> intro hcmp <;> try (exfalso; omega)) | refine assign_b_l S rfl rfl ?_ | refine extract_i_l S rfl rfl rfl ?_ | (refine box_a S rfl rfl rfl ?_; clear S; intro b w S) | refine load_o_l S rfl rfl rfl rfl ?_ | refine loadE_o_l S rfl (by omega) rfl rfl rfl ?_ | refine move_o_l S rfl rfl ?_ | refine run_block ?_ | refine run_ret ?_ | refine run_exit ?_ | refine run_cond_true rfl ?_ | refine run_cond_false rfl ?_ | refine thenQ_n ?_ | refine thenQ_r ?_ | refine thenQ_e ?_ | refine blockQ_n ?_ | refine blockQ_r ?_ | refine blockQ_s rfl ?_ | refine blockQ_o rfl ?_ | refine ret2_ii rfl rfl ?_ | refine ret2_ib rfl rfl ?_ | refine ret2_ip rfl rfl ?_ | refine ret2_is rfl rfl ?_ | refine ret2_io rfl rfl ?_ | refine ret2_bi rfl rfl ?_ | refine ret2_bb rfl rfl ?_ | refine ret2_bp rfl rfl ?_ | refine ret2_bs rfl rfl ?_ | refine ret2_bo rfl rfl ?_ | refine ret2_pi rfl rfl ?_ | refine ret2_pb rfl rfl ?_ | refine ret2_pp rfl rfl ?_ | refine ret2_ps rfl rfl ?_ | refine ret2_po rfl rfl ?_ | refine ret2_si rfl rfl ?_ | refine ret2_sb rfl rfl ?_ | refine ret2_sp rfl rfl ?_ | refine ret2_ss rfl rfl ?_ | refine ret2_so rfl rfl ?_ | refine ret2_ei rfl rfl ?_ | refine ret2_eb rfl rfl ?_ | refine ret2_ep rfl rfl ?_ | refine ret2_es rfl rfl ?_ | refine ret2_eo rfl rfl ?_ | refine ret2_ai rfl rfl ?_ | refine ret2_ab rfl rfl ?_ | refine ret2_ap rfl rfl ?_ | refine ret2_as rfl rfl ?_ | refine ret2_ao rfl rfl ?_ | refine ret2_oi rfl rfl ?_ | refine ret2_ob rfl rfl ?_ | refine ret2_op rfl rfl ?_ | refine ret2_os rfl rfl ?_ | refine ret2_oo rfl rfl ?_)
    exact ⟨by rw [stepN, stepE, if_neg (by omega), if_neg (by omega), if_neg (by omega), if_pos hcmp], by rw [stepH, if_neg (by omega), if_neg (by omega), if_pos hcmp]; exact S.got1, S.chg⟩
  · replace S := S.sub (L' := [heapR bh ga va gc vc H])
    (refine callL (bump_at S.got1 hc) rfl rfl ?_; rintro e w ⟨rfl, hm⟩; replace S := S.heapTo hm; clear hm; refine ⟨_, rfl, ?_⟩)
    repeat' (first | refine assign_i_l S rfl rfl ?_ | refine fieldAddr_l S rfl rfl rfl ?_ | refine fieldAddrE_l S rfl (by omega) rfl rfl ?_ | refine nilL ?_ | refine run_seq ?_ | refine run_skip ?_ | refine run_region ?_ | refine load_i_l S rfl rfl rfl rfl ?_ | refine loadE_i_l S rfl (by omega) rfl rfl rfl ?_ | refine move_p_l S rfl rfl ?_ | refine move_e_l S rfl rfl ?_ | (refine eql_l S rfl rfl rfl ?_ ?_ <;> intro hcmp <;> try (exfalso; omega)) | refine assign_b_l S rfl rfl ?_ | refine extract_i_l S rfl rfl rfl ?_ | (refine box_a S rfl rfl rfl ?_; clear S; intro b w S) | refine load_o_l S rfl rfl rfl rfl ?_ | refine loadE_o_l S rfl (by omega) rfl rfl rfl ?_ | refine move_o_l S rfl rfl ?_ | refine run_block ?_ | refine run_ret ?_ | refine run_exit ?_ | refine run_cond_true rfl ?_ | refine run_cond_false rfl ?_ | refine thenQ_n ?_ | refine thenQ_r ?_ | refine thenQ_e ?_ | refine blockQ_n ?_ | refine blockQ_r ?_ | refine blockQ_s rfl ?_ | refine blockQ_o rfl ?_ | refine ret2_ii rfl rfl ?_ | refine ret2_ib rfl rfl ?_ | refine ret2_ip rfl rfl ?_ | refine ret2_is rfl rfl ?_ | refine ret2_io rfl rfl ?_ | refine ret2_bi rfl rfl ?_ | refine ret2_bb rfl rfl ?_ | refine ret2_bp rfl rfl ?_ | refine ret2_bs rfl rfl ?_ | refine ret2_bo rfl rfl ?_ | refine ret2_pi rfl rfl ?_ | refine ret2_pb rfl rfl ?_ | refine ret2_pp rfl rfl ?_ | refine ret2_ps rfl rfl ?_ | refine ret2_po rfl rfl ?_ | refine ret2_si rfl rfl ?_ | refine ret2_sb rfl rfl ?_ | refine ret2_sp rfl rfl ?_ | refine ret2_ss rfl rfl ?_ | refine ret2_so rfl rfl ?_ | refine ret2_ei rfl rfl ?_ | refine ret2_eb rfl rfl ?_ | refine ret2_ep rfl rfl ?_ | refine ret2_es rfl rfl ?_ | refine ret2_eo rfl rfl ?_ | refine ret2_ai rfl rfl ?_ | refine ret2_ab rfl rfl ?_ | refine ret2_ap rfl rfl ?_ | refine ret2_as rfl rfl ?_ | refine ret2_ao rfl rfl ?_ | refine ret2_oi rfl rfl ?_ | refine ret2_ob rfl rfl ?_ | refine ret2_op rfl rfl ?_ | refine ret2_os rfl rfl ?_ | refine ret2_oo rfl rfl ?_)
    exact ⟨by rw [stepN, stepE, if_pos hcmp, if_neg (by omega), if_neg (by omega), if_neg (by omega), if_pos hcmp], by rw [stepH, if_neg (by omega), if_neg (by omega), if_neg (by omega), if_pos hcmp]; exact S.got1, S.chg⟩
  · replace S := S.sub (L' := [heapR bh ga va gc vc H])
    (refine callL (set_at S.got1 s.at_ s.z) rfl rfl ?_; rintro e w ⟨rfl, hm⟩; replace S := S.heapTo hm; clear hm; refine ⟨_, rfl, ?_⟩)
    repeat' (first | refine assign_i_l S rfl rfl ?_ | refine fieldAddr_l S rfl rfl rfl ?_ | refine fieldAddrE_l S rfl (by omega) rfl rfl ?_ | refine nilL ?_ | refine run_seq ?_ | refine run_skip ?_ | refine run_region ?_ | refine load_i_l S rfl rfl rfl rfl ?_ | refine loadE_i_l S rfl (by omega) rfl rfl rfl ?_ | refine move_p_l S rfl rfl ?_ | refine move_e_l S rfl rfl ?_ | (refine eql_l S rfl rfl rfl ?_ ?_ <;> intro hcmp <;> try (exfalso; omega)) | refine assign_b_l S rfl rfl ?_ | refine extract_i_l S rfl rfl rfl ?_ | (refine box_a S rfl rfl rfl ?_; clear S; intro b w S) | refine load_o_l S rfl rfl rfl rfl ?_ | refine loadE_o_l S rfl (by omega) rfl rfl rfl ?_ | refine move_o_l S rfl rfl ?_ | refine run_block ?_ | refine run_ret ?_ | refine run_exit ?_ | refine run_cond_true rfl ?_ | refine run_cond_false rfl ?_ | refine thenQ_n ?_ | refine thenQ_r ?_ | refine thenQ_e ?_ | refine blockQ_n ?_ | refine blockQ_r ?_ | refine blockQ_s rfl ?_ | refine blockQ_o rfl ?_ | refine ret2_ii rfl rfl ?_ | refine ret2_ib rfl rfl ?_ | refine ret2_ip rfl rfl ?_ | refine ret2_is rfl rfl ?_ | refine ret2_io rfl rfl ?_ | refine ret2_bi rfl rfl ?_ | refine ret2_bb rfl rfl ?_ | refine ret2_bp rfl rfl ?_ | refine ret2_bs rfl rfl ?_ | refine ret2_bo rfl rfl ?_ | refine ret2_pi rfl rfl ?_ | refine ret2_pb rfl rfl ?_ | refine ret2_pp rfl rfl ?_ | refine ret2_ps rfl rfl ?_ | refine ret2_po rfl rfl ?_ | refine ret2_si rfl rfl ?_ | refine ret2_sb rfl rfl ?_ | refine ret2_sp rfl rfl ?_ | refine ret2_ss rfl rfl ?_ | refine ret2_so rfl rfl ?_ | refine ret2_ei rfl rfl ?_ | refine ret2_eb rfl rfl ?_ | refine ret2_ep rfl rfl ?_ | refine ret2_es rfl rfl ?_ | refine ret2_eo rfl rfl ?_ | refine ret2_ai rfl rfl ?_ | refine ret2_ab rfl rfl ?_ | refine ret2_ap rfl rfl ?_ | refine ret2_as rfl rfl ?_ | refine ret2_ao rfl rfl ?_ | refine ret2_oi rfl rfl ?_ | refine ret2_ob rfl rfl ?_ | refine ret2_op rfl rfl ?_ | refine ret2_os rfl rfl ?_ | refine ret2_oo rfl rfl ?_)
    exact ⟨by rw [stepN, stepE, if_neg (by omega), if_neg (by omega), if_neg (by omega), if_neg (by omega), if_neg (by omega)], by rw [stepH, if_neg (by omega), if_neg (by omega), if_neg (by omega), if_neg (by omega)]; exact S.got1, S.chg⟩
end
/-- What holds of each heap that is made and stepped. -/
structure OkH (n st : Nat) (limit : Int) (H : HeapS) : Prop where
  vals : H.vals.length = n
  locks : H.locks.length = st
  lim : H.limit = limit
  c0 : 0 ≤ H.clock
  c1 : H.clock ≤ limit
  ver : ∀ i, i < st → 0 ≤ (H.locks.getD i (0, 0)).2 ∧ (H.locks.getD i (0, 0)).2 ≤ H.clock
theorem getD_set' {l : List (Int × Int)} {s i : Nat} {z : Int × Int} (hs : s < l.length) : (l.set s z).getD i (0, 0) = if i = s then z else l.getD i (0, 0) := by
  rw [List.getD_eq_getElem?_getD, List.getD_eq_getElem?_getD, List.getElem?_set]
  by_cases e : s = i
  · subst e; simp [hs]
  · rw [if_neg e, if_neg (fun x => e x.symm)]
theorem OkH.put {n st : Nat} {limit : Int} {H : HeapS} (h : OkH n st limit H) {s : Nat} (hs : s < st) {z : Int × Int} (hz : 0 ≤ z.2 ∧ z.2 ≤ H.clock) : OkH n st limit { H with locks := H.locks.set s z } :=
  ⟨h.vals, by simp [h.locks], h.lim, h.c0, h.c1, fun i hi => by
    rw [show ({ H with locks := H.locks.set s z } : HeapS).locks = H.locks.set s z from rfl, getD_set' (by rw [h.locks]; exact hs)]
    split
    · exact hz
    · exact h.ver i hi⟩
theorem letE_zero {H : HeapS} {s who : Int} (e : letE H s who = 0) : 0 ≤ s ∧ s < H.locks.length ∧ 0 ≤ who ∧ (H.locks.getD s.toNat (0, 0)).1 = who := by
  unfold letE at e
  split at e
  · simp at e
  · split at e
    · simp at e
    · rename_i h1 h2
      omega
theorem ownE_zero {H : HeapS} {s who : Int} (e : ownE H s who = 0) : 0 ≤ s ∧ s < H.locks.length ∧ 0 ≤ who ∧ who < 6 ∧ (H.locks.getD s.toNat (0, 0)).1 = -1 := by
  unfold ownE at e
  split at e
  · simp at e
  · split at e
    · simp at e
    · split at e
      · simp at e
      · rename_i h1 h2 h3
        omega
theorem freeE_zero {H : HeapS} {s who ver : Int} (e : freeE H s who ver = 0) : letE H s who = 0 ∧ (H.locks.getD s.toNat (0, 0)).2 ≤ ver ∧ ver ≤ H.clock := by
  unfold freeE at e
  split at e
  · rename_i h; exact absurd e h
  · split at e
    · simp at e
    · rename_i h1 h2
      exact ⟨by simpa using h1, by omega⟩
theorem OkH.step {n st : Nat} {limit : Int} {H : HeapS} (h : OkH n st limit H) (s : StepS) : OkH n st limit (stepH H s) := by
  unfold stepH
  split
  · unfold ownH
    split
    · rename_i e
      have := ownE_zero e
      have hl := h.locks
      exact h.put (by omega) (h.ver s.at_.toNat (by omega))
    · exact h
  · split
    · unfold letH
      split
      · rename_i e
        have := letE_zero e
        have hl := h.locks
        exact h.put (by omega) (h.ver s.at_.toNat (by omega))
      · exact h
    · split
      · unfold freeH
        split
        · rename_i e
          obtain ⟨e1, e2, e3⟩ := freeE_zero e
          have := letE_zero e1
          have hl := h.locks
          have hv := h.ver s.at_.toNat (by omega)
          exact h.put (by omega) ⟨by show 0 ≤ s.ver; omega, e3⟩
        · exact h
      · split
        · unfold bumpH
          split
          · exact h
          · rename_i e
            have h3 := h.lim
            have h4 := h.c0
            exact ⟨h.vals, h.locks, h.lim, by show 0 ≤ H.clock + 1; omega, by show H.clock + 1 ≤ limit; omega, fun i hi => by
              have := h.ver i hi
              show 0 ≤ (H.locks.getD i (0, 0)).2 ∧ (H.locks.getD i (0, 0)).2 ≤ H.clock + 1
              omega⟩
        · unfold setH
          split
          · exact h
          · exact ⟨by simp [h.vals], h.locks, h.lim, h.c0, h.c1, h.ver⟩
theorem OkH.new {zs : List Int} {stripes limit : Int} (hg : goodNew zs.length stripes limit) : OkH zs.length stripes.toNat limit (newH zs stripes limit) := by
  unfold goodNew at hg
  refine ⟨rfl, by simp [newH], rfl, by show (0 : Int) ≤ 0; omega, by show (0 : Int) ≤ limit; omega, fun i hi => ?_⟩
  show 0 ≤ ((List.replicate stripes.toNat ((-1 : Int), (0 : Int))).getD i (0, 0)).2 ∧ ((List.replicate stripes.toNat ((-1 : Int), (0 : Int))).getD i (0, 0)).2 ≤ 0
  simp [List.getD_eq_getElem?_getD, hi]
def playH (H : HeapS) (l : List StepS) : HeapS := l.foldl stepH H
theorem OkH.play {n st : Nat} {limit : Int} {l : List StepS} : ∀ {H : HeapS}, OkH n st limit H → OkH n st limit (playH H l) := by
  induction l with
  | nil => exact fun h => h
  | cons s l ih => exact fun h => ih (h.step s)
theorem playH_succ {H : HeapS} {l : List StepS} {i : Nat} {d : StepS} (hi : i < l.length) : playH H (l.take (i + 1)) = stepH (playH H (l.take i)) (l.getD i d) := by
  unfold playH
  rw [List.take_add_one, List.foldl_append, List.getElem?_eq_getElem hi, List.getD_eq_getElem?_getD, List.getElem?_eq_getElem hi]
  rfl
abbrev stepD : StepS := ⟨0, 0, 0, 0, 0⟩
theorem played_no (a : Option Addr) (cap : Nat) (zs : List Int) (stripes limit : Int) (sa : Option Addr) (sl sc : Nat) (hg : ¬ goodNew zs.length stripes limit) (w0 : World) (h : SlOk w0 a zs.length cap 1 (gL encI 0 zs)) :
    Calls Try.prog 19 #[.slice a zs.length cap, .int .i64 stripes, .int .i64 limit, .slice sa sl sc] w0 fun e w' => e = .returned (.pointer none) ∧ Below w0.heap.size w0 w' := by
  have S := Sat.reads (r := slL a cap 1 encI 0 zs) h
  refine enter1 Try.func19 rfl Try.ntmps19 rfl Try.results19 ?_
  repeat' (first | refine move_i_l S rfl rfl ?_ | refine assign_p_l S rfl rfl ?_ | refine assign_e_l S rfl rfl ?_ | refine nilL ?_ | refine run_seq ?_ | refine run_skip ?_ | refine run_region ?_ | refine move_s_l S rfl rfl ?_ | refine assign_i_l S rfl rfl ?_ | refine move_p_l S rfl rfl ?_ | refine move_e_l S rfl rfl ?_ | refine extract_p_l S rfl rfl rfl ?_ | refine extract_e_l S rfl rfl rfl ?_ | refine extract_i_l S rfl rfl rfl ?_ | (refine neq_l S rfl rfl rfl ?_ ?_ <;> intro hcmp <;> try (exfalso; omega)) | refine len_l S rfl rfl ?_ | (refine lss_l S rfl rfl rfl ?_ ?_ <;> intro hcmp <;> try (exfalso; omega)) | refine indexAddr_l S rfl rfl (idx_cast _) (by omega) rfl ?_ | refine indexAddr_l S rfl rfl (idx_eq _) (by omega) rfl ?_ | refine loadN_l S rfl rfl rfl ?_ | refine loadEN_l S rfl (by omega) rfl rfl ?_ | refine add_l S rfl rfl (wrap_in (by omega)) rfl ?_ | refine add_l S rfl rfl rfl rfl ?_ | refine assign_o_l S rfl rfl ?_ | refine move_o_l S rfl rfl ?_ | refine extract_o_l S rfl rfl rfl ?_ | refine run_block ?_ | refine run_ret ?_ | refine run_exit ?_ | refine run_cond_true rfl ?_ | refine run_cond_false rfl ?_ | refine thenQ_n ?_ | refine thenQ_r ?_ | refine thenQ_e ?_ | refine blockQ_n ?_ | refine blockQ_r ?_ | refine blockQ_s rfl ?_ | refine blockQ_o rfl ?_ | refine ret1_i rfl ?_ | refine ret1_b rfl ?_ | refine ret1_p rfl ?_ | refine ret1_s rfl ?_ | refine ret1_e rfl ?_ | refine ret1_a rfl ?_ | refine ret1_o rfl ?_ | refine ret1n_i rfl ?_ | refine ret1n_b rfl ?_ | refine ret1n_p rfl ?_ | refine ret1n_s rfl ?_ | refine ret1n_o rfl ?_)
  (refine callL (new_no a cap zs stripes limit hg w0 h) rfl rfl ?_; rintro e w ⟨rfl, hb⟩; replace S := S.below hb; clear hb; refine ⟨_, rfl, ?_⟩)
  repeat' (first | refine move_i_l S rfl rfl ?_ | refine assign_p_l S rfl rfl ?_ | refine assign_e_l S rfl rfl ?_ | refine nilL ?_ | refine run_seq ?_ | refine run_skip ?_ | refine run_region ?_ | refine move_s_l S rfl rfl ?_ | refine assign_i_l S rfl rfl ?_ | refine move_p_l S rfl rfl ?_ | refine move_e_l S rfl rfl ?_ | refine extract_p_l S rfl rfl rfl ?_ | refine extract_e_l S rfl rfl rfl ?_ | refine extract_i_l S rfl rfl rfl ?_ | (refine neq_l S rfl rfl rfl ?_ ?_ <;> intro hcmp <;> try (exfalso; omega)) | refine len_l S rfl rfl ?_ | (refine lss_l S rfl rfl rfl ?_ ?_ <;> intro hcmp <;> try (exfalso; omega)) | refine indexAddr_l S rfl rfl (idx_cast _) (by omega) rfl ?_ | refine indexAddr_l S rfl rfl (idx_eq _) (by omega) rfl ?_ | refine loadN_l S rfl rfl rfl ?_ | refine loadEN_l S rfl (by omega) rfl rfl ?_ | refine add_l S rfl rfl (wrap_in (by omega)) rfl ?_ | refine add_l S rfl rfl rfl rfl ?_ | refine assign_o_l S rfl rfl ?_ | refine move_o_l S rfl rfl ?_ | refine extract_o_l S rfl rfl rfl ?_ | refine run_block ?_ | refine run_ret ?_ | refine run_exit ?_ | refine run_cond_true rfl ?_ | refine run_cond_false rfl ?_ | refine thenQ_n ?_ | refine thenQ_r ?_ | refine thenQ_e ?_ | refine blockQ_n ?_ | refine blockQ_r ?_ | refine blockQ_s rfl ?_ | refine blockQ_o rfl ?_ | refine ret1_i rfl ?_ | refine ret1_b rfl ?_ | refine ret1_p rfl ?_ | refine ret1_s rfl ?_ | refine ret1_e rfl ?_ | refine ret1_a rfl ?_ | refine ret1_o rfl ?_ | refine ret1n_i rfl ?_ | refine ret1n_b rfl ?_ | refine ret1n_p rfl ?_ | refine ret1n_s rfl ?_ | refine ret1n_o rfl ?_)
  exact ⟨rfl, S.chg.below⟩
theorem played_yes (a : Option Addr) (cap : Nat) (zs : List Int) (stripes limit : Int) (sa : Option Addr) (sc : Nat) (l : List StepS) (hg : goodNew zs.length stripes limit) (w0 : World) (h : SlOk w0 a zs.length cap 1 (gL encI 0 zs)) (h2 : SlOk w0 sa l.length sc 5 (gL encS stepD l)) :
    Calls Try.prog 19 #[.slice a zs.length cap, .int .i64 stripes, .int .i64 limit, .slice sa l.length sc] w0 fun e w' => ∃ p, e = .returned p ∧ NewHeap w0 w' (playH (newH zs stripes limit) l) p ∧ Below w0.heap.size w0 w' := by
  have S := Sat.reads2 (r := slL sa sc 5 encS stepD l) (r' := slL a cap 1 encI 0 zs) h2 h
  have hm := h2.small
  refine enter1 Try.func19 rfl Try.ntmps19 rfl Try.results19 ?_
  repeat' (first | refine move_i_l S rfl rfl ?_ | refine assign_p_l S rfl rfl ?_ | refine assign_e_l S rfl rfl ?_ | refine nilL ?_ | refine run_seq ?_ | refine run_skip ?_ | refine run_region ?_ | refine move_s_l S rfl rfl ?_ | refine assign_i_l S rfl rfl ?_ | refine move_p_l S rfl rfl ?_ | refine move_e_l S rfl rfl ?_ | refine extract_p_l S rfl rfl rfl ?_ | refine extract_e_l S rfl rfl rfl ?_ | refine extract_i_l S rfl rfl rfl ?_ | (refine neq_l S rfl rfl rfl ?_ ?_ <;> intro hcmp <;> try (exfalso; omega)) | refine len_l S rfl rfl ?_ | (refine lss_l S rfl rfl rfl ?_ ?_ <;> intro hcmp <;> try (exfalso; omega)) | refine indexAddr_l S rfl rfl (idx_cast _) (by omega) rfl ?_ | refine indexAddr_l S rfl rfl (idx_eq _) (by omega) rfl ?_ | refine loadN_l S rfl rfl rfl ?_ | refine loadEN_l S rfl (by omega) rfl rfl ?_ | refine add_l S rfl rfl (wrap_in (by omega)) rfl ?_ | refine add_l S rfl rfl rfl rfl ?_ | refine assign_o_l S rfl rfl ?_ | refine move_o_l S rfl rfl ?_ | refine extract_o_l S rfl rfl rfl ?_ | refine run_block ?_ | refine run_ret ?_ | refine run_exit ?_ | refine run_cond_true rfl ?_ | refine run_cond_false rfl ?_ | refine thenQ_n ?_ | refine thenQ_r ?_ | refine thenQ_e ?_ | refine blockQ_n ?_ | refine blockQ_r ?_ | refine blockQ_s rfl ?_ | refine blockQ_o rfl ?_ | refine ret1_i rfl ?_ | refine ret1_b rfl ?_ | refine ret1_p rfl ?_ | refine ret1_s rfl ?_ | refine ret1_e rfl ?_ | refine ret1_a rfl ?_ | refine ret1_o rfl ?_ | refine ret1n_i rfl ?_ | refine ret1n_b rfl ?_ | refine ret1n_p rfl ?_ | refine ret1n_s rfl ?_ | refine ret1n_o rfl ?_)
  refine callL (new_yes a cap zs stripes limit hg w0 h) rfl rfl ?_
  rintro e w ⟨_, rfl, ⟨b, ga, va, gc, vc, rfl, hh, hf⟩, hb⟩
  replace S := S.fresh hb hh hf
  refine ⟨_, rfl, ?_⟩
  replace S := S.sub (L' := [heapR b ga va gc vc (newH zs stripes limit), roR (slL sa sc 5 encS stepD l)])
  repeat' (first | refine move_i_l S rfl rfl ?_ | refine assign_p_l S rfl rfl ?_ | refine assign_e_l S rfl rfl ?_ | refine nilL ?_ | refine run_seq ?_ | refine run_skip ?_ | refine run_region ?_ | refine move_s_l S rfl rfl ?_ | refine assign_i_l S rfl rfl ?_ | refine move_p_l S rfl rfl ?_ | refine move_e_l S rfl rfl ?_ | refine extract_p_l S rfl rfl rfl ?_ | refine extract_e_l S rfl rfl rfl ?_ | refine extract_i_l S rfl rfl rfl ?_ | (refine neq_l S rfl rfl rfl ?_ ?_ <;> intro hcmp <;> try (exfalso; omega)) | refine len_l S rfl rfl ?_ | (refine lss_l S rfl rfl rfl ?_ ?_ <;> intro hcmp <;> try (exfalso; omega)) | refine indexAddr_l S rfl rfl (idx_cast _) (by omega) rfl ?_ | refine indexAddr_l S rfl rfl (idx_eq _) (by omega) rfl ?_ | refine loadN_l S rfl rfl rfl ?_ | refine loadEN_l S rfl (by omega) rfl rfl ?_ | refine add_l S rfl rfl (wrap_in (by omega)) rfl ?_ | refine add_l S rfl rfl rfl rfl ?_ | refine assign_o_l S rfl rfl ?_ | refine move_o_l S rfl rfl ?_ | refine extract_o_l S rfl rfl rfl ?_ | refine run_block ?_ | refine run_ret ?_ | refine run_exit ?_ | refine run_cond_true rfl ?_ | refine run_cond_false rfl ?_ | refine thenQ_n ?_ | refine thenQ_r ?_ | refine thenQ_e ?_ | refine blockQ_n ?_ | refine blockQ_r ?_ | refine blockQ_s rfl ?_ | refine blockQ_o rfl ?_ | refine ret1_i rfl ?_ | refine ret1_b rfl ?_ | refine ret1_p rfl ?_ | refine ret1_s rfl ?_ | refine ret1_e rfl ?_ | refine ret1_a rfl ?_ | refine ret1_o rfl ?_ | refine ret1n_i rfl ?_ | refine ret1n_b rfl ?_ | refine ret1n_p rfl ?_ | refine ret1n_s rfl ?_ | refine ret1n_o rfl ?_)
  refine run_while [21, 22, 23, 24, 25, 26, 27, 28, 29, 30, 31, 32] (fun (k : Nat) t => upd t 11 (.int .i64 k)) (fun k w' => k ≤ l.length ∧ Sat (fun _ => False) w0 w' [heapR b ga va gc vc (playH (newH zs stripes limit) (l.take k)), roR (slL sa sc 5 encS stepD l)]) (fun k => l.length - k) 0 ?_ ?_ ?_
  · (repeat (first | exact agree_refl | refine agree_r rfl ?_ | refine agree_l rfl ?_ | refine agree_hv rfl ?_))
  · exact ⟨by omega, S⟩
  · rintro k j w ⟨hk, S⟩
    have hok : OkH zs.length stripes.toNat limit (playH (newH zs stripes limit) (l.take k)) := (OkH.new hg).play
    have hc := hok.c0
    have hc1 := hok.c1
    have hg2 := hg
    unfold goodNew at hg2
    repeat' (first | refine move_i_l S rfl rfl ?_ | refine assign_p_l S rfl rfl ?_ | refine assign_e_l S rfl rfl ?_ | refine nilL ?_ | refine run_seq ?_ | refine run_skip ?_ | refine run_region ?_ | refine move_s_l S rfl rfl ?_ | refine assign_i_l S rfl rfl ?_ | refine move_p_l S rfl rfl ?_ | refine move_e_l S rfl rfl ?_ | refine extract_p_l S rfl rfl rfl ?_ | refine extract_e_l S rfl rfl rfl ?_ | refine extract_i_l S rfl rfl rfl ?_ | (refine neq_l S rfl rfl rfl ?_ ?_ <;> intro hcmp <;> try (exfalso; omega)) | refine len_l S rfl rfl ?_ | (refine lss_l S rfl rfl rfl ?_ ?_ <;> intro hcmp <;> try (exfalso; omega)) | refine indexAddr_l S rfl rfl (idx_cast _) (by omega) rfl ?_ | refine indexAddr_l S rfl rfl (idx_eq _) (by omega) rfl ?_ | refine loadN_l S rfl rfl rfl ?_ | refine loadEN_l S rfl (by omega) rfl rfl ?_ | refine add_l S rfl rfl (wrap_in (by omega)) rfl ?_ | refine add_l S rfl rfl rfl rfl ?_ | refine assign_o_l S rfl rfl ?_ | refine move_o_l S rfl rfl ?_ | refine extract_o_l S rfl rfl rfl ?_ | refine run_block ?_ | refine run_ret ?_ | refine run_exit ?_ | refine run_cond_true rfl ?_ | refine run_cond_false rfl ?_ | refine thenQ_n ?_ | refine thenQ_r ?_ | refine thenQ_e ?_ | refine blockQ_n ?_ | refine blockQ_r ?_ | refine blockQ_s rfl ?_ | refine blockQ_o rfl ?_ | refine ret1_i rfl ?_ | refine ret1_b rfl ?_ | refine ret1_p rfl ?_ | refine ret1_s rfl ?_ | refine ret1_e rfl ?_ | refine ret1_a rfl ?_ | refine ret1_o rfl ?_ | refine ret1n_i rfl ?_ | refine ret1n_b rfl ?_ | refine ret1n_p rfl ?_ | refine ret1n_s rfl ?_ | refine ret1n_o rfl ?_)
    · (refine callL (do_at S.got1 (l.getD k stepD) ⟨by omega, by omega⟩) rfl rfl ?_; rintro e w ⟨rfl, hm⟩; replace S := S.heapTo hm; clear hm; refine ⟨_, rfl, ?_⟩)
      rw [← playH_succ (by omega)] at S
      repeat' (first | refine move_i_l S rfl rfl ?_ | refine assign_p_l S rfl rfl ?_ | refine assign_e_l S rfl rfl ?_ | refine nilL ?_ | refine run_seq ?_ | refine run_skip ?_ | refine run_region ?_ | refine move_s_l S rfl rfl ?_ | refine assign_i_l S rfl rfl ?_ | refine move_p_l S rfl rfl ?_ | refine move_e_l S rfl rfl ?_ | refine extract_p_l S rfl rfl rfl ?_ | refine extract_e_l S rfl rfl rfl ?_ | refine extract_i_l S rfl rfl rfl ?_ | (refine neq_l S rfl rfl rfl ?_ ?_ <;> intro hcmp <;> try (exfalso; omega)) | refine len_l S rfl rfl ?_ | (refine lss_l S rfl rfl rfl ?_ ?_ <;> intro hcmp <;> try (exfalso; omega)) | refine indexAddr_l S rfl rfl (idx_cast _) (by omega) rfl ?_ | refine indexAddr_l S rfl rfl (idx_eq _) (by omega) rfl ?_ | refine loadN_l S rfl rfl rfl ?_ | refine loadEN_l S rfl (by omega) rfl rfl ?_ | refine add_l S rfl rfl (wrap_in (by omega)) rfl ?_ | refine add_l S rfl rfl rfl rfl ?_ | refine assign_o_l S rfl rfl ?_ | refine move_o_l S rfl rfl ?_ | refine extract_o_l S rfl rfl rfl ?_ | refine run_block ?_ | refine run_ret ?_ | refine run_exit ?_ | refine run_cond_true rfl ?_ | refine run_cond_false rfl ?_ | refine thenQ_n ?_ | refine thenQ_r ?_ | refine thenQ_e ?_ | refine blockQ_n ?_ | refine blockQ_r ?_ | refine blockQ_s rfl ?_ | refine blockQ_o rfl ?_ | refine ret1_i rfl ?_ | refine ret1_b rfl ?_ | refine ret1_p rfl ?_ | refine ret1_s rfl ?_ | refine ret1_e rfl ?_ | refine ret1_a rfl ?_ | refine ret1_o rfl ?_ | refine ret1n_i rfl ?_ | refine ret1n_b rfl ?_ | refine ret1n_p rfl ?_ | refine ret1n_s rfl ?_ | refine ret1n_o rfl ?_)
      refine ⟨k + 1, ?_, ⟨by omega, S⟩, by omega⟩
      try rw [Int.natCast_add]
      (repeat (first | exact agree_refl | refine agree_r rfl ?_ | refine agree_l rfl ?_ | refine agree_hv rfl ?_))
    · rw [List.take_of_length_le (by omega)] at S
      exact ⟨_, rfl, ⟨b, ga, va, gc, vc, rfl, S.got1, fun q hq => Nat.le_of_not_lt fun hlt => S.own (heapR b ga va gc vc _) (List.mem_cons_self ..) rfl q hq hlt⟩, S.chg.below⟩
end Go.Proofs.Yteojbchdkidibaa
