/- heap: the document's heap goes with it. -/
import Derived.Test.YteojbchdkidibaaHpR3
namespace Go.Proofs.Yteojbchdkidibaa
open Go.RowKit Go.Lib
set_option linter.unusedVariables false
def refOf (H : HeapS) : RefS := ⟨H.vals, H.locks.map (·.1), H.locks.map (·.2), H.clock, H.limit⟩
def OwnOk (H : HeapS) : Prop := ∀ i, i < H.locks.length → -1 ≤ (H.locks.getD i (0, 0)).1
theorem fstD (l : List (Int × Int)) (i : Nat) : (l.map (·.1)).getD i 0 = (l.getD i (0, 0)).1 := by
  rw [List.getD_eq_getElem?_getD, List.getD_eq_getElem?_getD, List.getElem?_map]
  cases l[i]? <;> rfl
theorem sndD (l : List (Int × Int)) (i : Nat) : (l.map (·.2)).getD i 0 = (l.getD i (0, 0)).2 := by
  rw [List.getD_eq_getElem?_getD, List.getD_eq_getElem?_getD, List.getElem?_map]
  cases l[i]? <;> rfl
theorem owns_len (H : HeapS) : (refOf H).owns.length = H.locks.length := by simp [refOf]
theorem vers_len (H : HeapS) : (refOf H).vers.length = H.locks.length := by simp [refOf]
theorem ownsD (H : HeapS) (i : Nat) : (refOf H).owns.getD i 0 = (H.locks.getD i (0, 0)).1 := fstD _ _
theorem versD (H : HeapS) (i : Nat) : (refOf H).vers.getD i 0 = (H.locks.getD i (0, 0)).2 := sndD _ _
theorem ris_iff (H : HeapS) (s : Int) : rIs (refOf H) s ↔ (0 ≤ s ∧ s < H.locks.length) := by unfold rIs; rw [owns_len]
theorem set_fst (l : List (Int × Int)) (i : Nat) (z : Int × Int) : (l.set i z).map (·.1) = (l.map (·.1)).set i z.1 := by rw [List.map_set]
theorem set_snd (l : List (Int × Int)) (i : Nat) (z : Int × Int) : (l.set i z).map (·.2) = (l.map (·.2)).set i z.2 := by rw [List.map_set]
theorem set_sndD (l : List (Int × Int)) (i : Nat) (x : Int) : (l.set i (x, (l.getD i (0, 0)).2)).map (·.2) = l.map (·.2) := by
  rw [set_snd]
  apply List.ext_getElem?
  intro j
  rw [List.getElem?_set]
  by_cases e : i = j
  · subst e
    by_cases hi : i < (l.map (·.2)).length
    · rw [if_pos rfl, if_pos hi, List.getElem?_map]
      rw [List.length_map] at hi
      simp [List.getD_eq_getElem?_getD, List.getElem?_eq_getElem hi]
    · rw [if_pos rfl, if_neg hi, List.getElem?_eq_none (by omega)]
  · rw [if_neg e]
theorem rown_e (H : HeapS) (s who : Int) (hk : OwnOk H) : rOwnE (refOf H) s who = ownE H s who := by
  unfold rOwnE ownE
  rw [ownsD]
  simp only [ris_iff]
  by_cases hs : 0 ≤ s ∧ s < (H.locks.length : Int)
  · have := hk s.toNat (by omega)
    have hs2 : ¬ ¬ (0 ≤ s ∧ s < (H.locks.length : Int)) := fun h => h hs
    rw [if_neg hs2, if_neg hs2]
    by_cases h1 : who < 0 ∨ 5 < who
    · rw [if_pos h1, if_pos (by omega)]
    · rw [if_neg h1, if_neg (show ¬ (who < 0 ∨ 6 ≤ who) by omega)]
      by_cases h2 : 0 ≤ (H.locks.getD s.toNat (0, 0)).1
      · rw [if_pos h2, if_pos (by omega)]
      · rw [if_neg h2, if_neg (by omega)]
  · rw [if_pos hs, if_pos hs]
theorem rown_r (H : HeapS) (s who : Int) (hk : OwnOk H) : rOwnR (refOf H) s who = refOf (ownH H s who) := by
  unfold rOwnR ownH
  rw [rown_e H s who hk]
  split
  · unfold refOf
    simp only [set_sndD, set_fst]
  · rfl
theorem rlet_e (H : HeapS) (s who : Int) : rLetE (refOf H) s who = letE H s who := by
  unfold rLetE letE
  rw [ownsD]
  simp only [ris_iff]
theorem rlet_r (H : HeapS) (s who : Int) : rLetR (refOf H) s who = refOf (letH H s who) := by
  unfold rLetR letH
  rw [rlet_e]
  split
  · unfold refOf
    simp only [set_sndD, set_fst]
  · rfl
theorem rfree_e (H : HeapS) (s who ver : Int) : rFreeE (refOf H) s who ver = freeE H s who ver := by
  unfold rFreeE freeE letE
  rw [ownsD, versD]
  simp only [ris_iff]
  by_cases hs : 0 ≤ s ∧ s < (H.locks.length : Int)
  · have hs2 : ¬ ¬ (0 ≤ s ∧ s < (H.locks.length : Int)) := fun h => h hs
    rw [if_neg hs2, if_neg hs2]
    by_cases h1 : who < 0 ∨ (H.locks.getD s.toNat (0, 0)).1 ≠ who
    · rw [if_pos h1, if_pos h1, if_pos (by decide)]
    · rw [if_neg h1, if_neg h1, if_neg (show ¬ ((0 : Int) ≠ 0) by decide)]; rfl
  · rw [if_pos hs, if_pos hs, if_pos (by decide)]
theorem rfree_r (H : HeapS) (s who ver : Int) : rFreeR (refOf H) s who ver = refOf (freeH H s who ver) := by
  unfold rFreeR freeH
  rw [rfree_e]
  split
  · unfold refOf
    simp only [set_snd, set_fst]
  · rfl
theorem rbump_r (H : HeapS) : rBumpR (refOf H) = refOf (bumpH H) := by
  unfold rBumpR bumpH
  show (if H.limit ≤ H.clock then _ else _) = _
  split <;> rfl
theorem rset_r (H : HeapS) (v z : Int) : rSetR (refOf H) v z = refOf (setH H v z) := by
  unfold rSetR setH rSetE
  show (if (if v < 0 ∨ (H.vals.length : Int) ≤ v then (5 : Int) else 0) = 0 then _ else _) = _
  by_cases h : v < 0 ∨ (H.vals.length : Int) ≤ v
  · rw [if_pos h, if_pos h, if_neg (by decide)]
  · rw [if_neg h, if_neg h, if_pos rfl]; rfl
theorem OwnOk.put {H : HeapS} (h : OwnOk H) {s : Nat} (hs : s < H.locks.length) {z : Int × Int} (hz : -1 ≤ z.1) : OwnOk { H with locks := H.locks.set s z } := fun i hi => by
  have hi' : i < H.locks.length := by simpa using hi
  rw [show ({ H with locks := H.locks.set s z } : HeapS).locks = H.locks.set s z from rfl, getD_set' hs]
  split
  · exact hz
  · exact h i hi'
theorem OwnOk.step {H : HeapS} (h : OwnOk H) (x : StepS) : OwnOk (stepH H x) := by
  unfold stepH
  split
  · unfold ownH
    split
    · rename_i e
      have := ownE_zero e
      exact h.put (by omega) (by show -1 ≤ x.who; omega)
    · exact h
  · split
    · unfold letH
      split
      · rename_i e
        have := letE_zero e
        exact h.put (by omega) (by show (-1 : Int) ≤ -1; omega)
      · exact h
    · split
      · unfold freeH
        split
        · rename_i e
          have := letE_zero (freeE_zero e).1
          exact h.put (by omega) (by show (-1 : Int) ≤ -1; omega)
        · exact h
      · split
        · unfold bumpH; split <;> exact h
        · unfold setH; split <;> exact h
theorem OwnOk.new (zs : List Int) (stripes limit : Int) : OwnOk (newH zs stripes limit) := fun i hi => by
  show -1 ≤ ((List.replicate stripes.toNat ((-1 : Int), (0 : Int))).getD i (0, 0)).1
  have : i < stripes.toNat := by simpa [newH] using hi
  simp [List.getD_eq_getElem?_getD, this]
theorem OwnOk.play {l : List StepS} : ∀ {H : HeapS}, OwnOk H → OwnOk (playH H l) := by
  induction l with
  | nil => exact fun h => h
  | cons s l ih => exact fun h => ih (h.step s)
theorem refOf_new (zs : List Int) (k : Nat) (limit : Int) : refOf (newH zs k limit) = newR zs k limit := by
  simp [refOf, newH, newR]
theorem rvalue_eq (H : HeapS) (v : Int) : rValue (refOf H) v = valueV H v := rfl
theorem rstripe_eq (H : HeapS) (v : Int) : rStripe (refOf H) v = stripeV H v := by unfold rStripe stripeV; rw [owns_len]; rfl
theorem rowner_eq (H : HeapS) (s : Int) : rOwner (refOf H) s = ownerV H s := by unfold rOwner ownerV; rw [ownsD]; simp only [ris_iff]
theorem rversion_eq (H : HeapS) (s : Int) : rVersion (refOf H) s = versionV H s := by unfold rVersion versionV; rw [versD]; simp only [ris_iff]
set_option maxHeartbeats 1000000
section
variable {bh : Nat} {A : RA} {H : HeapS} {w0 : World} (h : (refR bh A (refOf H)).holds w0)
include h
theorem rdo_at (s : StepS) (hk : OwnOk H) (hl : H.locks.length ≤ 100 ∧ H.vals.length ≤ 100) (hc : H.clock ≤ 1099511627776 ∧ -1099511627776 ≤ H.clock) : Calls Try.prog 33 #[aggV [.int .u8 s.k, .int .i64 s.at_, .int .i64 s.who, .int .i64 s.ver, .int .i64 s.z], .pointer (some ⟨bh, 0, none⟩)] w0 fun e w' => e = .returned (.tuple #[.int .i64 (stepN H s), .int .i64 (stepE H s)]) ∧ RefTo bh A (refOf H) (refOf (stepH H s)) w0 w' := by
  have S : Sat (refR bh A (refOf H)).foot w0 w0 [refR bh A (refOf H)] := (Sat.start _ w0).push h (by simp) (fun _ k hk _ => hk)
  have ho := owns_len H
  have hv := vers_len H
  have fin : ∀ {w : World} {A' : RA} {R : RefS}, Sat (refR bh A (refOf H)).foot w0 w [refR bh A' R] → RefTo bh A (refOf H) R w0 w := fun {w A' R} S => ⟨A', S.got1, S.chg, fun k hk => by
    by_cases hlt : k < w0.heap.size
    · exact .inl (S.own (refR bh A' R) (List.mem_cons_self ..) rfl k hk hlt)
    · exact .inr (by omega)⟩
  refine enter2 Try.func33 rfl Try.ntmps33 rfl Try.results33 ?_
  repeat' (first | refine assign_i_l S rfl rfl ?_ | refine fieldAddr_l S rfl rfl rfl ?_ | refine fieldAddrE_l S rfl (by omega) rfl rfl ?_ | refine nilL ?_ | refine run_seq ?_ | refine run_skip ?_ | refine run_region ?_ | refine load_i_l S rfl rfl rfl rfl ?_ | refine loadE_i_l S rfl (by omega) rfl rfl rfl ?_ | refine move_p_l S rfl rfl ?_ | refine move_e_l S rfl rfl ?_ | (refine eql_l S rfl rfl rfl ?_ ?_ <;> intro hcmp <;> try (exfalso; omega)) | refine assign_b_l S rfl rfl ?_ | refine extract_i_l S rfl rfl rfl ?_ | (refine box_a S rfl rfl rfl ?_; clear S; intro b w S) | refine load_o_l S rfl rfl rfl rfl ?_ | refine loadE_o_l S rfl (by omega) rfl rfl rfl ?_ | refine move_o_l S rfl rfl ?_ | refine run_block ?_ | refine run_ret ?_ | refine run_exit ?_ | refine run_cond_true rfl ?_ | refine run_cond_false rfl ?_ | refine thenQ_n ?_ | refine thenQ_r ?_ | refine thenQ_e ?_ | refine blockQ_n ?_ | refine blockQ_r ?_ | refine blockQ_s rfl ?_ | refine blockQ_o rfl ?_ | refine ret2_ii rfl rfl ?_ | refine ret2_ib rfl rfl ?_ | refine ret2_ip rfl rfl ?_ | refine ret2_is rfl rfl ?_ | refine ret2_io rfl rfl ?_ | refine ret2_bi rfl rfl ?_ | refine ret2_bb rfl rfl ?_ | refine ret2_bp rfl rfl ?_ | refine ret2_bs rfl rfl ?_ | refine ret2_bo rfl rfl ?_ | refine ret2_pi rfl rfl ?_ | refine ret2_pb rfl rfl ?_ | refine ret2_pp rfl rfl ?_ | refine ret2_ps rfl rfl ?_ | refine ret2_po rfl rfl ?_ | refine ret2_si rfl rfl ?_ | refine ret2_sb rfl rfl ?_ | refine ret2_sp rfl rfl ?_ | refine ret2_ss rfl rfl ?_ | refine ret2_so rfl rfl ?_ | refine ret2_ei rfl rfl ?_ | refine ret2_eb rfl rfl ?_ | refine ret2_ep rfl rfl ?_ | refine ret2_es rfl rfl ?_ | refine ret2_eo rfl rfl ?_ | refine ret2_ai rfl rfl ?_ | refine ret2_ab rfl rfl ?_ | refine ret2_ap rfl rfl ?_ | refine ret2_as rfl rfl ?_ | refine ret2_ao rfl rfl ?_ | refine ret2_oi rfl rfl ?_ | refine ret2_ob rfl rfl ?_ | refine ret2_op rfl rfl ?_ | refine ret2_os rfl rfl ?_ | refine ret2_oo rfl rfl ?_)
  · replace S := S.sub (L' := [refR bh A (refOf H)])
    refine callL (rown_at S.got1 s.at_ s.who (by omega)) rfl rfl ?_
    rintro e w' ⟨rfl, hm⟩
    obtain ⟨A', S2⟩ := S.refTo hm
    rw [rown_r H _ _ hk] at S2
    rw [rown_e H _ _ hk]
    clear S hm
    have S := S2
    clear S2
    refine ⟨_, rfl, ?_⟩
    repeat' (first | refine assign_i_l S rfl rfl ?_ | refine fieldAddr_l S rfl rfl rfl ?_ | refine fieldAddrE_l S rfl (by omega) rfl rfl ?_ | refine nilL ?_ | refine run_seq ?_ | refine run_skip ?_ | refine run_region ?_ | refine load_i_l S rfl rfl rfl rfl ?_ | refine loadE_i_l S rfl (by omega) rfl rfl rfl ?_ | refine move_p_l S rfl rfl ?_ | refine move_e_l S rfl rfl ?_ | (refine eql_l S rfl rfl rfl ?_ ?_ <;> intro hcmp <;> try (exfalso; omega)) | refine assign_b_l S rfl rfl ?_ | refine extract_i_l S rfl rfl rfl ?_ | (refine box_a S rfl rfl rfl ?_; clear S; intro b w S) | refine load_o_l S rfl rfl rfl rfl ?_ | refine loadE_o_l S rfl (by omega) rfl rfl rfl ?_ | refine move_o_l S rfl rfl ?_ | refine run_block ?_ | refine run_ret ?_ | refine run_exit ?_ | refine run_cond_true rfl ?_ | refine run_cond_false rfl ?_ | refine thenQ_n ?_ | refine thenQ_r ?_ | refine thenQ_e ?_ | refine blockQ_n ?_ | refine blockQ_r ?_ | refine blockQ_s rfl ?_ | refine blockQ_o rfl ?_ | refine ret2_ii rfl rfl ?_ | refine ret2_ib rfl rfl ?_ | refine ret2_ip rfl rfl ?_ | refine ret2_is rfl rfl ?_ | refine ret2_io rfl rfl ?_ | refine ret2_bi rfl rfl ?_ | refine ret2_bb rfl rfl ?_ | refine ret2_bp rfl rfl ?_ | refine ret2_bs rfl rfl ?_ | refine ret2_bo rfl rfl ?_ | refine ret2_pi rfl rfl ?_ | refine ret2_pb rfl rfl ?_ | refine ret2_pp rfl rfl ?_ | refine ret2_ps rfl rfl ?_ | refine ret2_po rfl rfl ?_ | refine ret2_si rfl rfl ?_ | refine ret2_sb rfl rfl ?_ | refine ret2_sp rfl rfl ?_ | refine ret2_ss rfl rfl ?_ | refine ret2_so rfl rfl ?_ | refine ret2_ei rfl rfl ?_ | refine ret2_eb rfl rfl ?_ | refine ret2_ep rfl rfl ?_ | refine ret2_es rfl rfl ?_ | refine ret2_eo rfl rfl ?_ | refine ret2_ai rfl rfl ?_ | refine ret2_ab rfl rfl ?_ | refine ret2_ap rfl rfl ?_ | refine ret2_as rfl rfl ?_ | refine ret2_ao rfl rfl ?_ | refine ret2_oi rfl rfl ?_ | refine ret2_ob rfl rfl ?_ | refine ret2_op rfl rfl ?_ | refine ret2_os rfl rfl ?_ | refine ret2_oo rfl rfl ?_)
    exact ⟨by rw [stepN, stepE, if_neg (by omega), if_pos hcmp], by rw [stepH, if_pos hcmp]; exact fin S⟩
  · replace S := S.sub (L' := [refR bh A (refOf H)])
    refine callL (rlet_at S.got1 s.at_ s.who (by omega)) rfl rfl ?_
    rintro e w' ⟨rfl, hm⟩
    obtain ⟨A', S2⟩ := S.refTo hm
    rw [rlet_r] at S2
    rw [rlet_e]
    clear S hm
    have S := S2
    clear S2
    refine ⟨_, rfl, ?_⟩
    repeat' (first | refine assign_i_l S rfl rfl ?_ | refine fieldAddr_l S rfl rfl rfl ?_ | refine fieldAddrE_l S rfl (by omega) rfl rfl ?_ | refine nilL ?_ | refine run_seq ?_ | refine run_skip ?_ | refine run_region ?_ | refine load_i_l S rfl rfl rfl rfl ?_ | refine loadE_i_l S rfl (by omega) rfl rfl rfl ?_ | refine move_p_l S rfl rfl ?_ | refine move_e_l S rfl rfl ?_ | (refine eql_l S rfl rfl rfl ?_ ?_ <;> intro hcmp <;> try (exfalso; omega)) | refine assign_b_l S rfl rfl ?_ | refine extract_i_l S rfl rfl rfl ?_ | (refine box_a S rfl rfl rfl ?_; clear S; intro b w S) | refine load_o_l S rfl rfl rfl rfl ?_ | refine loadE_o_l S rfl (by omega) rfl rfl rfl ?_ | refine move_o_l S rfl rfl ?_ | refine run_block ?_ | refine run_ret ?_ | refine run_exit ?_ | refine run_cond_true rfl ?_ | refine run_cond_false rfl ?_ | refine thenQ_n ?_ | refine thenQ_r ?_ | refine thenQ_e ?_ | refine blockQ_n ?_ | refine blockQ_r ?_ | refine blockQ_s rfl ?_ | refine blockQ_o rfl ?_ | refine ret2_ii rfl rfl ?_ | refine ret2_ib rfl rfl ?_ | refine ret2_ip rfl rfl ?_ | refine ret2_is rfl rfl ?_ | refine ret2_io rfl rfl ?_ | refine ret2_bi rfl rfl ?_ | refine ret2_bb rfl rfl ?_ | refine ret2_bp rfl rfl ?_ | refine ret2_bs rfl rfl ?_ | refine ret2_bo rfl rfl ?_ | refine ret2_pi rfl rfl ?_ | refine ret2_pb rfl rfl ?_ | refine ret2_pp rfl rfl ?_ | refine ret2_ps rfl rfl ?_ | refine ret2_po rfl rfl ?_ | refine ret2_si rfl rfl ?_ | refine ret2_sb rfl rfl ?_ | refine ret2_sp rfl rfl ?_ | refine ret2_ss rfl rfl ?_ | refine ret2_so rfl rfl ?_ | refine ret2_ei rfl rfl ?_ | refine ret2_eb rfl rfl ?_ | refine ret2_ep rfl rfl ?_ | refine ret2_es rfl rfl ?_ | refine ret2_eo rfl rfl ?_ | refine ret2_ai rfl rfl ?_ | refine ret2_ab rfl rfl ?_ | refine ret2_ap rfl rfl ?_ | refine ret2_as rfl rfl ?_ | refine ret2_ao rfl rfl ?_ | refine ret2_oi rfl rfl ?_ | refine ret2_ob rfl rfl ?_ | refine ret2_op rfl rfl ?_ | refine ret2_os rfl rfl ?_ | refine ret2_oo rfl rfl ?_)
    exact ⟨by rw [stepN, stepE, if_neg (by omega), if_neg (by omega), if_pos hcmp], by rw [stepH, if_neg (by omega), if_pos hcmp]; exact fin S⟩
  · replace S := S.sub (L' := [refR bh A (refOf H)])
    refine callL (rfree_at S.got1 s.at_ s.who s.ver (by omega) (by omega)) rfl rfl ?_
    rintro e w' ⟨rfl, hm⟩
    obtain ⟨A', S2⟩ := S.refTo hm
    rw [rfree_r] at S2
    rw [rfree_e]
    clear S hm
    have S := S2
    clear S2
    refine ⟨_, rfl, ?_⟩
    repeat' (first | refine assign_i_l S rfl rfl ?_ | refine fieldAddr_l S rfl rfl rfl ?_ | refine fieldAddrE_l S rfl (by omega) rfl rfl ?_ | refine nilL ?_ | refine run_seq ?_ | refine run_skip ?_ | refine run_region ?_ | refine load_i_l S rfl rfl rfl rfl ?_ | refine loadE_i_l S rfl (by omega) rfl rfl rfl ?_ | refine move_p_l S rfl rfl ?_ | refine move_e_l S rfl rfl ?_ | (refine eql_l S rfl rfl rfl ?_ ?_ <;> intro hcmp <;> try (exfalso; omega)) | refine assign_b_l S rfl rfl ?_ | refine extract_i_l S rfl rfl rfl ?_ | (refine box_a S rfl rfl rfl ?_; clear S; intro b w S) | refine load_o_l S rfl rfl rfl rfl ?_ | refine loadE_o_l S rfl (by omega) rfl rfl rfl ?_ | refine move_o_l S rfl rfl ?_ | refine run_block ?_ | refine run_ret ?_ | refine run_exit ?_ | refine run_cond_true rfl ?_ | refine run_cond_false rfl ?_ | refine thenQ_n ?_ | refine thenQ_r ?_ | refine thenQ_e ?_ | refine blockQ_n ?_ | refine blockQ_r ?_ | refine blockQ_s rfl ?_ | refine blockQ_o rfl ?_ | refine ret2_ii rfl rfl ?_ | refine ret2_ib rfl rfl ?_ | refine ret2_ip rfl rfl ?_ | refine ret2_is rfl rfl ?_ | refine ret2_io rfl rfl ?_ | refine ret2_bi rfl rfl ?_ | refine ret2_bb rfl rfl ?_ | refine ret2_bp rfl rfl ?_ | refine ret2_bs rfl rfl ?_ | refine ret2_bo rfl rfl ?_ | refine ret2_pi rfl rfl ?_ | refine ret2_pb rfl rfl ?_ | refine ret2_pp rfl rfl ?_ | refine ret2_ps rfl rfl ?_ | refine ret2_po rfl rfl ?_ | refine ret2_si rfl rfl ?_ | refine ret2_sb rfl rfl ?_ | refine ret2_sp rfl rfl ?_ | refine ret2_ss rfl rfl ?_ | refine ret2_so rfl rfl ?_ | refine ret2_ei rfl rfl ?_ | refine ret2_eb rfl rfl ?_ | refine ret2_ep rfl rfl ?_ | refine ret2_es rfl rfl ?_ | refine ret2_eo rfl rfl ?_ | refine ret2_ai rfl rfl ?_ | refine ret2_ab rfl rfl ?_ | refine ret2_ap rfl rfl ?_ | refine ret2_as rfl rfl ?_ | refine ret2_ao rfl rfl ?_ | refine ret2_oi rfl rfl ?_ | refine ret2_ob rfl rfl ?_ | refine ret2_op rfl rfl ?_ | refine ret2_os rfl rfl ?_ | refine ret2_oo rfl rfl ?_)
    exact ⟨by rw [stepN, stepE, if_neg (by omega), if_neg (by omega), if_neg (by omega), if_pos hcmp], by rw [stepH, if_neg (by omega), if_neg (by omega), if_pos hcmp]; exact fin S⟩
  · replace S := S.sub (L' := [refR bh A (refOf H)])
    refine callL (rbump_at S.got1 hc) rfl rfl ?_
    rintro e w' ⟨rfl, hm⟩
    obtain ⟨A', S2⟩ := S.refTo hm
    rw [rbump_r] at S2
    clear S hm
    have S := S2
    clear S2
    refine ⟨_, rfl, ?_⟩
    repeat' (first | refine assign_i_l S rfl rfl ?_ | refine fieldAddr_l S rfl rfl rfl ?_ | refine fieldAddrE_l S rfl (by omega) rfl rfl ?_ | refine nilL ?_ | refine run_seq ?_ | refine run_skip ?_ | refine run_region ?_ | refine load_i_l S rfl rfl rfl rfl ?_ | refine loadE_i_l S rfl (by omega) rfl rfl rfl ?_ | refine move_p_l S rfl rfl ?_ | refine move_e_l S rfl rfl ?_ | (refine eql_l S rfl rfl rfl ?_ ?_ <;> intro hcmp <;> try (exfalso; omega)) | refine assign_b_l S rfl rfl ?_ | refine extract_i_l S rfl rfl rfl ?_ | (refine box_a S rfl rfl rfl ?_; clear S; intro b w S) | refine load_o_l S rfl rfl rfl rfl ?_ | refine loadE_o_l S rfl (by omega) rfl rfl rfl ?_ | refine move_o_l S rfl rfl ?_ | refine run_block ?_ | refine run_ret ?_ | refine run_exit ?_ | refine run_cond_true rfl ?_ | refine run_cond_false rfl ?_ | refine thenQ_n ?_ | refine thenQ_r ?_ | refine thenQ_e ?_ | refine blockQ_n ?_ | refine blockQ_r ?_ | refine blockQ_s rfl ?_ | refine blockQ_o rfl ?_ | refine ret2_ii rfl rfl ?_ | refine ret2_ib rfl rfl ?_ | refine ret2_ip rfl rfl ?_ | refine ret2_is rfl rfl ?_ | refine ret2_io rfl rfl ?_ | refine ret2_bi rfl rfl ?_ | refine ret2_bb rfl rfl ?_ | refine ret2_bp rfl rfl ?_ | refine ret2_bs rfl rfl ?_ | refine ret2_bo rfl rfl ?_ | refine ret2_pi rfl rfl ?_ | refine ret2_pb rfl rfl ?_ | refine ret2_pp rfl rfl ?_ | refine ret2_ps rfl rfl ?_ | refine ret2_po rfl rfl ?_ | refine ret2_si rfl rfl ?_ | refine ret2_sb rfl rfl ?_ | refine ret2_sp rfl rfl ?_ | refine ret2_ss rfl rfl ?_ | refine ret2_so rfl rfl ?_ | refine ret2_ei rfl rfl ?_ | refine ret2_eb rfl rfl ?_ | refine ret2_ep rfl rfl ?_ | refine ret2_es rfl rfl ?_ | refine ret2_eo rfl rfl ?_ | refine ret2_ai rfl rfl ?_ | refine ret2_ab rfl rfl ?_ | refine ret2_ap rfl rfl ?_ | refine ret2_as rfl rfl ?_ | refine ret2_ao rfl rfl ?_ | refine ret2_oi rfl rfl ?_ | refine ret2_ob rfl rfl ?_ | refine ret2_op rfl rfl ?_ | refine ret2_os rfl rfl ?_ | refine ret2_oo rfl rfl ?_)
    exact ⟨by rw [stepN, stepE, if_pos hcmp, if_neg (by omega), if_neg (by omega), if_neg (by omega), if_pos hcmp]; rfl, by rw [stepH, if_neg (by omega), if_neg (by omega), if_neg (by omega), if_pos hcmp]; exact fin S⟩
  · replace S := S.sub (L' := [refR bh A (refOf H)])
    refine callL (rset_at S.got1 s.at_ s.z (by show H.vals.length ≤ 1000; omega)) rfl rfl ?_
    rintro e w' ⟨rfl, hm⟩
    obtain ⟨A', S2⟩ := S.refTo hm
    rw [rset_r] at S2
    clear S hm
    have S := S2
    clear S2
    refine ⟨_, rfl, ?_⟩
    repeat' (first | refine assign_i_l S rfl rfl ?_ | refine fieldAddr_l S rfl rfl rfl ?_ | refine fieldAddrE_l S rfl (by omega) rfl rfl ?_ | refine nilL ?_ | refine run_seq ?_ | refine run_skip ?_ | refine run_region ?_ | refine load_i_l S rfl rfl rfl rfl ?_ | refine loadE_i_l S rfl (by omega) rfl rfl rfl ?_ | refine move_p_l S rfl rfl ?_ | refine move_e_l S rfl rfl ?_ | (refine eql_l S rfl rfl rfl ?_ ?_ <;> intro hcmp <;> try (exfalso; omega)) | refine assign_b_l S rfl rfl ?_ | refine extract_i_l S rfl rfl rfl ?_ | (refine box_a S rfl rfl rfl ?_; clear S; intro b w S) | refine load_o_l S rfl rfl rfl rfl ?_ | refine loadE_o_l S rfl (by omega) rfl rfl rfl ?_ | refine move_o_l S rfl rfl ?_ | refine run_block ?_ | refine run_ret ?_ | refine run_exit ?_ | refine run_cond_true rfl ?_ | refine run_cond_false rfl ?_ | refine thenQ_n ?_ | refine thenQ_r ?_ | refine thenQ_e ?_ | refine blockQ_n ?_ | refine blockQ_r ?_ | refine blockQ_s rfl ?_ | refine blockQ_o rfl ?_ | refine ret2_ii rfl rfl ?_ | refine ret2_ib rfl rfl ?_ | refine ret2_ip rfl rfl ?_ | refine ret2_is rfl rfl ?_ | refine ret2_io rfl rfl ?_ | refine ret2_bi rfl rfl ?_ | refine ret2_bb rfl rfl ?_ | refine ret2_bp rfl rfl ?_ | refine ret2_bs rfl rfl ?_ | refine ret2_bo rfl rfl ?_ | refine ret2_pi rfl rfl ?_ | refine ret2_pb rfl rfl ?_ | refine ret2_pp rfl rfl ?_ | refine ret2_ps rfl rfl ?_ | refine ret2_po rfl rfl ?_ | refine ret2_si rfl rfl ?_ | refine ret2_sb rfl rfl ?_ | refine ret2_sp rfl rfl ?_ | refine ret2_ss rfl rfl ?_ | refine ret2_so rfl rfl ?_ | refine ret2_ei rfl rfl ?_ | refine ret2_eb rfl rfl ?_ | refine ret2_ep rfl rfl ?_ | refine ret2_es rfl rfl ?_ | refine ret2_eo rfl rfl ?_ | refine ret2_ai rfl rfl ?_ | refine ret2_ab rfl rfl ?_ | refine ret2_ap rfl rfl ?_ | refine ret2_as rfl rfl ?_ | refine ret2_ao rfl rfl ?_ | refine ret2_oi rfl rfl ?_ | refine ret2_ob rfl rfl ?_ | refine ret2_op rfl rfl ?_ | refine ret2_os rfl rfl ?_ | refine ret2_oo rfl rfl ?_)
    exact ⟨by rw [stepN, stepE, if_neg (by omega), if_neg (by omega), if_neg (by omega), if_neg (by omega), if_neg (by omega)]; rfl, by rw [stepH, if_neg (by omega), if_neg (by omega), if_neg (by omega), if_neg (by omega)]; exact fin S⟩
end
end Go.Proofs.Yteojbchdkidibaa
