/- heap: a new one; Bump, Set, Values. -/
import Derived.Test.YtpiodhdbdlfnhaaGreatDoorHpM
namespace Go.Proofs.YtpiodhdbdlfnhaaGreatDoor
open Go.RowKit Go.Lib
set_option linter.unusedVariables false
/-- A fresh heap. -/
def NewHeap (w0 w' : World) (H : HeapS) (v : Value) : Prop := ∃ b ga va gc vc, v = .pointer (some ⟨b, 0, none⟩) ∧ (heapR b ga va gc vc H).holds w' ∧ ∀ k, (heapR b ga va gc vc H).foot k → w0.heap.size ≤ k
def goodNew (n : Nat) (stripes limit : Int) : Prop := 1 ≤ n ∧ n ≤ 32 ∧ 1 ≤ stripes ∧ stripes ≤ n ∧ 0 ≤ limit ∧ limit ≤ 1099511627776
def newH (zs : List Int) (stripes limit : Int) : HeapS := ⟨List.replicate stripes.toNat (-1, 0), 0, limit, zs⟩
theorem new_no (a : Option Addr) (cap : Nat) (zs : List Int) (stripes limit : Int) (hg : ¬ goodNew zs.length stripes limit) (w0 : World) (h : SlOk w0 a zs.length cap 1 (gL encI 0 zs)) :
    Calls Tryz.prog 6 #[.slice a zs.length cap, .int .i64 stripes, .int .i64 limit] w0 fun e w' => e = .returned (.tuple #[.pointer none, .int .i64 1]) ∧ Below w0.heap.size w0 w' := by
  unfold goodNew at hg
  have S := Sat.reads (r := slL a cap 1 encI 0 zs) h
  have hm := h.small
  refine enter2 Tryz.func6 rfl Tryz.ntmps6 rfl Tryz.results6 ?_
  repeat' (first | refine move_i_l S rfl rfl ?_ | refine move_b_l S rfl rfl ?_ | refine pick_tb_l S rfl rfl rfl ?_ | refine nilL ?_ | refine run_seq ?_ | refine run_region ?_ | refine onL rfl rfl ?_ | refine offL rfl rfl rfl rfl ?_ | refine pick_fb_l S rfl rfl rfl ?_ | refine move_s_l S rfl rfl ?_ | refine assign_p_l S rfl rfl ?_ | refine assign_i_l S rfl rfl ?_ | refine len_l S rfl rfl ?_ | (refine lss_l S rfl rfl rfl ?_ ?_ <;> intro hcmp <;> try (exfalso; first | omega | exact hcmp (by decide) | exact absurd hcmp (by decide))) | (refine gtr_l S rfl rfl rfl ?_ ?_ <;> intro hcmp <;> try (exfalso; first | omega | exact hcmp (by decide) | exact absurd hcmp (by decide))) | refine run_ret ?_ | refine run_cond_true rfl ?_ | refine thenQ_n ?_ | refine thenQ_r ?_ | refine ret2_pi rfl rfl ?_)
  all_goals exact ⟨rfl, S.chg.below⟩
theorem new_yes (a : Option Addr) (cap : Nat) (zs : List Int) (stripes limit : Int) (hg : goodNew zs.length stripes limit) (w0 : World) (h : SlOk w0 a zs.length cap 1 (gL encI 0 zs)) :
    Calls Tryz.prog 6 #[.slice a zs.length cap, .int .i64 stripes, .int .i64 limit] w0 fun e w' => ∃ p, e = .returned (.tuple #[p, .int .i64 0]) ∧ NewHeap w0 w' (newH zs stripes limit) p ∧ Below w0.heap.size w0 w' := by
  unfold goodNew at hg
  have S := Sat.reads (r := slL a cap 1 encI 0 zs) h
  have hm := h.small
  obtain ⟨k, rfl⟩ : ∃ k : Nat, stripes = k := ⟨stripes.toNat, by omega⟩
  refine enter2 Tryz.func6 rfl Tryz.ntmps6 rfl Tryz.results6 ?_
  repeat' (first | refine move_i_l S rfl rfl ?_ | refine move_b_l S rfl rfl ?_ | refine nilL ?_ | refine run_seq ?_ | refine run_skip ?_ | refine run_region ?_ | refine onL rfl rfl ?_ | refine pick_fb_l S rfl rfl rfl ?_ | refine move_s_l S rfl rfl ?_ | refine assign_p_l S rfl rfl ?_ | refine assign_i_l S rfl rfl ?_ | refine len_l S rfl rfl ?_ | (refine lss_l S rfl rfl rfl ?_ ?_ <;> intro hcmp <;> try (exfalso; first | omega | exact hcmp (by decide) | exact absurd hcmp (by decide))) | (refine gtr_l S rfl rfl rfl ?_ ?_ <;> intro hcmp <;> try (exfalso; first | omega | exact hcmp (by decide) | exact absurd hcmp (by decide))) | (apply build2_l S; (· repeat (first | exact mapN | apply mapC_i rfl | apply mapC_b rfl | apply mapC_p rfl | apply mapC_s rfl | apply mapC_e rfl | apply mapC_a rfl | apply mapC_o rfl)); (· rfl); (· rfl)) | (apply buildSliceN_l S; (· repeat (first | exact vsN | apply vsC rfl)); (· rfl); (· rfl); (· rfl); (· rfl); (· rfl); clear S; intro b w S) | refine run_cond_false rfl ?_ | refine thenQ_n ?_)
  refine callL (repeat_at (-1, 0) k (by omega) (by omega) b w (RowOk.sl (RowOk.congr (S.all _ (List.mem_cons_self ..)) (fun i hi j hj => by
    have hi0 : i = 0 := by omega
    subst hi0
    match j, hj with
    | 0, _ => rfl
    | 1, _ => rfl)))) rfl rfl ?_
  rintro e w' ⟨_, rfl, ⟨ga, gc, rfl, hr, hf⟩, hb⟩
  replace S := Sat.freshRow S hb hr hf
  refine ⟨_, rfl, ?_⟩
  repeat' (first | refine move_i_l S rfl rfl ?_ | refine move_s_l S rfl rfl ?_ | (apply build3_l S; (· repeat (first | exact mapN | apply mapC_i rfl | apply mapC_b rfl | apply mapC_p rfl | apply mapC_s rfl | apply mapC_e rfl | apply mapC_a rfl | apply mapC_o rfl)); (· rfl); (· rfl)))
  refine callL (clone64_at a cap zs (by omega) w' (S.all (roR (slL a cap 1 encI 0 zs)) (by simp))) rfl rfl ?_
  rintro e w ⟨_, rfl, ⟨va, vc, rfl, hr, hf⟩, hb⟩
  replace S := Sat.freshRow S hb hr hf
  refine ⟨_, rfl, ?_⟩
  repeat' (first | refine nilL ?_ | refine assign_p_l S rfl rfl ?_ | refine assign_i_l S rfl rfl ?_ | (apply build4_l S; (· repeat (first | exact mapN | apply mapC_i rfl | apply mapC_b rfl | apply mapC_p rfl | apply mapC_s rfl | apply mapC_e rfl | apply mapC_a rfl | apply mapC_o rfl)); (· rfl); (· rfl)) | (refine box_a S rfl rfl rfl ?_; clear S; intro b w S) | refine run_ret ?_ | refine thenQ_n ?_ | refine ret2_pi rfl rfl ?_)
  have S2 : Sat (fun _ => False) w0 w (blk b 4 (heapC ga va gc vc (newH zs k limit)) 69 :: rowL va vc 2 1 encI 0 zs :: rowL ga gc 64 2 encP (0, 0) (List.replicate k (-1, 0)) :: _) := S.turn1 (r' := blk b 4 (heapC ga va gc vc (newH zs k limit)) 69) S.got1 rfl (fun k e => e)
  have S3 : Sat (fun _ => False) w0 w (heapL b ga va gc vc (newH zs (k : Int) limit)) := Sat.perm (S2.sub (L' := [blk b 4 (heapC ga va gc vc (newH zs k limit)) 69, rowL va vc 2 1 encI 0 zs, rowL ga gc 64 2 encP (0, 0) (List.replicate k (-1, 0))])) (List.Perm.cons _ (List.Perm.swap _ _ _))
  refine ⟨_, rfl, ⟨b, ga, va, gc, vc, rfl, heap_shut S3, fun q hq => Nat.le_of_not_lt fun hlt => ?_⟩, S.chg.below⟩
  rcases hq with hq | hq | hq
  · exact S3.own _ (List.mem_cons_self ..) rfl q hq hlt
  · exact S3.own (locksR ga gc (newH zs (k : Int) limit).locks) (by simp) rfl q hq hlt
  · exact S3.own (valsR va vc (newH zs (k : Int) limit).vals) (by simp) rfl q hq hlt
section
variable {b : Nat} {ga va : Option Addr} {gc vc : Nat} {H : HeapS} {w0 : World} (h : (heapR b ga va gc vc H).holds w0)
include h
def bumpE (H : HeapS) : Int := if H.limit ≤ H.clock then 41 else 0
def bumpN (H : HeapS) : Int := if H.limit ≤ H.clock then 0 else H.clock + 1
def bumpH (H : HeapS) : HeapS := if H.limit ≤ H.clock then H else { H with clock := H.clock + 1 }
theorem bump0_at (hc : H.clock ≤ 1099511627776 ∧ -1099511627776 ≤ H.clock) : Calls Tryz.prog 41 #[.pointer (some ⟨b, 0, none⟩)] w0 fun e w' => e = .returned (.tuple #[.int .i64 (bumpN H), .int .i64 (bumpE H)]) ∧ HeapTo b ga va gc vc H (bumpH H) w0 w' := by
  have S := heap_open h
  refine enter2 Tryz.func41 rfl Tryz.ntmps41 rfl Tryz.results41 ?_
  repeat' (first | refine assign_i_l S rfl rfl ?_ | refine nilCheck_l S rfl rfl ?_ | refine nilL ?_ | refine run_seq ?_ | refine run_skip ?_ | refine run_region ?_ | refine fieldAddr_l S rfl rfl rfl ?_ | refine move_p_l S rfl rfl ?_ | refine load_i_l S rfl rfl rfl rfl ?_ | refine add_l S rfl rfl (wrap_in (by omega)) rfl ?_ | (refine store_i S rfl rfl rfl ?_; clear S; intro w S) | refine run_ret ?_ | refine run_cond_true rfl ?_ | refine run_cond_false rfl ?_ | refine thenQ_n ?_ | refine thenQ_r ?_ | (refine run_draws S mixed ?_ ?_; · kernel_rfl) | (refine nilQ ?_; clear S; intro w S) | refine move_p_q rfl rfl ?_ | refine nilCheck_q rfl rfl ?_ | refine fieldAddr_q rfl rfl rfl ?_ | refine load_i_q rfl rfl rfl rfl ?_ | (refine geq_q rfl rfl rfl ?_ ?_ <;> intro hcmp <;> try (exfalso; first | omega | exact hcmp (by decide) | exact absurd hcmp (by decide))) | refine ret2_ii rfl rfl ?_)
  · exact ⟨by rw [bumpN, bumpE, if_pos hcmp, if_pos hcmp], by rw [bumpH, if_pos hcmp]; exact heap_shut S, S.chg⟩
  · refine ⟨by rw [bumpN, bumpE, if_neg hcmp, if_neg hcmp], ?_, S.chg⟩
    rw [bumpH, if_neg hcmp]
    refine heap_shut (S := (heapR b ga va gc vc H).foot) (w₀ := w0) ?_
    have e : upd (heapC ga va gc vc H) (0 + 1) (Value.int IntKind.i64 (H.clock + 1)) = heapC ga va gc vc { H with clock := H.clock + 1 } := by
      funext i
      match i with
      | 0 => rfl
      | 1 => rfl
      | 2 => rfl
      | (_ + 3) => rfl
    rw [e] at S
    exact S
theorem bump_at (hc : H.clock ≤ 1099511627776 ∧ -1099511627776 ≤ H.clock) : Calls Tryz.prog 13 #[.pointer (some ⟨b, 0, none⟩)] w0 fun e w' => e = .returned (.tuple #[.int .i64 (bumpN H), .int .i64 (bumpE H)]) ∧ HeapTo b ga va gc vc H (bumpH H) w0 w' := by
  have S0 := Sat.reads h
  refine enter2 Tryz.func13 rfl Tryz.ntmps13 rfl Tryz.results13 ?_
  have S : Sat (heapR b ga va gc vc H).foot w0 w0 [heapR b ga va gc vc H] := (Sat.start _ w0).push h (by simp) (fun _ k hk _ => hk)
  repeat' (first | refine assign_i_l S rfl rfl ?_ | refine move_p_l S rfl rfl ?_ | refine nilL ?_ | refine run_seq ?_ | refine run_skip ?_ | refine run_region ?_ | refine eqlP_l S rfl rfl rfl ?_ | refine nilCheck_l S rfl rfl ?_ | refine fieldAddr_l S rfl rfl rfl ?_ | refine run_cond_false rfl ?_ | refine thenQ_n ?_)
  refine callL (bump0_at S.got1 hc) rfl rfl ?_
  rintro e w' ⟨rfl, hh, hc'⟩
  refine ⟨_, rfl, ?_⟩
  replace S := S.swap (r := heapR b ga va gc vc H) (r' := heapR b ga va gc vc (bumpH H)) rfl hc' hh rfl (fun k e => .inl e)
  repeat' (first | refine assign_i_l S rfl rfl ?_ | refine nilL ?_ | refine extract_i_l S rfl rfl rfl ?_ | refine run_ret ?_ | refine thenQ_n ?_ | refine ret2_ii rfl rfl ?_)
  exact ⟨rfl, S.got1, S.chg⟩
def setE (H : HeapS) (v : Int) : Int := if v < 0 ∨ H.vals.length ≤ v then 5 else 0
def setH (H : HeapS) (v z : Int) : HeapS := if v < 0 ∨ H.vals.length ≤ v then H else { H with vals := H.vals.set v.toNat z }
theorem set_at (v z : Int) : Calls Tryz.prog 88 #[.pointer (some ⟨b, 0, none⟩), .int .i64 v, .int .i64 z] w0 fun e w' => e = .returned (.int .i64 (setE H v)) ∧ HeapTo b ga va gc vc H (setH H v z) w0 w' := by
  have S := heap_open h
  refine enter1 Tryz.func88 rfl Tryz.ntmps88 rfl Tryz.results88 ?_
  repeat' (first | refine assign_i_l S rfl rfl ?_ | refine move_i_l S rfl rfl ?_ | refine move_p_l S rfl rfl ?_ | refine nilL ?_ | refine run_seq ?_ | refine run_skip ?_ | refine run_region ?_ | refine onL rfl rfl ?_ | refine offL rfl rfl rfl rfl ?_ | refine assign_b_l S rfl rfl ?_ | refine nilCheck_l S rfl rfl ?_ | refine fieldAddr_l S rfl rfl rfl ?_ | refine eqlP_l S rfl rfl rfl ?_ | (refine lss_l S rfl rfl rfl ?_ ?_ <;> intro hcmp <;> try (exfalso; first | omega | exact hcmp (by decide) | exact absurd hcmp (by decide))) | refine move_b_l S rfl rfl ?_ | refine len_l S rfl rfl ?_ | (refine geq_l S rfl rfl rfl ?_ ?_ <;> intro hcmp <;> try (exfalso; first | omega | exact hcmp (by decide) | exact absurd hcmp (by decide))) | refine pick_tb_l S rfl rfl rfl ?_ | refine pick_fb_l S rfl rfl rfl ?_ | refine indexAddr_l S rfl rfl (idx_eq _) (by first | omega | decide | (simp; done) | (simp; omega)) rfl ?_ | (refine storeE_i S rfl rfl (by omega) rfl ?_; clear S; intro w S) | refine load_o_l S rfl rfl rfl rfl ?_ | refine run_block ?_ | refine run_ret ?_ | refine run_cond_true rfl ?_ | refine run_cond_false rfl ?_ | refine thenQ_n ?_ | refine thenQ_r ?_ | refine blockQ_n ?_ | refine blockQ_r ?_ | refine ret1_i rfl ?_)
  · exact ⟨by rw [setE, if_pos (.inl hcmp)], by rw [setH, if_pos (.inl hcmp)]; exact heap_shut S, S.chg⟩
  · exact ⟨by rw [setE, if_pos (.inr hcmp)], by rw [setH, if_pos (.inr hcmp)]; exact heap_shut S, S.chg⟩
  · have hor : ¬ (v < 0 ∨ H.vals.length ≤ v) := by omega
    refine ⟨by rw [setE, if_neg hor], ?_, S.chg⟩
    rw [setH, if_neg hor]
    have S2 := S.reRow (a := va) (g' := gL encI 0 (H.vals.set v.toNat z)) (fun i hi j hj => by
      unfold gset gL
      obtain rfl : j = 0 := by omega
      by_cases e : i = v.toNat
      · subst e
        simp [List.getD_eq_getElem?_getD, encI, hi]
      · simp [List.getD_eq_getElem?_getD, e, Ne.symm e])
    refine heap_shut (S := (heapR b ga va gc vc H).foot) (w₀ := w0) ?_
    have e : heapC ga va gc vc { H with vals := H.vals.set v.toNat z } = heapC ga va gc vc H := by
      funext i; unfold heapC; simp
    show Sat _ w0 w [blk b 4 (heapC ga va gc vc { H with vals := H.vals.set v.toNat z }) 69, locksR ga gc H.locks, row va (H.vals.set v.toNat z).length vc 2 1 (gL encI 0 (H.vals.set v.toNat z))]
    rw [e, List.length_set]
    exact S2
end
end Go.Proofs.YtpiodhdbdlfnhaaGreatDoor
