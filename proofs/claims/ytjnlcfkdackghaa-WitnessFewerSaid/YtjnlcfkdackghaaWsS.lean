/- witness: the laws WitnessRight, WitnessAll. -/
import Derived.Test.YtjnlcfkdackghaaWsR
namespace Go.Proofs.Ytjnlcfkdackghaa
open Go.RowKit Go.Lib
set_option linter.unusedVariables false
set_option linter.unusedSimpArgs false
set_option maxHeartbeats 16000000
set_option maxRecDepth 100000
theorem walk_WitnessRight (a0 : Option Addr) (len0 cap0 : Nat) (z0 : List Int) (a1 : Option Addr) (len1 cap1 : Nat) (z1 : List AtS) (w0 : World) (f0 : z0.length = len0 ∧ SlOk w0 a0 len0 cap0 1 (gL encI 0 z0)) (f1 : z1.length = len1 ∧ (hisR a1 cap1 z1).holds w0) :
    Calls Try.prog 4 #[.slice a0 len0 cap0, .slice a1 len1 cap1] w0 fun e w' => e = .returned (.bool true) ∧ Below w0.heap.size w0 w' := by
  obtain ⟨rfl, hi⟩ := f0
  obtain ⟨rfl, hl⟩ := f1
  have S := ((Sat.start (fun _ => False) w0).ro (r := hisR a1 cap1 z1) hl rfl rfl).ro (r := slL a0 cap0 1 encI 0 z0) hi rfl rfl
  clear hi hl
  refine enter1 Try.func4 rfl Try.ntmps4 rfl Try.results4 ?_
  repeat' (first | refine move_s_l S rfl rfl ?_ | refine assign_b_l S rfl rfl ?_ | refine nilL ?_ | refine run_seq ?_ | refine run_region ?_ | refine thenQ_n ?_)
  refine callL (large_at (S.all (slL a0 cap0 1 encI 0 z0) (by simp)) (S.all (hisR a1 cap1 z1) (by simp))) rfl rfl ?_
  rintro e w ⟨⟨b, rfl, hlg⟩, hb⟩
  replace S := S.below hb
  clear hb
  refine ⟨_, rfl, ?_⟩
  cases b with
  | true =>
    repeat' (first | refine move_b_l S rfl rfl ?_ | refine nilL ?_ | refine run_seq ?_ | refine run_region ?_ | refine offL rfl rfl rfl rfl ?_ | refine pick_tb_l S rfl rfl rfl ?_ | refine run_cond_true rfl ?_ | refine thenQ_n ?_)
    (refine callL (wawake_at _) rfl rfl ?_; rintro e w ⟨rfl, hb⟩; replace S := S.below hb; clear hb; refine ⟨_, rfl, ?_⟩)
    repeat' (first | refine assign_b_l S rfl rfl ?_ | refine nilL ?_ | refine run_ret ?_ | refine thenQ_n ?_ | refine thenQ_r ?_ | refine ret1_b rfl ?_)
    exact ⟨rfl, S.chg.below⟩
  | false =>
    obtain ⟨hn, hll, hrw⟩ := hlg rfl
    repeat' (first | refine move_b_l S rfl rfl ?_ | refine onL rfl rfl ?_)
    (refine callL (wawake_at _) rfl rfl ?_; rintro e w ⟨rfl, hb⟩; replace S := S.below hb; clear hb; refine ⟨_, rfl, ?_⟩)
    repeat' (first | refine move_s_l S rfl rfl ?_ | refine nilL ?_ | refine run_seq ?_ | refine run_skip ?_ | refine run_region ?_ | refine onL rfl rfl ?_ | refine pick_fb_l S rfl rfl rfl ?_ | refine not_l S rfl rfl ?_ | refine run_cond_false rfl ?_ | refine thenQ_n ?_)
    refine callL (judge_at (S.all (slL a0 cap0 1 encI 0 z0) (by simp)) (S.all (hisR a1 cap1 z1) (by simp)) (by omega) (by omega)) rfl rfl ?_
    rintro e w ⟨hb, ⟨hM, rfl⟩ | ⟨hM, hf, rfl⟩ | ⟨hM, ord, v, ho, rfl, ⟨ao, co, rfl, hh, hfr⟩⟩⟩
    · replace S := S.below hb
      refine ⟨_, rfl, ?_⟩
      repeat' (first | refine move_s_l S rfl rfl ?_ | refine move_b_l S rfl rfl ?_ | refine assign_b_l S rfl rfl ?_ | refine nilL ?_ | refine run_seq ?_ | refine run_region ?_ | refine onL rfl rfl ?_ | refine offL rfl rfl rfl rfl ?_ | refine pick_tb_l S rfl rfl rfl ?_ | refine not_l S rfl rfl ?_ | refine move_i_l S rfl rfl ?_ | (refine eql_l S rfl rfl rfl ?_ ?_ <;> intro hcmp <;> try (exfalso; first | omega | exact hcmp (by decide) | exact absurd hcmp (by decide))) | refine extract_s_l S rfl rfl rfl ?_ | refine extract_b_l S rfl rfl rfl ?_ | refine extract_i_l S rfl rfl rfl ?_ | refine assign_s_l S rfl rfl ?_ | refine assign_i_l S rfl rfl ?_ | (refine neq_l S rfl rfl rfl ?_ ?_ <;> intro hcmp <;> try (exfalso; first | omega | exact hcmp (by decide) | exact absurd hcmp (by decide))) | refine len_l S rfl rfl ?_ | refine move_o_l S rfl rfl ?_ | refine run_cond_true rfl ?_ | refine thenQ_n ?_)
      refine callL (may_at (S.all (hisR a1 cap1 z1) (by simp))) rfl rfl ?_
      rintro e w ⟨rfl, hb⟩
      replace S := S.below hb
      refine ⟨_, rfl, ?_⟩
      rw [decide_eq_false hM]
      repeat' (first | refine assign_b_l S rfl rfl ?_ | refine nilL ?_ | refine onL rfl rfl ?_ | refine pick_tb_l S rfl rfl rfl ?_ | refine eqlB_l S rfl rfl rfl ?_ | refine run_ret ?_ | refine thenQ_n ?_ | refine thenQ_r ?_ | refine ret1_b rfl ?_)
      exact ⟨rfl, S.chg.below⟩
    · replace S := S.below hb
      refine ⟨_, rfl, ?_⟩
      repeat' (first | refine move_s_l S rfl rfl ?_ | refine move_b_l S rfl rfl ?_ | refine assign_b_l S rfl rfl ?_ | refine nilL ?_ | refine run_seq ?_ | refine run_region ?_ | refine onL rfl rfl ?_ | refine pick_tb_l S rfl rfl rfl ?_ | refine pick_fb_l S rfl rfl rfl ?_ | refine not_l S rfl rfl ?_ | refine move_i_l S rfl rfl ?_ | (refine eql_l S rfl rfl rfl ?_ ?_ <;> intro hcmp <;> try (exfalso; first | omega | exact hcmp (by decide) | exact absurd hcmp (by decide))) | refine extract_s_l S rfl rfl rfl ?_ | refine extract_b_l S rfl rfl rfl ?_ | refine extract_i_l S rfl rfl rfl ?_ | refine assign_s_l S rfl rfl ?_ | refine assign_i_l S rfl rfl ?_ | (refine neq_l S rfl rfl rfl ?_ ?_ <;> intro hcmp <;> try (exfalso; first | omega | exact hcmp (by decide) | exact absurd hcmp (by decide))) | refine len_l S rfl rfl ?_ | refine move_o_l S rfl rfl ?_ | refine run_cond_true rfl ?_ | refine thenQ_n ?_)
      refine callL (may_at (S.all (hisR a1 cap1 z1) (by simp))) rfl rfl ?_
      rintro e w ⟨rfl, hb⟩
      replace S := S.below hb
      refine ⟨_, rfl, ?_⟩
      rw [decide_eq_true hM]
      repeat' (first | refine assign_b_l S rfl rfl ?_ | refine nilL ?_ | refine onL rfl rfl ?_ | refine pick_tb_l S rfl rfl rfl ?_ | refine eqlB_l S rfl rfl rfl ?_ | refine run_ret ?_ | refine thenQ_n ?_ | refine thenQ_r ?_ | refine ret1_b rfl ?_)
      exact ⟨rfl, S.chg.below⟩
    · replace S := Sat.freshRow S hb hh hfr
      clear hb hh hfr
      refine ⟨_, rfl, ?_⟩
      repeat' (first | refine move_s_l S rfl rfl ?_ | refine move_b_l S rfl rfl ?_ | refine assign_b_l S rfl rfl ?_ | refine nilL ?_ | refine run_seq ?_ | refine run_skip ?_ | refine run_region ?_ | refine onL rfl rfl ?_ | refine pick_fb_l S rfl rfl rfl ?_ | refine not_l S rfl rfl ?_ | refine move_i_l S rfl rfl ?_ | refine extract_s_l S rfl rfl rfl ?_ | refine extract_b_l S rfl rfl rfl ?_ | refine extract_i_l S rfl rfl rfl ?_ | refine assign_s_l S rfl rfl ?_ | refine assign_i_l S rfl rfl ?_ | (refine neq_l S rfl rfl rfl ?_ ?_ <;> intro hcmp <;> try (exfalso; first | omega | exact hcmp (by decide) | exact absurd hcmp (by decide))) | refine move_o_l S rfl rfl ?_ | refine run_cond_false rfl ?_ | refine thenQ_n ?_)
      refine callL (may_at (S.all (hisR a1 cap1 z1) (by simp))) rfl rfl ?_
      rintro e w ⟨rfl, hb⟩
      replace S := S.below hb
      refine ⟨_, rfl, ?_⟩
      rw [decide_eq_true hM]
      repeat' (first | refine move_s_l S rfl rfl ?_ | refine move_b_l S rfl rfl ?_ | refine onL rfl rfl ?_)
      refine callL (right_at hM (by omega) (S.all (slL a0 cap0 1 encI 0 z0) (by simp)) (S.all (hisR a1 cap1 z1) (by simp)) (RowOk.sl (S.all (rowL ao co 3 1 encI 0 ord) (by simp)))) rfl rfl ?_
      rintro e w ⟨⟨b, rfl, hb2⟩, hb⟩
      replace S := S.below hb
      refine ⟨_, rfl, ?_⟩
      obtain rfl : b = true := hb2.2 (judge_some hM ho)
      repeat' (first | refine assign_b_l S rfl rfl ?_ | refine nilL ?_ | refine pick_tb_l S rfl rfl rfl ?_ | refine run_ret ?_ | refine thenQ_n ?_ | refine ret1_b rfl ?_)
      exact ⟨rfl, S.chg.below⟩
/-- The judge tells one just if there is one. -/
theorem judge_iff {n : Nat} {init : List Int} {l : List AtS} (hM : MayP n l) {ord : List Int} (ho : JOk init l ord) : SomeP init l [] := ⟨ord, List.nil_prefix, judge_some hM ho⟩
theorem judge_not {n : Nat} {init : List Int} {l : List AtS} (hM : MayP n l) (hf : JFail init l) : ¬ SomeP init l [] := fun ⟨o, _, h⟩ => judge_none hM hf h.perm h.2
theorem walk_WitnessAll (a0 : Option Addr) (len0 cap0 : Nat) (z0 : List Int) (a1 : Option Addr) (len1 cap1 : Nat) (z1 : List AtS) (w0 : World) (f0 : z0.length = len0 ∧ SlOk w0 a0 len0 cap0 1 (gL encI 0 z0)) (f1 : z1.length = len1 ∧ (hisR a1 cap1 z1).holds w0) :
    Calls Try.prog 5 #[.slice a0 len0 cap0, .slice a1 len1 cap1] w0 fun e w' => e = .returned (.bool true) ∧ Below w0.heap.size w0 w' := by
  obtain ⟨rfl, hi⟩ := f0
  obtain ⟨rfl, hl⟩ := f1
  have S := ((Sat.start (fun _ => False) w0).ro (r := hisR a1 cap1 z1) hl rfl rfl).ro (r := slL a0 cap0 1 encI 0 z0) hi rfl rfl
  have hn0 : (slL none 0 1 encI 0 ([] : List Int)).holds w0 := nil_sl (by decide)
  clear hi hl
  refine enter1 Try.func5 rfl Try.ntmps5 rfl Try.results5 ?_
  repeat' (first | refine move_s_l S rfl rfl ?_ | refine assign_b_l S rfl rfl ?_ | refine nilL ?_ | refine run_seq ?_ | refine run_region ?_ | refine thenQ_n ?_)
  refine callL (large_at (S.all (slL a0 cap0 1 encI 0 z0) (by simp)) (S.all (hisR a1 cap1 z1) (by simp))) rfl rfl ?_
  rintro e w ⟨⟨b, rfl, hlg⟩, hb⟩
  replace S := S.below hb
  clear hb
  refine ⟨_, rfl, ?_⟩
  cases b with
  | true =>
    repeat' (first | refine move_b_l S rfl rfl ?_ | refine nilL ?_ | refine run_seq ?_ | refine run_region ?_ | refine offL rfl rfl rfl rfl ?_ | refine pick_tb_l S rfl rfl rfl ?_ | refine run_cond_true rfl ?_ | refine thenQ_n ?_)
    (refine callL (wawake_at _) rfl rfl ?_; rintro e w ⟨rfl, hb⟩; replace S := S.below hb; clear hb; refine ⟨_, rfl, ?_⟩)
    repeat' (first | refine assign_b_l S rfl rfl ?_ | refine nilL ?_ | refine run_ret ?_ | refine thenQ_n ?_ | refine thenQ_r ?_ | refine ret1_b rfl ?_)
    exact ⟨rfl, S.chg.below⟩
  | false =>
    obtain ⟨hn, hll, hrw⟩ := hlg rfl
    by_cases h6 : 6 < z1.length
    · repeat' (first | refine move_s_l S rfl rfl ?_ | refine move_b_l S rfl rfl ?_ | refine nilL ?_ | refine run_seq ?_ | refine run_region ?_ | refine onL rfl rfl ?_ | refine offL rfl rfl rfl rfl ?_ | refine pick_tb_l S rfl rfl rfl ?_ | refine pick_fb_l S rfl rfl rfl ?_ | refine len_l S rfl rfl ?_ | (refine gtr_l S rfl rfl rfl ?_ ?_ <;> intro hcmp <;> try (exfalso; first | omega | exact hcmp (by decide) | exact absurd hcmp (by decide))) | refine run_cond_true rfl ?_ | refine thenQ_n ?_)
      (refine callL (wawake_at _) rfl rfl ?_; rintro e w ⟨rfl, hb⟩; replace S := S.below hb; clear hb; refine ⟨_, rfl, ?_⟩)
      repeat' (first | refine assign_b_l S rfl rfl ?_ | refine nilL ?_ | refine run_ret ?_ | refine thenQ_n ?_ | refine thenQ_r ?_ | refine ret1_b rfl ?_)
      exact ⟨rfl, S.chg.below⟩
    repeat' (first | refine move_s_l S rfl rfl ?_ | refine move_b_l S rfl rfl ?_ | refine onL rfl rfl ?_ | refine pick_fb_l S rfl rfl rfl ?_ | refine len_l S rfl rfl ?_ | (refine gtr_l S rfl rfl rfl ?_ ?_ <;> intro hcmp <;> try (exfalso; first | omega | exact hcmp (by decide) | exact absurd hcmp (by decide))))
    (refine callL (wawake_at _) rfl rfl ?_; rintro e w ⟨rfl, hb⟩; replace S := S.below hb; clear hb; refine ⟨_, rfl, ?_⟩)
    repeat' (first | refine move_s_l S rfl rfl ?_ | refine nilL ?_ | refine run_seq ?_ | refine run_skip ?_ | refine run_region ?_ | refine onL rfl rfl ?_ | refine pick_fb_l S rfl rfl rfl ?_ | refine not_l S rfl rfl ?_ | refine run_cond_false rfl ?_ | refine thenQ_n ?_)
    refine callL (may_at (S.all (hisR a1 cap1 z1) (by simp))) rfl rfl ?_
    rintro e w ⟨rfl, hb⟩
    replace S := S.below hb
    refine ⟨_, rfl, ?_⟩
    clear hb
    by_cases hM : MayP z0.length z1
    · rw [decide_eq_true hM]
      repeat' (first | refine move_s_l S rfl rfl ?_ | refine nilL ?_ | refine run_seq ?_ | refine run_skip ?_ | refine run_region ?_ | refine not_l S rfl rfl ?_ | refine run_cond_false rfl ?_ | refine thenQ_n ?_)
      refine callL (judge_at (S.all (slL a0 cap0 1 encI 0 z0) (by simp)) (S.all (hisR a1 cap1 z1) (by simp)) (by omega) (by omega)) rfl rfl ?_
      rintro e w ⟨hb, ⟨hM2, _⟩ | ⟨_, hf, rfl⟩ | ⟨_, ord, v, ho, rfl, ⟨ao, co, rfl, hh, hfr⟩⟩⟩
      · exact absurd hM hM2
      · replace S := S.below hb
        clear hb
        refine ⟨_, rfl, ?_⟩
        repeat' (first | refine move_s_l S rfl rfl ?_ | refine assign_b_l S rfl rfl ?_ | refine move_b_l S rfl rfl ?_ | refine nilL ?_ | refine run_seq ?_ | refine run_region ?_ | refine onL rfl rfl ?_ | refine extract_s_l S rfl rfl rfl ?_ | refine extract_b_l S rfl rfl rfl ?_ | refine extract_i_l S rfl rfl rfl ?_ | refine assign_s_l S rfl rfl ?_ | refine assign_i_l S rfl rfl ?_ | refine move_i_l S rfl rfl ?_ | (refine eql_l S rfl rfl rfl ?_ ?_ <;> intro hcmp <;> try (exfalso; first | omega | exact hcmp (by decide) | exact absurd hcmp (by decide))) | refine move_o_l S rfl rfl ?_ | refine thenQ_n ?_)
        refine callL (some_at hM (by omega) _ none 0 [] _ rfl .nil (fun u hu => by cases hu) (S.all (slL a0 cap0 1 encI 0 z0) (by simp)) (S.all (hisR a1 cap1 z1) (by simp)) (holds_below hn0 S.chg.below)) rfl rfl ?_
        rintro e w ⟨⟨b, rfl, hb2⟩, hb⟩
        replace S := S.below hb
        refine ⟨_, rfl, ?_⟩
        obtain rfl : b = false := by
          cases b with
          | false => rfl
          | true => exact absurd (hb2.1 rfl) (judge_not hM hf)
        repeat' (first | refine assign_b_l S rfl rfl ?_ | refine nilL ?_ | refine onL rfl rfl ?_ | refine pick_tb_l S rfl rfl rfl ?_ | refine eqlB_l S rfl rfl rfl ?_ | refine run_ret ?_ | refine thenQ_n ?_ | refine ret1_b rfl ?_)
        exact ⟨rfl, S.chg.below⟩
      · replace S := Sat.freshRow S hb hh hfr
        clear hb hh hfr
        refine ⟨_, rfl, ?_⟩
        repeat' (first | refine move_s_l S rfl rfl ?_ | refine assign_b_l S rfl rfl ?_ | refine move_b_l S rfl rfl ?_ | refine nilL ?_ | refine run_seq ?_ | refine run_region ?_ | refine onL rfl rfl ?_ | refine extract_s_l S rfl rfl rfl ?_ | refine extract_b_l S rfl rfl rfl ?_ | refine extract_i_l S rfl rfl rfl ?_ | refine assign_s_l S rfl rfl ?_ | refine assign_i_l S rfl rfl ?_ | refine move_i_l S rfl rfl ?_ | (refine eql_l S rfl rfl rfl ?_ ?_ <;> intro hcmp <;> try (exfalso; first | omega | exact hcmp (by decide) | exact absurd hcmp (by decide))) | refine move_o_l S rfl rfl ?_ | refine thenQ_n ?_)
        refine callL (some_at hM (by omega) _ none 0 [] _ rfl .nil (fun u hu => by cases hu) (S.all (slL a0 cap0 1 encI 0 z0) (by simp)) (S.all (hisR a1 cap1 z1) (by simp)) (holds_below hn0 S.chg.below)) rfl rfl ?_
        rintro e w ⟨⟨b, rfl, hb2⟩, hb⟩
        replace S := S.below hb
        refine ⟨_, rfl, ?_⟩
        obtain rfl : b = true := hb2.2 (judge_iff hM ho)
        repeat' (first | refine assign_b_l S rfl rfl ?_ | refine nilL ?_ | refine onL rfl rfl ?_ | refine pick_tb_l S rfl rfl rfl ?_ | refine eqlB_l S rfl rfl rfl ?_ | refine run_ret ?_ | refine thenQ_n ?_ | refine ret1_b rfl ?_)
        exact ⟨rfl, S.chg.below⟩
    · rw [decide_eq_false hM]
      repeat' (first | refine assign_b_l S rfl rfl ?_ | refine nilL ?_ | refine run_seq ?_ | refine run_region ?_ | refine not_l S rfl rfl ?_ | refine run_ret ?_ | refine run_cond_true rfl ?_ | refine thenQ_n ?_ | refine thenQ_r ?_ | refine ret1_b rfl ?_)
      exact ⟨rfl, S.chg.below⟩
end Go.Proofs.Ytjnlcfkdackghaa
