/- verify: the laws VerifyJudge, VerifyLeast. -/
import Derived.Test.YtciehimnhnbipaaVfG
namespace Go.Proofs.Ytciehimnhnbipaa
open Go.RowKit Go.Lib
set_option linter.unusedVariables false
set_option linter.unusedSimpArgs false
set_option maxHeartbeats 16000000
set_option maxRecDepth 100000
theorem vints_open {H : Type} {enc : TypeId × Value → H} {w : World} {a : Option Addr} {len cap : Nat} {d : DataW H} {p : List MemPlace} (h : DataW.Trod enc Try.prog w 0 (fun _ => true) true 24 (.slice a len cap) d p) :
    ∃ zs : List Int, zs.length = len ∧ SlOk w a len cap 1 (gL encI 0 zs) ∧ ∀ z ∈ zs, (Lit.int .i64 z).wf = true := ints_sl 24 3 Try.underlying24 (by kernel_rfl) Try.underlying3 h
theorem vjudge_at {ai a : Option Addr} {ci cap : Nat} {init : List Int} {l : List AtS} {w0 : World} (hi : (slL ai ci 1 encI 0 init).holds w0) (hl : (hisR a cap l).holds w0) (hll : l.length ≤ 100000) :
    Calls Try.prog 20 #[.slice ai init.length ci, .slice a l.length cap] w0 fun e w' => Below w0.heap.size w0 w' ∧
      ((¬ MayP init.length l ∧ e = .returned (.tuple #[.slice none 0 0, .bool false, .int .i64 4])) ∨
       (MayP init.length l ∧ JFail init l ∧ e = .returned (.tuple #[.slice none 0 0, .bool false, .int .i64 0])) ∨
       (MayP init.length l ∧ ∃ ord v, JOk init l ord ∧ e = .returned (.tuple #[v, .bool true, .int .i64 0]) ∧ NewRow w0 w' 3 1 encI 0 ord v)) := by
  by_cases hn : init.length ≤ 1000000
  · exact judge_at hi hl hn hll
  have hM : ¬ MayP init.length l := fun h => by have := h.1; omega
  have S := ((Sat.start (fun _ => False) w0).ro (r := hisR a cap l) hl rfl rfl).ro (r := slL ai ci 1 encI 0 init) hi rfl rfl
  refine enter3 Try.func20 rfl Try.ntmps20 rfl Try.results20 ?_
  repeat' (first | refine move_s_l S rfl rfl ?_ | refine assign_i_l S rfl rfl ?_ | refine nilL ?_ | refine run_seq ?_ | refine run_region ?_ | refine assign_s_l S rfl rfl ?_ | refine assign_b_l S rfl rfl ?_ | refine thenQ_n ?_)
  refine callL (may_at (S.all (hisR a cap l) (by simp))) rfl rfl ?_
  rintro e w ⟨rfl, hb⟩
  replace S := S.below hb
  refine ⟨_, rfl, ?_⟩
  rw [decide_eq_false hM]
  repeat' (first | refine assign_i_l S rfl rfl ?_ | refine nilL ?_ | refine run_seq ?_ | refine run_region ?_ | refine assign_s_l S rfl rfl ?_ | refine assign_b_l S rfl rfl ?_ | refine not_l S rfl rfl ?_ | refine run_ret ?_ | refine run_cond_true rfl ?_ | refine thenQ_n ?_ | refine thenQ_r ?_ | refine ret3_l rfl rfl rfl ?_)
  exact ⟨S.chg.below, .inl ⟨hM, rfl⟩⟩
theorem walk_VerifyJudge (a0 : Option Addr) (len0 cap0 : Nat) (z0 : List Int) (a1 : Option Addr) (len1 cap1 : Nat) (z1 : List AtS) (w0 : World) (f0 : z0.length = len0 ∧ SlOk w0 a0 len0 cap0 1 (gL encI 0 z0)) (f1 : z1.length = len1 ∧ (hisR a1 cap1 z1).holds w0) :
    Calls Try.prog 6 #[.slice a0 len0 cap0, .slice a1 len1 cap1] w0 fun e w' => e = .returned (.bool true) ∧ Below w0.heap.size w0 w' := by
  obtain ⟨rfl, hi⟩ := f0
  obtain ⟨rfl, hl⟩ := f1
  have hlm := SlOk.small hi
  have S := ((Sat.start (fun _ => False) w0).ro (r := hisR a1 cap1 z1) hl rfl rfl).ro (r := slL a0 cap0 1 encI 0 z0) hi rfl rfl
  clear hi hl
  refine enter1 Try.func6 rfl Try.ntmps6 rfl Try.results6 ?_
  repeat' (first | refine assign_b_l S rfl rfl ?_ | refine nilL ?_ | refine run_seq ?_ | refine run_region ?_ | refine thenQ_n ?_)
  (refine callL (works_at _) rfl rfl ?_; rintro e w ⟨rfl, hb⟩; replace S := S.below hb; clear hb; refine ⟨_, rfl, ?_⟩)
  repeat' (first | refine move_s_l S rfl rfl ?_ | refine move_b_l S rfl rfl ?_ | refine onL rfl rfl ?_ | refine not_l S rfl rfl ?_)
  refine callL (vlarge_at (S.all (slL a0 cap0 1 encI 0 z0) (by simp)) (S.all (hisR a1 cap1 z1) (by simp))) rfl rfl ?_
  rintro e w ⟨⟨b, rfl, hlg⟩, hb⟩
  replace S := S.below hb
  clear hb
  refine ⟨_, rfl, ?_⟩
  cases b with
  | true =>
    repeat' (first | refine nilL ?_ | refine run_seq ?_ | refine run_region ?_ | refine pick_fb_l S rfl rfl rfl ?_ | refine run_cond_true rfl ?_ | refine thenQ_n ?_)
    (refine callL (works_at _) rfl rfl ?_; rintro e w ⟨rfl, hb⟩; replace S := S.below hb; clear hb; refine ⟨_, rfl, ?_⟩)
    repeat' (first | refine assign_b_l S rfl rfl ?_ | refine nilL ?_ | refine run_ret ?_ | refine thenQ_n ?_ | refine thenQ_r ?_ | refine ret1_b rfl ?_)
    exact ⟨rfl, S.chg.below⟩
  | false =>
    have hll := hlg rfl
    clear hlg
    repeat' (first | refine move_s_l S rfl rfl ?_ | refine nilL ?_ | refine run_seq ?_ | refine run_skip ?_ | refine run_region ?_ | refine pick_fb_l S rfl rfl rfl ?_ | refine run_cond_false rfl ?_ | refine thenQ_n ?_)
    refine callL (vjudge_at (S.all (slL a0 cap0 1 encI 0 z0) (by simp)) (S.all (hisR a1 cap1 z1) (by simp)) (by omega)) rfl rfl ?_
    rintro e w ⟨hb, ⟨hM, rfl⟩ | ⟨hM, hf, rfl⟩ | ⟨hM, ord, v, ho, rfl, ⟨ao, co, rfl, hh, hfr⟩⟩⟩
    · replace S := S.below hb
      refine ⟨_, rfl, ?_⟩
      repeat' (first | refine move_s_l S rfl rfl ?_ | refine assign_b_l S rfl rfl ?_ | refine nilL ?_ | refine run_seq ?_ | refine run_region ?_ | refine extract_s_l S rfl rfl rfl ?_ | refine extract_b_l S rfl rfl rfl ?_ | refine extract_i_l S rfl rfl rfl ?_ | refine assign_s_l S rfl rfl ?_ | refine assign_i_l S rfl rfl ?_ | refine move_i_l S rfl rfl ?_ | (refine neq_l S rfl rfl rfl ?_ ?_ <;> intro hcmp <;> try (exfalso; first | omega | exact hcmp (by decide) | exact absurd hcmp (by decide))) | refine move_o_l S rfl rfl ?_ | refine run_cond_true rfl ?_ | refine thenQ_n ?_)
      refine callL (may_at (S.all (hisR a1 cap1 z1) (by simp))) rfl rfl ?_
      rintro e w ⟨rfl, hb⟩
      replace S := S.below hb
      refine ⟨_, rfl, ?_⟩
      rw [decide_eq_false hM]
      repeat' (first | refine assign_b_l S rfl rfl ?_ | refine nilL ?_ | refine not_l S rfl rfl ?_ | refine run_ret ?_ | refine thenQ_n ?_ | refine thenQ_r ?_ | refine ret1_b rfl ?_)
      exact ⟨rfl, S.chg.below⟩
    · replace S := S.below hb
      clear hb
      refine ⟨_, rfl, ?_⟩
      repeat' (first | refine move_s_l S rfl rfl ?_ | refine assign_b_l S rfl rfl ?_ | refine move_b_l S rfl rfl ?_ | refine nilL ?_ | refine run_seq ?_ | refine run_skip ?_ | refine run_region ?_ | refine offL rfl rfl rfl rfl ?_ | refine pick_fb_l S rfl rfl rfl ?_ | refine extract_s_l S rfl rfl rfl ?_ | refine extract_b_l S rfl rfl rfl ?_ | refine extract_i_l S rfl rfl rfl ?_ | refine assign_s_l S rfl rfl ?_ | refine assign_i_l S rfl rfl ?_ | refine move_i_l S rfl rfl ?_ | (refine neq_l S rfl rfl rfl ?_ ?_ <;> intro hcmp <;> try (exfalso; first | omega | exact hcmp (by decide) | exact absurd hcmp (by decide))) | refine len_l S rfl rfl ?_ | (refine gtr_l S rfl rfl rfl ?_ ?_ <;> intro hcmp <;> try (exfalso; first | omega | exact hcmp (by decide) | exact absurd hcmp (by decide))) | refine move_o_l S rfl rfl ?_ | refine run_ret ?_ | refine run_cond_true rfl ?_ | refine run_cond_false rfl ?_ | refine thenQ_n ?_ | refine thenQ_r ?_ | refine ret1_b rfl ?_)
      · exact ⟨rfl, S.chg.below⟩
      refine callL (vbrute_at (S.all (slL a0 cap0 1 encI 0 z0) (by simp)) (S.all (hisR a1 cap1 z1) (by simp))) rfl rfl ?_
      rintro e w ⟨hb, ⟨h8, _⟩ | ⟨_, hM2, _⟩ | ⟨_, _, hno, rfl⟩ | ⟨_, _, o, v, hL, _⟩⟩
      · omega
      · exact absurd hM hM2
      · replace S := S.below hb
        refine ⟨_, rfl, ?_⟩
        repeat' (first | refine assign_b_l S rfl rfl ?_ | refine move_b_l S rfl rfl ?_ | refine nilL ?_ | refine run_seq ?_ | refine run_region ?_ | refine onL rfl rfl ?_ | refine pick_tb_l S rfl rfl rfl ?_ | refine extract_s_l S rfl rfl rfl ?_ | refine extract_b_l S rfl rfl rfl ?_ | refine extract_i_l S rfl rfl rfl ?_ | refine assign_s_l S rfl rfl ?_ | refine assign_i_l S rfl rfl ?_ | refine move_i_l S rfl rfl ?_ | (refine eql_l S rfl rfl rfl ?_ ?_ <;> intro hcmp <;> try (exfalso; first | omega | exact hcmp (by decide) | exact absurd hcmp (by decide))) | refine eqlB_l S rfl rfl rfl ?_ | refine move_o_l S rfl rfl ?_ | refine run_ret ?_ | refine thenQ_n ?_ | refine ret1_b rfl ?_)
        exact ⟨rfl, S.chg.below⟩
      · exact (judge_none hM hf hL.1.2.perm hL.1.2.2).elim
    · replace S := Sat.freshRow S hb hh hfr
      clear hb hh hfr
      have hv := judge_some hM ho
      have hol := valid_len hv
      refine ⟨_, rfl, ?_⟩
      repeat' (first | refine move_s_l S rfl rfl ?_ | refine assign_b_l S rfl rfl ?_ | refine move_b_l S rfl rfl ?_ | refine nilL ?_ | refine run_seq ?_ | refine run_skip ?_ | refine run_region ?_ | refine onL rfl rfl ?_ | refine extract_s_l S rfl rfl rfl ?_ | refine extract_b_l S rfl rfl rfl ?_ | refine extract_i_l S rfl rfl rfl ?_ | refine assign_s_l S rfl rfl ?_ | refine assign_i_l S rfl rfl ?_ | refine move_i_l S rfl rfl ?_ | (refine neq_l S rfl rfl rfl ?_ ?_ <;> intro hcmp <;> try (exfalso; first | omega | exact hcmp (by decide) | exact absurd hcmp (by decide))) | refine move_o_l S rfl rfl ?_ | refine run_cond_false rfl ?_ | refine thenQ_n ?_)
      refine callL (vmay_at (by omega) (by omega) (S.all (slL a0 cap0 1 encI 0 z0) (by simp)) (S.all (hisR a1 cap1 z1) (by simp)) (RowOk.sl (S.all (rowL ao co 3 1 encI 0 ord) (by simp)))) rfl rfl ?_
      rintro e w ⟨⟨r, rfl, hr⟩, hb⟩
      replace S := S.below hb
      clear hb
      refine ⟨_, rfl, ?_⟩
      obtain rfl : r = true := hr.2 ⟨hM, hv⟩
      repeat' (first | refine move_s_l S rfl rfl ?_ | refine assign_b_l S rfl rfl ?_ | refine nilL ?_ | refine run_seq ?_ | refine run_skip ?_ | refine run_region ?_ | refine onL rfl rfl ?_ | refine not_l S rfl rfl ?_ | refine pick_tb_l S rfl rfl rfl ?_ | refine len_l S rfl rfl ?_ | (refine gtr_l S rfl rfl rfl ?_ ?_ <;> intro hcmp <;> try (exfalso; first | omega | exact hcmp (by decide) | exact absurd hcmp (by decide))) | refine run_ret ?_ | refine run_cond_true rfl ?_ | refine run_cond_false rfl ?_ | refine thenQ_n ?_ | refine thenQ_r ?_ | refine ret1_b rfl ?_)
      · exact ⟨rfl, S.chg.below⟩
      refine callL (vbrute_at (S.all (slL a0 cap0 1 encI 0 z0) (by simp)) (S.all (hisR a1 cap1 z1) (by simp))) rfl rfl ?_
      rintro e w ⟨hb, ⟨h8, _⟩ | ⟨_, hM2, _⟩ | ⟨_, _, hno, _⟩ | ⟨_, _, o, v, hL, rfl, ⟨ao2, co2, rfl, _, _⟩⟩⟩
      · omega
      · exact absurd hM hM2
      · exact absurd ⟨ord, List.nil_prefix, hv⟩ hno
      · replace S := S.below hb
        refine ⟨_, rfl, ?_⟩
        repeat' (first | refine assign_b_l S rfl rfl ?_ | refine move_b_l S rfl rfl ?_ | refine nilL ?_ | refine run_seq ?_ | refine run_region ?_ | refine onL rfl rfl ?_ | refine pick_tb_l S rfl rfl rfl ?_ | refine extract_s_l S rfl rfl rfl ?_ | refine extract_b_l S rfl rfl rfl ?_ | refine extract_i_l S rfl rfl rfl ?_ | refine assign_s_l S rfl rfl ?_ | refine assign_i_l S rfl rfl ?_ | refine move_i_l S rfl rfl ?_ | (refine eql_l S rfl rfl rfl ?_ ?_ <;> intro hcmp <;> try (exfalso; first | omega | exact hcmp (by decide) | exact absurd hcmp (by decide))) | refine eqlB_l S rfl rfl rfl ?_ | refine move_o_l S rfl rfl ?_ | refine run_ret ?_ | refine thenQ_n ?_ | refine ret1_b rfl ?_)
        exact ⟨rfl, S.chg.below⟩
theorem walk_VerifyLeast (a0 : Option Addr) (len0 cap0 : Nat) (z0 : List Int) (a1 : Option Addr) (len1 cap1 : Nat) (z1 : List AtS) (a2 : Option Addr) (len2 cap2 : Nat) (z2 : List Int) (w0 : World) (f0 : z0.length = len0 ∧ SlOk w0 a0 len0 cap0 1 (gL encI 0 z0)) (f1 : z1.length = len1 ∧ (hisR a1 cap1 z1).holds w0) (f2 : z2.length = len2 ∧ SlOk w0 a2 len2 cap2 1 (gL encI 0 z2) ∧ ∀ z ∈ z2, (Lit.int .i64 z).wf = true) :
    Calls Try.prog 5 #[.slice a0 len0 cap0, .slice a1 len1 cap1, .slice a2 len2 cap2] w0 fun e w' => e = .returned (.bool true) ∧ Below w0.heap.size w0 w' := by
  obtain ⟨rfl, hi⟩ := f0
  obtain ⟨rfl, hl⟩ := f1
  obtain ⟨rfl, ho, _⟩ := f2
  have hlm := SlOk.small hi
  have hom := SlOk.small ho
  have S := (((Sat.start (fun _ => False) w0).ro (r := hisR a1 cap1 z1) hl rfl rfl).ro (r := slL a0 cap0 1 encI 0 z0) hi rfl rfl).ro (r := slL a2 cap2 1 encI 0 z2) ho rfl rfl
  clear hi hl ho
  refine enter1 Try.func5 rfl Try.ntmps5 rfl Try.results5 ?_
  repeat' (first | refine nilL ?_ | refine run_seq ?_ | refine run_region ?_ | refine assign_b_l S rfl rfl ?_ | refine thenQ_n ?_)
  (refine callL (works_at _) rfl rfl ?_; rintro e w ⟨rfl, hb⟩; replace S := S.below hb; clear hb; refine ⟨_, rfl, ?_⟩)
  repeat' (first | refine move_s_l S rfl rfl ?_ | refine move_b_l S rfl rfl ?_ | refine onL rfl rfl ?_ | refine not_l S rfl rfl ?_)
  refine callL (vlarge_at (S.all (slL a0 cap0 1 encI 0 z0) (by simp)) (S.all (hisR a1 cap1 z1) (by simp))) rfl rfl ?_
  rintro e w ⟨⟨b, rfl, hlg⟩, hb⟩
  replace S := S.below hb
  clear hb
  refine ⟨_, rfl, ?_⟩
  cases b with
  | true =>
    repeat' (first | refine move_b_l S rfl rfl ?_ | refine pick_tb_l S rfl rfl rfl ?_ | refine nilL ?_ | refine run_seq ?_ | refine run_region ?_ | refine offL rfl rfl rfl rfl ?_ | refine pick_fb_l S rfl rfl rfl ?_ | refine run_cond_true rfl ?_ | refine thenQ_n ?_)
    (refine callL (works_at _) rfl rfl ?_; rintro e w ⟨rfl, hb⟩; replace S := S.below hb; clear hb; refine ⟨_, rfl, ?_⟩)
    repeat' (first | refine nilL ?_ | refine assign_b_l S rfl rfl ?_ | refine run_ret ?_ | refine thenQ_n ?_ | refine thenQ_r ?_ | refine ret1_b rfl ?_)
    exact ⟨rfl, S.chg.below⟩
  | false =>
    have hll := hlg rfl
    clear hlg
    repeat' (first | refine move_s_l S rfl rfl ?_ | refine move_b_l S rfl rfl ?_ | refine nilL ?_ | refine run_seq ?_ | refine run_skip ?_ | refine run_region ?_ | refine onL rfl rfl ?_ | refine pick_fb_l S rfl rfl rfl ?_ | refine len_l S rfl rfl ?_ | (refine gtr_l S rfl rfl rfl ?_ ?_ <;> intro hcmp <;> try (exfalso; first | omega | exact hcmp (by decide) | exact absurd hcmp (by decide))) | refine run_cond_true rfl ?_ | refine run_cond_false rfl ?_ | refine thenQ_n ?_)
    · (refine callL (works_at _) rfl rfl ?_; rintro e w ⟨rfl, hb⟩; replace S := S.below hb; clear hb; refine ⟨_, rfl, ?_⟩)
      repeat' (first | refine nilL ?_ | refine assign_b_l S rfl rfl ?_ | refine run_ret ?_ | refine thenQ_n ?_ | refine thenQ_r ?_ | refine ret1_b rfl ?_)
      exact ⟨rfl, S.chg.below⟩
    refine callL (vbrute_at (S.all (slL a0 cap0 1 encI 0 z0) (by simp)) (S.all (hisR a1 cap1 z1) (by simp))) rfl rfl ?_
    rintro e w ⟨hb, ⟨h8, rfl⟩ | ⟨h8, hM, rfl⟩ | ⟨h8, hM, hno, rfl⟩ | ⟨h8, hM, o, v, hL, rfl, ⟨ao, co, rfl, hh, hfr⟩⟩⟩
    · replace S := S.below hb
      clear hb
      refine ⟨_, rfl, ?_⟩
      repeat' (first | refine move_s_l S rfl rfl ?_ | refine move_b_l S rfl rfl ?_ | refine pick_tb_l S rfl rfl rfl ?_ | refine nilL ?_ | refine run_seq ?_ | refine run_region ?_ | refine onL rfl rfl ?_ | refine offL rfl rfl rfl rfl ?_ | refine not_l S rfl rfl ?_ | refine assign_b_l S rfl rfl ?_ | refine len_l S rfl rfl ?_ | (refine gtr_l S rfl rfl rfl ?_ ?_ <;> intro hcmp <;> try (exfalso; first | omega | exact hcmp (by decide) | exact absurd hcmp (by decide))) | refine move_i_l S rfl rfl ?_ | (refine eql_l S rfl rfl rfl ?_ ?_ <;> intro hcmp <;> try (exfalso; first | omega | exact hcmp (by decide) | exact absurd hcmp (by decide))) | refine extract_s_l S rfl rfl rfl ?_ | refine extract_b_l S rfl rfl rfl ?_ | refine extract_i_l S rfl rfl rfl ?_ | refine assign_s_l S rfl rfl ?_ | refine assign_i_l S rfl rfl ?_ | (refine neq_l S rfl rfl rfl ?_ ?_ <;> intro hcmp <;> try (exfalso; first | omega | exact hcmp (by decide) | exact absurd hcmp (by decide))) | refine eqlB_l S rfl rfl rfl ?_ | refine move_o_l S rfl rfl ?_ | refine run_ret ?_ | refine run_cond_true rfl ?_ | refine thenQ_n ?_ | refine thenQ_r ?_ | refine ret1_b rfl ?_)
      exact ⟨rfl, S.chg.below⟩
    · replace S := S.below hb
      clear hb
      refine ⟨_, rfl, ?_⟩
      repeat' (first | refine move_s_l S rfl rfl ?_ | refine move_b_l S rfl rfl ?_ | refine pick_tb_l S rfl rfl rfl ?_ | refine nilL ?_ | refine run_seq ?_ | refine run_region ?_ | refine onL rfl rfl ?_ | refine not_l S rfl rfl ?_ | refine assign_b_l S rfl rfl ?_ | refine len_l S rfl rfl ?_ | (refine gtr_l S rfl rfl rfl ?_ ?_ <;> intro hcmp <;> try (exfalso; first | omega | exact hcmp (by decide) | exact absurd hcmp (by decide))) | refine move_i_l S rfl rfl ?_ | (refine eql_l S rfl rfl rfl ?_ ?_ <;> intro hcmp <;> try (exfalso; first | omega | exact hcmp (by decide) | exact absurd hcmp (by decide))) | refine extract_s_l S rfl rfl rfl ?_ | refine extract_b_l S rfl rfl rfl ?_ | refine extract_i_l S rfl rfl rfl ?_ | refine assign_s_l S rfl rfl ?_ | refine assign_i_l S rfl rfl ?_ | (refine neq_l S rfl rfl rfl ?_ ?_ <;> intro hcmp <;> try (exfalso; first | omega | exact hcmp (by decide) | exact absurd hcmp (by decide))) | refine eqlB_l S rfl rfl rfl ?_ | refine move_o_l S rfl rfl ?_ | refine run_cond_true rfl ?_ | refine thenQ_n ?_)
      refine callL (may_at (S.all (hisR a1 cap1 z1) (by simp))) rfl rfl ?_
      rintro e w ⟨rfl, hb⟩
      replace S := S.below hb
      refine ⟨_, rfl, ?_⟩
      rw [decide_eq_false hM]
      repeat' (first | refine pick_tb_l S rfl rfl rfl ?_ | refine nilL ?_ | refine onL rfl rfl ?_ | refine pick_fb_l S rfl rfl rfl ?_ | refine not_l S rfl rfl ?_ | refine assign_b_l S rfl rfl ?_ | refine run_ret ?_ | refine thenQ_n ?_ | refine thenQ_r ?_ | refine ret1_b rfl ?_)
      exact ⟨rfl, S.chg.below⟩
    · replace S := S.below hb
      clear hb
      refine ⟨_, rfl, ?_⟩
      repeat' (first | refine move_s_l S rfl rfl ?_ | refine move_b_l S rfl rfl ?_ | refine pick_tb_l S rfl rfl rfl ?_ | refine nilL ?_ | refine run_seq ?_ | refine run_skip ?_ | refine run_region ?_ | refine onL rfl rfl ?_ | refine offL rfl rfl rfl rfl ?_ | refine pick_fb_l S rfl rfl rfl ?_ | refine not_l S rfl rfl ?_ | refine assign_b_l S rfl rfl ?_ | refine len_l S rfl rfl ?_ | (refine gtr_l S rfl rfl rfl ?_ ?_ <;> intro hcmp <;> try (exfalso; first | omega | exact hcmp (by decide) | exact absurd hcmp (by decide))) | refine move_i_l S rfl rfl ?_ | refine extract_s_l S rfl rfl rfl ?_ | refine extract_b_l S rfl rfl rfl ?_ | refine extract_i_l S rfl rfl rfl ?_ | refine assign_s_l S rfl rfl ?_ | refine assign_i_l S rfl rfl ?_ | (refine neq_l S rfl rfl rfl ?_ ?_ <;> intro hcmp <;> try (exfalso; first | omega | exact hcmp (by decide) | exact absurd hcmp (by decide))) | refine move_o_l S rfl rfl ?_ | refine run_cond_false rfl ?_ | refine thenQ_n ?_)
      refine callL (vmay_at (by omega) (by omega) (S.all (slL a0 cap0 1 encI 0 z0) (by simp)) (S.all (hisR a1 cap1 z1) (by simp)) (S.all (slL a2 cap2 1 encI 0 z2) (by simp))) rfl rfl ?_
      rintro e w ⟨⟨r, rfl, hr⟩, hb⟩
      replace S := S.below hb
      clear hb
      refine ⟨_, rfl, ?_⟩
      obtain rfl : r = false := by
        cases r with
        | false => rfl
        | true => exact absurd ⟨z2, List.nil_prefix, (hr.1 rfl).2⟩ hno
      repeat' (first | refine move_b_l S rfl rfl ?_ | refine pick_tb_l S rfl rfl rfl ?_ | refine nilL ?_ | refine offL rfl rfl rfl rfl ?_ | refine offLU rfl rfl rfl ?_ | refine not_l S rfl rfl ?_ | refine assign_b_l S rfl rfl ?_ | refine run_ret ?_ | refine thenQ_n ?_ | refine ret1_b rfl ?_)
      exact ⟨rfl, S.chg.below⟩
    · replace S := Sat.freshRow S hb hh hfr
      clear hb hh hfr
      have hol := valid_len hL.1.2
      refine ⟨_, rfl, ?_⟩
      repeat' (first | refine move_s_l S rfl rfl ?_ | refine move_b_l S rfl rfl ?_ | refine nilL ?_ | refine run_seq ?_ | refine run_skip ?_ | refine run_region ?_ | refine onL rfl rfl ?_ | refine assign_b_l S rfl rfl ?_ | refine move_i_l S rfl rfl ?_ | refine extract_s_l S rfl rfl rfl ?_ | refine extract_b_l S rfl rfl rfl ?_ | refine extract_i_l S rfl rfl rfl ?_ | refine assign_s_l S rfl rfl ?_ | refine assign_i_l S rfl rfl ?_ | (refine neq_l S rfl rfl rfl ?_ ?_ <;> intro hcmp <;> try (exfalso; first | omega | exact hcmp (by decide) | exact absurd hcmp (by decide))) | refine move_o_l S rfl rfl ?_ | refine run_cond_false rfl ?_ | refine thenQ_n ?_)
      refine callL (vmay_at (by omega) (by omega) (S.all (slL a0 cap0 1 encI 0 z0) (by simp)) (S.all (hisR a1 cap1 z1) (by simp)) (RowOk.sl (S.all (rowL ao co 3 1 encI 0 o) (by simp)))) rfl rfl ?_
      rintro e w ⟨⟨r, rfl, hr⟩, hb⟩
      replace S := S.below hb
      clear hb
      refine ⟨_, rfl, ?_⟩
      obtain rfl : r = true := hr.2 ⟨hM, hL.1.2⟩
      repeat' (first | refine move_s_l S rfl rfl ?_ | refine move_b_l S rfl rfl ?_ | refine pick_tb_l S rfl rfl rfl ?_ | refine nilL ?_ | refine run_seq ?_ | refine run_skip ?_ | refine run_region ?_ | refine onL rfl rfl ?_ | refine offL rfl rfl rfl rfl ?_ | refine pick_fb_l S rfl rfl rfl ?_ | refine not_l S rfl rfl ?_ | refine run_cond_false rfl ?_ | refine thenQ_n ?_)
      refine callL (vmay_at (by omega) (by omega) (S.all (slL a0 cap0 1 encI 0 z0) (by simp)) (S.all (hisR a1 cap1 z1) (by simp)) (S.all (slL a2 cap2 1 encI 0 z2) (by simp))) rfl rfl ?_
      rintro e w ⟨⟨r, rfl, hr2⟩, hb⟩
      replace S := S.below hb
      clear hb
      refine ⟨_, rfl, ?_⟩
      cases r with
      | false =>
        repeat' (first | refine move_b_l S rfl rfl ?_ | refine pick_tb_l S rfl rfl rfl ?_ | refine nilL ?_ | refine offL rfl rfl rfl rfl ?_ | refine offLU rfl rfl rfl ?_ | refine not_l S rfl rfl ?_ | refine assign_b_l S rfl rfl ?_ | refine run_ret ?_ | refine thenQ_n ?_ | refine ret1_b rfl ?_)
        exact ⟨rfl, S.chg.below⟩
      | true =>
        repeat' (first | refine move_s_l S rfl rfl ?_ | refine move_b_l S rfl rfl ?_ | refine onL rfl rfl ?_ | refine not_l S rfl rfl ?_)
        refine callL (less_at a2 ao cap2 co z2 o _ (S.all (slL a2 cap2 1 encI 0 z2) (by simp)) (RowOk.sl (S.all (rowL ao co 3 1 encI 0 o) (by simp)))) rfl rfl ?_
        rintro e w ⟨⟨r, rfl, hr3⟩, hb⟩
        replace S := S.below hb
        clear hb
        refine ⟨_, rfl, ?_⟩
        obtain rfl : r = false := by
          cases r with
          | false => rfl
          | true => exact absurd (hr3.1 rfl) (hL.2 z2 List.nil_prefix (hr2.1 rfl).2)
        repeat' (first | refine pick_tb_l S rfl rfl rfl ?_ | refine nilL ?_ | refine onL rfl rfl ?_ | refine pick_fb_l S rfl rfl rfl ?_ | refine not_l S rfl rfl ?_ | refine assign_b_l S rfl rfl ?_ | refine run_ret ?_ | refine thenQ_n ?_ | refine ret1_b rfl ?_)
        exact ⟨rfl, S.chg.below⟩
end Go.Proofs.Ytciehimnhnbipaa
