/- witness: the law WitnessFewer. -/
import Derived.Test.YtjnlcfkdackghaaWsU
import Derived.Test.YtjnlcfkdackghaaWsS
namespace Go.Proofs.Ytjnlcfkdackghaa
open Go.RowKit Go.Lib
set_option linter.unusedVariables false
set_option linter.unusedSimpArgs false
set_option maxHeartbeats 16000000
set_option maxRecDepth 100000
/-- What a call has made anew, beside what was there. -/
theorem Sat.merge {S : Nat → Prop} {w₀ w w' : World} {L N : List Res} (h : Sat S w₀ w L) (h' : Sat (fun _ => False) w w' N) (hf : ∀ r ∈ N, ∀ k, r.foot k → w.heap.size ≤ k) : Sat S w₀ w' (N ++ L) := by
  have h2 := h.below h'.chg.below
  refine ⟨h2.chg, fun r hr => ?_, List.pairwise_append.2 ⟨h'.sep, h2.sep, fun r hr x hx => .inr fun k e e' => ?_⟩, fun r hr => ?_⟩
  · rcases List.mem_append.1 hr with hr | hr
    · exact h'.all r hr
    · exact h2.all r hr
  · have h3 := x.lt w k (h.all x hx) e'
    have h4 := hf r hr k e
    omega
  · rcases List.mem_append.1 hr with hr | hr
    · intro _ k hk hlt
      have h3 := hf r hr k hk
      have h4 := h.chg.size
      omega
    · exact h2.own r hr
theorem row_fresh {w w' : World} {L : List Res} {a : Option Addr} {len cap e sz : Nat} {g : Nat → Nat → Value} (h : Sat (fun _ => False) w w' (row a len cap e sz g :: L)) : ∀ k, (row a len cap e sz g).foot k → w.heap.size ≤ k :=
  fun k hk => Nat.le_of_not_lt fun hlt => h.own (row a len cap e sz g) (List.mem_cons_self ..) rfl k hk hlt
theorem pick_at {a : Int} {n : Nat} (h0 : n ≠ 0) (hn : n ≤ 1000) : ∃ k : Nat, IntKind.i64.wrap ((IntKind.u64.wrap a).tmod (n : Int)) = k ∧ k < n := by
  have h1 : 0 ≤ IntKind.u64.wrap a := by rw [IntKind.wrap_u64]; omega
  rw [Int.tmod_eq_emod_of_nonneg h1]
  have h2 := Int.emod_nonneg (IntKind.u64.wrap a) (show (n : Int) ≠ 0 by omega)
  have h3 := Int.emod_lt_of_pos (IntKind.u64.wrap a) (show (0 : Int) < n by omega)
  rw [wrap_in (by omega)]
  exact ⟨(IntKind.u64.wrap a % (n : Int)).toNat, by omega, by omega⟩
theorem encAt_to (m : List AtS) (k : Nat) (v : Int) (hk : k < m.length) (i : Nat) (hi : i < m.length) (j : Nat) (hj : j < 9) : gset (gL encAt atD m) k 3 (.int .i64 v) i j = gL encAt atD (m.set k { m.getD k atD with to := v }) i j := by
  unfold gset gL
  rw [List.getD_eq_getElem?_getD, List.getD_eq_getElem?_getD (l := m.set k _), List.getElem?_set]
  by_cases e : i = k
  · subst e
    rw [if_pos rfl, if_pos hk]
    rcases lt9 hj with rfl | rfl | rfl | rfl | rfl | rfl | rfl | rfl | rfl <;> simp <;> rfl
  · rw [if_neg (fun x => e x.1), if_neg (fun x => e x.symm)]
theorem his_rows {a : Option Addr} {cap : Nat} {m m' : List AtS} {w : World} (h : (rowL a cap 26 9 encAt atD m').holds w) (hz : (∀ w, (pairsR m).holds w → ∀ z ∈ m', (atR z).holds w)) (hp : (pairsR m).holds w) : (hisR a cap m').holds w :=
  his_of m' (RowOk.sl h) rfl (fun _ _ _ _ => rfl) (hz w hp)
theorem pairs_set {m m' : List AtS} {k : Nat} {v : Int} (hk : k < m'.length) (hz : (∀ w, (pairsR m).holds w → ∀ z ∈ m', (atR z).holds w)) : ∀ w, (pairsR m).holds w → ∀ z ∈ m'.set k { m'.getD k atD with to := v }, (atR z).holds w := fun w hw z hzm => by
  rcases List.mem_or_eq_of_mem_set hzm with h | rfl
  · exact hz w hw z h
  · exact hz w hw (m'.getD k atD) (getD_mem hk)
theorem walk_WitnessFewer (a0 : Option Addr) (len0 cap0 : Nat) (z0 : List Int) (a1 : Option Addr) (len1 cap1 : Nat) (z1 : List AtS) (a2 a3 : Int) (w0 : World) (f0 : z0.length = len0 ∧ SlOk w0 a0 len0 cap0 1 (gL encI 0 z0)) (f1 : z1.length = len1 ∧ (hisR a1 cap1 z1).holds w0) (f2 : (Lit.int .i64 a2).wf = true) (f3 : (Lit.int .i64 a3).wf = true) :
    Calls Try.prog 6 #[.slice a0 len0 cap0, .slice a1 len1 cap1, .int .i64 a2, .int .i64 a3] w0 fun e w' => e = .returned (.bool true) ∧ Below w0.heap.size w0 w' := by
  obtain ⟨rfl, hi⟩ := f0
  obtain ⟨rfl, hl⟩ := f1
  have b2 := bounds_i64 f2
  have b3 := bounds_i64 f3
  have S := ((Sat.start (fun _ => False) w0).ro (r := hisR a1 cap1 z1) hl rfl rfl).ro (r := slL a0 cap0 1 encI 0 z0) hi rfl rfl
  clear hi hl
  refine enter1 Try.func6 rfl Try.ntmps6 rfl Try.results6 ?_
  repeat' (first | refine move_s_l S rfl rfl ?_ | refine nilL ?_ | refine run_seq ?_ | refine run_region ?_ | refine assign_b_l S rfl rfl ?_ | refine thenQ_n ?_)
  refine callL (large_at (S.all (slL a0 cap0 1 encI 0 z0) (by simp)) (S.all (hisR a1 cap1 z1) (by simp))) rfl rfl ?_
  rintro e w ⟨⟨b, rfl, hlg⟩, hb⟩
  replace S := S.below hb
  clear hb
  refine ⟨_, rfl, ?_⟩
  cases b with
  | true =>
    repeat' (first | refine move_b_l S rfl rfl ?_ | refine nilL ?_ | refine run_seq ?_ | refine run_region ?_ | refine offL rfl rfl rfl rfl ?_ | refine pick_tb_l S rfl rfl rfl ?_ | refine run_cond_true rfl ?_ | refine thenQ_n ?_)
    (refine callL (wawake_at _) rfl rfl ?_; rintro e w ⟨rfl, hb⟩; replace S := S.below hb; clear hb; refine ⟨_, rfl, ?_⟩)
    repeat' (first | refine nilL ?_ | refine assign_b_l S rfl rfl ?_ | refine run_ret ?_ | refine thenQ_n ?_ | refine thenQ_r ?_ | refine ret1_b rfl ?_)
    exact ⟨rfl, S.chg.below⟩
  | false =>
    obtain ⟨hn, hll, hrw⟩ := hlg rfl
    by_cases h0 : z1.length = 0
    · repeat' (first | refine move_s_l S rfl rfl ?_ | refine move_b_l S rfl rfl ?_ | refine nilL ?_ | refine run_seq ?_ | refine run_region ?_ | refine onL rfl rfl ?_ | refine offL rfl rfl rfl rfl ?_ | refine pick_tb_l S rfl rfl rfl ?_ | refine pick_fb_l S rfl rfl rfl ?_ | refine len_l S rfl rfl ?_ | (refine eql_l S rfl rfl rfl ?_ ?_ <;> intro hcmp <;> try (exfalso; first | omega | exact hcmp (by decide) | exact absurd hcmp (by decide))) | refine run_cond_true rfl ?_ | refine thenQ_n ?_)
      (refine callL (wawake_at _) rfl rfl ?_; rintro e w ⟨rfl, hb⟩; replace S := S.below hb; clear hb; refine ⟨_, rfl, ?_⟩)
      repeat' (first | refine nilL ?_ | refine assign_b_l S rfl rfl ?_ | refine run_ret ?_ | refine thenQ_n ?_ | refine thenQ_r ?_ | refine ret1_b rfl ?_)
      exact ⟨rfl, S.chg.below⟩
    repeat' (first | refine move_s_l S rfl rfl ?_ | refine move_b_l S rfl rfl ?_ | refine onL rfl rfl ?_ | refine pick_fb_l S rfl rfl rfl ?_ | refine len_l S rfl rfl ?_ | (refine eql_l S rfl rfl rfl ?_ ?_ <;> intro hcmp <;> try (exfalso; first | omega | exact hcmp (by decide) | exact absurd hcmp (by decide))))
    (refine callL (wawake_at _) rfl rfl ?_; rintro e w ⟨rfl, hb⟩; replace S := S.below hb; clear hb; refine ⟨_, rfl, ?_⟩)
    repeat' (first | refine move_s_l S rfl rfl ?_ | refine nilL ?_ | refine run_seq ?_ | refine run_skip ?_ | refine run_region ?_ | refine onL rfl rfl ?_ | refine pick_fb_l S rfl rfl rfl ?_ | refine not_l S rfl rfl ?_ | refine run_cond_false rfl ?_ | refine thenQ_n ?_)
    refine callL (judge_at (S.all (slL a0 cap0 1 encI 0 z0) (by simp)) (S.all (hisR a1 cap1 z1) (by simp)) (by omega) (by omega)) rfl rfl ?_
    rintro e w ⟨hb, ⟨hM, rfl⟩ | ⟨hM, hf, rfl⟩ | ⟨hM, ord, v, ho, rfl, ⟨ao, co, rfl, hh, hfr⟩⟩⟩
    · replace S := S.below hb
      refine ⟨_, rfl, ?_⟩
      repeat' (first | refine move_i_l S rfl rfl ?_ | refine move_b_l S rfl rfl ?_ | refine nilL ?_ | refine run_seq ?_ | refine run_region ?_ | refine offL rfl rfl rfl rfl ?_ | refine assign_b_l S rfl rfl ?_ | refine pick_tb_l S rfl rfl rfl ?_ | refine assign_s_l S rfl rfl ?_ | refine assign_i_l S rfl rfl ?_ | (refine neq_l S rfl rfl rfl ?_ ?_ <;> intro hcmp <;> try (exfalso; first | omega | exact hcmp (by decide) | exact absurd hcmp (by decide))) | refine extract_s_l S rfl rfl rfl ?_ | refine extract_b_l S rfl rfl rfl ?_ | refine extract_i_l S rfl rfl rfl ?_ | refine move_o_l S rfl rfl ?_ | refine run_ret ?_ | refine run_cond_true rfl ?_ | refine thenQ_n ?_ | refine thenQ_r ?_ | refine ret1_b rfl ?_)
      exact ⟨rfl, S.chg.below⟩
    · replace S := S.below hb
      refine ⟨_, rfl, ?_⟩
      repeat' (first | refine move_i_l S rfl rfl ?_ | refine move_b_l S rfl rfl ?_ | refine nilL ?_ | refine run_seq ?_ | refine run_region ?_ | refine onL rfl rfl ?_ | refine assign_b_l S rfl rfl ?_ | refine pick_fb_l S rfl rfl rfl ?_ | refine not_l S rfl rfl ?_ | refine assign_s_l S rfl rfl ?_ | refine assign_i_l S rfl rfl ?_ | (refine neq_l S rfl rfl rfl ?_ ?_ <;> intro hcmp <;> try (exfalso; first | omega | exact hcmp (by decide) | exact absurd hcmp (by decide))) | refine extract_s_l S rfl rfl rfl ?_ | refine extract_b_l S rfl rfl rfl ?_ | refine extract_i_l S rfl rfl rfl ?_ | refine move_o_l S rfl rfl ?_ | refine run_ret ?_ | refine run_cond_true rfl ?_ | refine thenQ_n ?_ | refine thenQ_r ?_ | refine ret1_b rfl ?_)
      exact ⟨rfl, S.chg.below⟩
    have hH := has_of hM ho
    replace S := S.below hb
    clear hb hh hfr
    refine ⟨_, rfl, ?_⟩
    repeat' (first | refine move_s_l S rfl rfl ?_ | refine move_i_l S rfl rfl ?_ | refine move_b_l S rfl rfl ?_ | refine nilL ?_ | refine run_seq ?_ | refine run_skip ?_ | refine run_region ?_ | refine onL rfl rfl ?_ | refine assign_b_l S rfl rfl ?_ | refine pick_fb_l S rfl rfl rfl ?_ | refine convert_l S rfl (wrapu_in (by omega)) rfl ?_ | refine convert_l S rfl rfl rfl ?_ | refine not_l S rfl rfl ?_ | refine assign_s_l S rfl rfl ?_ | refine assign_i_l S rfl rfl ?_ | (refine neq_l S rfl rfl rfl ?_ ?_ <;> intro hcmp <;> try (exfalso; first | omega | exact hcmp (by decide) | exact absurd hcmp (by decide))) | refine extract_s_l S rfl rfl rfl ?_ | refine extract_b_l S rfl rfl rfl ?_ | refine extract_i_l S rfl rfl rfl ?_ | refine len_l S rfl rfl ?_ | refine rem_l S rfl rfl (by omega) rfl rfl ?_ | refine move_o_l S rfl rfl ?_ | refine run_cond_false rfl ?_ | refine thenQ_n ?_)
    refine callL (wcopy_at (S.all (hisR a1 cap1 z1) (by simp)) (by omega) hrw) rfl rfl ?_
    rintro e w ⟨ac, cc, m, rfl, hR, hF, hS⟩
    replace S : Sat (fun _ => False) w0 w [rowL ac cc 26 9 encAt atD m, pairsR m, slL a0 cap0 1 encI 0 z0, hisR a1 cap1 z1] := S.merge hS (fun r hr k hk => by
      simp only [List.mem_cons, List.not_mem_nil, or_false] at hr
      rcases hr with rfl | rfl
      · exact row_fresh hS k hk
      · exact hF k hk)
    clear hS hF
    refine ⟨_, rfl, ?_⟩
    obtain ⟨k, hk, hkl⟩ := pick_at (a := a2) h0 (by omega)
    rw [hk]
    have hml : m.length = z1.length := hR.length
    have hMm := may_rel hR hM
    repeat' (first | refine nilL ?_ | refine run_seq ?_ | refine assign_s_l S rfl rfl ?_ | refine thenQ_n ?_)
    refine run_cut_b [14, 15, 16, 58, 59, 60, 61, 62, 63, 64, 65, 66, 67, 68, 69, 70, 71, 72, 73, 74, 75, 76, 77, 78, 79, 80, 81, 82, 83, 84, 85, 86, 87, 88, 89, 90, 91, 92, 93, 94, 95, 96, 97, 98] (fun (_ : List AtS) t => t) (fun m' w' => (RelW z1 m' ∧ ∀ w, (pairsR m).holds w → ∀ z ∈ m', (atR z).holds w) ∧ Sat (fun _ => False) w0 w' [row ac m.length cc 26 9 (gL encAt atD m'), pairsR m, slL a0 cap0 1 encI 0 z0, hisR a1 cap1 z1]) ?_ ?_
    · skip
      -- {{
      repeat' (first | refine move_s_l S rfl rfl ?_ | refine move_i_l S rfl rfl ?_ | refine move_b_l S rfl rfl ?_ | refine nilL ?_ | refine run_seq ?_ | refine run_skip ?_ | refine run_region ?_ | refine onL rfl rfl ?_ | refine offL rfl rfl rfl rfl ?_ | refine pick_tb_l S rfl rfl rfl ?_ | refine pick_fb_l S rfl rfl rfl ?_ | refine indexAddr_l S rfl rfl (idx_cast _) (by first | omega | decide | (simp; done) | (simp; omega)) rfl ?_ | refine fieldAddrE_l S rfl (by first | omega | decide | (simp; done) | (simp; omega)) rfl rfl ?_ | refine convert_l S rfl rfl rfl ?_ | (refine neq_l S rfl rfl rfl ?_ ?_ <;> intro hcmp <;> try (exfalso; first | omega | exact hcmp (by decide) | exact absurd hcmp (by decide))) | refine loadE_i_l S rfl (by first | omega | decide | (simp; done) | (simp; omega)) rfl rfl rfl ?_ | refine rem_l S rfl rfl (by omega) rfl rfl ?_ | (refine storeE_i S rfl rfl (by omega) rfl ?_; clear S; intro w S) | (refine lss_l S rfl rfl rfl ?_ ?_ <;> intro hcmp <;> try (exfalso; first | omega | exact hcmp (by decide) | exact absurd hcmp (by decide))) | refine add_l S rfl rfl rfl rfl ?_ | refine run_cond_true rfl ?_ | refine run_cond_false rfl ?_ | refine thenQ_n ?_)
      · obtain ⟨d, hd, hdl⟩ := pick_at (a := a3) (n := 1000) (by decide) (by decide)
        have hkm : k < m.length := by omega
        have hfr0 : (m.getD k atD).frm ≤ (m.getD k atD).to := by
          rcases may_to hMm k hkm with h | h
          · omega
          · exact h
        have hfr1 : -1 < (m.getD k atD).frm := by
          have h1 := (hMm.2 0 (by omega)).1
          rw [if_pos rfl] at h1
          rcases Nat.eq_zero_or_pos k with e | e
          · rw [e]; exact h1
          · exact Int.lt_trans h1 (may_frm hMm k 0 e hkm)
        have hd' : IntKind.i64.wrap ((IntKind.u64.wrap a3).tmod 1000) = (d : Int) := hd
        rw [hd', wrap_in (by omega)] at S
        have hW1 : W1 (m.getD k atD) { m.getD k atD with to := (m.getD k atD).to + d } := ⟨⟨rfl, rfl, rfl, rfl, rfl, rfl⟩, .inr ⟨by assumption, by show (m.getD k atD).to ≤ (m.getD k atD).to + d; omega⟩⟩
        have hR2 := hR.trans ((RelW.refl m).set k _ hW1)
        have hz2 := pairs_set (v := (m.getD k atD).to + d) hkm (fun w (h : (pairsR m).holds w) => h)
        replace S := S.turn1 (r' := row ac m.length cc 26 9 (gL encAt atD (m.set k { m.getD k atD with to := (m.getD k atD).to + d }))) (RowOk.congr S.got1 (fun i hi j hj => encAt_to m k _ hkm i hi j hj)) rfl (fun k e => e)
        have hHis : (hisR ac cc (m.set k { m.getD k atD with to := (m.getD k atD).to + d })).holds w := by
          refine his_rows ?_ hz2 S.second
          have h3 := S.got1
          show (row ac _ cc _ _ _).holds w
          rw [List.length_set]
          exact h3
        refine callL (judge_at (S.all (slL a0 cap0 1 encI 0 z0) (by simp)) hHis (by omega) (by rw [List.length_set]; omega)) (by rw [List.length_set]; rfl) rfl ?_
        rintro e w ⟨hb, ⟨hM3, _⟩ | ⟨hM3, hf, _⟩ | ⟨hM3, ord, v, ho, rfl, ⟨ao, co, rfl, hh, hfr⟩⟩⟩
        · exact absurd (may_rel hR2 hM) hM3
        · exact absurd (hH.rel hR2) (has_not hM3 hf)
        replace S := S.below hb
        clear hb hh hfr
        refine ⟨_, rfl, ?_⟩
        repeat' (first | refine move_i_l S rfl rfl ?_ | refine move_b_l S rfl rfl ?_ | refine nilL ?_ | refine run_seq ?_ | refine run_skip ?_ | refine run_region ?_ | refine onL rfl rfl ?_ | refine assign_b_l S rfl rfl ?_ | refine pick_fb_l S rfl rfl rfl ?_ | refine not_l S rfl rfl ?_ | refine assign_s_l S rfl rfl ?_ | refine assign_i_l S rfl rfl ?_ | (refine neq_l S rfl rfl rfl ?_ ?_ <;> intro hcmp <;> try (exfalso; first | omega | exact hcmp (by decide) | exact absurd hcmp (by decide))) | refine extract_s_l S rfl rfl rfl ?_ | refine extract_b_l S rfl rfl rfl ?_ | refine extract_i_l S rfl rfl rfl ?_ | refine move_o_l S rfl rfl ?_ | refine run_cond_false rfl ?_ | refine thenQ_n ?_)
        exact midQ_n (m.set k { m.getD k atD with to := (m.getD k atD).to + d }) (by (repeat (first | exact agree_refl | refine agree_r rfl ?_ | refine agree_l rfl ?_ | refine agree_hv rfl ?_))) ⟨⟨hR2, hz2⟩, S⟩
      · exact midQ_n m (by (repeat (first | exact agree_refl | refine agree_r rfl ?_ | refine agree_l rfl ?_ | refine agree_hv rfl ?_))) ⟨⟨hR, fun w h => h⟩, S⟩
      · exact midQ_n m (by (repeat (first | exact agree_refl | refine agree_r rfl ?_ | refine agree_l rfl ?_ | refine agree_hv rfl ?_))) ⟨⟨hR, fun w h => h⟩, S⟩
      -- }}
    · clear S
      rintro m' j w ⟨⟨hR', hz'⟩, S⟩
      have hml' : m'.length = z1.length := hR'.length
      have hkm : k < m'.length := by omega
      repeat' (first | refine move_s_l S rfl rfl ?_ | refine move_i_l S rfl rfl ?_ | refine nilL ?_ | refine run_seq ?_ | refine run_region ?_ | refine indexAddr_l S rfl rfl (idx_cast _) (by first | omega | decide | (simp; done) | (simp; omega)) rfl ?_ | refine fieldAddrE_l S rfl (by first | omega | decide | (simp; done) | (simp; omega)) rfl rfl ?_ | (refine storeE_i S rfl rfl (by omega) rfl ?_; clear S; intro w S) | refine thenQ_n ?_)
      have hW1 : W1 (m'.getD k atD) { m'.getD k atD with to := -1 } := ⟨⟨rfl, rfl, rfl, rfl, rfl, rfl⟩, .inl rfl⟩
      have hR2 := hR'.trans ((RelW.refl m').set k _ hW1)
      have hz2 := pairs_set (v := -1) hkm hz'
      replace S := S.turn1 (r' := row ac m.length cc 26 9 (gL encAt atD (m'.set k { m'.getD k atD with to := -1 }))) (RowOk.congr S.got1 (fun i hi j hj => encAt_to m' k _ hkm i (by omega) j hj)) rfl (fun k e => e)
      have hHis : (hisR ac cc (m'.set k { m'.getD k atD with to := -1 })).holds w := by
        refine his_rows ?_ hz2 S.second
        have h3 := S.got1
        show (row ac _ cc _ _ _).holds w
        rw [List.length_set, hml', ← hml]
        exact h3
      refine callL (judge_at (S.all (slL a0 cap0 1 encI 0 z0) (by simp)) hHis (by omega) (by rw [List.length_set]; omega)) (by rw [List.length_set, hml', ← hml]; rfl) rfl ?_
      rintro e w ⟨hb, ⟨hM3, _⟩ | ⟨hM3, hf, _⟩ | ⟨hM3, ord, v, ho, rfl, ⟨ao, co, rfl, hh, hfr⟩⟩⟩
      · exact absurd (may_rel hR2 hM) hM3
      · exact absurd (hH.rel hR2) (has_not hM3 hf)
      replace S := S.below hb
      clear hb hh hfr
      refine ⟨_, rfl, ?_⟩
      repeat' (first | refine move_s_l S rfl rfl ?_ | refine move_i_l S rfl rfl ?_ | refine move_b_l S rfl rfl ?_ | refine nilL ?_ | refine run_seq ?_ | refine run_skip ?_ | refine run_region ?_ | refine onL rfl rfl ?_ | refine assign_b_l S rfl rfl ?_ | refine pick_fb_l S rfl rfl rfl ?_ | refine indexAddr_l S rfl rfl (idx_cast _) (by first | omega | decide | (simp; done) | (simp; omega)) rfl ?_ | refine fieldAddrE_l S rfl (by first | omega | decide | (simp; done) | (simp; omega)) rfl rfl ?_ | refine not_l S rfl rfl ?_ | refine assign_s_l S rfl rfl ?_ | refine assign_i_l S rfl rfl ?_ | (refine neq_l S rfl rfl rfl ?_ ?_ <;> intro hcmp <;> try (exfalso; first | omega | exact hcmp (by decide) | exact absurd hcmp (by decide))) | refine loadE_i_l S rfl (by first | omega | decide | (simp; done) | (simp; omega)) rfl rfl rfl ?_ | refine extract_s_l S rfl rfl rfl ?_ | refine extract_b_l S rfl rfl rfl ?_ | refine extract_i_l S rfl rfl rfl ?_ | (refine gtr_l S rfl rfl rfl ?_ ?_ <;> intro hcmp <;> try (exfalso; first | omega | exact hcmp (by decide) | exact absurd hcmp (by decide))) | refine move_o_l S rfl rfl ?_ | refine run_ret ?_ | refine run_cond_true rfl ?_ | refine run_cond_false rfl ?_ | refine thenQ_n ?_ | refine thenQ_r ?_ | refine ret1_b rfl ?_)
      · exact ⟨rfl, S.chg.below⟩
      have hwr : ¬ 0 < (z1.getD k atD).wv := by assumption
      have S0 : Sat (fun _ => False) w0 w [slL a0 cap0 1 encI 0 z0, hisR a1 cap1 z1] := S.sub
      clear S
      have S := S0
      clear S0
      have hlc : z1.length ≤ cap1 := (S.all (hisR a1 cap1 z1) (by simp) : (hisR a1 cap1 z1).holds w).1.2.1
      have hsplit : z1 = z1.take k ++ z1.getD k atD :: z1.drop (k + 1) := by
        have e : z1.getD k atD = z1[k] := by rw [List.getD_eq_getElem?_getD, List.getElem?_eq_getElem hkl]; rfl
        rw [e, ← List.drop_eq_getElem_cons hkl, List.take_append_drop]
      have hdrop := slOk_drop (S.all (hisR a1 cap1 z1) (by simp) : (hisR a1 cap1 z1).holds w).1 (k + 1) (by omega)
      have hats : ∀ z ∈ z1, (atR z).holds w := fun z hz => by
        obtain ⟨i, hi, rfl⟩ := List.mem_iff_getElem.1 hz
        have h3 := (S.all (hisR a1 cap1 z1) (by simp) : (hisR a1 cap1 z1).holds w).2 i
        rw [List.getD_eq_getElem?_getD, List.getElem?_eq_getElem hi] at h3
        exact h3
      have hpre : (hisR a1 cap1 (z1.take k)).holds w := by
        refine his_of (z1.take k) ((S.all (hisR a1 cap1 z1) (by simp) : (hisR a1 cap1 z1).holds w).1.pre (n := k) (by omega)) (by rw [List.length_take]; omega) (fun i hi j hj => ?_) (fun z hz => hats z (List.mem_of_mem_take hz))
        unfold gL
        rw [List.getD_eq_getElem?_getD, List.getD_eq_getElem?_getD, List.getElem?_take, if_pos hi]
      have hrest : (pairsR (z1.drop (k + 1))).holds w := fun z hz => hats z (List.mem_of_mem_drop hz)
      replace S := (S.ro (r := slL (subA a1 (k + 1) cap1 9) (cap1 - (k + 1)) 9 encAt atD (z1.drop (k + 1))) hdrop rfl rfl).ro (r := pairsR (z1.drop (k + 1))) hrest rfl rfl
      replace S := S.ro (r := hisR a1 cap1 (z1.take k)) hpre rfl rfl
      clear hdrop hats hrest hpre
      refine run_any S (L' := []) (f := 18) mixed rfl ?_
      clear S
      intro w S1
      have S : Sat _ _ w [] := S1.sub
      all_goals (refine any_pure (i := 0) rfl (by kernel_rfl) S ?_; refine move_s_x rfl rfl ?_)
      all_goals (refine any_pure (i := 1) rfl (by kernel_rfl) S ?_; refine move_s_x rfl rfl ?_)
      all_goals (refine any_pure (i := 2) rfl (by kernel_rfl) S ?_; refine move_i_x rfl rfl ?_)
      all_goals (refine any_pure (i := 3) rfl (by kernel_rfl) S ?_; refine slicePre_x (h := k) rfl rfl (by omega) rfl ?_)
      all_goals (refine any_pure (i := 5) rfl (by kernel_rfl) S ?_; refine move_s_x rfl rfl ?_)
      all_goals (refine any_pure (i := 6) rfl (by kernel_rfl) S ?_; refine move_i_x rfl rfl ?_)
      all_goals (refine any_pure (i := 7) rfl (by kernel_rfl) S ?_; (first | refine add_x rfl rfl (wrap_in (by omega)) rfl ?_ | refine add_x rfl rfl rfl rfl ?_))
      all_goals (refine any_pure (i := 8) rfl (by kernel_rfl) S ?_; refine sliceSuf_x (l := k + 1) rfl (sl_eqN (by omega)) (by omega) rfl ?_)
      all_goals refine any_step (i := 4) rfl (by kernel_rfl) ?_
      all_goals replace S := S1
      all_goals clear S1
      have htl : (z1.take k).length = k := by rw [List.length_take]; omega
      have htg : ∀ i, i < k → (z1.take k).getD i atD = z1.getD i atD := fun i hi => by
        rw [List.getD_eq_getElem?_getD, List.getD_eq_getElem?_getD, List.getElem?_take, if_pos hi]
      refine callL (wcopy_at (S.all (hisR a1 cap1 (z1.take k)) (by simp)) (by omega) (fun i hi => by rw [htg i (by omega)]; exact hrw i (by omega))) (by rw [htl]; rfl) rfl ?_
      rintro e w ⟨ac3, cc3, m3, rfl, hR3, hF3, hS⟩
      replace S := S.merge hS (fun r hr k hk => by
        simp only [List.mem_cons, List.not_mem_nil, or_false] at hr
        rcases hr with rfl | rfl
        · exact row_fresh hS k hk
        · exact hF3 k hk)
      replace S : Sat (fun _ => False) w0 w [rowL ac3 cc3 26 9 encAt atD m3, pairsR m3, hisR a1 cap1 (z1.take k), pairsR (z1.drop (k + 1)), slL (subA a1 (k + 1) cap1 9) (cap1 - (k + 1)) 9 encAt atD (z1.drop (k + 1)), slL a0 cap0 1 encI 0 z0, hisR a1 cap1 z1] := S
      clear hS hF3
      have hm3 : m3.length = k := by rw [hR3.length, htl]
      have hdl : (z1.drop (k + 1)).length ≤ 200 := by rw [List.length_drop]; omega
      refine ⟨_, rfl, ?_⟩
      all_goals try refine nilL ?_
      all_goals refine ⟨S.sub, ?_⟩
      all_goals (have S1 := S; replace S : Sat _ _ _ [] := S1.sub)
      all_goals (refine any_step (i := 9) rfl (by kernel_rfl) ?_; replace S := S1; clear S1; (refine append_l (e := 26) (sz := 9) (enc := encAt) (a := ac3) (cap := cc3) (a2 := subA a1 (k + 1) cap1 9) (cap2 := cap1 - (k + 1)) (ys := z1.drop (k + 1)) (dd := atD) (zs := m3) S rfl (by rw [List.length_drop]; rfl) (by omega) rfl ?_; clear S; intro a' cap' w S); refine nilL ?_; refine ⟨S.sub, ?_⟩; have S1 := S; replace S : Sat _ _ _ [] := S1.sub)
      all_goals refine any_step (i := 10) rfl (by kernel_rfl) ?_
      all_goals replace S := S1
      all_goals clear S1
      have hR4 : RelW (z1.take k ++ z1.drop (k + 1)) (m3 ++ z1.drop (k + 1)) := hR3.append (RelW.refl _)
      have hwf : isW (z1.getD k atD) = false := decide_eq_false hwr
      have hwn : (z1.getD k atD).ws = [] := may_ws hM (getD_mem hkl) hwf
      have hM4 : MayP z0.length (m3 ++ z1.drop (k + 1)) := may_rel hR4 (may_del (by rw [← hsplit]; exact hM))
      have hH4 : HasO z0 (m3 ++ z1.drop (k + 1)) := HasO.rel hR4 (HasO.del hwf hwn (by rw [← hsplit]; exact hH))
      have hHis4 : (hisR a' cap' (m3 ++ z1.drop (k + 1))).holds w := by
        refine his_of _ (RowOk.sl S.got1) rfl (fun _ _ _ _ => rfl) (fun z hz => ?_)
        rcases List.mem_append.1 hz with h | h
        · exact (S.all (pairsR m3) (by simp) : (pairsR m3).holds w) z h
        · exact (S.all (pairsR (z1.drop (k + 1))) (by simp) : (pairsR (z1.drop (k + 1))).holds w) z h
      refine callL (judge_at (S.all (slL a0 cap0 1 encI 0 z0) (by simp)) hHis4 (by omega) (by rw [List.length_append]; omega)) rfl rfl ?_
      rintro e w ⟨hb, ⟨hM5, _⟩ | ⟨_, hf, _⟩ | ⟨_, ord, v, ho, rfl, ⟨ao, co, rfl, hh, hfr⟩⟩⟩
      · exact absurd hM4 hM5
      · exact absurd hH4 (has_not hM4 hf)
      replace S := S.below hb
      clear hb hh hfr
      refine ⟨_, rfl, ?_⟩
      all_goals try refine nilL ?_
      all_goals refine ⟨S.sub, ?_⟩
      all_goals (have S1 := S; replace S : Sat _ _ _ [] := S1.sub)
      all_goals (refine any_pure (i := 11) rfl (by kernel_rfl) S ?_; refine move_o_x rfl rfl ?_)
      all_goals (refine any_pure (i := 12) rfl (by kernel_rfl) S ?_; refine extract_s_x rfl rfl rfl ?_)
      all_goals (refine any_pure (i := 13) rfl (by kernel_rfl) S ?_; refine extract_b_x rfl rfl rfl ?_)
      all_goals (refine any_pure (i := 14) rfl (by kernel_rfl) S ?_; refine extract_i_x rfl rfl rfl ?_)
      all_goals (refine any_pure (i := 15) rfl (by kernel_rfl) S ?_; refine assign_s_x rfl rfl ?_)
      all_goals (refine any_pure (i := 16) rfl (by kernel_rfl) S ?_; refine assign_b_x rfl rfl ?_)
      all_goals (refine any_pure (i := 17) rfl (by kernel_rfl) S ?_; refine assign_i_x rfl rfl ?_)
      all_goals refine any_end (by kernel_rfl) ?_
      all_goals replace S := S1
      repeat' (first | refine move_i_l S rfl rfl ?_ | refine move_b_l S rfl rfl ?_ | refine nilL ?_ | refine run_seq ?_ | refine run_region ?_ | refine onL rfl rfl ?_ | refine assign_b_l S rfl rfl ?_ | refine pick_tb_l S rfl rfl rfl ?_ | (refine eql_l S rfl rfl rfl ?_ ?_ <;> intro hcmp <;> try (exfalso; first | omega | exact hcmp (by decide) | exact absurd hcmp (by decide))) | refine run_ret ?_ | refine thenQ_n ?_ | refine ret1_b rfl ?_)
      all_goals exact ⟨rfl, S.chg.below⟩
end Go.Proofs.Ytjnlcfkdackghaa
