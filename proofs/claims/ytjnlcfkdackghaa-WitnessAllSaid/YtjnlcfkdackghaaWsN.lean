/- witness: awake. -/
import Derived.Test.YtjnlcfkdackghaaWsM
namespace Go.Proofs.Ytjnlcfkdackghaa
open Go.RowKit Go.Lib
set_option linter.unusedVariables false
set_option linter.unusedSimpArgs false
set_option maxHeartbeats 8000000
set_option maxRecDepth 100000
theorem nil_sl {α : Type} {w : World} {sz : Nat} {enc : α → Nat → Value} {d : α} (h : 0 < sz) : SlOk w none 0 0 sz (gL enc d []) := ⟨h, Nat.le_refl _, Nat.zero_le _, fun _ => rfl, .inl rfl⟩
theorem his_of {a : Option Addr} {n cap : Nat} {g : Nat → Nat → Value} {w : World} (l : List AtS) (h : SlOk w a n cap 9 g) (hn : l.length = n) (hg : ∀ i, i < n → ∀ j, j < 9 → g i j = gL encAt atD l i j) (hz : ∀ z ∈ l, (atR z).holds w) : (hisR a cap l).holds w := by
  subst hn
  refine ⟨h.congr hg, fun i => ?_⟩
  by_cases hi : i < l.length
  · exact hz _ (getD_mem hi)
  · rw [List.getD_eq_getElem?_getD, List.getElem?_eq_none (by omega)]
    exact ⟨nil_sl (by decide), nil_sl (by decide)⟩
theorem Sat.rowAt {S : Nat → Prop} {w₀ w : World} {L : List Res} (hS : Sat S w₀ w L) (a : Option Addr) {n c e sz : Nat} {g : Nat → Nat → Value} {f : Res → List Res} [hq : PickR L a n c e sz g f] : SlOk w a n c sz g := by
  have := hq.pick
  exact RowOk.sl (hS.holds (r := row a n c e sz g))
theorem lt9 {j : Nat} (h : j < 9) : j = 0 ∨ j = 1 ∨ j = 2 ∨ j = 3 ∨ j = 4 ∨ j = 5 ∨ j = 6 ∨ j = 7 ∨ j = 8 := by omega
theorem lt1 {j : Nat} (h : j < 1) : j = 0 := by omega
theorem lt2 {j : Nat} (h : j < 2) : j = 0 ∨ j = 1 := by omega
theorem lt3 {j : Nat} (h : j < 3) : j = 0 ∨ j = 1 ∨ j = 2 := by omega
theorem wawake_at (w0 : World) : Calls Try.prog 10 #[] w0 fun e w' => e = .returned (.bool true) ∧ Below w0.heap.size w0 w' := by
  have S := Sat.start (fun _ => False) w0
  refine enter1 Try.func10 rfl Try.ntmps10 rfl Try.results10 ?_
  repeat' (first | (refine buildSlice_l S rfl rfl rfl rfl rfl ?_; clear S; intro b w S) | (apply buildSliceN_l S; (· repeat (first | exact vsN | apply vsC rfl)); (· rfl); (· rfl); (· rfl); (· rfl); (· rfl); clear S; intro b w S) | refine nilL ?_ | refine run_seq ?_ | refine run_region ?_ | refine assign_b_l S rfl rfl ?_ | refine loadN_l S rfl rfl rfl ?_ | (apply build2_l S; (· repeat (first | exact mapN | apply mapC_i rfl | apply mapC_b rfl | apply mapC_p rfl | apply mapC_s rfl | apply mapC_e rfl | apply mapC_a rfl | apply mapC_o rfl)); (· rfl); (· rfl)) | (apply build9_l S; (· repeat (first | exact mapN | apply mapC_i rfl | apply mapC_b rfl | apply mapC_p rfl | apply mapC_s rfl | apply mapC_e rfl | apply mapC_a rfl | apply mapC_o rfl)); (· rfl); (· rfl)) | (refine allocZ_l S rfl rfl ?_; clear S; intro b w S) | (refine storeN_l S rfl rfl ⟨rfl, rfl⟩ rfl ?_; clear S; intro w S) | refine thenQ_n ?_)
  obtain ⟨bl, hbl⟩ : ∃ x, x = b := ⟨_, rfl⟩
  subst hbl
  obtain ⟨bi, hbi⟩ : ∃ x, x = b := ⟨_, rfl⟩
  subst hbi
  obtain ⟨b2, hb2⟩ : ∃ x, x = b := ⟨_, rfl⟩
  subst hb2
  obtain ⟨br, hbr⟩ : ∃ x, x = b := ⟨_, rfl⟩
  subst hbr
  obtain ⟨b1, hb1⟩ : ∃ x, x = b := ⟨_, rfl⟩
  subst hb1
  obtain ⟨bw, hbw⟩ : ∃ x, x = b := ⟨_, rfl⟩
  subst hbw
  have hrd : SlOk w (some ⟨br, 0, none⟩) 1 1 2 (gL encPr (0, 0) [(0, 5)]) := (S.rowAt (some ⟨br, 0, none⟩)).congr fun i hi j hj => by
    obtain rfl := lt1 hi
    rcases lt2 hj with rfl | rfl <;> rfl
  have hwr : SlOk w (some ⟨bw, 0, none⟩) 1 1 2 (gL encPr (0, 0) [(0, 5)]) := (S.rowAt (some ⟨bw, 0, none⟩)).congr fun i hi j hj => by
    obtain rfl := lt1 hi
    rcases lt2 hj with rfl | rfl <;> rfl
  have hI : SlOk w (some ⟨bi, 0, none⟩) 1 1 1 (gL encI 0 [0]) := (S.rowAt (some ⟨bi, 0, none⟩)).congr fun i hi j hj => by
    obtain rfl := lt1 hi
    obtain rfl := lt1 hj
    rfl
  have hL : (hisR (some ⟨bl, 0, none⟩) 2 [⟨0, 0, 0, 9, 0, 0, false, some ⟨br, 0, none⟩, 1, [(0, 5)], none, 0, []⟩, ⟨0, 0, 1, 4, 0, 1, true, none, 0, [], some ⟨bw, 0, none⟩, 1, [(0, 5)]⟩]).holds w := by
    refine his_of _ (RowOk.sl S.got1) rfl (fun i hi j hj => ?_) (fun z hz => ?_)
    · rcases lt2 hi with rfl | rfl <;> rcases lt9 hj with rfl | rfl | rfl | rfl | rfl | rfl | rfl | rfl | rfl <;> rfl
    · simp only [List.mem_cons, List.not_mem_nil, or_false] at hz
      rcases hz with rfl | rfl
      · exact ⟨hrd, nil_sl (by decide)⟩
      · exact ⟨nil_sl (by decide), hwr⟩
  refine callL (judge_at (ai := some ⟨bi, 0, none⟩) (ci := 1) (init := [0]) hI hL (by decide) (show 2 ≤ 100000 by decide)) rfl rfl ?_
  rintro e w ⟨hb, h⟩
  have hM : MayP 1 [⟨0, 0, 0, 9, 0, 0, false, some ⟨br, 0, none⟩, 1, [(0, 5)], none, 0, []⟩, ⟨0, 0, 1, 4, 0, 1, true, none, 0, [], some ⟨bw, 0, none⟩, 1, [(0, 5)]⟩] := of_decide_eq_true (by kernel_rfl)
  have hJ : JGood [0] [⟨0, 0, 0, 9, 0, 0, false, some ⟨br, 0, none⟩, 1, [(0, 5)], none, 0, []⟩, ⟨0, 0, 1, 4, 0, 1, true, none, 0, [], some ⟨bw, 0, none⟩, 1, [(0, 5)]⟩] [1] (fun _ => 1) := of_decide_eq_true (by kernel_rfl)
  rcases h with ⟨hn, _⟩ | ⟨_, hf, _⟩ | ⟨_, ord, v, ho, rfl, ⟨ao, co, rfl, hh, hf⟩⟩
  · exact absurd hM hn
  · exact absurd hf (jgood_fail hM hJ)
  obtain rfl : ord = [1, 0] := (jgood_one hM hJ ho).trans (by kernel_rfl)
  clear hM hJ ho hL hI
  replace S := Sat.freshRow S hb hh hf
  clear hb hh hf
  refine ⟨_, rfl, ?_⟩
  repeat' (first | (refine buildSlice_l S rfl rfl rfl rfl rfl ?_; clear S; intro b w S) | (apply buildSliceN_l S; (· repeat (first | exact vsN | apply vsC rfl)); (· rfl); (· rfl); (· rfl); (· rfl); (· rfl); clear S; intro b w S) | refine nilL ?_ | refine run_seq ?_ | refine run_region ?_ | refine assign_b_l S rfl rfl ?_ | refine loadN_l S rfl rfl rfl ?_ | refine extract_s_l S rfl rfl rfl ?_ | refine extract_b_l S rfl rfl rfl ?_ | refine extract_i_l S rfl rfl rfl ?_ | refine assign_s_l S rfl rfl ?_ | refine assign_i_l S rfl rfl ?_ | refine fieldAddr_l S rfl rfl rfl ?_ | (refine store_i S rfl rfl rfl ?_; clear S; intro w S) | refine move_o_l S rfl rfl ?_ | refine thenQ_n ?_)
  obtain ⟨bl2, hbl⟩ : ∃ x, x = b := ⟨_, rfl⟩
  subst hbl
  obtain ⟨bi2, hbi⟩ : ∃ x, x = b := ⟨_, rfl⟩
  subst hbi
  have hrd : SlOk w (some ⟨br, 0, none⟩) 1 1 2 (gL encPr (0, 0) [(0, 5)]) := (S.rowAt (some ⟨br, 0, none⟩)).congr fun i hi j hj => by
    obtain rfl := lt1 hi
    rcases lt2 hj with rfl | rfl <;> rfl
  have hwr : SlOk w (some ⟨bw, 0, none⟩) 1 1 2 (gL encPr (0, 0) [(0, 5)]) := (S.rowAt (some ⟨bw, 0, none⟩)).congr fun i hi j hj => by
    obtain rfl := lt1 hi
    rcases lt2 hj with rfl | rfl <;> rfl
  have hI : SlOk w (some ⟨bi2, 0, none⟩) 1 1 1 (gL encI 0 [0]) := (S.rowAt (some ⟨bi2, 0, none⟩)).congr fun i hi j hj => by
    obtain rfl := lt1 hi
    obtain rfl := lt1 hj
    rfl
  have hL : (hisR (some ⟨bl2, 0, none⟩) 2 [⟨0, 0, 0, 0, 0, 0, false, some ⟨br, 0, none⟩, 1, [(0, 5)], none, 0, []⟩, ⟨0, 0, 1, 4, 0, 1, true, none, 0, [], some ⟨bw, 0, none⟩, 1, [(0, 5)]⟩]).holds w := by
    refine his_of _ (RowOk.sl S.got1) rfl (fun i hi j hj => ?_) (fun z hz => ?_)
    · rcases lt2 hi with rfl | rfl <;> rcases lt9 hj with rfl | rfl | rfl | rfl | rfl | rfl | rfl | rfl | rfl <;> rfl
    · simp only [List.mem_cons, List.not_mem_nil, or_false] at hz
      rcases hz with rfl | rfl
      · exact ⟨hrd, nil_sl (by decide)⟩
      · exact ⟨nil_sl (by decide), hwr⟩
  refine callL (judge_at (ai := some ⟨bi2, 0, none⟩) (ci := 1) (init := [0]) hI hL (by decide) (show 2 ≤ 100000 by decide)) rfl rfl ?_
  rintro e w ⟨hb, h⟩
  have hM : MayP 1 [⟨0, 0, 0, 0, 0, 0, false, some ⟨br, 0, none⟩, 1, [(0, 5)], none, 0, []⟩, ⟨0, 0, 1, 4, 0, 1, true, none, 0, [], some ⟨bw, 0, none⟩, 1, [(0, 5)]⟩] := of_decide_eq_true (by kernel_rfl)
  have hB : JBad [0] [⟨0, 0, 0, 0, 0, 0, false, some ⟨br, 0, none⟩, 1, [(0, 5)], none, 0, []⟩, ⟨0, 0, 1, 4, 0, 1, true, none, 0, [], some ⟨bw, 0, none⟩, 1, [(0, 5)]⟩] [1] := ⟨of_decide_eq_true (by kernel_rfl), .inr (of_decide_eq_true (by kernel_rfl))⟩
  rcases h with ⟨hn, _⟩ | ⟨_, hf, rfl⟩ | ⟨_, ord, v, ho, _⟩
  · exact absurd hM hn
  rotate_left
  · exact (jbad_no hM hB ho).elim
  clear hM hB hL hI hf
  replace S := S.below hb
  clear hb
  refine ⟨_, rfl, ?_⟩
  repeat' (first | (refine buildSlice_l S rfl rfl rfl rfl rfl ?_; clear S; intro b w S) | refine move_b_l S rfl rfl ?_ | refine nilL ?_ | refine run_seq ?_ | refine run_region ?_ | refine onL rfl rfl ?_ | refine assign_b_l S rfl rfl ?_ | refine pick_tb_l S rfl rfl rfl ?_ | refine extract_s_l S rfl rfl rfl ?_ | refine extract_b_l S rfl rfl rfl ?_ | refine extract_i_l S rfl rfl rfl ?_ | refine assign_s_l S rfl rfl ?_ | refine assign_i_l S rfl rfl ?_ | refine move_i_l S rfl rfl ?_ | (refine eql_l S rfl rfl rfl ?_ ?_ <;> intro hcmp <;> try (exfalso; first | omega | exact hcmp (by decide) | exact absurd hcmp (by decide))) | refine move_s_l S rfl rfl ?_ | refine move_o_l S rfl rfl ?_ | refine thenQ_n ?_)
  refine callL (wnumbers_at ao (some ⟨b, 0, none⟩) co 2 [1, 0] [1, 0] _ (RowOk.sl (S.all (rowL ao co 3 1 encI 0 [1, 0]) (by simp))) ((S.rowAt (some ⟨b, 0, none⟩)).congr fun i hi j hj => by
    obtain rfl := lt1 hj
    rcases lt2 hi with rfl | rfl <;> rfl)) rfl rfl ?_
  rintro e w ⟨rfl, hb⟩
  replace S := S.below hb
  refine ⟨_, rfl, ?_⟩
  repeat' (first | refine move_b_l S rfl rfl ?_ | refine nilL ?_ | refine onL rfl rfl ?_ | refine assign_b_l S rfl rfl ?_ | refine pick_tb_l S rfl rfl rfl ?_ | refine move_i_l S rfl rfl ?_ | (refine eql_l S rfl rfl rfl ?_ ?_ <;> intro hcmp <;> try (exfalso; first | omega | exact hcmp (by decide) | exact absurd hcmp (by decide))) | refine not_l S rfl rfl ?_ | refine run_ret ?_ | refine thenQ_n ?_ | refine ret1_b rfl ?_)
  exact ⟨rfl, S.chg.below⟩
end Go.Proofs.Ytjnlcfkdackghaa
