/- witness: some. -/
import Derived.Test.YtjnlcfkdackghaaWsQ
namespace Go.Proofs.Ytjnlcfkdackghaa
open Go.RowKit Go.Lib
set_option linter.unusedVariables false
set_option linter.unusedSimpArgs false
set_option maxHeartbeats 16000000
set_option maxRecDepth 100000
/-- Is there an order that may be, with these ahead? -/
def SomeP (init : List Int) (l : List AtS) (p : List Int) : Prop := ∃ o, p <+: o ∧ ValidO init l o
theorem some_full {init : List Int} {l : List AtS} {p : List Int} (hp : p.length = l.length) : SomeP init l p ↔ ValidO init l p := by
  constructor
  · rintro ⟨o, ⟨t, rfl⟩, h⟩
    have h2 := h.1.length_eq
    unfold plL at h2
    rw [List.length_append, List.length_map, List.length_range] at h2
    obtain rfl : t = [] := List.eq_nil_of_length_eq_zero (by omega)
    rw [List.append_nil] at h
    exact h
  · exact fun h => ⟨p, List.prefix_refl _, h⟩
theorem some_next {init : List Int} {l : List AtS} {p : List Int} (hp : p.length ≠ l.length) : SomeP init l p ↔ ∃ i : Nat, i < l.length ∧ SomeP init l (p ++ [(i : Int)]) := by
  constructor
  · rintro ⟨o, ⟨t, rfl⟩, h⟩
    match t with
    | [] =>
      have h2 := h.1.length_eq
      unfold plL at h2
      rw [List.length_append, List.length_map, List.length_range] at h2
      simp at h2
      exact absurd h2 hp
    | u :: t =>
      obtain ⟨h3, h4⟩ := valid_in h (u := u) (by simp)
      exact ⟨u.toNat, by omega, p ++ u :: t, ⟨t, by rw [show ((u.toNat : Nat) : Int) = u from by omega]; simp⟩, h⟩
  · rintro ⟨i, _, o, ⟨t, rfl⟩, h⟩
    exact ⟨_, ⟨(i : Int) :: t, by simp⟩, h⟩
theorem some_in {init : List Int} {l : List AtS} {p : List Int} {u : Int} (hu : u ∈ p) : ¬ SomeP init l (p ++ [u]) := by
  rintro ⟨o, ⟨t, rfl⟩, h⟩
  have h2 := (List.nodup_append.1 (valid_nodup h)).1
  exact (List.nodup_append.1 h2).2.2 u hu u (by simp) rfl
theorem nodup_len {l : List AtS} {p : List Int} (hn : p.Nodup) (hr : ∀ u ∈ p, 0 ≤ u ∧ u < l.length) : p.length ≤ l.length := by
  refine Nat.le_of_not_lt fun h => ?_
  have hsub : ∀ u ∈ p, u ∈ plL l := fun u hu => by
    obtain ⟨a1, a2⟩ := hr u hu
    unfold plL
    exact List.mem_map.2 ⟨u.toNat, List.mem_range.2 (by omega), by omega⟩
  have := (perm_of_sub hn hsub (by unfold plL; rw [List.length_map, List.length_range]; omega)).length_eq
  unfold plL at this
  rw [List.length_map, List.length_range] at this
  omega
theorem some_at {ai a : Option Addr} {ci cap : Nat} {init : List Int} {l : List AtS} (hM : MayP init.length l) (hll : l.length ≤ 1000) : ∀ (d : Nat) (ap : Option Addr) (cp : Nat) (p : List Int) (w0 : World), l.length - p.length = d → p.Nodup → (∀ u ∈ p, 0 ≤ u ∧ u < l.length) → (slL ai ci 1 encI 0 init).holds w0 → (hisR a cap l).holds w0 → (slL ap cp 1 encI 0 p).holds w0 →
    Calls Try.prog 13 #[.slice ai init.length ci, .slice a l.length cap, .slice ap p.length cp] w0 fun e w' => (∃ b : Bool, e = .returned (.bool b) ∧ (b = true ↔ SomeP init l p)) ∧ Below w0.heap.size w0 w' := by
  intro d
  induction d with
  | zero =>
    intro ap cp p w0 hd hn hr hi hl hp
    have hpl := nodup_len hn hr
    have S := (((Sat.start (fun _ => False) w0).ro (r := hisR a cap l) hl rfl rfl).ro (r := slL ai ci 1 encI 0 init) hi rfl rfl).ro (r := slL ap cp 1 encI 0 p) hp rfl rfl
    refine enter1 Try.func13 rfl Try.ntmps13 rfl Try.results13 ?_
    repeat' (first | refine move_s_l S rfl rfl ?_ | refine assign_b_l S rfl rfl ?_ | refine nilL ?_ | refine run_seq ?_ | refine run_region ?_ | refine len_l S rfl rfl ?_ | (refine eql_l S rfl rfl rfl ?_ ?_ <;> intro hcmp <;> try (exfalso; first | omega | exact hcmp (by decide) | exact absurd hcmp (by decide))) | refine run_cond_true rfl ?_ | refine thenQ_n ?_)
    refine callL (right_at hM hll (S.all (slL ai ci 1 encI 0 init) (by simp)) (S.all (hisR a cap l) (by simp)) (S.all (slL ap cp 1 encI 0 p) (by simp))) rfl rfl ?_
    rintro e w ⟨⟨b, rfl, hb2⟩, hb⟩
    replace S := S.below hb
    refine ⟨_, rfl, ?_⟩
    repeat' (first | refine assign_b_l S rfl rfl ?_ | refine nilL ?_ | refine run_ret ?_ | refine thenQ_n ?_ | refine thenQ_r ?_ | refine ret1_b rfl ?_)
    exact ⟨⟨b, rfl, hb2.trans (some_full (by omega)).symm⟩, S.chg.below⟩
  | succ d ih =>
    intro ap cp p w0 hd hn hr hi hl hp
    have S := (((Sat.start (fun _ => False) w0).ro (r := hisR a cap l) hl rfl rfl).ro (r := slL ai ci 1 encI 0 init) hi rfl rfl).ro (r := slL ap cp 1 encI 0 p) hp rfl rfl
    refine enter1 Try.func13 rfl Try.ntmps13 rfl Try.results13 ?_
    repeat' (first | refine move_s_l S rfl rfl ?_ | refine assign_b_l S rfl rfl ?_ | refine nilL ?_ | refine run_seq ?_ | refine run_skip ?_ | refine run_region ?_ | refine len_l S rfl rfl ?_ | refine assign_i_l S rfl rfl ?_ | (refine eql_l S rfl rfl rfl ?_ ?_ <;> intro hcmp <;> try (exfalso; first | omega | exact hcmp (by decide) | exact absurd hcmp (by decide))) | refine run_block ?_ | refine run_cond_false rfl ?_ | refine thenQ_n ?_)
    refine run_while [6, 8, 9, 19, 20, 21, 22, 23, 24, 25, 26, 27, 28, 29, 30, 31, 32, 33, 34, 35, 36, 37, 38, 39, 40, 41, 42, 43, 44, 45, 46, 47, 48, 49, 50, 51, 52] (fun (i : Nat) t => upd t 7 (.int .i64 (i : Nat))) (fun i w' => (i ≤ l.length ∧ ∀ j : Nat, j < i → ¬ SomeP init l (p ++ [(j : Int)])) ∧ Sat (fun _ => False) w0 w' [slL ap cp 1 encI 0 p, slL ai ci 1 encI 0 init, hisR a cap l]) (fun i => l.length - i) 0 ?_ ?_ ?_
    · (repeat (first | exact agree_refl | refine agree_r rfl ?_ | refine agree_l rfl ?_ | refine agree_hv rfl ?_))
    · exact ⟨⟨Nat.zero_le _, fun j hj => absurd hj (Nat.not_lt_zero j)⟩, S⟩
    clear S
    rintro i j w ⟨⟨hi2, hno⟩, S⟩
    by_cases hil : i < l.length
    · repeat' (first | refine move_s_l S rfl rfl ?_ | refine move_i_l S rfl rfl ?_ | refine assign_b_l S rfl rfl ?_ | refine nilL ?_ | refine run_seq ?_ | refine run_skip ?_ | refine run_region ?_ | refine len_l S rfl rfl ?_ | refine assign_i_l S rfl rfl ?_ | (refine lss_l S rfl rfl rfl ?_ ?_ <;> intro hcmp <;> try (exfalso; first | omega | exact hcmp (by decide) | exact absurd hcmp (by decide))) | refine run_block ?_ | refine run_cond_true rfl ?_ | refine thenQ_n ?_)
      refine run_while [25, 26, 27, 28, 29, 30, 31, 32, 33, 34, 35, 36, 37, 38, 39] (fun (k : Nat) t => upd (upd t 9 (.int .i64 (k : Nat))) 8 (.bool (decide ((i : Int) ∈ p.take k)))) (fun k w' => k ≤ p.length ∧ Sat (fun _ => False) w0 w' [slL ap cp 1 encI 0 p, slL ai ci 1 encI 0 init, hisR a cap l]) (fun k => p.length - k) 0 ?_ ?_ ?_
      · have h0 : decide ((i : Int) ∈ p.take 0) = false := decide_eq_false (by simp)
        rw [h0]
        (repeat (first | exact agree_refl | refine agree_r rfl ?_ | refine agree_l rfl ?_ | refine agree_hv rfl ?_))
      · exact ⟨Nat.zero_le _, S⟩
      clear S
      rintro k j w ⟨hk, S⟩
      by_cases hkl : k < p.length
      · have hs := take_snoc hkl
        by_cases hm : (i : Int) ∈ p.take k
        · have h2 : decide ((i : Int) ∈ p.take (k + 1)) = true := decide_eq_true (by rw [hs]; exact List.mem_append.2 (.inl hm))
          rw [decide_eq_true hm]
          repeat' (first | refine move_s_l S rfl rfl ?_ | refine move_i_l S rfl rfl ?_ | refine assign_b_l S rfl rfl ?_ | refine nilL ?_ | refine run_seq ?_ | refine run_skip ?_ | refine run_region ?_ | refine offL rfl rfl rfl rfl ?_ | refine len_l S rfl rfl ?_ | refine assign_i_l S rfl rfl ?_ | refine move_b_l S rfl rfl ?_ | (refine lss_l S rfl rfl rfl ?_ ?_ <;> intro hcmp <;> try (exfalso; first | omega | exact hcmp (by decide) | exact absurd hcmp (by decide))) | refine pick_tb_l S rfl rfl rfl ?_ | refine add_l S rfl rfl (wrap_in (by omega)) rfl ?_ | refine run_block ?_ | refine run_cond_true rfl ?_ | refine thenQ_n ?_ | refine blockQ_n ?_)
          refine ⟨k + 1, ?_, ⟨by omega, S⟩, by omega⟩
          rw [h2, Int.natCast_add k 1]
          (repeat (first | exact agree_refl | refine agree_r rfl ?_ | refine agree_l rfl ?_ | refine agree_hv rfl ?_))
        · rw [decide_eq_false hm]
          repeat' (first | refine move_s_l S rfl rfl ?_ | refine move_i_l S rfl rfl ?_ | refine assign_b_l S rfl rfl ?_ | refine nilL ?_ | refine run_seq ?_ | refine run_skip ?_ | refine run_region ?_ | refine onL rfl rfl ?_ | refine len_l S rfl rfl ?_ | refine assign_i_l S rfl rfl ?_ | refine move_b_l S rfl rfl ?_ | (refine eql_l S rfl rfl rfl ?_ ?_ <;> intro hcmp <;> try (exfalso; first | omega | exact hcmp (by decide) | exact absurd hcmp (by decide))) | (refine lss_l S rfl rfl rfl ?_ ?_ <;> intro hcmp <;> try (exfalso; first | omega | exact hcmp (by decide) | exact absurd hcmp (by decide))) | refine pick_fb_l S rfl rfl rfl ?_ | refine add_l S rfl rfl (wrap_in (by omega)) rfl ?_ | refine indexAddr_l S rfl rfl (idx_cast _) (by first | omega | decide | (simp; done) | (simp; omega)) rfl ?_ | refine loadE_i_l S rfl (by first | omega | decide | (simp; done) | (simp; omega)) rfl rfl rfl ?_ | refine run_block ?_ | refine run_cond_true rfl ?_ | refine thenQ_n ?_ | refine blockQ_n ?_)
          · have h2 : decide ((i : Int) ∈ p.take (k + 1)) = true := decide_eq_true (by rw [hs]; exact List.mem_append.2 (.inr (List.mem_singleton.2 hcmp.symm)))
            refine ⟨k + 1, ?_, ⟨by omega, S⟩, by omega⟩
            rw [h2, Int.natCast_add k 1]
            (repeat (first | exact agree_refl | refine agree_r rfl ?_ | refine agree_l rfl ?_ | refine agree_hv rfl ?_))
          · have h2 : decide ((i : Int) ∈ p.take (k + 1)) = false := decide_eq_false (by
              rw [hs]
              intro h
              rcases List.mem_append.1 h with h | h
              · exact hm h
              · have h3 : (i : Int) = p.getD k 0 := by simpa using h
                exact hcmp h3.symm)
            refine ⟨k + 1, ?_, ⟨by omega, S⟩, by omega⟩
            rw [h2, Int.natCast_add k 1]
            (repeat (first | exact agree_refl | refine agree_r rfl ?_ | refine agree_l rfl ?_ | refine agree_hv rfl ?_))
      obtain rfl : k = p.length := by omega
      rw [List.take_length]
      by_cases hm : (i : Int) ∈ p
      · rw [decide_eq_true hm]
        repeat' (first | refine move_s_l S rfl rfl ?_ | refine move_i_l S rfl rfl ?_ | refine nilL ?_ | refine run_seq ?_ | refine run_skip ?_ | refine run_region ?_ | refine offL rfl rfl rfl rfl ?_ | refine len_l S rfl rfl ?_ | refine assign_i_l S rfl rfl ?_ | refine move_b_l S rfl rfl ?_ | (refine lss_l S rfl rfl rfl ?_ ?_ <;> intro hcmp <;> try (exfalso; first | omega | exact hcmp (by decide) | exact absurd hcmp (by decide))) | refine pick_fb_l S rfl rfl rfl ?_ | refine add_l S rfl rfl (wrap_in (by omega)) rfl ?_ | refine not_l S rfl rfl ?_ | refine run_exit ?_ | refine run_cond_false rfl ?_ | refine thenQ_n ?_ | refine thenQ_e ?_ | refine blockQ_n ?_ | refine blockQ_s rfl ?_)
        refine ⟨i + 1, ?_, ⟨⟨by omega, fun j hj => ?_⟩, S⟩, by omega⟩
        · rw [Int.natCast_add i 1]
          (repeat (first | exact agree_refl | refine agree_r rfl ?_ | refine agree_l rfl ?_ | refine agree_hv rfl ?_))
        · rcases Nat.lt_or_ge j i with e | e
          · exact hno j e
          · obtain rfl : j = i := by omega
            exact some_in hm
      · rw [decide_eq_false hm]
        have hpl := nodup_len hn hr
        repeat' (first | refine move_s_l S rfl rfl ?_ | refine move_i_l S rfl rfl ?_ | refine nilL ?_ | refine run_seq ?_ | refine run_region ?_ | refine onL rfl rfl ?_ | refine len_l S rfl rfl ?_ | refine move_b_l S rfl rfl ?_ | (refine lss_l S rfl rfl rfl ?_ ?_ <;> intro hcmp <;> try (exfalso; first | omega | exact hcmp (by decide) | exact absurd hcmp (by decide))) | (refine append0_l S rfl rfl (by omega) rfl ?_; clear S; intro a' cap' w S) | (refine append1_i S rfl rfl rfl (by omega) rfl ?_; clear S; intro a' cap' w S) | refine not_l S rfl rfl ?_ | (refine buildSliceN_l S (vs := []) rfl rfl rfl rfl rfl rfl ?_; clear S; intro b w S) | (refine buildSlice_l S rfl rfl rfl rfl rfl ?_; clear S; intro b w S) | refine run_exit ?_ | refine run_cond_false rfl ?_ | refine thenQ_n ?_ | refine thenQ_e ?_ | refine blockQ_s rfl ?_)
        refine callL (ih a' cap' (p ++ [(i : Int)]) _ (by rw [List.length_append, List.length_singleton]; omega) (List.nodup_append.2 ⟨hn, List.pairwise_singleton .., fun u hu v hv e => by
          obtain rfl : v = (i : Int) := by simpa using hv
          exact hm (e ▸ hu)⟩) (fun u hu => by
          rcases List.mem_append.1 hu with h | h
          · exact hr u h
          · obtain rfl : u = (i : Int) := by simpa using h
            omega) (S.all (slL ai ci 1 encI 0 init) (by simp)) (S.all (hisR a cap l) (by simp)) (RowOk.sl (S.all (rowL a' cap' 3 1 encI 0 (p ++ [(i : Int)])) (by simp)))) rfl rfl ?_
        rintro e w ⟨⟨b, rfl, hb2⟩, hb⟩
        replace S := S.below hb
        refine ⟨_, rfl, ?_⟩
        cases b with
        | true =>
          repeat' (first | refine assign_b_l S rfl rfl ?_ | refine nilL ?_ | refine run_seq ?_ | refine run_region ?_ | refine pick_tb_l S rfl rfl rfl ?_ | refine run_ret ?_ | refine run_cond_true rfl ?_ | refine thenQ_n ?_ | refine thenQ_r ?_ | refine blockQ_r ?_ | refine ret1_b rfl ?_)
          exact ⟨⟨true, rfl, ⟨fun _ => (some_next (by omega)).2 ⟨i, hil, hb2.1 rfl⟩, fun _ => rfl⟩⟩, S.chg.below⟩
        | false =>
          repeat' (first | refine move_i_l S rfl rfl ?_ | refine nilL ?_ | refine run_skip ?_ | refine run_region ?_ | refine assign_i_l S rfl rfl ?_ | refine pick_tb_l S rfl rfl rfl ?_ | refine add_l S rfl rfl (wrap_in (by omega)) rfl ?_ | refine run_cond_false rfl ?_ | refine thenQ_n ?_ | refine blockQ_n ?_)
          refine ⟨i + 1, ?_, ⟨⟨by omega, fun j hj => ?_⟩, S.sub⟩, by omega⟩
          · rw [Int.natCast_add i 1]
            (repeat (first | exact agree_refl | refine agree_r rfl ?_ | refine agree_l rfl ?_ | refine agree_hv rfl ?_))
          · rcases Nat.lt_or_ge j i with e | e
            · exact hno j e
            · obtain rfl : j = i := by omega
              exact fun h => by cases hb2.2 h
    · obtain rfl : i = l.length := by omega
      repeat' (first | refine move_s_l S rfl rfl ?_ | refine move_i_l S rfl rfl ?_ | refine assign_b_l S rfl rfl ?_ | refine nilL ?_ | refine run_seq ?_ | refine run_region ?_ | refine len_l S rfl rfl ?_ | (refine lss_l S rfl rfl rfl ?_ ?_ <;> intro hcmp <;> try (exfalso; first | omega | exact hcmp (by decide) | exact absurd hcmp (by decide))) | refine run_ret ?_ | refine run_exit ?_ | refine run_cond_false rfl ?_ | refine thenQ_n ?_ | refine thenQ_e ?_ | refine blockQ_s rfl ?_ | refine ret1_b rfl ?_)
      exact ⟨⟨false, rfl, ⟨fun h => (by cases h), fun h => by obtain ⟨i, h1, h2⟩ := (some_next (by omega)).1 h; exact absurd h2 (hno i h1)⟩⟩, S.chg.below⟩
end Go.Proofs.Ytjnlcfkdackghaa
