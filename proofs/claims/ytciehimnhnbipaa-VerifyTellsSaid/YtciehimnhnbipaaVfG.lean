/- verify: less, large, two; orders that may be, as something that can be computed. verify: two, works. -/
import Derived.Test.YtciehimnhnbipaaVfE
namespace Go.Proofs.Ytciehimnhnbipaa
open Go.RowKit Go.Lib
set_option linter.unusedVariables false
set_option linter.unusedSimpArgs false
set_option maxHeartbeats 8000000
set_option maxRecDepth 100000
def vgo : List Int → List AtS → List AtS → Bool
  | _, _, [] => true
  | m, seen, u :: rest => (seen.all fun b => !aheadB u b) && (!isW u || seen.all fun b => !isW b || decide (b.wv < u.wv)) && fitsB u m && vgo (wrtM m u.ws) (seen ++ [u]) rest
theorem vgo_iff {init : List Int} : ∀ {rest pre : List AtS}, VOrd init pre → (vgo (memA init pre) pre rest = true ↔ VOrd init (pre ++ rest))
  | [], pre, h => by rw [List.append_nil]; exact ⟨fun _ => h, fun _ => rfl⟩
  | u :: rest, pre, h => by
    have hm : wrtM (memA init pre) u.ws = memA init (pre ++ [u]) := by unfold memA; rw [List.foldl_append]; rfl
    have hs : ((pre.all fun b => !aheadB u b) && (!isW u || pre.all fun b => !isW b || decide (b.wv < u.wv)) && fitsB u (memA init pre)) = true ↔ VOrd init (pre ++ [u]) := by
      rw [vord_snoc, Bool.and_eq_true, Bool.and_eq_true, List.all_eq_true, Bool.or_eq_true, List.all_eq_true, Bool.not_eq_true']
      constructor
      · rintro ⟨⟨h1, h2⟩, h3⟩
        refine ⟨h, fun b hb => by simpa using h1 b hb, fun hu b hb hbw => ?_, h3⟩
        rcases h2 with h2 | h2
        · rw [hu] at h2; cases h2
        · have := h2 b hb
          rw [hbw] at this
          simpa using this
      · rintro ⟨_, h1, h2, h3⟩
        refine ⟨⟨fun b hb => by rw [h1 b hb]; rfl, ?_⟩, h3⟩
        cases hu : isW u with
        | false => exact .inl rfl
        | true =>
          refine .inr fun b hb => ?_
          cases hbw : isW b with
          | false => rfl
          | true =>
            have := h2 hu b hb hbw
            simp [this]
    show (_ && vgo (wrtM (memA init pre) u.ws) (pre ++ [u]) rest) = true ↔ _
    rw [hm, Bool.and_eq_true, hs]
    constructor
    · rintro ⟨h1, h2⟩
      have := (vgo_iff h1).1 h2
      rwa [List.append_assoc] at this
    · intro h1
      have h2 : VOrd init ((pre ++ [u]) ++ rest) := by rw [List.append_assoc]; exact h1
      have h3 := vord_pre h2
      exact ⟨h3, (vgo_iff h3).2 h2⟩
theorem vord_nil (init : List Int) : VOrd init [] := ⟨.nil, .nil, fun pre u post e => by cases pre <;> cases e⟩
/-- Whether an order may be, computed. -/
def validB (init : List Int) (l : List AtS) (o : List Int) : Bool := o.isPerm (plL l) && vgo init [] (o.map (atI l))
theorem validB_iff {init : List Int} {l : List AtS} {o : List Int} : validB init l o = true ↔ ValidO init l o := by
  unfold validB ValidO
  rw [Bool.and_eq_true, List.isPerm_iff]
  have := vgo_iff (init := init) (rest := o.map (atI l)) (vord_nil init)
  rw [List.nil_append] at this
  exact and_congr Iff.rfl this
theorem less_tri {a b : List Int} (h : a.length = b.length) : lessP a b ∨ a = b ∨ lessP b a := by
  by_cases he : ∀ i, i < a.length → a.getD i 0 = b.getD i 0
  · exact .inr (.inl (wlist_eq h he))
  · have hx : ∃ k, k < a.length ∧ a.getD k 0 ≠ b.getD k 0 := by
      refine Classical.byContradiction fun hn => he fun i hi => Classical.byContradiction fun h2 => hn ⟨i, hi, h2⟩
    obtain ⟨k0, hk0⟩ := hx
    have key : ∀ n k, k ≤ n → k < a.length ∧ a.getD k 0 ≠ b.getD k 0 → ∃ k, (k < a.length ∧ a.getD k 0 ≠ b.getD k 0) ∧ ∀ i, i < k → a.getD i 0 = b.getD i 0 := by
      intro n
      induction n with
      | zero => intro k hk hp; exact ⟨k, hp, fun i hi => by omega⟩
      | succ n ih =>
        intro k hk hp
        by_cases hall : ∀ i, i < k → a.getD i 0 = b.getD i 0
        · exact ⟨k, hp, hall⟩
        · have hx : ∃ i, i < k ∧ a.getD i 0 ≠ b.getD i 0 := Classical.byContradiction fun hn => hall fun i hi => Classical.byContradiction fun h2 => hn ⟨i, hi, h2⟩
          obtain ⟨i, hi, hp2⟩ := hx
          exact ih i (by omega) ⟨by omega, hp2⟩
    obtain ⟨k, ⟨h1, h2⟩, h3⟩ := key k0 k0 (Nat.le_refl _) hk0
    rcases Int.lt_trichotomy (a.getD k 0) (b.getD k 0) with e | e | e
    · exact .inl ⟨k, h1, by omega, h3, e⟩
    · exact absurd e h2
    · exact .inr (.inr ⟨k, by omega, h1, fun i hi => (h3 i hi).symm, e⟩)
theorem less_at (a a' : Option Addr) (cap cap' : Nat) (xs ys : List Int) (w0 : World) (h : SlOk w0 a xs.length cap 1 (gL encI 0 xs)) (h' : SlOk w0 a' ys.length cap' 1 (gL encI 0 ys)) :
    Calls Try.prog 19 #[.slice a xs.length cap, .slice a' ys.length cap'] w0 fun e w' => (∃ r : Bool, e = .returned (.bool r) ∧ (r = true ↔ lessP xs ys)) ∧ Below w0.heap.size w0 w' := by
  have S : Sat (fun _ => False) w0 w0 [slL a cap 1 encI 0 xs, slL a' cap' 1 encI 0 ys] := ((Sat.start _ _).ro (r := slL a' cap' 1 encI 0 ys) h' rfl rfl).ro (r := slL a cap 1 encI 0 xs) h rfl rfl
  have hm := h.small
  have hm' := h'.small
  refine enter1 Try.func19 rfl Try.ntmps19 rfl Try.results19 ?_
  repeat' (first | refine assign_b_l S rfl rfl ?_ | refine assign_i_l S rfl rfl ?_ | refine nilL ?_ | refine run_seq ?_ | refine run_region ?_ | refine run_block ?_ | refine thenQ_n ?_)
  refine run_while [4, 6, 7, 8, 9, 10, 11, 12, 13, 14, 15, 16, 17, 18, 19, 20, 21, 22, 23, 24, 25, 26, 27, 28, 29, 30, 31, 32, 33, 34, 35] (fun (k : Nat) t => upd t 5 (.int .i64 k)) (fun k w' => (k ≤ xs.length ∧ k ≤ ys.length ∧ ∀ i, i < k → xs.getD i 0 = ys.getD i 0) ∧ Sat (fun _ => False) w0 w' [slL a cap 1 encI 0 xs, slL a' cap' 1 encI 0 ys]) (fun k => xs.length - k) 0 ?_ ?_ ?_
  · (repeat (first | exact agree_refl | refine agree_r rfl ?_ | refine agree_l rfl ?_ | refine agree_hv rfl ?_))
  · exact ⟨⟨Nat.zero_le _, Nat.zero_le _, fun i h => by omega⟩, S⟩
  clear S
  rintro k j w ⟨⟨hk, hk', hall⟩, S⟩
  repeat' (first | refine move_i_l S rfl rfl ?_ | refine assign_b_l S rfl rfl ?_ | refine assign_i_l S rfl rfl ?_ | refine nilL ?_ | refine run_seq ?_ | refine run_skip ?_ | refine run_region ?_ | refine onL rfl rfl ?_ | refine offL rfl rfl rfl rfl ?_ | refine move_s_l S rfl rfl ?_ | refine len_l S rfl rfl ?_ | (refine lss_l S rfl rfl rfl ?_ ?_ <;> intro hcmp <;> try (exfalso; first | omega | exact hcmp (by decide) | exact absurd hcmp (by decide))) | refine move_b_l S rfl rfl ?_ | refine pick_tb_l S rfl rfl rfl ?_ | refine pick_fb_l S rfl rfl rfl ?_ | refine add_l S rfl rfl (wrap_in (by omega)) rfl ?_ | refine run_block ?_ | refine run_ret ?_ | refine run_exit ?_ | refine run_cond_true rfl ?_ | refine run_cond_false rfl ?_ | refine thenQ_n ?_ | refine thenQ_r ?_ | refine thenQ_e ?_ | refine blockQ_n ?_ | refine blockQ_r ?_ | refine blockQ_s rfl ?_ | (refine run_draws (id := 4) S mixed ?_ ?_; · kernel_rfl) | (refine run_draws (id := 5) S mixed ?_ ?_; · kernel_rfl) | (refine nilQ ?_; clear S; intro w S) | refine move_s_q rfl rfl ?_ | refine move_i_q rfl rfl ?_ | refine indexAddr_q rfl rfl (idx_cast _) (by first | omega | decide | (simp; done) | (simp; omega)) rfl ?_ | refine loadE_i_q rfl (by first | omega | decide | (simp; done) | (simp; omega)) rfl rfl rfl ?_ | (refine neq_q rfl rfl rfl ?_ ?_ <;> intro hcmp <;> try (exfalso; first | omega | exact hcmp (by decide) | exact absurd hcmp (by decide))) | (refine lss_q rfl rfl rfl ?_ ?_ <;> intro hcmp <;> try (exfalso; first | omega | exact hcmp (by decide) | exact absurd hcmp (by decide))) | refine assign_b_q rfl rfl ?_ | refine ret1_b rfl ?_)
  · exact ⟨⟨true, rfl, ⟨fun _ => ⟨k, by omega, by omega, hall, hcmp⟩, fun _ => rfl⟩⟩, S.chg.below⟩
  · rename_i h1 h2 h3
    refine ⟨⟨false, rfl, ⟨fun h => (by cases h), fun h => ?_⟩⟩, S.chg.below⟩
    obtain ⟨i, i1, i2, i3, i4⟩ := h
    rcases Nat.lt_trichotomy i k with e | e | e
    · have := hall i e; omega
    · subst e; omega
    · have := i3 k e; omega
  · refine ⟨k + 1, ?_, ⟨⟨by omega, by omega, fun i hi => ?_⟩, S⟩, by omega⟩
    · rw [Int.natCast_add k 1]
      (repeat (first | exact agree_refl | refine agree_r rfl ?_ | refine agree_l rfl ?_ | refine agree_hv rfl ?_))
    · rcases Nat.lt_or_ge i k with e | e
      · exact hall i e
      · obtain rfl : i = k := by omega
        exact hcmp
  · refine ⟨⟨false, rfl, ⟨fun h => (by cases h), fun h => ?_⟩⟩, S.chg.below⟩
    obtain ⟨i, i1, i2, i3, i4⟩ := h
    have := hall i (by omega); omega
  · refine ⟨⟨false, rfl, ⟨fun h => (by cases h), fun h => ?_⟩⟩, S.chg.below⟩
    obtain ⟨i, i1, i2, i3, i4⟩ := h
    have := hall i (by omega); omega
theorem vlarge_at {ai a : Option Addr} {ci cap : Nat} {init : List Int} {l : List AtS} {w0 : World} (hi : (slL ai ci 1 encI 0 init).holds w0) (hl : (hisR a cap l).holds w0) :
    Calls Try.prog 15 #[.slice ai init.length ci, .slice a l.length cap] w0 fun e w' => (∃ b : Bool, e = .returned (.bool b) ∧ (b = false → l.length ≤ 60)) ∧ Below w0.heap.size w0 w' := by
  have hls := hl.1.small
  have S := ((Sat.start (fun _ => False) w0).ro (r := hisR a cap l) hl rfl rfl).ro (r := slL ai ci 1 encI 0 init) hi rfl rfl
  refine enter1 Try.func15 rfl Try.ntmps15 rfl Try.results15 ?_
  repeat' (first | refine move_s_l S rfl rfl ?_ | refine len_l S rfl rfl ?_ | refine nilL ?_ | refine run_seq ?_ | refine run_region ?_ | refine assign_i_l S rfl rfl ?_ | refine assign_b_l S rfl rfl ?_ | refine run_block ?_ | refine thenQ_n ?_)
  refine run_while [9, 10, 11, 12, 13, 14, 15, 16, 17, 18, 19, 20, 21, 22, 23, 24, 25, 26, 27, 28, 29, 30, 31, 32, 33, 34] (fun (s : Nat × Int) t => upd (upd t 6 (.int .i64 (s.1 : Nat))) 5 (.int .i64 s.2)) (fun s w' => s.1 ≤ l.length ∧ Sat (fun _ => False) w0 w' [slL ai ci 1 encI 0 init, hisR a cap l]) (fun s => l.length - s.1) (0, init.length) ?_ ?_ ?_
  · (repeat (first | exact agree_refl | refine agree_r rfl ?_ | refine agree_l rfl ?_ | refine agree_hv rfl ?_))
  · exact ⟨Nat.zero_le _, S⟩
  clear S
  rintro ⟨k, n⟩ j w ⟨hk, S⟩
  replace hk : k ≤ l.length := hk
  dsimp only
  repeat' (first | refine move_i_l S rfl rfl ?_ | refine move_s_l S rfl rfl ?_ | refine len_l S rfl rfl ?_ | refine nilL ?_ | refine run_seq ?_ | refine run_skip ?_ | refine run_region ?_ | refine onL rfl rfl ?_ | refine offL rfl rfl rfl rfl ?_ | refine assign_i_l S rfl rfl ?_ | refine assign_b_l S rfl rfl ?_ | (refine lss_l S rfl rfl rfl ?_ ?_ <;> intro hcmp <;> try (exfalso; first | omega | exact hcmp (by decide) | exact absurd hcmp (by decide))) | refine move_b_l S rfl rfl ?_ | refine pick_tb_l S rfl rfl rfl ?_ | refine pick_fb_l S rfl rfl rfl ?_ | refine add_l S rfl rfl (wrap_in (by omega)) rfl ?_ | (refine geq_l S rfl rfl rfl ?_ ?_ <;> intro hcmp <;> try (exfalso; first | omega | exact hcmp (by decide) | exact absurd hcmp (by decide))) | (refine gtr_l S rfl rfl rfl ?_ ?_ <;> intro hcmp <;> try (exfalso; first | omega | exact hcmp (by decide) | exact absurd hcmp (by decide))) | refine run_block ?_ | refine run_ret ?_ | refine run_exit ?_ | refine run_cond_true rfl ?_ | refine run_cond_false rfl ?_ | refine thenQ_n ?_ | refine thenQ_e ?_ | refine blockQ_n ?_ | refine blockQ_s rfl ?_ | (refine run_draws (id := 5) S mixed ?_ ?_; · kernel_rfl) | (refine nilQ ?_; clear S; intro w S) | refine move_i_q rfl rfl ?_ | refine add_q rfl rfl rfl rfl ?_ | refine move_s_q rfl rfl ?_ | refine indexAddr_q rfl rfl (idx_cast _) (by first | omega | decide | (simp; done) | (simp; omega)) rfl ?_ | refine fieldAddrE_q rfl (by first | omega | decide | (simp; done) | (simp; omega)) rfl rfl ?_ | refine len_q rfl rfl ?_ | refine assign_i_q rfl rfl ?_ | refine loadE_o_q rfl (by first | omega | decide | (simp; done) | (simp; omega)) rfl rfl rfl ?_ | refine ret1_b rfl ?_)
  · refine ⟨(k + 1, IntKind.i64.wrap (IntKind.i64.wrap (IntKind.i64.wrap (n + 1) + (l.getD k atD).rs.length) + (l.getD k atD).ws.length)), ?_, ⟨by show k + 1 ≤ _; omega, S⟩, by show l.length - (k + 1) < l.length - k; omega⟩
    rw [Int.natCast_add k 1]
    (repeat (first | exact agree_refl | refine agree_r rfl ?_ | refine agree_l rfl ?_ | refine agree_hv rfl ?_))
  · exact ⟨⟨true, rfl, fun h => (by cases h)⟩, S.chg.below⟩
  · exact ⟨⟨true, rfl, fun h => (by cases h)⟩, S.chg.below⟩
  · exact ⟨⟨true, rfl, fun h => (by cases h)⟩, S.chg.below⟩
  · exact ⟨⟨false, rfl, fun _ => by omega⟩, S.chg.below⟩
end Go.Proofs.Ytciehimnhnbipaa
namespace Go.Proofs.Ytciehimnhnbipaa
open Go.RowKit Go.Lib
set_option linter.unusedVariables false
set_option linter.unusedSimpArgs false
set_option maxHeartbeats 8000000
set_option maxRecDepth 100000
theorem Sat.rowTo {α : Type} {S : Nat → Prop} {w₀ w : World} {L : List Res} (hS : Sat S w₀ w L) (a : Option Addr) {n c e sz : Nat} {g : Nat → Nat → Value} {f : Res → List Res} [hq : PickR L a n c e sz g f] {enc : α → Nat → Value} {d : α} (zs : List α) (hl : zs.length = n) (hg : ∀ i, i < n → ∀ j, j < sz → g i j = gL enc d zs i j) : Sat S w₀ w (f (rowL a c e sz enc d zs)) := by
  subst hl
  have := hq.pick
  exact hS.turn (r := row a zs.length c e sz g) (r' := rowL a c e sz enc d zs) (RowOk.congr (hS.holds (r := row a zs.length c e sz g)) hg) rfl (fun k e => e)
theorem his_nil (w : World) : (hisR none 0 []).holds w := his_of [] (nil_sl (enc := encAt) (d := atD) (by decide)) rfl (fun i hi => absurd hi (Nat.not_lt_zero i)) (fun z hz => by cases hz)
theorem lt13 {j : Nat} (h : j < 13) : j = 0 ∨ j = 1 ∨ j = 2 ∨ j = 3 ∨ j = 4 ∨ j = 5 ∨ j = 6 ∨ j = 7 ∨ j = 8 ∨ j = 9 ∨ j = 10 ∨ j = 11 ∨ j = 12 := by omega
theorem at_w {z : AtS} {w : World} (h : SlOk w z.wa z.ws.length z.wc 2 (gL encPr (0, 0) z.ws)) (hr : z.ra = none) (hc : z.rc = 0) (hs : z.rs = []) : (atR z).holds w := ⟨by rw [hr, hc, hs]; exact nil_sl (by decide), h⟩
theorem at_r {z : AtS} {w : World} (h : SlOk w z.ra z.rs.length z.rc 2 (gL encPr (0, 0) z.rs)) (hr : z.wa = none) (hc : z.wc = 0) (hs : z.ws = []) : (atR z).holds w := ⟨h, by rw [hr, hc, hs]; exact nil_sl (by decide)⟩
theorem at_n {z : AtS} {w : World} (h1 : z.ra = none) (h2 : z.rc = 0) (h3 : z.rs = []) (hr : z.wa = none) (hc : z.wc = 0) (hs : z.ws = []) : (atR z).holds w := ⟨by rw [h1, h2, h3]; exact nil_sl (by decide), by rw [hr, hc, hs]; exact nil_sl (by decide)⟩
theorem one_row {w : World} {b : Nat} {g : Nat → Nat → Value} (h : SlOk w (some ⟨b, 0, none⟩) 1 1 1 g) (hg : g 0 0 = .int .i64 0) : SlOk w (some ⟨b, 0, none⟩) 1 1 1 (gL encI 0 [0]) := h.congr fun i hi j hj => by
  obtain rfl := lt1 hi
  obtain rfl := lt1 hj
  exact hg
theorem pair_at (x y : Int) (w0 : World) : Calls Try.prog 12 #[.int .i64 x, .int .i64 y] w0 fun e w' => ∃ v, e = .returned v ∧ NewRow w0 w' 34 2 encPr (0, 0) [(x, y)] v ∧ Below w0.heap.size w0 w' := by
  have S := Sat.start (fun _ => False) w0
  refine enter1 Try.func12 rfl Try.ntmps12 rfl Try.results12 ?_
  repeat' (first | refine assign_s_l S rfl rfl ?_ | refine move_i_l S rfl rfl ?_ | (apply build2_l S; (· repeat (first | exact mapN | apply mapC_i rfl | apply mapC_b rfl | apply mapC_p rfl | apply mapC_s rfl | apply mapC_e rfl | apply mapC_a rfl | apply mapC_o rfl)); (· rfl); (· rfl)) | refine nilL ?_ | refine run_seq ?_ | refine run_region ?_ | (apply buildSliceN_l S; (· repeat (first | exact vsN | apply vsC rfl)); (· rfl); (· rfl); (· rfl); (· rfl); (· rfl); clear S; intro b w S) | refine run_ret ?_ | refine thenQ_n ?_ | refine ret1_s rfl ?_)
  replace S := S.rowTo (some ⟨b, 0, none⟩) (enc := encPr) (d := (0, 0)) [(x, y)] rfl (fun i hi j hj => by
    obtain rfl := lt1 hi
    rcases lt2 hj with rfl | rfl <;> rfl)
  exact ⟨_, rfl, S.newRow, S.chg.below⟩
abbrev twoL (x : Int) (a1 a2 : Option Addr) (c1 c2 : Nat) : List AtS := [⟨0, 0, 0, 4, 0, 1, true, none, 0, [], a1, c1, [(0, 5)]⟩, ⟨1, 0, 2, 3, 0, 0, false, a2, c2, [(0, x)], none, 0, []⟩]
theorem two_at (x : Int) (w0 : World) : Calls Try.prog 11 #[.int .i64 x] w0 fun e w' => ∃ a c a1 a2 c1 c2, e = .returned (.slice a 2 c) ∧ (hisR a c (twoL x a1 a2 c1 c2)).holds w' ∧ (∀ k, (hisR a c (twoL x a1 a2 c1 c2)).foot k → w0.heap.size ≤ k) ∧ Below w0.heap.size w0 w' := by
  have S := Sat.start (fun _ => False) w0
  refine enter1 Try.func11 rfl Try.ntmps11 rfl Try.results11 ?_
  repeat' (first | refine assign_s_l S rfl rfl ?_ | refine nilL ?_ | refine run_seq ?_ | refine run_region ?_ | refine thenQ_n ?_)
  refine callL (pair_at 0 5 _) rfl rfl ?_
  rintro e w ⟨_, rfl, ⟨a1, c1, rfl, hh, hf⟩, hb⟩
  replace S := Sat.freshRow S hb hh hf
  clear hb hh hf
  refine ⟨_, rfl, ?_⟩
  repeat' (first | (apply build9_l S; (· repeat (first | exact mapN | apply mapC_i rfl | apply mapC_b rfl | apply mapC_p rfl | apply mapC_s rfl | apply mapC_e rfl | apply mapC_a rfl | apply mapC_o rfl)); (· rfl); (· rfl)) | refine move_i_l S rfl rfl ?_)
  refine callL (pair_at 0 x _) rfl rfl ?_
  rintro e w ⟨_, rfl, ⟨a2, c2, rfl, hh, hf⟩, hb⟩
  replace S := Sat.freshRow S hb hh hf
  clear hb hh hf
  refine ⟨_, rfl, ?_⟩
  repeat' (first | refine assign_s_l S rfl rfl ?_ | (apply build9_l S; (· repeat (first | exact mapN | apply mapC_i rfl | apply mapC_b rfl | apply mapC_p rfl | apply mapC_s rfl | apply mapC_e rfl | apply mapC_a rfl | apply mapC_o rfl)); (· rfl); (· rfl)) | refine nilL ?_ | (apply buildSliceN_l S; (· repeat (first | exact vsN | apply vsC rfl)); (· rfl); (· rfl); (· rfl); (· rfl); (· rfl); clear S; intro b w S) | refine run_ret ?_ | refine thenQ_n ?_ | refine ret1_s rfl ?_)
  replace S := S.rowTo (some ⟨b, 0, none⟩) (enc := encAt) (d := atD) (twoL x a1 a2 c1 c2) rfl (fun i hi j hj => by
    rcases lt2 hi with rfl | rfl <;> rcases lt9 hj with rfl | rfl | rfl | rfl | rfl | rfl | rfl | rfl | rfl <;> rfl)
  have o1 := S.own (rowL (some ⟨b, 0, none⟩) 2 32 9 encAt atD (twoL x a1 a2 c1 c2)) (by simp) rfl
  have o2 := S.own (rowL a2 c2 34 2 encPr (0, 0) [(0, x)]) (by simp) rfl
  have o3 := S.own (rowL a1 c1 34 2 encPr (0, 0) [(0, 5)]) (by simp) rfl
  have h2 := RowOk.sl (S.all (rowL a2 c2 34 2 encPr (0, 0) [(0, x)]) (by simp))
  have h3 := RowOk.sl (S.all (rowL a1 c1 34 2 encPr (0, 0) [(0, 5)]) (by simp))
  refine ⟨_, 2, a1, a2, c1, c2, rfl, his_of _ (RowOk.sl S.got1) rfl (fun _ _ _ _ => rfl) (fun z hz => ?_), fun k hk => Nat.le_of_not_lt fun hlt => ?_, S.chg.below⟩
  · simp only [List.mem_cons, List.not_mem_nil, or_false] at hz
    rcases hz with rfl | rfl
    · exact at_w h3 rfl rfl rfl
    · exact at_r h2 rfl rfl rfl
  · rcases hk with ⟨_, x, hx, hk⟩ | ⟨i, ⟨hne, y, hy, hk⟩ | ⟨hne, y, hy, hk⟩⟩
    · exact o1 k ⟨x, hx, hk⟩ hlt
    · match i with
      | 0 => exact hne rfl
      | 1 => exact o2 k ⟨y, hy, hk⟩ hlt
      | i + 2 => exact hne rfl
    · match i with
      | 0 => exact o3 k ⟨y, hy, hk⟩ hlt
      | 1 => exact hne rfl
      | i + 2 => exact hne rfl
theorem two_perm {o : List Int} (h : o.Perm [0, 1]) : o = [0, 1] ∨ o = [1, 0] := by
  have hl := h.length_eq
  match o, hl with
  | [x, y], _ =>
    have hx := h.mem_iff.1 (show x ∈ [x, y] by simp)
    have hy := h.mem_iff.1 (show y ∈ [x, y] by simp)
    have hn := (h.nodup_iff.2 (by decide))
    simp only [List.mem_cons, List.not_mem_nil, or_false] at hx hy
    simp only [List.nodup_cons, List.mem_cons, List.not_mem_nil, or_false, List.nodup_nil, not_false_eq_true, and_true] at hn
    rcases hx with rfl | rfl <;> rcases hy with rfl | rfl
    · exact absurd rfl hn
    · exact .inl rfl
    · exact .inr rfl
    · exact absurd rfl hn
theorem works_at (w0 : World) : Calls Try.prog 9 #[] w0 fun e w' => e = .returned (.bool true) ∧ Below w0.heap.size w0 w' := by
  have S := Sat.start (fun _ => False) w0
  refine enter1 Try.func9 rfl Try.ntmps9 rfl Try.results9 ?_
  repeat' (first | (refine buildSlice_l S rfl rfl rfl rfl rfl ?_; clear S; intro b w S) | refine nilL ?_ | refine run_seq ?_ | refine run_region ?_ | refine move_s_l S rfl rfl ?_ | refine assign_b_l S rfl rfl ?_ | refine assign_s_l S rfl rfl ?_ | refine thenQ_n ?_)
  obtain ⟨bi, hbi⟩ : ∃ x, x = b := ⟨_, rfl⟩
  subst hbi
  replace S := S.rowTo (some ⟨bi, 0, none⟩) (enc := encI) (d := (0 : Int)) [0] rfl (fun i hi j hj => by
    obtain rfl := lt1 hi
    obtain rfl := lt1 hj
    rfl)
  replace S := S.freeze
  refine callL (two_at 0 _) rfl rfl ?_
  rintro e w ⟨a, c, a1, a2, c1, c2, rfl, hH, hF, hb⟩
  replace S := S.fresh hb hH hF
  clear hb hH hF
  refine ⟨_, rfl, ?_⟩
  skip
  have hM : MayP 1 (twoL 0 a1 a2 c1 c2) := of_decide_eq_true (by kernel_rfl)
  have hV : ValidO [0] (twoL 0 a1 a2 c1 c2) [1, 0] := validB_iff.1 (by kernel_rfl)
  have hV' : ¬ ValidO [0] (twoL 0 a1 a2 c1 c2) [0, 1] := fun h => by have h2 := validB_iff.2 h; exact absurd h2 (by rw [show validB [0] (twoL 0 a1 a2 c1 c2) [0, 1] = false from (by kernel_rfl)]; decide)
  refine callL (vbrute_at (init := [0]) (l := twoL 0 a1 a2 c1 c2) (S.all (slL (some ⟨bi, 0, none⟩) 1 1 encI 0 [0]) (by simp)) S.got1) rfl rfl ?_
  rintro e w ⟨hb, ⟨h8, _⟩ | ⟨_, hM2, _⟩ | ⟨_, _, hno, _⟩ | ⟨_, _, o, v, hL, rfl, ⟨ao, co, rfl, hh, hf⟩⟩⟩
  · exact absurd h8 (show ¬ 8 < 2 by decide)
  · exact absurd hM hM2
  · exact absurd ⟨[1, 0], List.nil_prefix, hV⟩ hno
  obtain rfl : o = [1, 0] := by
    rcases two_perm (show o.Perm [0, 1] from hL.1.2.1) with h | h
    · rw [h] at hL
      exact absurd hL.1.2 hV'
    · exact h
  replace S := Sat.freshRow S hb hh hf
  clear hb hh hf hL
  refine ⟨_, rfl, ?_⟩
  repeat' (first | refine nilL ?_ | refine run_seq ?_ | refine run_region ?_ | refine move_s_l S rfl rfl ?_ | refine assign_b_l S rfl rfl ?_ | refine assign_s_l S rfl rfl ?_ | refine extract_s_l S rfl rfl rfl ?_ | refine extract_b_l S rfl rfl rfl ?_ | refine extract_i_l S rfl rfl rfl ?_ | refine assign_i_l S rfl rfl ?_ | refine move_o_l S rfl rfl ?_ | refine thenQ_n ?_)
  refine callL (two_at 5 _) rfl rfl ?_
  rintro e w ⟨a, c, a1, a2, c1, c2, rfl, hH, hF, hb⟩
  replace S := S.fresh hb hH hF
  clear hb hH hF
  refine ⟨_, rfl, ?_⟩
  repeat' (first | (refine buildSlice_l S rfl rfl rfl rfl rfl ?_; clear S; intro b w S))
  refine callL (vmay_at (init := [0]) (l := twoL 5 a1 a2 c1 c2) (o := [0, 1]) (ao := some ⟨b, 0, none⟩) (co := 2) (by decide) (show 2 ≤ 1000 by decide) (S.all (slL (some ⟨bi, 0, none⟩) 1 1 encI 0 [0]) (by simp)) (S.all (hisR a c (twoL 5 a1 a2 c1 c2)) (by simp)) ((S.rowAt (some ⟨b, 0, none⟩)).congr fun i hi j hj => by
    obtain rfl := lt1 hj
    rcases lt2 hi with rfl | rfl <;> rfl)) rfl rfl ?_
  rintro e w ⟨⟨r, rfl, hr⟩, hb⟩
  replace S := S.below hb
  clear hb
  refine ⟨_, rfl, ?_⟩
  obtain rfl : r = true := hr.2 ⟨of_decide_eq_true (by kernel_rfl), validB_iff.1 (by kernel_rfl)⟩
  clear hr
  repeat' (first | refine move_b_l S rfl rfl ?_ | refine onL rfl rfl ?_ | refine move_s_l S rfl rfl ?_)
  refine callL (two_at 5 _) rfl rfl ?_
  rintro e w ⟨a, c, a1, a2, c1, c2, rfl, hH, hF, hb⟩
  replace S := S.fresh hb hH hF
  clear hb hH hF
  refine ⟨_, rfl, ?_⟩
  repeat' (first | (refine buildSlice_l S rfl rfl rfl rfl rfl ?_; clear S; intro b w S) | refine onL rfl rfl ?_)
  refine callL (vmay_at (init := [0]) (l := twoL 5 a1 a2 c1 c2) (o := [1, 0]) (ao := some ⟨b, 0, none⟩) (co := 2) (by decide) (show 2 ≤ 1000 by decide) (S.all (slL (some ⟨bi, 0, none⟩) 1 1 encI 0 [0]) (by simp)) (S.all (hisR a c (twoL 5 a1 a2 c1 c2)) (by simp)) ((S.rowAt (some ⟨b, 0, none⟩)).congr fun i hi j hj => by
    obtain rfl := lt1 hj
    rcases lt2 hi with rfl | rfl <;> rfl)) rfl rfl ?_
  rintro e w ⟨⟨r, rfl, hr⟩, hb⟩
  replace S := S.below hb
  clear hb
  refine ⟨_, rfl, ?_⟩
  obtain rfl : r = false := by
    cases r with
    | false => rfl
    | true =>
      have h2 := validB_iff.2 (hr.1 rfl).2
      rw [show validB [0] (twoL 5 a1 a2 c1 c2) [1, 0] = false from (by kernel_rfl)] at h2
      cases h2
  clear hr
  repeat' (first | refine move_b_l S rfl rfl ?_ | (refine buildSlice_l S rfl rfl rfl rfl rfl ?_; clear S; intro b w S) | refine onL rfl rfl ?_ | refine move_s_l S rfl rfl ?_ | refine pick_tb_l S rfl rfl rfl ?_ | refine not_l S rfl rfl ?_ | refine move_i_l S rfl rfl ?_ | (refine eql_l S rfl rfl rfl ?_ ?_ <;> intro hcmp <;> try (exfalso; first | omega | exact hcmp (by decide) | exact absurd hcmp (by decide))))
  refine callL (wnumbers_at ao (some ⟨b, 0, none⟩) co 2 [1, 0] [1, 0] _ (RowOk.sl (S.all (rowL ao co 3 1 encI 0 [1, 0]) (by simp))) ((S.rowAt (some ⟨b, 0, none⟩)).congr fun i hi j hj => by
    obtain rfl := lt1 hj
    rcases lt2 hi with rfl | rfl <;> rfl)) rfl rfl ?_
  rintro e w ⟨rfl, hb⟩
  replace S := S.below hb
  refine ⟨_, rfl, ?_⟩
  repeat' (first | refine move_b_l S rfl rfl ?_ | refine onL rfl rfl ?_ | refine move_s_l S rfl rfl ?_ | refine pick_tb_l S rfl rfl rfl ?_)
  refine callL (two_at 0 _) rfl rfl ?_
  rintro e w ⟨a, c, a1, a2, c1, c2, rfl, hH, hF, hb⟩
  replace S := S.fresh hb hH hF
  clear hb hH hF
  refine ⟨_, rfl, ?_⟩
  repeat' (first | (refine buildSlice_l S rfl rfl rfl rfl rfl ?_; clear S; intro b w S) | refine onL rfl rfl ?_)
  refine callL (vmay_at (init := [0]) (l := twoL 0 a1 a2 c1 c2) (o := [0, 1]) (ao := some ⟨b, 0, none⟩) (co := 2) (by decide) (show 2 ≤ 1000 by decide) (S.all (slL (some ⟨bi, 0, none⟩) 1 1 encI 0 [0]) (by simp)) (S.all (hisR a c (twoL 0 a1 a2 c1 c2)) (by simp)) ((S.rowAt (some ⟨b, 0, none⟩)).congr fun i hi j hj => by
    obtain rfl := lt1 hj
    rcases lt2 hi with rfl | rfl <;> rfl)) rfl rfl ?_
  rintro e w ⟨⟨r, rfl, hr⟩, hb⟩
  replace S := S.below hb
  clear hb
  refine ⟨_, rfl, ?_⟩
  obtain rfl : r = false := by
    cases r with
    | false => rfl
    | true =>
      have h2 := validB_iff.2 (hr.1 rfl).2
      rw [show validB [0] (twoL 0 a1 a2 c1 c2) [0, 1] = false from (by kernel_rfl)] at h2
      cases h2
  clear hr
  repeat' (first | refine nilL ?_ | refine onL rfl rfl ?_ | refine pick_tb_l S rfl rfl rfl ?_ | refine assign_b_l S rfl rfl ?_ | refine not_l S rfl rfl ?_ | refine run_ret ?_ | refine thenQ_n ?_ | refine ret1_b rfl ?_)
  exact ⟨rfl, S.chg.below⟩
end Go.Proofs.Ytciehimnhnbipaa
