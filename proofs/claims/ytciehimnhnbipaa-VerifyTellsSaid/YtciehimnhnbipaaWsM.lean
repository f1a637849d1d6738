/- witness: seesawref10.Numbers, large; the judge's answer is one. witness: awake. -/
import Derived.Test.YtciehimnhnbipaaWsL
namespace Go.Proofs.Ytciehimnhnbipaa
open Go.RowKit Go.Lib
set_option linter.unusedVariables false
set_option linter.unusedSimpArgs false
set_option maxHeartbeats 4000000
set_option maxRecDepth 100000
theorem wlist_eq {xs ys : List Int} (hl : xs.length = ys.length) (h : ∀ i, i < xs.length → xs.getD i 0 = ys.getD i 0) : xs = ys := by
  refine List.ext_getElem hl fun i h1 h2 => ?_
  have := h i h1
  rwa [List.getD_eq_getElem?_getD, List.getD_eq_getElem?_getD, List.getElem?_eq_getElem h1, List.getElem?_eq_getElem h2] at this
theorem wnumbers_at (a a' : Option Addr) (cap cap' : Nat) (xs ys : List Int) (w0 : World) (h : SlOk w0 a xs.length cap 1 (gL encI 0 xs)) (h' : SlOk w0 a' ys.length cap' 1 (gL encI 0 ys)) :
    Calls Try.prog 14 #[.slice a xs.length cap, .slice a' ys.length cap'] w0 fun e w' => e = .returned (.bool (decide (xs = ys))) ∧ Below w0.heap.size w0 w' := by
  have S : Sat (fun _ => False) w0 w0 [slL a cap 1 encI 0 xs, slL a' cap' 1 encI 0 ys] := ((Sat.start _ _).ro (r := slL a' cap' 1 encI 0 ys) h' rfl rfl).ro (r := slL a cap 1 encI 0 xs) h rfl rfl
  have hm := h.small
  refine enter1 Try.func14 rfl Try.ntmps14 rfl Try.results14 ?_
  repeat' (first | refine assign_b_l S rfl rfl ?_ | refine move_s_l S rfl rfl ?_ | refine len_l S rfl rfl ?_ | refine nilL ?_ | refine run_seq ?_ | refine run_skip ?_ | refine run_region ?_ | refine assign_i_l S rfl rfl ?_ | (refine neq_l S rfl rfl rfl ?_ ?_ <;> intro hcmp <;> try (exfalso; first | omega | exact hcmp (by decide) | exact absurd hcmp (by decide))) | refine run_block ?_ | refine run_ret ?_ | refine run_cond_true rfl ?_ | refine run_cond_false rfl ?_ | refine thenQ_n ?_ | refine thenQ_r ?_ | refine ret1_b rfl ?_)
  · exact ⟨by rw [decide_eq_false (fun e => hcmp (by rw [e]))], S.chg.below⟩
  · refine run_while [4, 11, 12, 13, 14, 15, 16, 17, 18, 19, 20, 21, 22, 23, 24, 25] (fun (k : Nat) t => upd t 5 (.int .i64 k)) (fun k w' => k ≤ xs.length ∧ (∀ i, i < k → xs.getD i 0 = ys.getD i 0) ∧ Sat (fun _ => False) w0 w' [slL a cap 1 encI 0 xs, slL a' cap' 1 encI 0 ys]) (fun k => xs.length - k) 0 ?_ ?_ ?_
    · (repeat (first | exact agree_refl | refine agree_r rfl ?_ | refine agree_l rfl ?_ | refine agree_hv rfl ?_))
    · exact ⟨Nat.zero_le _, fun i h => by omega, S⟩
    · rintro k j w ⟨hk, hall, S⟩
      repeat' (first | refine assign_b_l S rfl rfl ?_ | refine move_s_l S rfl rfl ?_ | refine len_l S rfl rfl ?_ | refine nilL ?_ | refine run_seq ?_ | refine run_skip ?_ | refine run_region ?_ | refine assign_i_l S rfl rfl ?_ | refine move_i_l S rfl rfl ?_ | (refine lss_l S rfl rfl rfl ?_ ?_ <;> intro hcmp <;> try (exfalso; first | omega | exact hcmp (by decide) | exact absurd hcmp (by decide))) | refine add_l S rfl rfl (wrap_in (by omega)) rfl ?_ | refine run_block ?_ | refine run_ret ?_ | refine run_exit ?_ | refine run_cond_true rfl ?_ | refine run_cond_false rfl ?_ | refine thenQ_n ?_ | refine thenQ_r ?_ | refine thenQ_e ?_ | refine blockQ_n ?_ | refine blockQ_r ?_ | refine blockQ_s rfl ?_ | (refine run_draws S mixed ?_ ?_; · kernel_rfl) | (refine nilQ ?_; clear S; intro w S) | refine move_s_q rfl rfl ?_ | refine move_i_q rfl rfl ?_ | refine indexAddr_q rfl rfl (idx_cast _) (by first | omega | decide | (simp; done) | (simp; omega)) rfl ?_ | refine loadE_i_q rfl (by first | omega | decide | (simp; done) | (simp; omega)) rfl rfl rfl ?_ | (refine neq_q rfl rfl rfl ?_ ?_ <;> intro hcmp <;> try (exfalso; first | omega | exact hcmp (by decide) | exact absurd hcmp (by decide))) | refine ret1_b rfl ?_)
      · exact ⟨by rw [decide_eq_false (fun e => hcmp (by rw [e]))], S.chg.below⟩
      · refine ⟨k + 1, ?_, ⟨by omega, fun i hi => ?_, S⟩, by omega⟩
        · (repeat (first | exact agree_refl | refine agree_r rfl ?_ | refine agree_l rfl ?_ | refine agree_hv rfl ?_))
        · rcases Nat.lt_or_ge i k with h | h
          · exact hall i h
          · obtain rfl : i = k := by omega
            exact hcmp
      · exact ⟨by rw [decide_eq_true (wlist_eq (by omega) (fun i hi => hall i (by omega)))], S.chg.below⟩
/-! One answer. -/
instance (init : List Int) (l : List AtS) (W : List Int) (G : Nat → Nat) (i x : Nat) : Decidable (GapP init l W G i x) := by unfold GapP; infer_instance
theorem wrs_one {n : Nat} {l : List AtS} (hM : MayP n l) {W W' : List Int} (hW : IsWrs l W) (hW' : IsWrs l W') : W = W' := by
  have hp : ∀ {V : List Int}, IsWrs l V → V.Pairwise (fun a b => (atI l a).wv < (atI l b).wv) := fun {V} h => by
    have := wrs_sorted hM h
    rwa [List.pairwise_map] at this
  exact List.Perm.eq_of_pairwise (le := fun a b => (atI l a).wv < (atI l b).wv) (fun a b _ _ h1 h2 => by omega) (hp hW) (hp hW') (hW.1.trans hW'.1.symm)
theorem gapP_congr {init : List Int} {l : List AtS} {W : List Int} {G G' : Nat → Nat} {i x : Nat} (e : ∀ k, k < i → ¬ 0 < (l.getD k atD).wv → G k = G' k) (h : GapP init l W G i x) : GapP init l W G' i x :=
  ⟨⟨h.1.1, fun k hk h1 h2 => e k hk h1 ▸ h.1.2 k hk h1 h2⟩, h.2⟩
theorem gap_one {init : List Int} {l : List AtS} {W : List Int} {G G' : Nat → Nat} (h : ∀ k, k < l.length → ¬ 0 < (l.getD k atD).wv → GapMin init l W G k) (h' : ∀ k, k < l.length → ¬ 0 < (l.getD k atD).wv → GapMin init l W G' k) : ∀ k, k < l.length → ¬ 0 < (l.getD k atD).wv → G k = G' k := by
  intro k
  induction k using Nat.strongRecOn with
  | _ k ih =>
    intro hk hw
    have e : ∀ j, j < k → ¬ 0 < (l.getD j atD).wv → G j = G' j := fun j hj hjw => ih j hj (by omega) hjw
    have h1 := h k hk hw
    have h2 := h' k hk hw
    exact Nat.le_antisymm (h1.2 _ (gapP_congr (fun j hj hjw => (e j hj hjw).symm) h2.1)) (h2.2 _ (gapP_congr e h1.1))
theorem ordL_congr {l : List AtS} {W : List Int} {G G' : Nat → Nat} (e : ∀ k, k < l.length → ¬ 0 < (l.getD k atD).wv → G k = G' k) (x : Nat) : ordL l W G x = ordL l W G' x := by
  unfold ordL
  congr 1
  funext g
  unfold ordB inG
  congr 2
  exact List.filter_congr fun i hi => by rw [e i (nonw_mem.1 hi).1 (nonw_mem.1 hi).2]
theorem gapMin_of {init : List Int} {l : List AtS} {W : List Int} {G : Nat → Nat} {i : Nat} (h1 : GapP init l W G i (G i)) (h2 : ∀ x, x < G i → ¬ GapP init l W G i x) : GapMin init l W G i :=
  ⟨h1, fun x hx => Nat.le_of_not_lt fun h => h2 x h hx⟩
theorem isWrs_of {l : List AtS} {W : List Int} (h1 : W.isPerm (wrsL l l.length) = true) (h2 : ∀ i, i < W.length → ∀ j, j < W.length → i ≤ j → (l.getD (W.getD i 0).toNat atD).wv ≤ (l.getD (W.getD j 0).toNat atD).wv) : IsWrs l W :=
  ⟨List.isPerm_iff.1 h1, fun i j _ hij hj => h2 i (by omega) j hj hij⟩
/-- What makes an order the judge's. -/
def JGood (init : List Int) (l : List AtS) (W : List Int) (G : Nat → Nat) : Prop :=
  (W.isPerm (wrsL l l.length) = true ∧ ∀ i, i < W.length → ∀ j, j < W.length → i ≤ j → (l.getD (W.getD i 0).toNat atD).wv ≤ (l.getD (W.getD j 0).toNat atD).wv) ∧
  (∀ g, g < W.length → standP init l W g) ∧ ∀ k, k < l.length → ¬ 0 < (l.getD k atD).wv → GapP init l W G k (G k) ∧ ∀ x, x < G k → ¬ GapP init l W G k x
instance (init : List Int) (l : List AtS) (W : List Int) (G : Nat → Nat) : Decidable (JGood init l W G) := by unfold JGood; infer_instance
theorem jgood_ok {init : List Int} {l : List AtS} {W : List Int} {G : Nat → Nat} (h : JGood init l W G) : JOk init l (ordL l W G (W.length + 1)) :=
  ⟨W, G, isWrs_of h.1.1 h.1.2, h.2.1, fun k hk hw => gapMin_of (h.2.2 k hk hw).1 (h.2.2 k hk hw).2, rfl⟩
theorem jgood_fail {n : Nat} {init : List Int} {l : List AtS} {W : List Int} {G : Nat → Nat} (hM : MayP n l) (h : JGood init l W G) : ¬ JFail init l := fun hf =>
  have hv := judge_some hM (jgood_ok h)
  judge_none hM hf hv.perm hv.2
theorem jgood_one {n : Nat} {init : List Int} {l : List AtS} {W : List Int} {G : Nat → Nat} (hM : MayP n l) (h : JGood init l W G) {ord : List Int} (ho : JOk init l ord) : ord = ordL l W G (W.length + 1) := by
  obtain ⟨W', G', hW', hs', hg', rfl⟩ := ho
  obtain rfl := wrs_one hM (isWrs_of h.1.1 h.1.2) hW'
  exact ordL_congr (gap_one hg' fun k hk hw => gapMin_of (h.2.2 k hk hw).1 (h.2.2 k hk hw).2) _
/-- What makes that there is none. -/
def JBad (init : List Int) (l : List AtS) (W : List Int) : Prop :=
  (W.isPerm (wrsL l l.length) = true ∧ ∀ i, i < W.length → ∀ j, j < W.length → i ≤ j → (l.getD (W.getD i 0).toNat atD).wv ≤ (l.getD (W.getD j 0).toNat atD).wv) ∧
  ((∃ g, g < W.length ∧ ¬ standP init l W g) ∨ (0 < l.length ∧ ¬ 0 < (l.getD 0 atD).wv ∧ ∀ x, x < W.length + 1 → ¬ GapP init l W (fun _ => 0) 0 x))
theorem jbad_no {n : Nat} {init : List Int} {l : List AtS} {W : List Int} (hM : MayP n l) (h : JBad init l W) {ord : List Int} (ho : JOk init l ord) : False := by
  obtain ⟨W', G', hW', hs', hg', rfl⟩ := ho
  obtain rfl := wrs_one hM (isWrs_of h.1.1 h.1.2) hW'
  rcases h.2 with ⟨g, hg, hn⟩ | ⟨h0, hw, hx⟩
  · exact hn (hs' g hg)
  · have h1 := (hg' 0 h0 hw).1
    exact hx _ (by have := h1.2.1.1; omega) (gapP_congr (fun k hk => absurd hk (Nat.not_lt_zero k)) h1)
end Go.Proofs.Ytciehimnhnbipaa
namespace Go.Proofs.Ytciehimnhnbipaa
open Go.RowKit Go.Lib
set_option linter.unusedVariables false
set_option linter.unusedSimpArgs false
set_option maxHeartbeats 8000000
set_option maxRecDepth 100000
theorem nil_sl {α : Type} {w : World} {sz : Nat} {enc : α → Nat → Value} {d : α} (h : 0 < sz) : SlOk w none 0 0 sz (gL enc d []) := ⟨h, Nat.le_refl _, Nat.zero_le _, fun _ => rfl, .inl rfl⟩
theorem his_of {a : Option Addr} {n cap : Nat} {g : Nat → Nat → Value} {w : World} (l : List AtS) (h : SlOk w a n cap 9 g) (hn : l.length = n) (hg : ∀ i, i < n → ∀ j, j < 9 → g i j = gL encAt atD l i j) (hz : ∀ z ∈ l, (atR z).holds w) : (hisR a cap l).holds w := by
  subst hn
  refine ⟨h.congr hg, fun i => ?_⟩
  by_cases hi : i < l.length
  · exact hz _ (getD_mem hi)
  · rw [List.getD_eq_getElem?_getD, List.getElem?_eq_none (by omega)]
    exact ⟨nil_sl (by decide), nil_sl (by decide)⟩
theorem Sat.rowAt {S : Nat → Prop} {w₀ w : World} {L : List Res} (hS : Sat S w₀ w L) (a : Option Addr) {n c e sz : Nat} {g : Nat → Nat → Value} {f : Res → List Res} [hq : PickR L a n c e sz g f] : SlOk w a n c sz g := by
  have := hq.pick
  exact RowOk.sl (hS.holds (r := row a n c e sz g))
theorem lt9 {j : Nat} (h : j < 9) : j = 0 ∨ j = 1 ∨ j = 2 ∨ j = 3 ∨ j = 4 ∨ j = 5 ∨ j = 6 ∨ j = 7 ∨ j = 8 := by omega
theorem lt1 {j : Nat} (h : j < 1) : j = 0 := by omega
theorem lt2 {j : Nat} (h : j < 2) : j = 0 ∨ j = 1 := by omega
theorem lt3 {j : Nat} (h : j < 3) : j = 0 ∨ j = 1 ∨ j = 2 := by omega
end Go.Proofs.Ytciehimnhnbipaa
