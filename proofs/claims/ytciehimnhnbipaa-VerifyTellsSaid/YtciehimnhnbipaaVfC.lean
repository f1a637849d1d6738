/- verify: all; the closures of May. verify: May, whole. -/
import Derived.Test.YtciehimnhnbipaaVfA
namespace Go.Proofs.Ytciehimnhnbipaa
open Go.RowKit Go.Lib
set_option linter.unusedVariables false
set_option linter.unusedSimpArgs false
set_option maxHeartbeats 8000000
set_option maxRecDepth 100000
def encFn (v : Value) : Nat → Value := fun _ => v
abbrev fnD : Value := undef
theorem all1_at {f : FuncId} [FnOk Try.prog f] {lb : List Value} {b : Bool} (w0 : World) (h : Calls Try.prog f ([] ++ [] ++ lb).toArray w0 fun e w' => e = .returned (.bool b) ∧ Below w0.heap.size w0 w') :
    Calls Try.prog 51 ([] ++ [Value.func (.func f) #[] lb.toArray] ++ []).toArray w0 fun e w' => e = .returned (.bool (!b)) ∧ Below w0.heap.size w0 w' := by
  have S := Sat.start (fun _ => False) w0
  refine enter1 Try.func51 rfl Try.ntmps51 rfl Try.results51 ?_
  repeat' (first | refine assign_b_l S rfl rfl ?_ | refine move_o_l S rfl rfl ?_ | refine nilL ?_ | refine run_seq ?_ | refine run_region ?_ | refine thenQ_n ?_)
  refine callV (f := f) (l1 := []) (l2 := lb) (l := []) rfl h rfl rfl ?_
  rintro e w ⟨rfl, hb⟩
  replace S := S.below hb
  refine ⟨_, rfl, ?_⟩
  repeat' (first | refine assign_b_l S rfl rfl ?_ | refine not_l S rfl rfl ?_ | refine nilL ?_ | refine run_ret ?_ | refine thenQ_n ?_ | refine ret1_b rfl ?_)
  exact ⟨rfl, S.chg.below⟩
section
variable {vs : List Value} {b : Nat → Bool} {I : World → Prop}
theorem indexF_at (hI : ∀ w w', I w → Below w.heap.size w w' → I w') (hf : ∀ k w, k < vs.length → I w → (∀ j, j < k → b j = true) → Calls Try.prog 51 ([] ++ [vs.getD k fnD] ++ []).toArray w fun e w' => e = .returned (.bool (!b k)) ∧ Below w.heap.size w w')
    (a : Option Addr) (cap : Nat) (w0 : World) (hi : I w0) (hs : SlOk w0 a vs.length cap 1 (gL encFn fnD vs)) :
    Calls Try.prog 65 #[.slice a vs.length cap, .func (.func 51) #[] #[]] w0 fun e w' => (∃ i, e = .returned (.int .i64 i) ∧ (0 ≤ i ↔ ¬ ∀ k, k < vs.length → b k = true)) ∧ Below w0.heap.size w0 w' := by
  have hm := hs.small
  have S := Sat.reads (r := slL a cap 1 encFn fnD vs) hs
  refine enter1 Try.func65 rfl Try.ntmps65 rfl Try.results65 ?_
  repeat' (first | refine move_i_l S rfl rfl ?_ | refine assign_i_l S rfl rfl ?_ | refine move_s_l S rfl rfl ?_ | refine nilL ?_ | refine run_seq ?_ | refine run_region ?_ | refine len_l S rfl rfl ?_ | refine run_block ?_ | refine thenQ_n ?_)
  refine run_while [4, 5, 9, 10, 11, 12, 13, 14, 15, 16, 17, 18] (fun (q : Nat) t => upd t 8 (.int .i64 q)) (fun q w' => (q ≤ vs.length ∧ ∀ j, j < q → b j = true) ∧ Sat (fun _ => False) w0 w' [roR (slL a cap 1 encFn fnD vs)]) (fun q => vs.length - q) 0 ?_ ?_ ?_
  · (repeat (first | exact agree_refl | refine agree_r rfl ?_ | refine agree_l rfl ?_ | refine agree_hv rfl ?_))
  · exact ⟨⟨Nat.zero_le _, fun j hj => absurd hj (Nat.not_lt_zero j)⟩, S⟩
  clear S
  rintro q j w ⟨⟨hq, hall⟩, S⟩
  by_cases hql : q < vs.length
  · repeat' (first | refine move_i_l S rfl rfl ?_ | refine assign_i_l S rfl rfl ?_ | refine move_s_l S rfl rfl ?_ | refine nilL ?_ | refine run_seq ?_ | refine run_skip ?_ | refine run_region ?_ | (refine lss_l S rfl rfl rfl ?_ ?_ <;> intro hcmp <;> try (exfalso; first | omega | exact hcmp (by decide) | exact absurd hcmp (by decide))) | refine indexAddr_l S rfl rfl (idx_cast _) (by first | omega | decide | (simp; done) | (simp; omega)) rfl ?_ | refine move_o_l S rfl rfl ?_ | refine loadE_o_l S rfl (by first | omega | decide | (simp; done) | (simp; omega)) rfl rfl rfl ?_ | refine run_block ?_ | refine run_cond_true rfl ?_ | refine thenQ_n ?_)
    refine callV (f := 51) (l1 := []) (l2 := []) (l := [vs.getD q fnD]) rfl (hf q _ hql (hI _ _ hi S.chg.below) hall) rfl rfl ?_
    rintro e w ⟨rfl, hb⟩
    replace S := S.below hb
    clear hb
    refine ⟨_, rfl, ?_⟩
    cases hbq : b q with
    | false =>
      repeat' (first | refine move_i_l S rfl rfl ?_ | refine assign_i_l S rfl rfl ?_ | refine nilL ?_ | refine run_seq ?_ | refine run_region ?_ | refine run_ret ?_ | refine run_cond_true rfl ?_ | refine thenQ_n ?_ | refine thenQ_r ?_ | refine blockQ_r ?_ | refine ret1_i rfl ?_)
      exact ⟨⟨q, rfl, ⟨fun _ h => (by rw [h q hql] at hbq; cases hbq), fun _ => by omega⟩⟩, S.chg.below⟩
    | true =>
      repeat' (first | refine move_i_l S rfl rfl ?_ | refine nilL ?_ | refine run_skip ?_ | refine run_region ?_ | refine add_l S rfl rfl (wrap_in (by omega)) rfl ?_ | refine run_cond_false rfl ?_ | refine thenQ_n ?_ | refine blockQ_n ?_)
      refine ⟨q + 1, ?_, ⟨⟨by omega, fun j hj => ?_⟩, S⟩, by omega⟩
      · rw [Int.natCast_add]
        (repeat (first | exact agree_refl | refine agree_r rfl ?_ | refine agree_l rfl ?_ | refine agree_hv rfl ?_))
      · rcases Nat.lt_or_ge j q with e | e
        · exact hall j e
        · obtain rfl : j = q := by omega
          exact hbq
  · repeat' (first | refine assign_i_l S rfl rfl ?_ | refine nilL ?_ | refine run_seq ?_ | refine run_region ?_ | (refine lss_l S rfl rfl rfl ?_ ?_ <;> intro hcmp <;> try (exfalso; first | omega | exact hcmp (by decide) | exact absurd hcmp (by decide))) | refine run_ret ?_ | refine run_exit ?_ | refine run_cond_false rfl ?_ | refine thenQ_n ?_ | refine thenQ_e ?_ | refine blockQ_s rfl ?_ | refine ret1_i rfl ?_)
    exact ⟨⟨-1, rfl, ⟨fun h => absurd h (by decide), fun h => absurd (fun k hk => hall k (by omega)) h⟩⟩, S.chg.below⟩
theorem vall_at (hI : ∀ w w', I w → Below w.heap.size w w' → I w') (hf : ∀ k w, k < vs.length → I w → (∀ j, j < k → b j = true) → Calls Try.prog 51 ([] ++ [vs.getD k fnD] ++ []).toArray w fun e w' => e = .returned (.bool (!b k)) ∧ Below w.heap.size w w')
    (a : Option Addr) (cap : Nat) (w0 : World) (hi : I w0) (hs : SlOk w0 a vs.length cap 1 (gL encFn fnD vs)) :
    Calls Try.prog 29 #[.slice a vs.length cap] w0 fun e w' => (∃ r : Bool, e = .returned (.bool r) ∧ (r = true ↔ ∀ k, k < vs.length → b k = true)) ∧ Below w0.heap.size w0 w' := by
  have hc : ∀ w, I w → SlOk w a vs.length cap 1 (gL encFn fnD vs) → Calls Try.prog 50 #[.slice a vs.length cap, .func (.func 51) #[] #[]] w fun e w' => (∃ r : Bool, e = .returned (.bool r) ∧ (r = true ↔ ¬ ∀ k, k < vs.length → b k = true)) ∧ Below w.heap.size w w' := by
    intro w0 hi hs
    have S := Sat.reads (r := slL a cap 1 encFn fnD vs) hs
    refine enter1 Try.func50 rfl Try.ntmps50 rfl Try.results50 ?_
    repeat' (first | refine assign_b_l S rfl rfl ?_ | refine move_s_l S rfl rfl ?_ | refine nilL ?_ | refine run_seq ?_ | refine run_region ?_ | refine move_o_l S rfl rfl ?_ | refine thenQ_n ?_)
    refine callL (indexF_at hI hf a cap w0 hi hs) rfl rfl ?_
    rintro e w ⟨⟨i, rfl, h1⟩, hb⟩
    replace S := S.below hb
    refine ⟨_, rfl, ?_⟩
    repeat' (first | refine assign_b_l S rfl rfl ?_ | (refine geq_l S rfl rfl rfl ?_ ?_ <;> intro hcmp <;> try (exfalso; first | omega | exact hcmp (by decide) | exact absurd hcmp (by decide))) | refine nilL ?_ | refine run_ret ?_ | refine thenQ_n ?_ | refine ret1_b rfl ?_)
    · exact ⟨⟨true, rfl, ⟨fun _ => h1.1 hcmp, fun _ => rfl⟩⟩, S.chg.below⟩
    · exact ⟨⟨false, rfl, ⟨fun h => (by cases h), fun h => absurd (h1.2 h) hcmp⟩⟩, S.chg.below⟩
  have S := Sat.reads (r := slL a cap 1 encFn fnD vs) hs
  refine enter1 Try.func29 rfl Try.ntmps29 rfl Try.results29 ?_
  repeat' (first | refine assign_b_l S rfl rfl ?_ | refine move_s_l S rfl rfl ?_ | refine nilL ?_ | refine run_seq ?_ | refine run_region ?_ | refine thenQ_n ?_)
  refine callL (hc _ (hI _ _ hi S.chg.below) (S.all (roR (slL a cap 1 encFn fnD vs)) (by simp))) rfl rfl ?_
  rintro e w ⟨⟨r, rfl, h1⟩, hb⟩
  replace S := S.below hb
  refine ⟨_, rfl, ?_⟩
  cases r with
  | true =>
    repeat' (first | refine assign_b_l S rfl rfl ?_ | refine not_l S rfl rfl ?_ | refine nilL ?_ | refine run_ret ?_ | refine thenQ_n ?_ | refine ret1_b rfl ?_)
    exact ⟨⟨false, rfl, ⟨fun h => (by cases h), fun h => absurd h (h1.1 rfl)⟩⟩, S.chg.below⟩
  | false =>
    repeat' (first | refine assign_b_l S rfl rfl ?_ | refine not_l S rfl rfl ?_ | refine nilL ?_ | refine run_ret ?_ | refine thenQ_n ?_ | refine ret1_b rfl ?_)
    exact ⟨⟨true, rfl, ⟨fun _ => Classical.byContradiction fun h => (by cases h1.2 h), fun _ => rfl⟩⟩, S.chg.below⟩
end
theorem ask_may {b3 b4 : Nat} {ai a : Option Addr} {ci cap : Nat} {init : List Int} {l : List AtS} (w0 : World) (h3 : (blk b3 1 (fun _ => .slice ai init.length ci) 23).holds w0) (h4 : (blk b4 1 (fun _ => .slice a l.length cap) 27).holds w0) (hl : (hisR a cap l).holds w0) :
    Calls Try.prog 30 ([] ++ [] ++ [Value.pointer (some ⟨b3, 0, none⟩), Value.pointer (some ⟨b4, 0, none⟩)]).toArray w0 fun e w' => e = .returned (.bool (decide (MayP init.length l))) ∧ Below w0.heap.size w0 w' := by
  have S := (Sat.reads2 (r := blk b3 1 (fun _ => .slice ai init.length ci) 23) (r' := blk b4 1 (fun _ => .slice a l.length cap) 27) h3 h4).ro (r := hisR a cap l) hl rfl rfl
  refine enter1 Try.func30 rfl Try.ntmps30 rfl Try.results30 ?_
  repeat' (first | refine assign_b_l S rfl rfl ?_ | refine nilL ?_ | refine run_seq ?_ | refine run_region ?_ | refine load_o_l S rfl rfl rfl rfl ?_ | refine thenQ_n ?_)
  refine callL (may_at (S.all (hisR a cap l) (by simp))) rfl rfl ?_
  rintro e w ⟨rfl, hb⟩
  replace S := S.below hb
  refine ⟨_, rfl, ?_⟩
  repeat' (first | refine assign_b_l S rfl rfl ?_ | refine nilL ?_ | refine run_ret ?_ | refine thenQ_n ?_ | refine ret1_b rfl ?_)
  exact ⟨rfl, S.chg.below⟩
theorem values_at (a : Option Addr) (n cap : Nat) (w : World) : Calls Try.prog 24 #[.slice a n cap] w fun e w' => ∃ c, e = .returned (.func (.func 47) #[] #[.pointer (some ⟨c, 0, none⟩)]) ∧ (blk c 1 (fun _ => .slice a n cap) 24).holds w' ∧ w.heap.size ≤ c ∧ Below w.heap.size w w' := by
  have S := Sat.start (fun _ => False) w
  refine enter1 Try.func24 rfl Try.ntmps24 rfl Try.results24 ?_
  repeat' (first | (refine box_s S rfl rfl ?_; clear S; intro b w S) | refine makeFunc_l S rfl rfl rfl ?_ | refine assign_o_l S rfl rfl ?_ | refine nilL ?_ | refine run_seq ?_ | refine run_region ?_ | refine run_ret ?_ | refine thenQ_n ?_ | refine ret1_o rfl ?_)
  exact ⟨b, rfl, S.got1, Nat.le_of_not_lt fun hlt => S.own _ (List.mem_cons_self ..) rfl b rfl hlt, S.chg.below⟩
theorem sortL_pl {l : List AtS} {o : List Int} : o.Perm (plL l) ↔ (∀ i, i < o.length → (sortL o).getD i 0 = i) ∧ o.length = l.length := by
  have hpl : (plL l).Pairwise (· ≤ ·) := by
    unfold plL
    rw [List.pairwise_map]
    exact List.Pairwise.imp (fun h => by omega) List.pairwise_lt_range
  have hll : (plL l).length = l.length := by unfold plL; rw [List.length_map, List.length_range]
  have hsl : (sortL o).length = o.length := List.length_mergeSort _
  have hget : ∀ i, i < l.length → (plL l).getD i 0 = i := fun i hi => by
    unfold plL
    rw [List.getD_eq_getElem?_getD, List.getElem?_map, List.getElem?_range hi]
    rfl
  constructor
  · intro h
    have e : sortL o = plL l := List.Perm.eq_of_pairwise (le := fun a b : Int => a ≤ b) (fun a b _ _ h1 h2 => by omega) (sortL_le o) hpl ((sortL_perm o).trans h)
    refine ⟨fun i hi => ?_, by rw [h.length_eq, hll]⟩
    rw [e, hget i (by rw [← hll, ← h.length_eq]; exact hi)]
  · rintro ⟨h1, h2⟩
    have e : sortL o = plL l := wlist_eq (by rw [hsl, hll, h2]) fun i hi => by rw [h1 i (by omega), hget i (by omega)]
    rw [← e]
    exact (sortL_perm o).symm
theorem ask_once {b5 b4 : Nat} {ao a : Option Addr} {co cap : Nat} {o : List Int} {l : List AtS} (hn : o.length ≤ 1000000) (w0 : World) (h5 : (blk b5 1 (fun _ => .slice ao o.length co) 24).holds w0) (h4 : (blk b4 1 (fun _ => .slice a l.length cap) 27).holds w0) (ho : (slL ao co 1 encI 0 o).holds w0) :
    Calls Try.prog 22 ([] ++ [] ++ [Value.pointer (some ⟨b5, 0, none⟩), Value.pointer (some ⟨b4, 0, none⟩)]).toArray w0 fun e w' => (∃ r : Bool, e = .returned (.bool r) ∧ (r = true ↔ o.Perm (plL l))) ∧ Below w0.heap.size w0 w' := by
  have S := (Sat.reads2 (r := blk b5 1 (fun _ => .slice ao o.length co) 24) (r' := blk b4 1 (fun _ => .slice a l.length cap) 27) h5 h4).ro (r := slL ao co 1 encI 0 o) ho rfl rfl
  have hsl : (sortL o).length = o.length := List.length_mergeSort _
  refine enter1 Try.func22 rfl Try.ntmps22 rfl Try.results22 ?_
  repeat' (first | refine assign_b_l S rfl rfl ?_ | refine nilL ?_ | refine run_seq ?_ | refine run_region ?_ | refine load_o_l S rfl rfl rfl rfl ?_ | refine thenQ_n ?_)
  refine callL (values_at _ _ _ _) rfl rfl ?_
  rintro e w ⟨c, rfl, hc, hcl, hb⟩
  replace S := S.fresh (r := roR (blk c 1 (fun _ => .slice ao o.length co) 24)) hb hc (fun k e => by rw [show k = c from e]; exact hcl)
  clear hb hc hcl
  refine ⟨_, rfl, ?_⟩
  skip
  refine callL (sorted_at (gf := 47) (lb := [.pointer (some ⟨c, 0, none⟩)]) (values1_i (zs := o) (a := ao) (cap := co) (cc := c)) hn (fun xs h => by rw [h]; exact hn) (((Sat.start (fun _ => False) _).ro (r := slL ao co 1 encI 0 o) (S.all (slL ao co 1 encI 0 o) (by simp)) rfl rfl).ro (r := roR (blk c 1 (fun _ => .slice ao o.length co) 24)) S.got1 rfl rfl)) rfl rfl ?_
  rintro e w ⟨v, xs, rfl, rfl, ⟨a2, c2, rfl, hh, hf⟩, hb⟩
  replace S := Sat.freshRow S hb hh hf
  clear hb hh hf
  refine ⟨_, rfl, ?_⟩
  repeat' (first | refine move_i_l S rfl rfl ?_ | refine nilL ?_ | refine run_seq ?_ | refine run_region ?_ | refine len_l S rfl rfl ?_ | refine assign_s_l S rfl rfl ?_ | refine move_s_l S rfl rfl ?_ | refine run_block ?_ | refine thenQ_n ?_)
  refine run_while [2, 4, 5, 12, 13, 14, 15, 16, 17, 18, 19] (fun (q : Nat) t => upd t 11 (.int .i64 q)) (fun q w' => (q ≤ xs.length ∧ ∀ j, j < q → (sortL xs).getD j 0 = j) ∧ Sat (fun _ => False) w0 w' [rowL a2 c2 3 1 encI 0 (sortL xs), roR (blk c 1 (fun _ => .slice ao xs.length co) 24), slL ao co 1 encI 0 xs, roR (blk b5 1 (fun _ => .slice ao xs.length co) 24), roR (blk b4 1 (fun _ => .slice a l.length cap) 27)]) (fun q => xs.length - q) 0 ?_ ?_ ?_
  · (repeat (first | exact agree_refl | refine agree_r rfl ?_ | refine agree_l rfl ?_ | refine agree_hv rfl ?_))
  · exact ⟨⟨Nat.zero_le _, fun j hj => absurd hj (Nat.not_lt_zero j)⟩, S⟩
  clear S
  rintro q j w ⟨⟨hq, hall⟩, S⟩
  by_cases hql : q < xs.length
  · repeat' (first | refine move_i_l S rfl rfl ?_ | refine assign_b_l S rfl rfl ?_ | refine nilL ?_ | refine run_seq ?_ | refine run_skip ?_ | refine run_region ?_ | refine assign_i_l S rfl rfl ?_ | (refine lss_l S rfl rfl rfl ?_ ?_ <;> intro hcmp <;> try (exfalso; first | omega | exact hcmp (by decide) | exact absurd hcmp (by decide))) | refine indexAddr_l S rfl rfl (idx_cast _) (by first | omega | decide | (simp; done) | (simp; omega)) rfl ?_ | refine loadE_i_l S rfl (by first | omega | decide | (simp; done) | (simp; omega)) rfl rfl rfl ?_ | (refine neq_l S rfl rfl rfl ?_ ?_ <;> intro hcmp <;> try (exfalso; first | omega | exact hcmp (by decide) | exact absurd hcmp (by decide))) | refine add_l S rfl rfl (wrap_in (by omega)) rfl ?_ | refine run_block ?_ | refine run_ret ?_ | refine run_cond_true rfl ?_ | refine run_cond_false rfl ?_ | refine thenQ_n ?_ | refine thenQ_r ?_ | refine blockQ_n ?_ | refine blockQ_r ?_ | refine ret1_b rfl ?_)
    · exact ⟨⟨false, rfl, ⟨fun h => (by cases h), fun h => absurd ((sortL_pl.1 h).1 q hql).symm (by assumption)⟩⟩, S.chg.below⟩
    · refine ⟨q + 1, ?_, ⟨⟨by omega, fun j hj => ?_⟩, S⟩, by omega⟩
      · rw [Int.natCast_add]
        (repeat (first | exact agree_refl | refine agree_r rfl ?_ | refine agree_l rfl ?_ | refine agree_hv rfl ?_))
      · rcases Nat.lt_or_ge j q with e | e
        · exact hall j e
        · obtain rfl : j = q := by omega
          exact hcmp.symm
  · obtain rfl : q = xs.length := by omega
    repeat' (first | refine assign_b_l S rfl rfl ?_ | refine nilL ?_ | refine run_seq ?_ | refine run_region ?_ | refine len_l S rfl rfl ?_ | (refine lss_l S rfl rfl rfl ?_ ?_ <;> intro hcmp <;> try (exfalso; first | omega | exact hcmp (by decide) | exact absurd hcmp (by decide))) | (refine eql_l S rfl rfl rfl ?_ ?_ <;> intro hcmp <;> try (exfalso; first | omega | exact hcmp (by decide) | exact absurd hcmp (by decide))) | refine load_o_l S rfl rfl rfl rfl ?_ | refine run_ret ?_ | refine run_exit ?_ | refine run_cond_false rfl ?_ | refine thenQ_n ?_ | refine thenQ_e ?_ | refine blockQ_s rfl ?_ | refine ret1_b rfl ?_)
    all_goals first
      | exact ⟨⟨true, rfl, ⟨fun _ => sortL_pl.2 ⟨hall, by omega⟩, fun _ => rfl⟩⟩, S.chg.below⟩
      | exact ⟨⟨false, rfl, ⟨fun h => (by cases h), fun h => absurd (sortL_pl.1 h).2 (by omega)⟩⟩, S.chg.below⟩
end Go.Proofs.Ytciehimnhnbipaa
namespace Go.Proofs.Ytciehimnhnbipaa
open Go.RowKit Go.Lib
set_option linter.unusedVariables false
set_option linter.unusedSimpArgs false
set_option maxHeartbeats 16000000
set_option maxRecDepth 100000
/-- An attempt may stand behind some: just if the longer row may be. -/
theorem follows_iff {n : Nat} {init : List Int} {l : List AtS} {p : List Int} {i : Nat} (hM : MayP n l) (hi : i < l.length) (hr : ∀ u ∈ p, 0 ≤ u ∧ u < l.length) (hn : (i : Int) ∉ p) (hv : VOrd init (p.map (atI l))) :
    followsB l p (memA init (p.map (atI l))) (l.getD i atD) = true ↔ VOrd init (p.map (atI l) ++ [l.getD i atD]) := by
  rw [vord_snoc]
  unfold followsB
  rw [Bool.and_eq_true, Bool.not_eq_true', List.any_eq_false]
  constructor
  · rintro ⟨h1, h2⟩
    have h3 : ∀ u ∈ p, aheadB (l.getD i atD) (atI l u) = false ∧ (0 < (l.getD i atD).wv → (atI l u).wv ≤ (l.getD i atD).wv) := fun u hu => by
      have := h2 u hu
      unfold barB at this
      rw [Bool.or_eq_true, Bool.and_eq_true, decide_eq_true_eq, decide_eq_true_eq] at this
      refine ⟨?_, fun hw => Int.not_lt.1 fun hlt => this (.inr ⟨hw, hlt⟩)⟩
      cases h : aheadB (l.getD i atD) (atI l u) with
      | false => rfl
      | true => exact absurd (.inl h) this
    refine ⟨hv, fun b hb => ?_, fun hw b hb hbw => ?_, h1⟩
    · obtain ⟨u, hu, rfl⟩ := List.mem_map.1 hb
      exact (h3 u hu).1
    · obtain ⟨u, hu, rfl⟩ := List.mem_map.1 hb
      have h4 := (h3 u hu).2 (of_decide_eq_true hw)
      obtain ⟨hu0, hu1⟩ := hr u hu
      have h5 := may_wv hM (i := i) (j := u.toNat) hi (by omega) (fun e => hn (by rw [show (i : Int) = u from by omega]; exact hu)) (of_decide_eq_true hw)
      have h6 : (l.getD i atD).wv ≠ (atI l u).wv := h5
      omega
  · rintro ⟨_, h2, h3, h4⟩
    refine ⟨h4, fun u hu => ?_⟩
    have h5 := h2 _ (List.mem_map.2 ⟨u, hu, rfl⟩)
    unfold barB
    rw [Bool.or_eq_true, Bool.and_eq_true, decide_eq_true_eq, decide_eq_true_eq]
    rintro (h | ⟨hw, hlt⟩)
    · rw [show aheadB (l.getD i atD) (l.getD u.toNat atD) = false from h5] at h
      cases h
    · have h6 := h3 (decide_eq_true hw) _ (List.mem_map.2 ⟨u, hu, rfl⟩) (decide_eq_true (show 0 < (atI l u).wv from Int.lt_trans hw hlt))
      have h7 : (l.getD u.toNat atD).wv < (l.getD i atD).wv := h6
      omega
theorem ask_row {b3 b5 b4 : Nat} {ai ao a : Option Addr} {ci co cap : Nat} {init o : List Int} {l : List AtS} (w0 : World) (hM : MayP init.length l) (hp : o.Perm (plL l)) (hll : l.length ≤ 1000) (h3 : (blk b3 1 (fun _ => .slice ai init.length ci) 23).holds w0) (h5 : (blk b5 1 (fun _ => .slice ao o.length co) 24).holds w0) (h4 : (blk b4 1 (fun _ => .slice a l.length cap) 27).holds w0)
    (hi : (slL ai ci 1 encI 0 init).holds w0) (ho : (slL ao co 1 encI 0 o).holds w0) (hl : (hisR a cap l).holds w0) :
    Calls Try.prog 25 ([] ++ [] ++ [Value.pointer (some ⟨b3, 0, none⟩), Value.pointer (some ⟨b5, 0, none⟩), Value.pointer (some ⟨b4, 0, none⟩)]).toArray w0 fun e w' => (∃ r : Bool, e = .returned (.bool r) ∧ (r = true ↔ VOrd init (o.map (atI l)))) ∧ Below w0.heap.size w0 w' := by
  have hM1 := hM.1
  have hol : o.length = l.length := by rw [hp.length_eq]; unfold plL; rw [List.length_map, List.length_range]
  have hor : ∀ u ∈ o, 0 ≤ u ∧ u < l.length := fun u hu => by
    have := hp.mem_iff.1 hu
    unfold plL at this
    obtain ⟨i, hi, rfl⟩ := List.mem_map.1 this
    have := List.mem_range.1 hi
    omega
  have hnd : o.Nodup := by
    refine hp.nodup_iff.2 ?_
    unfold plL
    exact List.Pairwise.map _ (fun a b h e => h (by omega)) List.nodup_range
  have hoc : o.length ≤ co := ho.2.1
  have S := (((((Sat.reads2 (r := blk b3 1 (fun _ => .slice ai init.length ci) 23) (r' := blk b5 1 (fun _ => .slice ao o.length co) 24) h3 h5).ro (r := roR (blk b4 1 (fun _ => .slice a l.length cap) 27)) h4 rfl rfl).ro (r := hisR a cap l) hl rfl rfl).ro (r := slL ai ci 1 encI 0 init) hi rfl rfl).ro (r := slL ao co 1 encI 0 o) ho rfl rfl)
  refine enter1 Try.func25 rfl Try.ntmps25 rfl Try.results25 ?_
  repeat' (first | refine assign_b_l S rfl rfl ?_ | refine nilL ?_ | refine run_seq ?_ | refine run_region ?_ | refine load_o_l S rfl rfl rfl rfl ?_ | refine thenQ_n ?_)
  refine callL (wclone_at ai ci init (by omega) _ (S.all (slL ai ci 1 encI 0 init) (by simp))) rfl rfl ?_
  rintro e w ⟨_, rfl, ⟨a2, c2, rfl, hh, hf⟩, hb⟩
  replace S := Sat.freshRow S hb hh hf
  clear hb hh hf
  refine ⟨_, rfl, ?_⟩
  repeat' (first | refine move_i_l S rfl rfl ?_ | refine nilL ?_ | refine run_seq ?_ | refine run_region ?_ | refine assign_s_l S rfl rfl ?_ | refine len_l S rfl rfl ?_ | refine load_o_l S rfl rfl rfl rfl ?_ | refine run_block ?_ | refine thenQ_n ?_)
  refine run_while [3, 5, 6, 12, 13, 14, 15, 16, 17, 18, 19, 20, 21, 22, 23, 24, 25, 26, 27, 28, 29, 30] (fun (s : Nat × Option Addr × Nat) t => upd (upd t 11 (.int .i64 (s.1 : Nat))) 4 (.slice s.2.1 init.length s.2.2)) (fun s w' => (s.1 ≤ o.length ∧ VOrd init ((o.take s.1).map (atI l))) ∧ Sat (fun _ => False) w0 w' [row s.2.1 init.length s.2.2 2 1 (gL encI 0 (memA init ((o.take s.1).map (atI l)))), slL ao co 1 encI 0 o, slL ai ci 1 encI 0 init, hisR a cap l, roR (blk b4 1 (fun _ => .slice a l.length cap) 27), roR (blk b3 1 (fun _ => .slice ai init.length ci) 23), roR (blk b5 1 (fun _ => .slice ao o.length co) 24)]) (fun s => o.length - s.1) (0, a2, c2) ?_ ?_ ?_
  · (repeat (first | exact agree_refl | refine agree_r rfl ?_ | refine agree_l rfl ?_ | refine agree_hv rfl ?_))
  · exact ⟨⟨Nat.zero_le _, .nil, .nil, fun pre u post e => by cases pre <;> cases e⟩, S⟩
  clear S
  rintro ⟨q, am, cm⟩ j w ⟨⟨hq, hv⟩, S⟩
  replace hq : q ≤ o.length := hq
  replace hv : VOrd init ((o.take q).map (atI l)) := hv
  replace S : Sat (fun _ => False) w0 w [row am init.length cm 2 1 (gL encI 0 (memA init ((o.take q).map (atI l)))), slL ao co 1 encI 0 o, slL ai ci 1 encI 0 init, hisR a cap l, roR (blk b4 1 (fun _ => .slice a l.length cap) 27), roR (blk b3 1 (fun _ => .slice ai init.length ci) 23), roR (blk b5 1 (fun _ => .slice ao o.length co) 24)] := S
  dsimp only
  have hml := memA_len init ((o.take q).map (atI l))
  by_cases hql : q < o.length
  · have hum : o.getD q 0 ∈ o := getD_mem hql
    obtain ⟨hu0, hu1⟩ := hor _ hum
    have hrs := (hM.2 (o.getD q 0).toNat (by omega)).2.2.2.2.2.2.1
    have hws := (hM.2 (o.getD q 0).toNat (by omega)).2.2.2.2.2.2.2.1
    have hcast : (((o.getD q 0).toNat : Nat) : Int) = o.getD q 0 := by omega
    repeat' (first | refine move_i_l S rfl rfl ?_ | refine nilL ?_ | refine run_seq ?_ | refine run_skip ?_ | refine run_region ?_ | refine indexAddr_l S rfl rfl (idx_cast _) (by first | omega | decide | (simp; done) | (simp; omega)) rfl ?_ | refine assign_i_l S rfl rfl ?_ | (refine lss_l S rfl rfl rfl ?_ ?_ <;> intro hcmp <;> try (exfalso; first | omega | exact hcmp (by decide) | exact absurd hcmp (by decide))) | refine loadE_i_l S rfl (by first | omega | decide | (simp; done) | (simp; omega)) rfl rfl rfl ?_ | refine run_block ?_ | refine run_cond_true rfl ?_ | refine thenQ_n ?_)
    have htl : (o.take q).length = q := by rw [List.length_take]; omega
    have hpre : ∀ w, (slL ao co 1 encI 0 o).holds w → SlOk w ao (o.take q).length co 1 (gL encI 0 (o.take q)) := fun w h => by
      rw [htl]
      refine (SlOk.pre h (n := q) (by omega)).congr fun i hi j hj => ?_
      unfold gL
      rw [List.getD_eq_getElem?_getD, List.getD_eq_getElem?_getD, List.getElem?_take, if_pos hi]
    have hmem : ∀ w, (row am init.length cm 2 1 (gL encI 0 (memA init ((o.take q).map (atI l))))).holds w → SlOk w am (memA init ((o.take q).map (atI l))).length cm 1 (gL encI 0 (memA init ((o.take q).map (atI l)))) := fun w h => by
      rw [hml]
      exact RowOk.sl h
    refine run_any S (L' := [roR (blk b4 1 (fun _ => .slice a l.length cap) 27), roR (blk b5 1 (fun _ => .slice ao o.length co) 24)]) (f := 8) mixed rfl ?_
    clear S
    intro w S1
    have S : Sat _ _ w [roR (blk b4 1 (fun _ => .slice a l.length cap) 27), roR (blk b5 1 (fun _ => .slice ao o.length co) 24)] := S1.sub
    all_goals (refine any_pure (i := 0) rfl (by kernel_rfl) S ?_; (first | refine load_s_x rfl rfl rfl rfl ?_ | refine load_o_x rfl rfl rfl rfl ?_ | refine loadE_s_x rfl (by first | omega | decide | (simp; done) | (simp; omega)) rfl rfl rfl ?_ | refine loadE_o_x rfl (by first | omega | decide | (simp; done) | (simp; omega)) rfl rfl rfl ?_))
    all_goals (refine any_pure (i := 1) rfl (by kernel_rfl) S ?_; (first | refine load_s_x rfl rfl rfl rfl ?_ | refine load_o_x rfl rfl rfl rfl ?_ | refine loadE_s_x rfl (by first | omega | decide | (simp; done) | (simp; omega)) rfl rfl rfl ?_ | refine loadE_o_x rfl (by first | omega | decide | (simp; done) | (simp; omega)) rfl rfl rfl ?_))
    all_goals (refine any_pure (i := 2) rfl (by kernel_rfl) S ?_; refine move_i_x rfl rfl ?_)
    all_goals (refine any_pure (i := 3) rfl (by kernel_rfl) S ?_; refine slicePre_x (h := q) rfl rfl (by omega) rfl ?_)
    all_goals (refine any_pure (i := 4) rfl (by kernel_rfl) S ?_; refine move_s_x rfl rfl ?_)
    all_goals (refine any_pure (i := 5) rfl (by kernel_rfl) S ?_; refine move_i_x rfl rfl ?_)
    all_goals refine any_step (i := 6) rfl (by kernel_rfl) ?_
    all_goals replace S := S1
    all_goals clear S1
    have hni : (((o.getD q 0).toNat : Nat) : Int) ∉ o.take q := by
      rw [hcast]
      have h1 := hnd
      rw [← List.take_append_drop (q + 1) o, take_snoc hql] at h1
      have h2 := (List.nodup_append.1 h1).1
      intro hm
      exact (List.nodup_append.1 h2).2.2 _ hm _ (by simp) rfl
    have hfi := follows_iff (init := init) hM (show (o.getD q 0).toNat < l.length by omega) (fun u hu => hor u (List.mem_of_mem_take hu)) hni hv
    refine callL (follows_at (o.getD q 0).toNat (S.all (hisR a cap l) (by simp)) (hpre _ (S.all (slL ao co 1 encI 0 o) (by simp))) (hmem _ S.got1) (by omega) (fun u hu => hor u (List.mem_of_mem_take hu)) (by rw [hml]; exact hrs)) (by rw [htl, hml, hcast]; rfl) rfl ?_
    rintro e w ⟨rfl, hb⟩
    replace S := S.below hb
    clear hb
    refine ⟨_, rfl, ?_⟩
    cases hfo : followsB l (o.take q) (memA init ((o.take q).map (atI l))) (l.getD (o.getD q 0).toNat atD) with
    | false =>
      all_goals try refine nilL ?_
      all_goals refine ⟨S.sub, ?_⟩
      all_goals (have S1 := S; replace S : Sat _ _ _ [roR (blk b4 1 (fun _ => .slice a l.length cap) 27), roR (blk b5 1 (fun _ => .slice ao o.length co) 24)] := S1.sub)
      all_goals (refine any_pure (i := 7) rfl (by kernel_rfl) S ?_; refine not_x rfl rfl ?_)
      all_goals refine any_end (by kernel_rfl) ?_
      all_goals replace S := S1
      all_goals clear S1
      repeat' (first | refine assign_b_l S rfl rfl ?_ | refine nilL ?_ | refine run_seq ?_ | refine run_region ?_ | refine run_ret ?_ | refine run_cond_true rfl ?_ | refine thenQ_n ?_ | refine thenQ_r ?_ | refine blockQ_r ?_ | refine ret1_b rfl ?_)
      refine ⟨⟨false, rfl, ⟨fun h => (by cases h), fun h => ?_⟩⟩, S.chg.below⟩
      have h1 := h
      rw [← List.take_append_drop (q + 1) o, take_snoc hql, List.map_append, List.map_append] at h1
      have h2 := hfi.2 (vord_pre h1)
      rw [hfo] at h2
      cases h2
    | true =>
      all_goals try refine nilL ?_
      all_goals refine ⟨S.sub, ?_⟩
      all_goals (have S1 := S; replace S : Sat _ _ _ [roR (blk b4 1 (fun _ => .slice a l.length cap) 27), roR (blk b5 1 (fun _ => .slice ao o.length co) 24)] := S1.sub)
      all_goals (refine any_pure (i := 7) rfl (by kernel_rfl) S ?_; refine not_x rfl rfl ?_)
      all_goals refine any_end (by kernel_rfl) ?_
      all_goals replace S := S1
      all_goals clear S1
      repeat' (first | refine move_i_l S rfl rfl ?_ | refine run_skip ?_ | refine run_region ?_ | refine indexAddr_l S rfl rfl (idx_eq _) (by first | omega | decide | (simp; done) | (simp; omega)) rfl ?_ | refine move_s_l S rfl rfl ?_ | refine loadEN_l S rfl (by first | omega | decide | (simp; done) | (simp; omega)) rfl rfl ?_ | refine load_o_l S rfl rfl rfl rfl ?_ | refine run_cond_false rfl ?_ | refine thenQ_n ?_)
      refine callL (behind_at (z := l.getD (o.getD q 0).toNat atD) (hmem _ S.got1) ((S.all (hisR a cap l) (by simp) : (hisR a cap l).holds w).2 _) (by omega) (by rw [hml]; exact hws)) (by rw [hml]; rfl) rfl ?_
      rintro e w ⟨_, rfl, ⟨a3, c3, rfl, hh, hf⟩, hb⟩
      replace S := Sat.freshRow S hb hh hf
      clear hb hh hf
      refine ⟨_, rfl, ?_⟩
      repeat' (first | refine move_i_l S rfl rfl ?_ | refine nilL ?_ | refine run_region ?_ | refine assign_s_l S rfl rfl ?_ | refine add_l S rfl rfl (wrap_in (by omega)) rfl ?_ | refine thenQ_n ?_ | refine blockQ_n ?_)
      have hms := mem_step init l hql
      have hwl := wrtM_len (memA init ((o.take q).map (atI l))) (l.getD (o.getD q 0).toNat atD).ws
      have S2 : Sat (fun _ => False) w0 w [row a3 init.length c3 2 1 (gL encI 0 (memA init ((o.take (q + 1)).map (atI l)))), slL ao co 1 encI 0 o, slL ai ci 1 encI 0 init, hisR a cap l, roR (blk b4 1 (fun _ => .slice a l.length cap) 27), roR (blk b3 1 (fun _ => .slice ai init.length ci) 23), roR (blk b5 1 (fun _ => .slice ao o.length co) 24)] := by
        rw [hms]
        have h1 := S
        rw [show rowL a3 c3 2 1 encI 0 (wrtM (memA init ((o.take q).map (atI l))) (l.getD (o.getD q 0).toNat atD).ws) = row a3 init.length c3 2 1 (gL encI 0 (wrtM (memA init ((o.take q).map (atI l))) (l.getD (o.getD q 0).toNat atD).ws)) from by show row a3 _ c3 _ 1 _ = _; rw [hwl, hml]] at h1
        exact h1.sub
      refine ⟨(q + 1, a3, c3), ?_, ⟨⟨by show q + 1 ≤ _; omega, ?_⟩, S2⟩, by show o.length - (q + 1) < o.length - q; omega⟩
      · dsimp only
        rw [hwl, hml, Int.natCast_add q 1]
        (repeat (first | exact agree_refl | refine agree_r rfl ?_ | refine agree_l rfl ?_ | refine agree_hv rfl ?_))
      · show VOrd init ((o.take (q + 1)).map (atI l))
        rw [take_snoc hql, List.map_append]
        exact hfi.1 hfo
  · obtain rfl : q = o.length := by omega
    rw [List.take_length] at hv
    repeat' (first | refine assign_b_l S rfl rfl ?_ | refine nilL ?_ | refine run_seq ?_ | refine run_region ?_ | (refine lss_l S rfl rfl rfl ?_ ?_ <;> intro hcmp <;> try (exfalso; first | omega | exact hcmp (by decide) | exact absurd hcmp (by decide))) | refine run_ret ?_ | refine run_exit ?_ | refine run_cond_false rfl ?_ | refine thenQ_n ?_ | refine thenQ_e ?_ | refine blockQ_s rfl ?_ | refine ret1_b rfl ?_)
    exact ⟨⟨true, rfl, ⟨fun _ => hv, fun _ => rfl⟩⟩, S.chg.below⟩
theorem bool_eq {a b : Bool} (h : a = true ↔ b = true) : a = b := by cases a <;> cases b <;> simp_all
def askP (init : List Int) (l : List AtS) (o : List Int) (k : Nat) : Prop := match k with | 0 => MayP init.length l | 1 => o.Perm (plL l) | _ => VOrd init (o.map (atI l))
theorem ask_bool (init : List Int) (l : List AtS) (o : List Int) : ∃ b : Nat → Bool, ∀ k, b k = true ↔ askP init l o k := ⟨fun k => @decide _ (Classical.propDecidable (askP init l o k)), fun k => @decide_eq_true_iff _ (Classical.propDecidable _)⟩
theorem vmay_at {ai ao a : Option Addr} {ci co cap : Nat} {init o : List Int} {l : List AtS} (hn : o.length ≤ 1000000) (hll : l.length ≤ 1000) {w0 : World} (hi : (slL ai ci 1 encI 0 init).holds w0) (hl : (hisR a cap l).holds w0) (ho : (slL ao co 1 encI 0 o).holds w0) :
    Calls Try.prog 10 #[.slice ai init.length ci, .slice a l.length cap, .slice ao o.length co] w0 fun e w' => (∃ r : Bool, e = .returned (.bool r) ∧ (r = true ↔ MayP init.length l ∧ ValidO init l o)) ∧ Below w0.heap.size w0 w' := by
  have S := (((Sat.start (fun _ => False) w0).ro (r := hisR a cap l) hl rfl rfl).ro (r := slL ai ci 1 encI 0 init) hi rfl rfl).ro (r := slL ao co 1 encI 0 o) ho rfl rfl
  obtain ⟨bb, hbb⟩ := ask_bool init l o
  refine enter1 Try.func10 rfl Try.ntmps10 rfl Try.results10 ?_
  repeat' (first | (refine box_s S rfl rfl ?_; clear S; intro b w S) | refine makeFunc_l S rfl rfl rfl ?_ | refine assign_b_l S rfl rfl ?_ | refine nilL ?_ | refine run_seq ?_ | refine run_region ?_ | (refine buildSlice_l S rfl rfl rfl rfl rfl ?_; clear S; intro b w S) | refine assign_o_l S rfl rfl ?_ | refine move_o_l S rfl rfl ?_ | refine thenQ_n ?_)
  obtain ⟨bs, hbs⟩ : ∃ x, x = b := ⟨_, rfl⟩
  subst hbs
  obtain ⟨b5, hb5⟩ : ∃ x, x = b := ⟨_, rfl⟩
  subst hb5
  obtain ⟨b4, hb4⟩ : ∃ x, x = b := ⟨_, rfl⟩
  subst hb4
  obtain ⟨b3, hb3⟩ : ∃ x, x = b := ⟨_, rfl⟩
  subst hb3
  refine callL (vall_at (vs := [.func (.func 30) #[] #[.pointer (some ⟨b3, 0, none⟩), .pointer (some ⟨b4, 0, none⟩)], .func (.func 22) #[] #[.pointer (some ⟨b5, 0, none⟩), .pointer (some ⟨b4, 0, none⟩)], .func (.func 25) #[] #[.pointer (some ⟨b3, 0, none⟩), .pointer (some ⟨b5, 0, none⟩), .pointer (some ⟨b4, 0, none⟩)]])
    (b := bb) (I := fun w => ((blk b3 1 (fun _ => .slice ai init.length ci) 23).holds w ∧ (blk b4 1 (fun _ => .slice a l.length cap) 27).holds w ∧ (blk b5 1 (fun _ => .slice ao o.length co) 24).holds w) ∧ (slL ai ci 1 encI 0 init).holds w ∧ (hisR a cap l).holds w ∧ (slL ao co 1 encI 0 o).holds w) ?_ ?_ (some ⟨bs, 0, none⟩) 3 _
    ⟨⟨S.all (blk b3 1 (fun _ => .slice ai init.length ci) 23) (by simp), S.all (blk b4 1 (fun _ => .slice a l.length cap) 27) (by simp), S.all (blk b5 1 (fun _ => .slice ao o.length co) 24) (by simp)⟩, S.all (slL ai ci 1 encI 0 init) (by simp), S.all (hisR a cap l) (by simp), S.all (slL ao co 1 encI 0 o) (by simp)⟩ ((S.rowAt (some ⟨bs, 0, none⟩)).congr fun i hi j hj => by
      obtain rfl := lt1 hj
      rcases lt3 hi with rfl | rfl | rfl <;> rfl)) rfl rfl ?_
  · exact fun w w' h hb => ⟨⟨holds_below h.1.1 hb, holds_below h.1.2.1 hb, holds_below h.1.2.2 hb⟩, holds_below h.2.1 hb, holds_below h.2.2.1 hb, holds_below h.2.2.2 hb⟩
  · intro k w hk h hall
    rcases lt3 hk with rfl | rfl | rfl
    · refine all1_at (f := 30) (lb := [.pointer (some ⟨b3, 0, none⟩), .pointer (some ⟨b4, 0, none⟩)]) (b := bb 0) w ((ask_may w h.1.1 h.1.2.1 h.2.2.1).mono ?_)
      rintro e w' ⟨rfl, hb⟩
      exact ⟨by rw [bool_eq (a := decide (MayP init.length l)) (b := bb 0) (decide_eq_true_iff.trans (hbb 0).symm)], hb⟩
    · refine all1_at (f := 22) (lb := [.pointer (some ⟨b5, 0, none⟩), .pointer (some ⟨b4, 0, none⟩)]) (b := bb 1) w ((ask_once hn w h.1.2.2 h.1.2.1 h.2.2.2).mono ?_)
      rintro e w' ⟨⟨r, rfl, hr⟩, hb⟩
      exact ⟨by rw [bool_eq (a := r) (b := bb 1) (hr.trans (hbb 1).symm)], hb⟩
    · refine all1_at (f := 25) (lb := [.pointer (some ⟨b3, 0, none⟩), .pointer (some ⟨b5, 0, none⟩), .pointer (some ⟨b4, 0, none⟩)]) (b := bb 2) w ((ask_row w ((hbb 0).1 (hall 0 (by decide))) ((hbb 1).1 (hall 1 (by decide))) hll h.1.1 h.1.2.2 h.1.2.1 h.2.1 h.2.2.2 h.2.2.1).mono ?_)
      rintro e w' ⟨⟨r, rfl, hr⟩, hb⟩
      exact ⟨by rw [bool_eq (a := r) (b := bb 2) (hr.trans (hbb 2).symm)], hb⟩
  rintro e w ⟨⟨r, rfl, hr⟩, hb⟩
  replace S := S.below hb
  refine ⟨_, rfl, ?_⟩
  repeat' (first | refine assign_b_l S rfl rfl ?_ | refine nilL ?_ | refine run_ret ?_ | refine thenQ_n ?_ | refine ret1_b rfl ?_)
  refine ⟨⟨r, rfl, hr.trans ⟨fun h => ⟨(hbb 0).1 (h 0 (show 0 < 3 by decide)), (hbb 1).1 (h 1 (show 1 < 3 by decide)), (hbb 2).1 (h 2 (show 2 < 3 by decide))⟩, fun h k hk => ?_⟩⟩, S.chg.below⟩
  rcases lt3 hk with rfl | rfl | rfl
  · exact (hbb 0).2 h.1
  · exact (hbb 1).2 h.2.1
  · exact (hbb 2).2 h.2.2
end Go.Proofs.Ytciehimnhnbipaa
