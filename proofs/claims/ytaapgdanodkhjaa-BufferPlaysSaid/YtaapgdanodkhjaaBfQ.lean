/- buffer: the contracts among other resources; the law's helpers. -/
import Derived.Test.YtaapgdanodkhjaaBfO
import Derived.Test.YtaapgdanodkhjaaEv
namespace Go.Proofs.Ytaapgdanodkhjaa
open Go.RowKit Go.Lib
set_option linter.unusedVariables false
set_option maxHeartbeats 2000000
section
variable {F : Nat → Prop} {w₀ w w' : World} {L : List Res} {b : Nat} {a : Option Addr} {cap : Nat}
theorem Sat.bfTo {X X' : BfX} (S : Sat F w₀ w (bfR b a cap X :: L)) (h : BfTo b a cap X X' w w') : ∃ a' cap', Sat F w₀ w' (bfR b a' cap' X' :: L) := by
  obtain ⟨a', cap', h1, h2, h3⟩ := h
  exact ⟨a', cap', S.swap (r := bfR b a cap X) (r' := bfR b a' cap' X') rfl h2 h1 rfl h3⟩
/-- Levels of a buffer, one behind the other. -/
abbrev BfB := List LvM
def putB (B : BfB) (v x : Int) : BfB := B.dropLast ++ [putM (B.getLast?.getD []) v x]
def mergeB (B : BfB) : BfB := if B.length < 2 then B else B.dropLast.dropLast ++ [putAll (B.dropLast.getLast?.getD []) (B.getLast?.getD [])]
def dropB (B : BfB) : BfB := if B.length < 2 then B else B.dropLast
def stE (B : BfB) : Int := if B.length < 2 then 7 else 0
theorem putB_snoc (B : BfB) (M : LvM) (v x : Int) : putB (B ++ [M]) v x = B ++ [putM M v x] := by simp [putB]
theorem mergeB_snoc (B : BfB) (M N : LvM) : mergeB ((B ++ [M]) ++ [N]) = B ++ [putAll M N] := by simp [mergeB]
theorem dropB_snoc (B : BfB) (M : LvM) (h : 0 < B.length) : dropB (B ++ [M]) = B := by
  unfold dropB
  rw [if_neg (by simp; omega)]
  simp
theorem snoc_of {α : Type} {l : List α} (h : l ≠ []) : ∃ p x, l = p ++ [x] := ⟨l.dropLast, l.getLast h, (List.dropLast_concat_getLast h).symm⟩
def bOf (X : BfX) : BfB := X.map (·.2)
theorem bOf_snoc (X : BfX) (m : Nat) (M : LvM) : bOf (X ++ [(m, M)]) = bOf X ++ [M] := by simp [bOf]
theorem bOf_len (X : BfX) : (bOf X).length = X.length := by simp [bOf]
theorem bOf_srt {X : BfX} (h : (bfR b a cap X).holds w) : ∀ M ∈ bOf X, SrtM M := by
  intro M hM
  obtain ⟨p, hp, rfl⟩ := List.mem_map.1 hM
  obtain ⟨es, clock, _, hE⟩ := (h.1.2.2.1 p hp).ents
  exact hE.sorted
theorem Sat.bput {X : BfX} (S : Sat F w₀ w (bfR b a cap X :: L)) (hx : X ≠ []) (hn : X.length ≤ 10000) (v x : Int) :
    Calls Try.prog 20 #[.pointer (some ⟨b, 0, none⟩), .int .i64 v, .int .i64 x] w fun e w' => e = .returned (.int .i64 0) ∧ ∃ a' cap' X', X' ≠ [] ∧ bOf X' = putB (bOf X) v x ∧ Sat F w₀ w' (bfR b a' cap' X' :: L) := by
  obtain ⟨Y, ⟨m, M⟩, rfl⟩ := snoc_of hx
  rw [List.length_append] at hn
  refine (bfput_at S.got1 (by omega) v x).mono ?_
  rintro e w' ⟨rfl, h⟩
  obtain ⟨a', cap', S'⟩ := S.bfTo h
  exact ⟨rfl, a', cap', _, by simp, by rw [bOf_snoc, bOf_snoc, putB_snoc], S'⟩
theorem Sat.bpush {X : BfX} (S : Sat F w₀ w (bfR b a cap X :: L)) (hn : X.length ≤ 10000) :
    Calls Try.prog 14 #[.pointer (some ⟨b, 0, none⟩)] w fun e w' => e = .returned (.int .i64 0) ∧ ∃ a' cap' X', X' ≠ [] ∧ bOf X' = bOf X ++ [[]] ∧ Sat F w₀ w' (bfR b a' cap' X' :: L) := by
  refine (bfpush_at S.got1 (by omega)).mono ?_
  rintro e w' ⟨rfl, m, h⟩
  obtain ⟨a', cap', S'⟩ := S.bfTo h
  exact ⟨rfl, a', cap', _, by simp, by rw [bOf_snoc], S'⟩
theorem bfdrop1_at {X : BfX} (h : (bfR b a cap X).holds w) (hx : X.length < 2) :
    Calls Try.prog 15 #[.pointer (some ⟨b, 0, none⟩)] w fun e w' => e = .returned (.int .i64 7) ∧ Below w.heap.size w w' := by
  have S := Sat.reads h
  refine enter1 Try.func15 rfl Try.ntmps15 rfl Try.results15 ?_
  repeat' (first | refine assign_i_l S rfl rfl ?_ | refine move_p_l S rfl rfl ?_ | refine move_e_l S rfl rfl ?_ | refine nilL ?_ | refine run_seq ?_ | refine run_skip ?_ | refine run_region ?_ | refine extract_i_l S rfl rfl rfl ?_ | refine move_i_l S rfl rfl ?_ | refine move_o_l S rfl rfl ?_ | refine extract_o_l S rfl rfl rfl ?_ | refine assign_o_l S rfl rfl ?_ | refine run_block ?_ | refine run_ret ?_ | refine run_exit ?_ | refine run_cond_true rfl ?_ | refine run_cond_false rfl ?_ | refine thenQ_n ?_ | refine thenQ_r ?_ | refine thenQ_e ?_ | refine blockQ_n ?_ | refine blockQ_r ?_ | refine blockQ_s rfl ?_ | refine blockQ_o rfl ?_ | refine ret1_i rfl ?_ | refine ret1_b rfl ?_ | refine ret1_p rfl ?_ | refine ret1_s rfl ?_ | refine ret1_e rfl ?_ | refine ret1_a rfl ?_ | refine ret1_o rfl ?_ | refine ret1n_i rfl ?_ | refine ret1n_b rfl ?_ | refine ret1n_p rfl ?_ | refine ret1n_s rfl ?_ | refine ret1n_o rfl ?_)
  refine callL (bfpop1_at h hx) rfl rfl ?_
  rintro e w ⟨rfl, hb⟩
  replace S := S.below hb
  refine ⟨_, rfl, ?_⟩
  repeat' (first | refine assign_i_l S rfl rfl ?_ | refine move_p_l S rfl rfl ?_ | refine move_e_l S rfl rfl ?_ | refine nilL ?_ | refine run_seq ?_ | refine run_skip ?_ | refine run_region ?_ | refine extract_i_l S rfl rfl rfl ?_ | refine move_i_l S rfl rfl ?_ | refine move_o_l S rfl rfl ?_ | refine extract_o_l S rfl rfl rfl ?_ | refine assign_o_l S rfl rfl ?_ | refine run_block ?_ | refine run_ret ?_ | refine run_exit ?_ | refine run_cond_true rfl ?_ | refine run_cond_false rfl ?_ | refine thenQ_n ?_ | refine thenQ_r ?_ | refine thenQ_e ?_ | refine blockQ_n ?_ | refine blockQ_r ?_ | refine blockQ_s rfl ?_ | refine blockQ_o rfl ?_ | refine ret1_i rfl ?_ | refine ret1_b rfl ?_ | refine ret1_p rfl ?_ | refine ret1_s rfl ?_ | refine ret1_e rfl ?_ | refine ret1_a rfl ?_ | refine ret1_o rfl ?_ | refine ret1n_i rfl ?_ | refine ret1n_b rfl ?_ | refine ret1n_p rfl ?_ | refine ret1n_s rfl ?_ | refine ret1n_o rfl ?_)
  exact ⟨rfl, S.chg.below⟩
theorem bfmerge1_at {X : BfX} (h : (bfR b a cap X).holds w) (hx : X.length < 2) :
    Calls Try.prog 24 #[.pointer (some ⟨b, 0, none⟩)] w fun e w' => e = .returned (.int .i64 7) ∧ Below w.heap.size w w' := by
  have S := Sat.reads h
  refine enter1 Try.func24 rfl Try.ntmps24 rfl Try.results24 ?_
  repeat' (first | refine assign_i_l S rfl rfl ?_ | refine move_i_l S rfl rfl ?_ | refine move_p_l S rfl rfl ?_ | refine nilL ?_ | refine run_seq ?_ | refine run_skip ?_ | refine run_region ?_ | refine move_e_l S rfl rfl ?_ | refine extract_i_l S rfl rfl rfl ?_ | (refine eql_l S rfl rfl rfl ?_ ?_ <;> intro hcmp <;> try (exfalso; first | omega | exact hcmp (by decide) | exact absurd hcmp (by decide))) | refine move_o_l S rfl rfl ?_ | refine extract_o_l S rfl rfl rfl ?_ | refine assign_o_l S rfl rfl ?_ | refine run_block ?_ | refine run_ret ?_ | refine run_exit ?_ | refine run_cond_true rfl ?_ | refine run_cond_false rfl ?_ | refine thenQ_n ?_ | refine thenQ_r ?_ | refine thenQ_e ?_ | refine blockQ_n ?_ | refine blockQ_r ?_ | refine blockQ_s rfl ?_ | refine blockQ_o rfl ?_ | refine ret1_i rfl ?_ | refine ret1_b rfl ?_ | refine ret1_p rfl ?_ | refine ret1_s rfl ?_ | refine ret1_e rfl ?_ | refine ret1_a rfl ?_ | refine ret1_o rfl ?_ | refine ret1n_i rfl ?_ | refine ret1n_b rfl ?_ | refine ret1n_p rfl ?_ | refine ret1n_s rfl ?_ | refine ret1n_o rfl ?_)
  refine callL (bfpop1_at h hx) rfl rfl ?_
  rintro e w ⟨rfl, hb⟩
  replace S := S.below hb
  refine ⟨_, rfl, ?_⟩
  repeat' (first | refine assign_i_l S rfl rfl ?_ | refine move_i_l S rfl rfl ?_ | refine move_p_l S rfl rfl ?_ | refine nilL ?_ | refine run_seq ?_ | refine run_skip ?_ | refine run_region ?_ | refine move_e_l S rfl rfl ?_ | refine extract_i_l S rfl rfl rfl ?_ | (refine eql_l S rfl rfl rfl ?_ ?_ <;> intro hcmp <;> try (exfalso; first | omega | exact hcmp (by decide) | exact absurd hcmp (by decide))) | refine move_o_l S rfl rfl ?_ | refine extract_o_l S rfl rfl rfl ?_ | refine assign_o_l S rfl rfl ?_ | refine run_block ?_ | refine run_ret ?_ | refine run_exit ?_ | refine run_cond_true rfl ?_ | refine run_cond_false rfl ?_ | refine thenQ_n ?_ | refine thenQ_r ?_ | refine thenQ_e ?_ | refine blockQ_n ?_ | refine blockQ_r ?_ | refine blockQ_s rfl ?_ | refine blockQ_o rfl ?_ | refine ret1_i rfl ?_ | refine ret1_b rfl ?_ | refine ret1_p rfl ?_ | refine ret1_s rfl ?_ | refine ret1_e rfl ?_ | refine ret1_a rfl ?_ | refine ret1_o rfl ?_ | refine ret1n_i rfl ?_ | refine ret1n_b rfl ?_ | refine ret1n_p rfl ?_ | refine ret1n_s rfl ?_ | refine ret1n_o rfl ?_)
  exact ⟨rfl, S.chg.below⟩
theorem Sat.bdrop {X : BfX} (S : Sat F w₀ w (bfR b a cap X :: L)) (hx : X ≠ []) (hn : X.length ≤ 10000) :
    Calls Try.prog 15 #[.pointer (some ⟨b, 0, none⟩)] w fun e w' => e = .returned (.int .i64 (stE (bOf X))) ∧ ∃ a' cap' X', X' ≠ [] ∧ bOf X' = dropB (bOf X) ∧ Sat F w₀ w' (bfR b a' cap' X' :: L) := by
  by_cases h2 : X.length < 2
  · refine (bfdrop1_at S.got1 h2).mono ?_
    rintro e w' ⟨rfl, h⟩
    exact ⟨by rw [stE, bOf_len, if_pos h2], a, cap, X, hx, by rw [dropB, bOf_len, if_pos h2], S.below h⟩
  · obtain ⟨Y, ⟨m, M⟩, rfl⟩ := snoc_of hx
    have hl : (Y ++ [(m, M)]).length = Y.length + 1 := by simp
    refine (bfdrop_at S.got1 (by omega) (by omega)).mono ?_
    rintro e w' ⟨rfl, h⟩
    obtain ⟨a', cap', S'⟩ := S.bfTo h
    exact ⟨by rw [stE, bOf_len, if_neg h2], a', cap', Y, fun e => by rw [e] at h2; exact h2 (by simp), by rw [bOf_snoc, dropB_snoc _ _ (by rw [bOf_len]; omega)], S'⟩
theorem Sat.bmerge {X : BfX} (S : Sat F w₀ w (bfR b a cap X :: L)) (hx : X ≠ []) (hn : X.length ≤ 10000) :
    Calls Try.prog 24 #[.pointer (some ⟨b, 0, none⟩)] w fun e w' => e = .returned (.int .i64 (stE (bOf X))) ∧ ∃ a' cap' X', X' ≠ [] ∧ bOf X' = mergeB (bOf X) ∧ Sat F w₀ w' (bfR b a' cap' X' :: L) := by
  by_cases h2 : X.length < 2
  · refine (bfmerge1_at S.got1 h2).mono ?_
    rintro e w' ⟨rfl, h⟩
    exact ⟨by rw [stE, bOf_len, if_pos h2], a, cap, X, hx, by rw [mergeB, bOf_len, if_pos h2], S.below h⟩
  · obtain ⟨Y, ⟨m, M⟩, rfl⟩ := snoc_of hx
    have hl : (Y ++ [(m, M)]).length = Y.length + 1 := by simp
    obtain ⟨Z, ⟨m1, M1⟩, rfl⟩ := snoc_of (show Y ≠ [] from fun e => by rw [e] at h2; exact h2 (by simp))
    have hl2 : (Z ++ [(m1, M1)]).length = Z.length + 1 := by simp
    have hs := bOf_srt (w := w) (X := (Z ++ [(m1, M1)]) ++ [(m, M)]) S.got1
    refine (bfmerge_at S.got1 (by omega)).mono ?_
    rintro e w' ⟨rfl, l, hp, h⟩
    obtain ⟨a', cap', S'⟩ := S.bfTo h
    refine ⟨by rw [stE, bOf_len, if_neg h2], a', cap', _, by simp, ?_, S'⟩
    rw [bOf_snoc, bOf_snoc, bOf_snoc, mergeB_snoc, putAll_perm (hs M1 (by simp [bOf])) (hs M (by simp [bOf])) hp]
theorem Sat.bget {X : BfX} (S : Sat F w₀ w (bfR b a cap X :: L)) (hn : X.length ≤ 10000) (v : Int) :
    Calls Try.prog 11 #[.pointer (some ⟨b, 0, none⟩), .int .i64 v] w fun e w' => e = .returned (.tuple #[.int .i64 ((getB (bOf X) v).getD 0), .bool (getB (bOf X) v).isSome]) ∧ Sat F w₀ w' (bfR b a cap X :: L) := by
  have e : getX X v = getB (bOf X) v := by
    unfold getX getB bOf
    rw [← List.map_reverse]
    induction X.reverse with
    | nil => rfl
    | cons p l ih => rw [List.findSome?_cons, List.map_cons, List.findSome?_cons, ih]
  refine (bfget_at S.got1 (by omega) v).mono ?_
  rintro e' w' ⟨rfl, h⟩
  rw [getV, e]
  exact ⟨rfl, S.below h⟩
theorem Sat.ball {X : BfX} (S : Sat F w₀ w (bfR b a cap X :: L)) (hn : X.length ≤ 10000) (hall : (allB (bOf X)).length ≤ 100000) :
    Calls Try.prog 12 #[.pointer (some ⟨b, 0, none⟩)] w fun e w' => ∃ ra rcap, e = .returned (.slice ra (allB (bOf X)).length rcap) ∧ Sat F w₀ w' (rowL ra rcap 35 2 encQ (0, 0) (allB (bOf X)) :: bfR b a cap X :: L) := by
  refine (bfall_at S.got1 (by omega) hall).mono ?_
  rintro e w' ⟨v, rfl, ⟨ra, rcap, rfl, h1, h2⟩, hb⟩
  exact ⟨ra, rcap, rfl, Sat.freshRow S hb h1 h2⟩
theorem Sat.bdepth {X : BfX} (S : Sat F w₀ w (bfR b a cap X :: L)) :
    Calls Try.prog 13 #[.pointer (some ⟨b, 0, none⟩)] w fun e w' => e = .returned (.int .i64 (bOf X).length) ∧ Sat F w₀ w' (bfR b a cap X :: L) := by
  refine (depth_at S.got1).mono ?_
  rintro e w' ⟨rfl, h⟩
  rw [bOf_len]
  exact ⟨rfl, S.below h⟩
theorem Sat.bcopy {X : BfX} (S : Sat F w₀ w (bfR b a cap X :: L)) (hn : X.length ≤ 10000) :
    Calls Try.prog 18 #[.pointer (some ⟨b, 0, none⟩)] w fun e w' => ∃ b2 a2 cap2 Z, e = .returned (.pointer (some ⟨b2, 0, none⟩)) ∧ bOf Z = bOf X ∧ Sat F w₀ w' (bfR b2 a2 cap2 Z :: bfR b a cap X :: L) := by
  refine (bfcopy_at S.got1 (by omega)).mono ?_
  rintro e w' ⟨b2, a2, cap2, Z, rfl, h1, h2, h3, hb⟩
  exact ⟨b2, a2, cap2, Z, rfl, h3, S.fresh hb h1 h2⟩
theorem Sat.bnew (S : Sat F w₀ w L) :
    Calls Try.prog 9 #[] w fun e w' => ∃ b a cap X, e = .returned (.pointer (some ⟨b, 0, none⟩)) ∧ X ≠ [] ∧ bOf X = [[]] ∧ Sat F w₀ w' (bfR b a cap X :: L) := by
  refine (bfnew_at w).mono ?_
  rintro e w' ⟨b, a, cap, m, rfl, h1, h2, hb⟩
  exact ⟨b, a, cap, _, rfl, by simp, rfl, S.fresh hb h1 h2⟩
end
theorem pairs_at {a a2 : Option Addr} {cap cap2 : Nat} {l l2 : LvM} {w0 : World} (h : SlOk w0 a l.length cap 2 (gL encQ (0, 0) l)) (h2 : SlOk w0 a2 l2.length cap2 2 (gL encQ (0, 0) l2)) :
    Calls Try.prog 16 #[.slice a l.length cap, .slice a2 l2.length cap2] w0 fun e w' => e = .returned (.bool (decide (l = l2))) ∧ Below w0.heap.size w0 w' := by
  have S : Sat (fun _ => False) w0 w0 [roR (slL a cap 2 encQ (0, 0) l), roR (slL a2 cap2 2 encQ (0, 0) l2)] := ((Sat.start _ w0).ro (r := roR (slL a2 cap2 2 encQ (0, 0) l2)) h2 rfl rfl).ro (r := roR (slL a cap 2 encQ (0, 0) l)) h rfl rfl
  refine enter1 Try.func16 rfl Try.ntmps16 rfl Try.results16 ?_
  repeat' (first | refine assign_b_l S rfl rfl ?_ | refine move_s_l S rfl rfl ?_ | refine len_l S rfl rfl ?_ | refine nilL ?_ | refine run_seq ?_ | refine run_skip ?_ | refine run_region ?_ | refine assign_i_l S rfl rfl ?_ | refine move_i_l S rfl rfl ?_ | (refine neq_l S rfl rfl rfl ?_ ?_ <;> intro hcmp <;> try (exfalso; first | omega | exact hcmp (by decide) | exact absurd hcmp (by decide))) | (refine lss_l S rfl rfl rfl ?_ ?_ <;> intro hcmp <;> try (exfalso; first | omega | exact hcmp (by decide) | exact absurd hcmp (by decide))) | refine add_l S rfl rfl (wrap_in (by omega)) rfl ?_ | refine add_l S rfl rfl rfl rfl ?_ | refine run_block ?_ | refine run_ret ?_ | refine run_exit ?_ | refine run_cond_true rfl ?_ | refine run_cond_false rfl ?_ | refine thenQ_n ?_ | refine thenQ_r ?_ | refine thenQ_e ?_ | refine blockQ_n ?_ | refine blockQ_r ?_ | refine blockQ_s rfl ?_ | refine blockQ_o rfl ?_ | (refine run_draws S mixed ?_ ?_; · kernel_rfl) | (refine nilQ ?_; clear S; intro w S) | refine move_s_q rfl rfl ?_ | refine move_i_q rfl rfl ?_ | refine indexAddr_q rfl rfl (idx_cast _) (by first | omega | decide | (simp; done) | (simp; omega)) rfl ?_ | refine indexAddr_q rfl rfl (idx_eq _) (by first | omega | decide | (simp; done) | (simp; omega)) rfl ?_ | refine loadN_q rfl rfl rfl ?_ | refine loadEN_q rfl (by first | omega | decide | (simp; done) | (simp; omega)) rfl rfl ?_ | (refine neqA2_q rfl rfl rfl ?_ ?_ <;> intro hcmp <;> try (exfalso; first | omega | exact hcmp (by decide) | exact absurd hcmp (by decide))) | refine ret1_i rfl ?_ | refine ret1_b rfl ?_ | refine ret1_p rfl ?_ | refine ret1_s rfl ?_ | refine ret1_e rfl ?_ | refine ret1_a rfl ?_ | refine ret1_o rfl ?_ | refine ret1n_i rfl ?_ | refine ret1n_b rfl ?_ | refine ret1n_p rfl ?_ | refine ret1n_s rfl ?_ | refine ret1n_o rfl ?_)
  · exact ⟨by rw [decide_eq_false (fun e => hcmp (by rw [e]))], S.chg.below⟩
  have hll : l.length = l2.length := by omega
  have hsm := h.small
  refine run_while [4, 11, 12, 13, 14, 15, 16, 17, 18, 19, 20, 21, 22, 23, 24, 25] (fun (k : Nat) t => upd t 5 (.int .i64 k)) (fun k w' => (k ≤ l.length ∧ l.take k = l2.take k) ∧ Sat (fun _ => False) w0 w' [roR (slL a cap 2 encQ (0, 0) l), roR (slL a2 cap2 2 encQ (0, 0) l2)]) (fun k => l.length - k) 0 ?_ ?_ ?_
  · (repeat (first | exact agree_refl | refine agree_r rfl ?_ | refine agree_l rfl ?_ | refine agree_hv rfl ?_))
  · exact ⟨⟨Nat.zero_le _, rfl⟩, S⟩
  clear S
  rintro k j w ⟨⟨hk, he⟩, S⟩
  by_cases hkl : k < l.length
  · have e1 : ∀ m : LvM, k < m.length → m.take (k + 1) = m.take k ++ [m.getD k (0, 0)] := fun m hm => by
      rw [List.take_add_one, List.getD_eq_getElem?_getD, List.getElem?_eq_getElem hm]; rfl
    repeat' (first | refine assign_b_l S rfl rfl ?_ | refine move_s_l S rfl rfl ?_ | refine len_l S rfl rfl ?_ | refine nilL ?_ | refine run_seq ?_ | refine run_skip ?_ | refine run_region (id := 0) ?_ | refine run_region (id := 1) ?_ | refine run_region (id := 2) ?_ | refine run_region (id := 3) ?_ | refine run_region (id := 4) ?_ | refine run_region (id := 5) ?_ | refine run_region (id := 7) ?_ | refine run_region (id := 8) ?_ | refine assign_i_l S rfl rfl ?_ | refine move_i_l S rfl rfl ?_ | (refine neq_l S rfl rfl rfl ?_ ?_ <;> intro hcmp <;> try (exfalso; first | omega | exact hcmp (by decide) | exact absurd hcmp (by decide))) | (refine lss_l S rfl rfl rfl ?_ ?_ <;> intro hcmp <;> try (exfalso; first | omega | exact hcmp (by decide) | exact absurd hcmp (by decide))) | refine add_l S rfl rfl (wrap_in (by omega)) rfl ?_ | refine add_l S rfl rfl rfl rfl ?_ | refine run_block ?_ | refine run_ret ?_ | refine run_exit ?_ | refine run_cond_true rfl ?_ | refine run_cond_false rfl ?_ | refine thenQ_n ?_ | refine thenQ_r ?_ | refine thenQ_e ?_ | refine blockQ_n ?_ | refine blockQ_r ?_ | refine blockQ_s rfl ?_ | refine blockQ_o rfl ?_ | refine ret1_i rfl ?_ | refine ret1_b rfl ?_ | refine ret1_p rfl ?_ | refine ret1_s rfl ?_ | refine ret1_e rfl ?_ | refine ret1_a rfl ?_ | refine ret1_o rfl ?_ | refine ret1n_i rfl ?_ | refine ret1n_b rfl ?_ | refine ret1n_p rfl ?_ | refine ret1n_s rfl ?_ | refine ret1n_o rfl ?_)
    refine run_any S (L' := [roR (slL a cap 2 encQ (0, 0) l), roR (slL a2 cap2 2 encQ (0, 0) l2)]) (f := 9) mixed rfl ?_
    clear S
    intro w S1
    have S : Sat _ _ w [roR (slL a cap 2 encQ (0, 0) l), roR (slL a2 cap2 2 encQ (0, 0) l2)] := S1.sub
    all_goals (refine any_pure (i := 0) rfl (by kernel_rfl) S ?_; refine move_s_x rfl rfl ?_)
    all_goals (refine any_pure (i := 1) rfl (by kernel_rfl) S ?_; refine move_i_x rfl rfl ?_)
    all_goals (refine any_pure (i := 2) rfl (by kernel_rfl) S ?_; (first | refine indexAddr_x rfl rfl (idx_cast _) (by first | omega | decide | (simp; done) | (simp; omega)) rfl ?_ | refine indexAddr_x rfl rfl (idx_eq _) (by first | omega | decide | (simp; done) | (simp; omega)) rfl ?_))
    all_goals (refine any_pure (i := 3) rfl (by kernel_rfl) S ?_; (first | refine loadN_x rfl rfl rfl ?_ | refine loadEN_x rfl (by first | omega | decide | (simp; done) | (simp; omega)) rfl rfl ?_))
    all_goals (refine any_pure (i := 4) rfl (by kernel_rfl) S ?_; refine move_s_x rfl rfl ?_)
    all_goals (refine any_pure (i := 5) rfl (by kernel_rfl) S ?_; refine move_i_x rfl rfl ?_)
    all_goals (refine any_pure (i := 6) rfl (by kernel_rfl) S ?_; (first | refine indexAddr_x rfl rfl (idx_cast _) (by first | omega | decide | (simp; done) | (simp; omega)) rfl ?_ | refine indexAddr_x rfl rfl (idx_eq _) (by first | omega | decide | (simp; done) | (simp; omega)) rfl ?_))
    all_goals (refine any_pure (i := 7) rfl (by kernel_rfl) S ?_; (first | refine loadN_x rfl rfl rfl ?_ | refine loadEN_x rfl (by first | omega | decide | (simp; done) | (simp; omega)) rfl rfl ?_))
    all_goals (refine any_pure (i := 8) rfl (by kernel_rfl) S ?_; refine neqAI_x [(l.getD k (0, 0)).1, (l.getD k (0, 0)).2] [(l2.getD k (0, 0)).1, (l2.getD k (0, 0)).2] rfl rfl rfl rfl rfl ?_)
    all_goals refine any_end (by kernel_rfl) ?_
    replace S := S1
    by_cases hq : l.getD k (0, 0) = l2.getD k (0, 0)
    · rw [show decide ([(l.getD k (0, 0)).1, (l.getD k (0, 0)).2] ≠ [(l2.getD k (0, 0)).1, (l2.getD k (0, 0)).2]) = false from by rw [hq]; simp]
      repeat' (first | refine assign_b_l S rfl rfl ?_ | refine move_s_l S rfl rfl ?_ | refine len_l S rfl rfl ?_ | refine nilL ?_ | refine run_seq ?_ | refine run_skip ?_ | refine run_region (id := 0) ?_ | refine run_region (id := 1) ?_ | refine run_region (id := 2) ?_ | refine run_region (id := 3) ?_ | refine run_region (id := 4) ?_ | refine run_region (id := 5) ?_ | refine run_region (id := 7) ?_ | refine run_region (id := 8) ?_ | refine assign_i_l S rfl rfl ?_ | refine move_i_l S rfl rfl ?_ | (refine neq_l S rfl rfl rfl ?_ ?_ <;> intro hcmp <;> try (exfalso; first | omega | exact hcmp (by decide) | exact absurd hcmp (by decide))) | (refine lss_l S rfl rfl rfl ?_ ?_ <;> intro hcmp <;> try (exfalso; first | omega | exact hcmp (by decide) | exact absurd hcmp (by decide))) | refine add_l S rfl rfl (wrap_in (by omega)) rfl ?_ | refine add_l S rfl rfl rfl rfl ?_ | refine run_block ?_ | refine run_ret ?_ | refine run_exit ?_ | refine run_cond_true rfl ?_ | refine run_cond_false rfl ?_ | refine thenQ_n ?_ | refine thenQ_r ?_ | refine thenQ_e ?_ | refine blockQ_n ?_ | refine blockQ_r ?_ | refine blockQ_s rfl ?_ | refine blockQ_o rfl ?_ | refine ret1_i rfl ?_ | refine ret1_b rfl ?_ | refine ret1_p rfl ?_ | refine ret1_s rfl ?_ | refine ret1_e rfl ?_ | refine ret1_a rfl ?_ | refine ret1_o rfl ?_ | refine ret1n_i rfl ?_ | refine ret1n_b rfl ?_ | refine ret1n_p rfl ?_ | refine ret1n_s rfl ?_ | refine ret1n_o rfl ?_)
      refine ⟨k + 1, ?_, ⟨⟨hkl, ?_⟩, S⟩, by omega⟩
      · rw [Int.natCast_add]
        (repeat (first | exact agree_refl | refine agree_r rfl ?_ | refine agree_l rfl ?_ | refine agree_hv rfl ?_))
      · rw [e1 l hkl, e1 l2 (by omega), he, hq]
    · rw [show decide ([(l.getD k (0, 0)).1, (l.getD k (0, 0)).2] ≠ [(l2.getD k (0, 0)).1, (l2.getD k (0, 0)).2]) = true from decide_eq_true fun e => hq (by
        simp only [List.cons.injEq, and_true] at e
        exact Prod.ext e.1 e.2)]
      repeat' (first | refine assign_b_l S rfl rfl ?_ | refine move_s_l S rfl rfl ?_ | refine len_l S rfl rfl ?_ | refine nilL ?_ | refine run_seq ?_ | refine run_skip ?_ | refine run_region (id := 0) ?_ | refine run_region (id := 1) ?_ | refine run_region (id := 2) ?_ | refine run_region (id := 3) ?_ | refine run_region (id := 4) ?_ | refine run_region (id := 5) ?_ | refine run_region (id := 7) ?_ | refine run_region (id := 8) ?_ | refine assign_i_l S rfl rfl ?_ | refine move_i_l S rfl rfl ?_ | (refine neq_l S rfl rfl rfl ?_ ?_ <;> intro hcmp <;> try (exfalso; first | omega | exact hcmp (by decide) | exact absurd hcmp (by decide))) | (refine lss_l S rfl rfl rfl ?_ ?_ <;> intro hcmp <;> try (exfalso; first | omega | exact hcmp (by decide) | exact absurd hcmp (by decide))) | refine add_l S rfl rfl (wrap_in (by omega)) rfl ?_ | refine add_l S rfl rfl rfl rfl ?_ | refine run_block ?_ | refine run_ret ?_ | refine run_exit ?_ | refine run_cond_true rfl ?_ | refine run_cond_false rfl ?_ | refine thenQ_n ?_ | refine thenQ_r ?_ | refine thenQ_e ?_ | refine blockQ_n ?_ | refine blockQ_r ?_ | refine blockQ_s rfl ?_ | refine blockQ_o rfl ?_ | refine ret1_i rfl ?_ | refine ret1_b rfl ?_ | refine ret1_p rfl ?_ | refine ret1_s rfl ?_ | refine ret1_e rfl ?_ | refine ret1_a rfl ?_ | refine ret1_o rfl ?_ | refine ret1n_i rfl ?_ | refine ret1n_b rfl ?_ | refine ret1n_p rfl ?_ | refine ret1n_s rfl ?_ | refine ret1n_o rfl ?_)
      refine ⟨?_, S.chg.below⟩
      rw [decide_eq_false (fun e => hq (by rw [e]))]
  · repeat' (first | refine assign_b_l S rfl rfl ?_ | refine move_s_l S rfl rfl ?_ | refine len_l S rfl rfl ?_ | refine nilL ?_ | refine run_seq ?_ | refine run_skip ?_ | refine run_region (id := 0) ?_ | refine run_region (id := 1) ?_ | refine run_region (id := 2) ?_ | refine run_region (id := 3) ?_ | refine run_region (id := 4) ?_ | refine run_region (id := 5) ?_ | refine run_region (id := 7) ?_ | refine run_region (id := 8) ?_ | refine assign_i_l S rfl rfl ?_ | refine move_i_l S rfl rfl ?_ | (refine neq_l S rfl rfl rfl ?_ ?_ <;> intro hcmp <;> try (exfalso; first | omega | exact hcmp (by decide) | exact absurd hcmp (by decide))) | (refine lss_l S rfl rfl rfl ?_ ?_ <;> intro hcmp <;> try (exfalso; first | omega | exact hcmp (by decide) | exact absurd hcmp (by decide))) | refine add_l S rfl rfl (wrap_in (by omega)) rfl ?_ | refine add_l S rfl rfl rfl rfl ?_ | refine run_block ?_ | refine run_ret ?_ | refine run_exit ?_ | refine run_cond_true rfl ?_ | refine run_cond_false rfl ?_ | refine thenQ_n ?_ | refine thenQ_r ?_ | refine thenQ_e ?_ | refine blockQ_n ?_ | refine blockQ_r ?_ | refine blockQ_s rfl ?_ | refine blockQ_o rfl ?_ | refine ret1_i rfl ?_ | refine ret1_b rfl ?_ | refine ret1_p rfl ?_ | refine ret1_s rfl ?_ | refine ret1_e rfl ?_ | refine ret1_a rfl ?_ | refine ret1_o rfl ?_ | refine ret1n_i rfl ?_ | refine ret1n_b rfl ?_ | refine ret1n_p rfl ?_ | refine ret1n_s rfl ?_ | refine ret1n_o rfl ?_)
    obtain rfl : k = l.length := by omega
    rw [List.take_length, hll, List.take_length] at he
    exact ⟨by rw [decide_eq_true he], S.chg.below⟩
end Go.Proofs.Ytaapgdanodkhjaa
