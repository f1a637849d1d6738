/- verify: the plain law of orders without one. -/
import Derived.Test.YtciehimnhnbipaaVfI
namespace Go.Proofs.Ytciehimnhnbipaa
open Go.RowKit Go.Lib
set_option linter.unusedVariables false
set_option linter.unusedSimpArgs false
set_option maxHeartbeats 16000000
set_option maxRecDepth 100000
theorem vord_sub {init : List Int} : ∀ {s z z' : List AtS}, (∀ b ∈ z', b ∈ z) → memA init z' = memA init z → VOrd init z' → VOrd init (z ++ s) → VOrd init (z' ++ s)
  | [], z, z', hp, hm, h', h => by rw [List.append_nil]; exact h'
  | u :: s, z, z', hp, hm, h', h => by
    have e : ∀ y : List AtS, y ++ u :: s = (y ++ [u]) ++ s := fun y => by simp
    rw [e] at h ⊢
    refine vord_sub (fun b hb => ?_) ?_ ?_ h
    · rcases List.mem_append.1 hb with hb | hb
      · exact List.mem_append.2 (.inl (hp b hb))
      · exact List.mem_append.2 (.inr hb)
    · unfold memA at hm ⊢
      rw [List.foldl_append, List.foldl_append, hm]
    · obtain ⟨h1, h2, h3, h4⟩ := vord_snoc.1 (vord_pre h)
      exact vord_snoc.2 ⟨h', fun b hb => h2 b (hp b hb), fun hw b hb => h3 hw b (hp b hb), by rw [hm]; exact h4⟩
theorem vord_del {init : List Int} {p s : List AtS} {a : AtS} (hs : a.ws = []) (h : VOrd init (p ++ a :: s)) : VOrd init (p ++ s) := by
  have e : p ++ a :: s = (p ++ [a]) ++ s := by simp
  rw [e] at h
  refine vord_sub (fun b hb => by simp [hb]) ?_ (vord_pre (vord_pre h)) h
  unfold memA
  rw [List.foldl_append, List.foldl_cons, hs]
  rfl
/-- A place, where one is left out. -/
def dropI (k : Nat) (u : Int) : Int := if u < k then u else u - 1
def dropO (o : List Int) (k : Nat) : List Int := (o.filter fun u : Int => decide (u ≠ (k : Int))).map (dropI k)
def lessL (l : List AtS) (k : Nat) : List AtS := l.take k ++ l.drop (k + 1)
theorem lessL_len {l : List AtS} {k : Nat} (hk : k < l.length) : (lessL l k).length = l.length - 1 := by
  unfold lessL
  rw [List.length_append, List.length_take, List.length_drop]
  omega
theorem lessL_split {l : List AtS} {k : Nat} (hk : k < l.length) : l = l.take k ++ l.getD k atD :: l.drop (k + 1) := by
  have e : l.getD k atD = l[k] := by rw [List.getD_eq_getElem?_getD, List.getElem?_eq_getElem hk]; rfl
  rw [e, ← List.drop_eq_getElem_cons hk, List.take_append_drop]
theorem lessL_at {l : List AtS} {k : Nat} (hk : k < l.length) {u : Int} (h0 : 0 ≤ u) (h1 : u < l.length) (hu : u ≠ k) : atI (lessL l k) (dropI k u) = atI l u := by
  have htl : (l.take k).length = k := by rw [List.length_take]; omega
  unfold lessL dropI atI
  rw [List.getD_eq_getElem?_getD, List.getD_eq_getElem?_getD]
  by_cases e : u < k
  · rw [if_pos e, List.getElem?_append_left (by omega), List.getElem?_take, if_pos (by omega)]
  · rw [if_neg e, List.getElem?_append_right (by omega), htl, List.getElem?_drop]
    congr 2
    omega
theorem valid_drop {n : Nat} {init : List Int} {l : List AtS} {o : List Int} {k : Nat} (hM : MayP n l) (hk : k < l.length) (hv : ValidO init l o) (hw : ¬ 0 < (l.getD k atD).wv) : ValidO init (lessL l k) (dropO o k) := by
  have hin : (k : Int) ∈ o := hv.1.mem_iff.2 (by unfold plL; exact List.mem_map.2 ⟨k, List.mem_range.2 hk, rfl⟩)
  obtain ⟨p1, p2, rfl⟩ := List.append_of_mem hin
  have hn := List.nodup_append.1 (valid_nodup hv)
  have hn2 := List.nodup_cons.1 hn.2.1
  have hf : (p1 ++ (k : Int) :: p2).filter (fun u : Int => decide (u ≠ (k : Int))) = p1 ++ p2 := by
    rw [List.filter_append, List.filter_cons, if_neg (by simp)]
    congr 1
    · exact List.filter_eq_self.2 fun u hu => decide_eq_true fun e => hn.2.2 u hu u (by rw [e]; simp) rfl
    · exact List.filter_eq_self.2 fun u hu => decide_eq_true fun e => hn2.1 (by rw [← e]; exact hu)
  have hol := valid_len hv
  rw [List.length_append, List.length_cons] at hol
  have hmem : ∀ u ∈ p1 ++ p2, (0 ≤ u ∧ u < l.length) ∧ u ≠ k := fun u hu => by
    refine ⟨valid_in hv (by rcases List.mem_append.1 hu with h | h <;> simp [h]), fun e => ?_⟩
    rcases List.mem_append.1 hu with h | h
    · exact hn.2.2 u h u (by rw [e]; simp) rfl
    · exact hn2.1 (by rw [← e]; exact h)
  unfold dropO
  rw [hf]
  refine ⟨?_, ?_⟩
  · refine perm_of_sub ?_ (fun u hu => ?_) ?_
    · have hnp : (p1 ++ p2).Nodup := List.nodup_append.2 ⟨hn.1, hn2.2, fun a ha b hb => hn.2.2 a ha b (by simp [hb])⟩
      rw [List.nodup_iff_pairwise_ne, List.pairwise_map]
      refine List.Pairwise.imp_of_mem ?_ (List.nodup_iff_pairwise_ne.1 hnp)
      intro a b ha hb hab e
      have h1 := (hmem a ha).2
      have h2 := (hmem b hb).2
      unfold dropI at e
      split at e <;> split at e <;> omega
    · obtain ⟨v, hv2, rfl⟩ := List.mem_map.1 hu
      obtain ⟨⟨a1, a2⟩, a3⟩ := hmem v hv2
      unfold plL
      rw [lessL_len hk]
      refine List.mem_map.2 ⟨(dropI k v).toNat, List.mem_range.2 ?_, ?_⟩ <;> unfold dropI <;> split <;> omega
    · unfold plL
      rw [List.length_map, List.length_range, lessL_len hk, List.length_map, List.length_append]
      omega
  · have e : ((p1 ++ p2).map (dropI k)).map (atI (lessL l k)) = (p1 ++ p2).map (atI l) := by
      rw [List.map_map]
      refine List.map_congr_left fun u hu => ?_
      exact lessL_at hk (hmem u hu).1.1 (hmem u hu).1.2 (hmem u hu).2
    rw [e, List.map_append]
    have hz := hv.2
    rw [List.map_append, List.map_cons] at hz
    exact vord_del (may_ws hM (getD_mem hk) (decide_eq_false hw)) hz
theorem may_drop {n : Nat} {l : List AtS} {k : Nat} (hM : MayP n l) (hk : k < l.length) : MayP n (lessL l k) := may_del (a := l.getD k atD) (by rw [← lessL_split hk]; exact hM)
/-- With one that ends later, or not at all, an order that may be may be still. -/
theorem valid_later {init : List Int} {l : List AtS} {o : List Int} {k : Nat} {v : Int} (hk : k < l.length) (hv : ValidO init l o) (hto : v = -1 ∨ ((l.getD k atD).to ≠ -1 ∧ (l.getD k atD).to ≤ v)) : ValidO init (l.set k { l.getD k atD with to := v }) o := by
  have hW : W1 (l.getD k atD) { l.getD k atD with to := v } := ⟨⟨rfl, rfl, rfl, rfl, rfl, rfl⟩, hto⟩
  have hR := (RelW.refl l).set k _ hW
  refine ⟨by have h := hv.1; unfold plL at h ⊢; rw [List.length_set]; exact h, ?_⟩
  have hmap : ∀ o : List Int, RelW (o.map (atI l)) (o.map (atI (l.set k { l.getD k atD with to := v }))) := fun o => by
    induction o with
    | nil => exact .nil
    | cons u o ih => exact .cons (hR.at_ u.toNat) ih
  exact (hmap o).vord hv.2
theorem may_later {n : Nat} {l : List AtS} {k : Nat} {v : Int} (hM : MayP n l) (hto : v = -1 ∨ ((l.getD k atD).to ≠ -1 ∧ (l.getD k atD).to ≤ v)) : MayP n (l.set k { l.getD k atD with to := v }) :=
  may_rel ((RelW.refl l).set k _ ⟨⟨rfl, rfl, rfl, rfl, rfl, rfl⟩, hto⟩) hM
instance plainAtV : Plain encAt := ⟨fun z j => by unfold encAt; split <;> rfl⟩
theorem lpick_at {a : Int} {n : Nat} (h0 : n ≠ 0) (hn : n ≤ 1000) : ∃ k : Nat, IntKind.i64.wrap ((IntKind.u64.wrap a).tmod (n : Int)) = k ∧ k < n := by
  have h1 : 0 ≤ IntKind.u64.wrap a := by rw [IntKind.wrap_u64]; omega
  rw [Int.tmod_eq_emod_of_nonneg h1]
  have h2 := Int.emod_nonneg (IntKind.u64.wrap a) (show (n : Int) ≠ 0 by omega)
  have h3 := Int.emod_lt_of_pos (IntKind.u64.wrap a) (show (0 : Int) < n by omega)
  rw [wrap_in (by omega)]
  exact ⟨(IntKind.u64.wrap a % (n : Int)).toNat, by omega, by omega⟩
theorem set_to (m : List AtS) (k : Nat) (v : Int) (hk : k < m.length) (i : Nat) (hi : i < m.length) (j : Nat) (hj : j < 9) : gset (gL encAt atD m) k 3 (.int .i64 v) i j = gL encAt atD (m.set k { m.getD k atD with to := v }) i j := by
  unfold gset gL
  rw [List.getD_eq_getElem?_getD, List.getD_eq_getElem?_getD (l := m.set k _), List.getElem?_set]
  by_cases e : i = k
  · subst e
    rw [if_pos rfl, if_pos hk]
    rcases lt9 hj with rfl | rfl | rfl | rfl | rfl | rfl | rfl | rfl | rfl <;> simp <;> rfl
  · rw [if_neg (fun x => e x.1), if_neg (fun x => e x.symm)]
theorem set_to2 (m : List AtS) (k : Nat) (x v : Int) (hk : k < m.length) (i : Nat) (hi : i < m.length) (j : Nat) (hj : j < 9) : gset (gset (gL encAt atD m) k 3 (.int .i64 x)) k 3 (.int .i64 v) i j = gL encAt atD (m.set k { m.getD k atD with to := v }) i j := by
  rw [← set_to m k v hk i hi j hj]
  unfold gset
  by_cases e : i = k ∧ j = 3
  · rw [if_pos e, if_pos e]
  · rw [if_neg e, if_neg e, if_neg e]
/-- The attempts gone over so far, without one. -/
def fwL (l : List AtS) (k i : Nat) : List AtS := if i ≤ k then l.take i else l.take k ++ (l.drop (k + 1)).take (i - (k + 1))
theorem fwL_ne {l : List AtS} {k i : Nat} (hi : i < l.length) (hne : i ≠ k) : fwL l k (i + 1) = fwL l k i ++ [l.getD i atD] := by
  unfold fwL
  have e : l.getD i atD = l[i] := by rw [List.getD_eq_getElem?_getD, List.getElem?_eq_getElem hi]; rfl
  by_cases h : i < k
  · rw [if_pos (by omega), if_pos (by omega), List.take_succ_eq_append_getElem hi, e]
  · rw [if_neg (by omega), if_neg (by omega), show i + 1 - (k + 1) = (i - (k + 1)) + 1 from by omega, List.take_succ_eq_append_getElem (by rw [List.length_drop]; omega), List.getElem_drop, List.append_assoc, e]
    congr 4
    omega
theorem fwL_eq {l : List AtS} {k : Nat} : fwL l k (k + 1) = fwL l k k := by
  unfold fwL
  rw [if_neg (by omega), if_pos (Nat.le_refl _), Nat.sub_self, List.take_zero, List.append_nil]
theorem fwL_end {l : List AtS} {k : Nat} (hk : k < l.length) : fwL l k l.length = lessL l k := by
  unfold fwL lessL
  rw [if_neg (by omega), List.take_of_length_le (l := l.drop (k + 1)) (by rw [List.length_drop]; omega)]
theorem fwL_mem {l : List AtS} {k i : Nat} {z : AtS} (h : z ∈ fwL l k i) : z ∈ l := by
  unfold fwL at h
  split at h
  · exact List.mem_of_mem_take h
  · rcases List.mem_append.1 h with h | h
    · exact List.mem_of_mem_take h
    · exact List.mem_of_mem_drop (List.mem_of_mem_take h)
theorem fwL_len (l : List AtS) (k i : Nat) : (fwL l k i).length ≤ l.length + l.length := by
  unfold fwL
  split
  · rw [List.length_take]; omega
  · rw [List.length_append, List.length_take, List.length_take, List.length_drop]; omega
theorem dropO_succ {o : List Int} {k i : Nat} (hi : i < o.length) : dropO (o.take (i + 1)) k = dropO (o.take i) k ++ (if o.getD i 0 = k then [] else [dropI k (o.getD i 0)]) := by
  unfold dropO
  rw [take_snoc hi, List.filter_append, List.map_append]
  congr 1
  rw [List.filter_cons]
  by_cases e : o.getD i 0 = k
  · rw [if_pos e, if_neg (by rw [e]; simp)]; rfl
  · rw [if_neg e, if_pos (decide_eq_true e)]; rfl
theorem dropO_len (o : List Int) (k : Nat) : (dropO o k).length ≤ o.length := by
  unfold dropO
  rw [List.length_map]
  exact List.length_filter_le _ _
theorem walk_VerifyFewer (a0 : Option Addr) (len0 cap0 : Nat) (z0 : List Int) (a1 : Option Addr) (len1 cap1 : Nat) (z1 : List AtS) (a2 a3 : Int) (w0 : World) (f0 : z0.length = len0 ∧ SlOk w0 a0 len0 cap0 1 (gL encI 0 z0)) (f1 : z1.length = len1 ∧ (hisR a1 cap1 z1).holds w0) (f2 : (Lit.int .i64 a2).wf = true) (f3 : (Lit.int .i64 a3).wf = true) :
    Calls Try.prog 8 #[.slice a0 len0 cap0, .slice a1 len1 cap1, .int .i64 a2, .int .i64 a3] w0 fun e w' => e = .returned (.bool true) ∧ Below w0.heap.size w0 w' := by
  obtain ⟨rfl, hi⟩ := f0
  obtain ⟨rfl, hl⟩ := f1
  have b2 := bounds_i64 f2
  have b3 := bounds_i64 f3
  have S := ((Sat.start (fun _ => False) w0).ro (r := hisR a1 cap1 z1) hl rfl rfl).ro (r := slL a0 cap0 1 encI 0 z0) hi rfl rfl
  clear hi hl
  refine enter1 Try.func8 rfl Try.ntmps8 rfl Try.results8 ?_
  repeat' (first | refine nilL ?_ | refine run_seq ?_ | refine run_region ?_ | refine assign_b_l S rfl rfl ?_ | refine thenQ_n ?_)
  (refine callL (works_at _) rfl rfl ?_; rintro e w ⟨rfl, hb⟩; replace S := S.below hb; clear hb; refine ⟨_, rfl, ?_⟩)
  repeat' (first | refine move_s_l S rfl rfl ?_ | refine onL rfl rfl ?_ | refine move_b_l S rfl rfl ?_ | refine not_l S rfl rfl ?_)
  refine callL (vlarge_at (S.all (slL a0 cap0 1 encI 0 z0) (by simp)) (S.all (hisR a1 cap1 z1) (by simp))) rfl rfl ?_
  rintro e w ⟨⟨b, rfl, hlg⟩, hb⟩
  replace S := S.below hb
  clear hb
  refine ⟨_, rfl, ?_⟩
  cases b with
  | true =>
    repeat' (first | refine nilL ?_ | refine run_seq ?_ | refine run_region ?_ | refine offL rfl rfl rfl rfl ?_ | refine move_b_l S rfl rfl ?_ | refine pick_tb_l S rfl rfl rfl ?_ | refine pick_fb_l S rfl rfl rfl ?_ | refine run_cond_true rfl ?_ | refine thenQ_n ?_)
    (refine callL (works_at _) rfl rfl ?_; rintro e w ⟨rfl, hb⟩; replace S := S.below hb; clear hb; refine ⟨_, rfl, ?_⟩)
    repeat' (first | refine nilL ?_ | refine assign_b_l S rfl rfl ?_ | refine run_ret ?_ | refine thenQ_n ?_ | refine thenQ_r ?_ | refine ret1_b rfl ?_)
    exact ⟨rfl, S.chg.below⟩
  | false =>
    have hll := hlg rfl
    clear hlg
    by_cases h0 : z1.length = 0
    · repeat' (first | refine move_s_l S rfl rfl ?_ | refine nilL ?_ | refine run_seq ?_ | refine run_region ?_ | refine onL rfl rfl ?_ | refine move_b_l S rfl rfl ?_ | refine len_l S rfl rfl ?_ | refine pick_fb_l S rfl rfl rfl ?_ | (refine eql_l S rfl rfl rfl ?_ ?_ <;> intro hcmp <;> try (exfalso; first | omega | exact hcmp (by decide) | exact absurd hcmp (by decide))) | refine run_cond_true rfl ?_ | refine thenQ_n ?_)
      (refine callL (works_at _) rfl rfl ?_; rintro e w ⟨rfl, hb⟩; replace S := S.below hb; clear hb; refine ⟨_, rfl, ?_⟩)
      repeat' (first | refine nilL ?_ | refine assign_b_l S rfl rfl ?_ | refine run_ret ?_ | refine thenQ_n ?_ | refine thenQ_r ?_ | refine ret1_b rfl ?_)
      exact ⟨rfl, S.chg.below⟩
    repeat' (first | refine move_s_l S rfl rfl ?_ | refine nilL ?_ | refine run_seq ?_ | refine run_skip ?_ | refine run_region ?_ | refine onL rfl rfl ?_ | refine move_b_l S rfl rfl ?_ | refine len_l S rfl rfl ?_ | refine pick_fb_l S rfl rfl rfl ?_ | (refine eql_l S rfl rfl rfl ?_ ?_ <;> intro hcmp <;> try (exfalso; first | omega | exact hcmp (by decide) | exact absurd hcmp (by decide))) | refine run_cond_false rfl ?_ | refine thenQ_n ?_)
    refine callL (vjudge_at (S.all (slL a0 cap0 1 encI 0 z0) (by simp)) (S.all (hisR a1 cap1 z1) (by simp)) (by omega)) rfl rfl ?_
    rintro e w ⟨hb, ⟨hM, rfl⟩ | ⟨hM, hf, rfl⟩ | ⟨hM, o, v, ho, rfl, ⟨ao, co, rfl, hh, hfr⟩⟩⟩
    · replace S := S.below hb
      refine ⟨_, rfl, ?_⟩
      repeat' (first | refine move_i_l S rfl rfl ?_ | refine nilL ?_ | refine run_seq ?_ | refine run_region ?_ | refine offL rfl rfl rfl rfl ?_ | refine assign_b_l S rfl rfl ?_ | refine assign_s_l S rfl rfl ?_ | refine assign_i_l S rfl rfl ?_ | refine move_b_l S rfl rfl ?_ | refine pick_tb_l S rfl rfl rfl ?_ | (refine neq_l S rfl rfl rfl ?_ ?_ <;> intro hcmp <;> try (exfalso; first | omega | exact hcmp (by decide) | exact absurd hcmp (by decide))) | refine extract_s_l S rfl rfl rfl ?_ | refine extract_b_l S rfl rfl rfl ?_ | refine extract_i_l S rfl rfl rfl ?_ | refine move_o_l S rfl rfl ?_ | refine run_ret ?_ | refine run_cond_true rfl ?_ | refine thenQ_n ?_ | refine thenQ_r ?_ | refine ret1_b rfl ?_)
      exact ⟨rfl, S.chg.below⟩
    · replace S := S.below hb
      refine ⟨_, rfl, ?_⟩
      repeat' (first | refine move_i_l S rfl rfl ?_ | refine nilL ?_ | refine run_seq ?_ | refine run_region ?_ | refine onL rfl rfl ?_ | refine assign_b_l S rfl rfl ?_ | refine assign_s_l S rfl rfl ?_ | refine assign_i_l S rfl rfl ?_ | refine move_b_l S rfl rfl ?_ | refine pick_fb_l S rfl rfl rfl ?_ | (refine neq_l S rfl rfl rfl ?_ ?_ <;> intro hcmp <;> try (exfalso; first | omega | exact hcmp (by decide) | exact absurd hcmp (by decide))) | refine not_l S rfl rfl ?_ | refine extract_s_l S rfl rfl rfl ?_ | refine extract_b_l S rfl rfl rfl ?_ | refine extract_i_l S rfl rfl rfl ?_ | refine move_o_l S rfl rfl ?_ | refine run_ret ?_ | refine run_cond_true rfl ?_ | refine thenQ_n ?_ | refine thenQ_r ?_ | refine ret1_b rfl ?_)
      exact ⟨rfl, S.chg.below⟩
    replace S := Sat.freshRow S hb hh hfr
    clear hb hh hfr
    have hv := judge_some hM ho
    have hol := valid_len hv
    refine ⟨_, rfl, ?_⟩
    repeat' (first | refine move_s_l S rfl rfl ?_ | refine move_i_l S rfl rfl ?_ | refine nilL ?_ | refine run_seq ?_ | refine run_skip ?_ | refine run_region (id := 4) ?_ | refine run_region (id := 6) ?_ | refine run_region (id := 7) ?_ | refine onL rfl rfl ?_ | refine assign_b_l S rfl rfl ?_ | refine assign_s_l S rfl rfl ?_ | refine assign_i_l S rfl rfl ?_ | refine convert_l S rfl (wrapu_in (by omega)) rfl ?_ | refine convert_l S rfl rfl rfl ?_ | refine move_b_l S rfl rfl ?_ | refine len_l S rfl rfl ?_ | (refine append0_l S rfl rfl (by omega) rfl ?_; clear S; intro a' cap' w S) | refine pick_fb_l S rfl rfl rfl ?_ | (refine neq_l S rfl rfl rfl ?_ ?_ <;> intro hcmp <;> try (exfalso; first | omega | exact hcmp (by decide) | exact absurd hcmp (by decide))) | refine rem_l S rfl rfl (by omega) rfl rfl ?_ | (apply buildSliceN_l S; (· repeat (first | exact vsN | apply vsC rfl)); (· rfl); (· rfl); (· rfl); (· rfl); (· rfl); clear S; intro b w S) | refine not_l S rfl rfl ?_ | refine extract_s_l S rfl rfl rfl ?_ | refine extract_b_l S rfl rfl rfl ?_ | refine extract_i_l S rfl rfl rfl ?_ | refine move_o_l S rfl rfl ?_ | refine run_cond_false rfl ?_ | refine thenQ_n ?_)
    obtain ⟨k, hk, hkl⟩ := lpick_at (a := a2) h0 (by omega)
    rw [hk]
    refine run_cut_b [54, 55, 56, 57, 58, 59, 60, 61, 62, 63, 64, 65, 66, 67, 68, 69, 70, 71, 72, 73, 74, 75, 76, 77, 78, 79, 80, 81, 82, 83, 84, 85, 86, 87, 88, 89, 90, 91, 92, 93, 94, 95, 96, 97, 98, 99, 100, 101, 102, 103, 104, 105, 106] (fun (_ : Unit) t => t) (fun _ w' => Sat (fun _ => False) w0 w' [rowL ao co 3 1 encI 0 o, slL a0 cap0 1 encI 0 z0, hisR a1 cap1 z1]) ?_ ?_
    · skip
      -- {{
      repeat' (first | refine move_s_l S rfl rfl ?_ | refine move_i_l S rfl rfl ?_ | refine indexAddr_l S rfl rfl (idx_cast _) (by first | omega | decide | (simp; done) | (simp; omega)) rfl ?_ | refine nilL ?_ | refine run_seq ?_ | refine run_skip ?_ | refine run_region ?_ | refine loadE_i_l S rfl (by first | omega | decide | (simp; done) | (simp; omega)) rfl rfl rfl ?_ | refine convert_l S rfl rfl rfl ?_ | refine fieldAddrE_l S rfl (by first | omega | decide | (simp; done) | (simp; omega)) rfl rfl ?_ | (refine neq_l S rfl rfl rfl ?_ ?_ <;> intro hcmp <;> try (exfalso; first | omega | exact hcmp (by decide) | exact absurd hcmp (by decide))) | refine rem_l S rfl rfl (by omega) rfl rfl ?_ | refine add_l S rfl rfl rfl rfl ?_ | (refine eql_l S rfl rfl rfl ?_ ?_ <;> intro hcmp <;> try (exfalso; first | omega | exact hcmp (by decide) | exact absurd hcmp (by decide))) | (refine storeE_i S rfl rfl (by omega) rfl ?_; clear S; intro w S) | refine run_cond_true rfl ?_ | refine run_cond_false rfl ?_ | refine thenQ_n ?_)
      · replace S := S.turn1 (r' := row a' z1.length cap' 32 9 (gL encAt atD (z1.set k { z1.getD k atD with to := -1 }))) (RowOk.congr S.got1 (fun i hi j hj => set_to2 z1 k _ (-1) hkl i hi j hj)) rfl (fun k e => e)
        have hml2 : (z1.set k { z1.getD k atD with to := (-1) }).length = z1.length := List.length_set
        have hmk : ((z1.set k { z1.getD k atD with to := (-1) }).getD k atD).to = (-1) := by rw [List.getD_eq_getElem?_getD, List.getElem?_set_self hkl]; rfl
        have hMm : MayP z0.length (z1.set k { z1.getD k atD with to := (-1) }) := may_later hM (.inl rfl)
        have hv2 : ValidO z0 (z1.set k { z1.getD k atD with to := (-1) }) o := valid_later hkl hv (.inl rfl)
        have hH2 : ∀ w, (row a' z1.length cap' 32 9 (gL encAt atD (z1.set k { z1.getD k atD with to := (-1) }))).holds w → (hisR a1 cap1 z1).holds w → (hisR a' cap' (z1.set k { z1.getD k atD with to := (-1) })).holds w := fun w h1 h2 => by
          refine his_of (z1.set k { z1.getD k atD with to := (-1) }) (RowOk.sl h1) hml2 (fun _ _ _ _ => rfl) (fun z hz => ?_)
          rcases List.mem_or_eq_of_mem_set hz with h | rfl
          · obtain ⟨i, hi, rfl⟩ := List.mem_iff_getElem.1 h
            have h3 := h2.2 i
            rw [List.getD_eq_getElem?_getD, List.getElem?_eq_getElem hi] at h3
            exact h3
          · exact h2.2 k
        generalize (z1.set k { z1.getD k atD with to := (-1) }) = m2 at S hml2 hmk hMm hv2 hH2
        refine run_any S (L' := [row a' z1.length cap' 32 9 (gL encAt atD m2), hisR a1 cap1 z1]) (f := 26) mixed rfl ?_
        clear S
        intro w S1
        have S : Sat _ _ w [row a' z1.length cap' 32 9 (gL encAt atD m2), hisR a1 cap1 z1] := S1.sub
        all_goals (refine any_pure (i := 0) rfl (by kernel_rfl) S ?_; refine move_s_x rfl rfl ?_)
        all_goals (refine any_pure (i := 1) rfl (by kernel_rfl) S ?_; refine move_i_x rfl rfl ?_)
        all_goals (refine any_pure (i := 2) rfl (by kernel_rfl) S ?_; (first | refine indexAddr_x rfl rfl (idx_cast _) (by first | omega | decide | (simp; done) | (simp; omega)) rfl ?_ | refine indexAddr_x rfl rfl (idx_eq _) (by first | omega | decide | (simp; done) | (simp; omega)) rfl ?_))
        all_goals (refine any_pure (i := 3) rfl (by kernel_rfl) S ?_; (first | refine fieldAddr_x rfl rfl rfl ?_ | refine fieldAddrE_x rfl (by first | omega | decide | (simp; done) | (simp; omega)) rfl rfl ?_))
        all_goals (refine any_pure (i := 4) rfl (by kernel_rfl) S ?_; (first | refine load_i_x rfl rfl rfl rfl ?_ | refine load_o_x rfl rfl rfl rfl ?_ | refine loadE_i_x rfl (by first | omega | decide | (simp; done) | (simp; omega)) rfl rfl rfl ?_ | refine loadE_o_x rfl (by first | omega | decide | (simp; done) | (simp; omega)) rfl rfl rfl ?_))
        all_goals (refine any_pure (i := 5) rfl (by kernel_rfl) S ?_; (refine neq_x rfl rfl rfl ?_ ?_ <;> intro hcmp <;> try (exfalso; first | omega | exact hcmp (by decide) | exact absurd hcmp (by decide))))
        all_goals (refine any_pure (i := 6) rfl (by kernel_rfl) S ?_; refine move_b_x rfl rfl ?_)
        all_goals (refine any_pure (i := 7) rfl (by kernel_rfl) S ?_; first | (refine onX rfl rfl ?_; refine move_s_x rfl rfl ?_) | first | refine offX rfl rfl rfl rfl ?_ | refine offXU rfl rfl rfl ?_)
        all_goals (refine any_pure (i := 8) rfl (by kernel_rfl) S ?_; first | (refine onX rfl rfl ?_; refine move_i_x rfl rfl ?_) | first | refine offX rfl rfl rfl rfl ?_ | refine offXU rfl rfl rfl ?_)
        all_goals (refine any_pure (i := 9) rfl (by kernel_rfl) S ?_; first | (refine onX rfl rfl ?_; (first | refine indexAddr_x rfl rfl (idx_cast _) (by first | omega | decide | (simp; done) | (simp; omega)) rfl ?_ | refine indexAddr_x rfl rfl (idx_eq _) (by first | omega | decide | (simp; done) | (simp; omega)) rfl ?_)) | first | refine offX rfl rfl rfl rfl ?_ | refine offXU rfl rfl rfl ?_)
        all_goals (refine any_pure (i := 10) rfl (by kernel_rfl) S ?_; first | (refine onX rfl rfl ?_; (first | refine fieldAddr_x rfl rfl rfl ?_ | refine fieldAddrE_x rfl (by first | omega | decide | (simp; done) | (simp; omega)) rfl rfl ?_)) | first | refine offX rfl rfl rfl rfl ?_ | refine offXU rfl rfl rfl ?_)
        all_goals (refine any_pure (i := 11) rfl (by kernel_rfl) S ?_; first | (refine onX rfl rfl ?_; (first | refine load_i_x rfl rfl rfl rfl ?_ | refine load_o_x rfl rfl rfl rfl ?_ | refine loadE_i_x rfl (by first | omega | decide | (simp; done) | (simp; omega)) rfl rfl rfl ?_ | refine loadE_o_x rfl (by first | omega | decide | (simp; done) | (simp; omega)) rfl rfl rfl ?_)) | first | refine offX rfl rfl rfl rfl ?_ | refine offXU rfl rfl rfl ?_)
        all_goals (refine any_pure (i := 12) rfl (by kernel_rfl) S ?_; first | (refine onX rfl rfl ?_; refine move_s_x rfl rfl ?_) | first | refine offX rfl rfl rfl rfl ?_ | refine offXU rfl rfl rfl ?_)
        all_goals (refine any_pure (i := 13) rfl (by kernel_rfl) S ?_; first | (refine onX rfl rfl ?_; refine move_i_x rfl rfl ?_) | first | refine offX rfl rfl rfl rfl ?_ | refine offXU rfl rfl rfl ?_)
        all_goals (refine any_pure (i := 14) rfl (by kernel_rfl) S ?_; first | (refine onX rfl rfl ?_; (first | refine indexAddr_x rfl rfl (idx_cast _) (by first | omega | decide | (simp; done) | (simp; omega)) rfl ?_ | refine indexAddr_x rfl rfl (idx_eq _) (by first | omega | decide | (simp; done) | (simp; omega)) rfl ?_)) | first | refine offX rfl rfl rfl rfl ?_ | refine offXU rfl rfl rfl ?_)
        all_goals (refine any_pure (i := 15) rfl (by kernel_rfl) S ?_; first | (refine onX rfl rfl ?_; (first | refine fieldAddr_x rfl rfl rfl ?_ | refine fieldAddrE_x rfl (by first | omega | decide | (simp; done) | (simp; omega)) rfl rfl ?_)) | first | refine offX rfl rfl rfl rfl ?_ | refine offXU rfl rfl rfl ?_)
        all_goals (refine any_pure (i := 16) rfl (by kernel_rfl) S ?_; first | (refine onX rfl rfl ?_; (first | refine load_i_x rfl rfl rfl rfl ?_ | refine load_o_x rfl rfl rfl rfl ?_ | refine loadE_i_x rfl (by first | omega | decide | (simp; done) | (simp; omega)) rfl rfl rfl ?_ | refine loadE_o_x rfl (by first | omega | decide | (simp; done) | (simp; omega)) rfl rfl rfl ?_)) | first | refine offX rfl rfl rfl rfl ?_ | refine offXU rfl rfl rfl ?_)
        all_goals (refine any_pure (i := 17) rfl (by kernel_rfl) S ?_; first | (refine onX rfl rfl ?_; (refine lss_x rfl rfl rfl ?_ ?_ <;> intro hcmp <;> try (exfalso; first | omega | exact hcmp (by decide) | exact absurd hcmp (by decide)))) | first | refine offX rfl rfl rfl rfl ?_ | refine offXU rfl rfl rfl ?_)
        all_goals (refine any_pure (i := 18) rfl (by kernel_rfl) S ?_; (first | refine pick_tb_x rfl rfl rfl ?_ | refine pick_fb_x rfl rfl rfl ?_))
        all_goals (refine any_pure (i := 19) rfl (by kernel_rfl) S ?_; refine move_b_x rfl rfl ?_)
        all_goals (refine any_pure (i := 20) rfl (by kernel_rfl) S ?_; first | (refine onX rfl rfl ?_; refine move_s_x rfl rfl ?_) | first | refine offX rfl rfl rfl rfl ?_ | refine offXU rfl rfl rfl ?_)
        all_goals (refine any_pure (i := 21) rfl (by kernel_rfl) S ?_; first | (refine onX rfl rfl ?_; refine move_s_x rfl rfl ?_) | first | refine offX rfl rfl rfl rfl ?_ | refine offXU rfl rfl rfl ?_)
        all_goals (refine any_pure (i := 22) rfl (by kernel_rfl) S ?_; first | (refine onX rfl rfl ?_; refine move_s_x rfl rfl ?_) | first | refine offX rfl rfl rfl rfl ?_ | refine offXU rfl rfl rfl ?_)
        all_goals refine any_step (i := 23) rfl (by kernel_rfl) ?_
        all_goals first | refine onL rfl rfl ?_ | (first | (refine offL rfl rfl rfl rfl ?_; refine nilL ?_) | (refine offLU rfl rfl rfl ?_; refine nilL ?_) | (refine offL0 rfl rfl rfl ?_; refine nilL ?_); refine ⟨S.sub, ?_⟩)
        all_goals replace S := S1
        all_goals clear S1
        all_goals refine callL (vmay_at (l := m2) (a := a') (cap := cap') (by omega) (by omega) (S.all (slL a0 cap0 1 encI 0 z0) (by simp)) (hH2 _ (S.all (row a' z1.length cap' 32 9 (gL encAt atD m2)) (by simp)) (S.all (hisR a1 cap1 z1) (by simp))) (RowOk.sl (S.all (rowL ao co 3 1 encI 0 o) (by simp)))) (by rw [hml2]; rfl) rfl ?_
        all_goals rintro e w ⟨⟨r, rfl, hr⟩, hb⟩
        all_goals replace S := S.below hb
        all_goals clear hb
        all_goals obtain rfl : r = true := hr.2 ⟨hMm, hv2⟩
        all_goals refine ⟨_, rfl, ?_⟩
        all_goals try refine nilL ?_
        all_goals refine ⟨S.sub, ?_⟩
        all_goals (have S1 := S; replace S : Sat _ _ _ [row a' z1.length cap' 32 9 (gL encAt atD m2), hisR a1 cap1 z1] := S1.sub)
        all_goals (refine any_pure (i := 24) rfl (by kernel_rfl) S ?_; first | (refine onX rfl rfl ?_; refine not_x rfl rfl ?_) | first | refine offX rfl rfl rfl rfl ?_ | refine offXU rfl rfl rfl ?_)
        all_goals (refine any_pure (i := 25) rfl (by kernel_rfl) S ?_; (first | refine pick_tb_x rfl rfl rfl ?_ | refine pick_fb_x rfl rfl rfl ?_))
        all_goals refine any_end (by kernel_rfl) ?_
        all_goals replace S := S1
        all_goals clear S1
        all_goals repeat' (first | refine run_skip ?_ | refine run_cond_false rfl ?_ | refine thenQ_n ?_)
        all_goals exact midQ_n () (by (repeat (first | exact agree_refl | refine agree_r rfl ?_ | refine agree_l rfl ?_ | refine agree_hv rfl ?_))) S.sub
      · obtain ⟨v, hvv⟩ : ∃ v : Int, IntKind.i64.wrap ((z1.getD k atD).to + IntKind.i64.wrap ((IntKind.u64.wrap a3).tmod 100)) = v := ⟨_, rfl⟩
        rw [hvv] at S
        replace S := S.turn1 (r' := row a' z1.length cap' 32 9 (gL encAt atD (z1.set k { z1.getD k atD with to := v }))) (RowOk.congr S.got1 (fun i hi j hj => set_to z1 k v hkl i hi j hj)) rfl (fun k e => e)
        by_cases hbad : v ≠ -1 ∧ v < (z1.getD k atD).to
        · obtain ⟨hb1, hb2⟩ := hbad
          have hml2 : (z1.set k { z1.getD k atD with to := v }).length = z1.length := List.length_set
          have hmk : ((z1.set k { z1.getD k atD with to := v }).getD k atD).to = v := by rw [List.getD_eq_getElem?_getD, List.getElem?_set_self hkl]; rfl
          generalize (z1.set k { z1.getD k atD with to := v }) = m2 at S hml2 hmk
          refine run_any S (L' := [row a' z1.length cap' 32 9 (gL encAt atD m2), hisR a1 cap1 z1]) (f := 26) mixed rfl ?_
          clear S
          intro w S1
          have S : Sat _ _ w [row a' z1.length cap' 32 9 (gL encAt atD m2), hisR a1 cap1 z1] := S1.sub
          all_goals (refine any_pure (i := 0) rfl (by kernel_rfl) S ?_; refine move_s_x rfl rfl ?_)
          all_goals (refine any_pure (i := 1) rfl (by kernel_rfl) S ?_; refine move_i_x rfl rfl ?_)
          all_goals (refine any_pure (i := 2) rfl (by kernel_rfl) S ?_; (first | refine indexAddr_x rfl rfl (idx_cast _) (by first | omega | decide | (simp; done) | (simp; omega)) rfl ?_ | refine indexAddr_x rfl rfl (idx_eq _) (by first | omega | decide | (simp; done) | (simp; omega)) rfl ?_))
          all_goals (refine any_pure (i := 3) rfl (by kernel_rfl) S ?_; (first | refine fieldAddr_x rfl rfl rfl ?_ | refine fieldAddrE_x rfl (by first | omega | decide | (simp; done) | (simp; omega)) rfl rfl ?_))
          all_goals (refine any_pure (i := 4) rfl (by kernel_rfl) S ?_; (first | refine load_i_x rfl rfl rfl rfl ?_ | refine load_o_x rfl rfl rfl rfl ?_ | refine loadE_i_x rfl (by first | omega | decide | (simp; done) | (simp; omega)) rfl rfl rfl ?_ | refine loadE_o_x rfl (by first | omega | decide | (simp; done) | (simp; omega)) rfl rfl rfl ?_))
          all_goals (refine any_pure (i := 5) rfl (by kernel_rfl) S ?_; (refine neq_x rfl rfl rfl ?_ ?_ <;> intro hcmp <;> try (exfalso; first | omega | exact hcmp (by decide) | exact absurd hcmp (by decide))))
          all_goals (refine any_pure (i := 6) rfl (by kernel_rfl) S ?_; refine move_b_x rfl rfl ?_)
          all_goals (refine any_pure (i := 7) rfl (by kernel_rfl) S ?_; first | (refine onX rfl rfl ?_; refine move_s_x rfl rfl ?_) | first | refine offX rfl rfl rfl rfl ?_ | refine offXU rfl rfl rfl ?_)
          all_goals (refine any_pure (i := 8) rfl (by kernel_rfl) S ?_; first | (refine onX rfl rfl ?_; refine move_i_x rfl rfl ?_) | first | refine offX rfl rfl rfl rfl ?_ | refine offXU rfl rfl rfl ?_)
          all_goals (refine any_pure (i := 9) rfl (by kernel_rfl) S ?_; first | (refine onX rfl rfl ?_; (first | refine indexAddr_x rfl rfl (idx_cast _) (by first | omega | decide | (simp; done) | (simp; omega)) rfl ?_ | refine indexAddr_x rfl rfl (idx_eq _) (by first | omega | decide | (simp; done) | (simp; omega)) rfl ?_)) | first | refine offX rfl rfl rfl rfl ?_ | refine offXU rfl rfl rfl ?_)
          all_goals (refine any_pure (i := 10) rfl (by kernel_rfl) S ?_; first | (refine onX rfl rfl ?_; (first | refine fieldAddr_x rfl rfl rfl ?_ | refine fieldAddrE_x rfl (by first | omega | decide | (simp; done) | (simp; omega)) rfl rfl ?_)) | first | refine offX rfl rfl rfl rfl ?_ | refine offXU rfl rfl rfl ?_)
          all_goals (refine any_pure (i := 11) rfl (by kernel_rfl) S ?_; first | (refine onX rfl rfl ?_; (first | refine load_i_x rfl rfl rfl rfl ?_ | refine load_o_x rfl rfl rfl rfl ?_ | refine loadE_i_x rfl (by first | omega | decide | (simp; done) | (simp; omega)) rfl rfl rfl ?_ | refine loadE_o_x rfl (by first | omega | decide | (simp; done) | (simp; omega)) rfl rfl rfl ?_)) | first | refine offX rfl rfl rfl rfl ?_ | refine offXU rfl rfl rfl ?_)
          all_goals (refine any_pure (i := 12) rfl (by kernel_rfl) S ?_; first | (refine onX rfl rfl ?_; refine move_s_x rfl rfl ?_) | first | refine offX rfl rfl rfl rfl ?_ | refine offXU rfl rfl rfl ?_)
          all_goals (refine any_pure (i := 13) rfl (by kernel_rfl) S ?_; first | (refine onX rfl rfl ?_; refine move_i_x rfl rfl ?_) | first | refine offX rfl rfl rfl rfl ?_ | refine offXU rfl rfl rfl ?_)
          all_goals (refine any_pure (i := 14) rfl (by kernel_rfl) S ?_; first | (refine onX rfl rfl ?_; (first | refine indexAddr_x rfl rfl (idx_cast _) (by first | omega | decide | (simp; done) | (simp; omega)) rfl ?_ | refine indexAddr_x rfl rfl (idx_eq _) (by first | omega | decide | (simp; done) | (simp; omega)) rfl ?_)) | first | refine offX rfl rfl rfl rfl ?_ | refine offXU rfl rfl rfl ?_)
          all_goals (refine any_pure (i := 15) rfl (by kernel_rfl) S ?_; first | (refine onX rfl rfl ?_; (first | refine fieldAddr_x rfl rfl rfl ?_ | refine fieldAddrE_x rfl (by first | omega | decide | (simp; done) | (simp; omega)) rfl rfl ?_)) | first | refine offX rfl rfl rfl rfl ?_ | refine offXU rfl rfl rfl ?_)
          all_goals (refine any_pure (i := 16) rfl (by kernel_rfl) S ?_; first | (refine onX rfl rfl ?_; (first | refine load_i_x rfl rfl rfl rfl ?_ | refine load_o_x rfl rfl rfl rfl ?_ | refine loadE_i_x rfl (by first | omega | decide | (simp; done) | (simp; omega)) rfl rfl rfl ?_ | refine loadE_o_x rfl (by first | omega | decide | (simp; done) | (simp; omega)) rfl rfl rfl ?_)) | first | refine offX rfl rfl rfl rfl ?_ | refine offXU rfl rfl rfl ?_)
          all_goals (refine any_pure (i := 17) rfl (by kernel_rfl) S ?_; first | (refine onX rfl rfl ?_; (refine lss_x rfl rfl rfl ?_ ?_ <;> intro hcmp <;> try (exfalso; first | omega | exact hcmp (by decide) | exact absurd hcmp (by decide)))) | first | refine offX rfl rfl rfl rfl ?_ | refine offXU rfl rfl rfl ?_)
          all_goals (refine any_pure (i := 18) rfl (by kernel_rfl) S ?_; (first | refine pick_tb_x rfl rfl rfl ?_ | refine pick_fb_x rfl rfl rfl ?_))
          all_goals (refine any_pure (i := 19) rfl (by kernel_rfl) S ?_; refine move_b_x rfl rfl ?_)
          all_goals (refine any_pure (i := 20) rfl (by kernel_rfl) S ?_; first | (refine onX rfl rfl ?_; refine move_s_x rfl rfl ?_) | first | refine offX rfl rfl rfl rfl ?_ | refine offXU rfl rfl rfl ?_)
          all_goals (refine any_pure (i := 21) rfl (by kernel_rfl) S ?_; first | (refine onX rfl rfl ?_; refine move_s_x rfl rfl ?_) | first | refine offX rfl rfl rfl rfl ?_ | refine offXU rfl rfl rfl ?_)
          all_goals (refine any_pure (i := 22) rfl (by kernel_rfl) S ?_; first | (refine onX rfl rfl ?_; refine move_s_x rfl rfl ?_) | first | refine offX rfl rfl rfl rfl ?_ | refine offXU rfl rfl rfl ?_)
          all_goals refine any_step (i := 23) rfl (by kernel_rfl) ?_
          all_goals first | refine onL rfl rfl ?_ | (first | (refine offL rfl rfl rfl rfl ?_; refine nilL ?_) | (refine offLU rfl rfl rfl ?_; refine nilL ?_) | (refine offL0 rfl rfl rfl ?_; refine nilL ?_); refine ⟨S.sub, ?_⟩)
          all_goals replace S := S1
          all_goals clear S1
          all_goals try refine nilL ?_
          all_goals refine ⟨S.sub, ?_⟩
          all_goals (have S1 := S; replace S : Sat _ _ _ [row a' z1.length cap' 32 9 (gL encAt atD m2), hisR a1 cap1 z1] := S1.sub)
          all_goals (refine any_pure (i := 24) rfl (by kernel_rfl) S ?_; first | (refine onX rfl rfl ?_; refine not_x rfl rfl ?_) | first | refine offX rfl rfl rfl rfl ?_ | refine offXU rfl rfl rfl ?_)
          all_goals (refine any_pure (i := 25) rfl (by kernel_rfl) S ?_; (first | refine pick_tb_x rfl rfl rfl ?_ | refine pick_fb_x rfl rfl rfl ?_))
          all_goals refine any_end (by kernel_rfl) ?_
          all_goals replace S := S1
          all_goals clear S1
          all_goals repeat' (first | refine run_seq ?_ | refine run_ret ?_ | refine run_cond_true rfl ?_ | refine thenQ_n ?_ | (refine run_draws (id := 13) S mixed ?_ ?_; · kernel_rfl) | (refine nilQ ?_; clear S; intro w S) | refine onQ rfl rfl ?_ | refine move_s_q rfl rfl ?_ | refine move_i_q rfl rfl ?_ | refine indexAddr_q rfl rfl (idx_cast _) (by first | omega | decide | (simp; done) | (simp; omega)) rfl ?_ | refine fieldAddrE_q rfl (by first | omega | decide | (simp; done) | (simp; omega)) rfl rfl ?_ | refine loadE_i_q rfl (by first | omega | decide | (simp; done) | (simp; omega)) rfl rfl rfl ?_ | (refine neq_q rfl rfl rfl ?_ ?_ <;> intro hcmp <;> try (exfalso; first | omega | exact hcmp (by decide) | exact absurd hcmp (by decide))) | refine move_b_q rfl rfl ?_ | (refine lss_q rfl rfl rfl ?_ ?_ <;> intro hcmp <;> try (exfalso; first | omega | exact hcmp (by decide) | exact absurd hcmp (by decide))) | refine pick_tb_q rfl rfl rfl ?_ | refine assign_b_q rfl rfl ?_)
          all_goals refine midQ_r ?_
          all_goals repeat' (first | refine ret1_b rfl ?_)
          all_goals exact ⟨rfl, S.chg.below⟩
        · have hgd : v = -1 ∨ ((z1.getD k atD).to ≠ -1 ∧ (z1.getD k atD).to ≤ v) := by omega
          have hml2 : (z1.set k { z1.getD k atD with to := v }).length = z1.length := List.length_set
          have hmk : ((z1.set k { z1.getD k atD with to := v }).getD k atD).to = v := by rw [List.getD_eq_getElem?_getD, List.getElem?_set_self hkl]; rfl
          have hMm : MayP z0.length (z1.set k { z1.getD k atD with to := v }) := may_later hM hgd
          have hv2 : ValidO z0 (z1.set k { z1.getD k atD with to := v }) o := valid_later hkl hv hgd
          have hH2 : ∀ w, (row a' z1.length cap' 32 9 (gL encAt atD (z1.set k { z1.getD k atD with to := v }))).holds w → (hisR a1 cap1 z1).holds w → (hisR a' cap' (z1.set k { z1.getD k atD with to := v })).holds w := fun w h1 h2 => by
            refine his_of (z1.set k { z1.getD k atD with to := v }) (RowOk.sl h1) hml2 (fun _ _ _ _ => rfl) (fun z hz => ?_)
            rcases List.mem_or_eq_of_mem_set hz with h | rfl
            · obtain ⟨i, hi, rfl⟩ := List.mem_iff_getElem.1 h
              have h3 := h2.2 i
              rw [List.getD_eq_getElem?_getD, List.getElem?_eq_getElem hi] at h3
              exact h3
            · exact h2.2 k
          generalize (z1.set k { z1.getD k atD with to := v }) = m2 at S hml2 hmk hMm hv2 hH2
          refine run_any S (L' := [row a' z1.length cap' 32 9 (gL encAt atD m2), hisR a1 cap1 z1]) (f := 26) mixed rfl ?_
          clear S
          intro w S1
          have S : Sat _ _ w [row a' z1.length cap' 32 9 (gL encAt atD m2), hisR a1 cap1 z1] := S1.sub
          all_goals (refine any_pure (i := 0) rfl (by kernel_rfl) S ?_; refine move_s_x rfl rfl ?_)
          all_goals (refine any_pure (i := 1) rfl (by kernel_rfl) S ?_; refine move_i_x rfl rfl ?_)
          all_goals (refine any_pure (i := 2) rfl (by kernel_rfl) S ?_; (first | refine indexAddr_x rfl rfl (idx_cast _) (by first | omega | decide | (simp; done) | (simp; omega)) rfl ?_ | refine indexAddr_x rfl rfl (idx_eq _) (by first | omega | decide | (simp; done) | (simp; omega)) rfl ?_))
          all_goals (refine any_pure (i := 3) rfl (by kernel_rfl) S ?_; (first | refine fieldAddr_x rfl rfl rfl ?_ | refine fieldAddrE_x rfl (by first | omega | decide | (simp; done) | (simp; omega)) rfl rfl ?_))
          all_goals (refine any_pure (i := 4) rfl (by kernel_rfl) S ?_; (first | refine load_i_x rfl rfl rfl rfl ?_ | refine load_o_x rfl rfl rfl rfl ?_ | refine loadE_i_x rfl (by first | omega | decide | (simp; done) | (simp; omega)) rfl rfl rfl ?_ | refine loadE_o_x rfl (by first | omega | decide | (simp; done) | (simp; omega)) rfl rfl rfl ?_))
          all_goals (refine any_pure (i := 5) rfl (by kernel_rfl) S ?_; (refine neq_x rfl rfl rfl ?_ ?_ <;> intro hcmp <;> try (exfalso; first | omega | exact hcmp (by decide) | exact absurd hcmp (by decide))))
          all_goals (refine any_pure (i := 6) rfl (by kernel_rfl) S ?_; refine move_b_x rfl rfl ?_)
          all_goals (refine any_pure (i := 7) rfl (by kernel_rfl) S ?_; first | (refine onX rfl rfl ?_; refine move_s_x rfl rfl ?_) | first | refine offX rfl rfl rfl rfl ?_ | refine offXU rfl rfl rfl ?_)
          all_goals (refine any_pure (i := 8) rfl (by kernel_rfl) S ?_; first | (refine onX rfl rfl ?_; refine move_i_x rfl rfl ?_) | first | refine offX rfl rfl rfl rfl ?_ | refine offXU rfl rfl rfl ?_)
          all_goals (refine any_pure (i := 9) rfl (by kernel_rfl) S ?_; first | (refine onX rfl rfl ?_; (first | refine indexAddr_x rfl rfl (idx_cast _) (by first | omega | decide | (simp; done) | (simp; omega)) rfl ?_ | refine indexAddr_x rfl rfl (idx_eq _) (by first | omega | decide | (simp; done) | (simp; omega)) rfl ?_)) | first | refine offX rfl rfl rfl rfl ?_ | refine offXU rfl rfl rfl ?_)
          all_goals (refine any_pure (i := 10) rfl (by kernel_rfl) S ?_; first | (refine onX rfl rfl ?_; (first | refine fieldAddr_x rfl rfl rfl ?_ | refine fieldAddrE_x rfl (by first | omega | decide | (simp; done) | (simp; omega)) rfl rfl ?_)) | first | refine offX rfl rfl rfl rfl ?_ | refine offXU rfl rfl rfl ?_)
          all_goals (refine any_pure (i := 11) rfl (by kernel_rfl) S ?_; first | (refine onX rfl rfl ?_; (first | refine load_i_x rfl rfl rfl rfl ?_ | refine load_o_x rfl rfl rfl rfl ?_ | refine loadE_i_x rfl (by first | omega | decide | (simp; done) | (simp; omega)) rfl rfl rfl ?_ | refine loadE_o_x rfl (by first | omega | decide | (simp; done) | (simp; omega)) rfl rfl rfl ?_)) | first | refine offX rfl rfl rfl rfl ?_ | refine offXU rfl rfl rfl ?_)
          all_goals (refine any_pure (i := 12) rfl (by kernel_rfl) S ?_; first | (refine onX rfl rfl ?_; refine move_s_x rfl rfl ?_) | first | refine offX rfl rfl rfl rfl ?_ | refine offXU rfl rfl rfl ?_)
          all_goals (refine any_pure (i := 13) rfl (by kernel_rfl) S ?_; first | (refine onX rfl rfl ?_; refine move_i_x rfl rfl ?_) | first | refine offX rfl rfl rfl rfl ?_ | refine offXU rfl rfl rfl ?_)
          all_goals (refine any_pure (i := 14) rfl (by kernel_rfl) S ?_; first | (refine onX rfl rfl ?_; (first | refine indexAddr_x rfl rfl (idx_cast _) (by first | omega | decide | (simp; done) | (simp; omega)) rfl ?_ | refine indexAddr_x rfl rfl (idx_eq _) (by first | omega | decide | (simp; done) | (simp; omega)) rfl ?_)) | first | refine offX rfl rfl rfl rfl ?_ | refine offXU rfl rfl rfl ?_)
          all_goals (refine any_pure (i := 15) rfl (by kernel_rfl) S ?_; first | (refine onX rfl rfl ?_; (first | refine fieldAddr_x rfl rfl rfl ?_ | refine fieldAddrE_x rfl (by first | omega | decide | (simp; done) | (simp; omega)) rfl rfl ?_)) | first | refine offX rfl rfl rfl rfl ?_ | refine offXU rfl rfl rfl ?_)
          all_goals (refine any_pure (i := 16) rfl (by kernel_rfl) S ?_; first | (refine onX rfl rfl ?_; (first | refine load_i_x rfl rfl rfl rfl ?_ | refine load_o_x rfl rfl rfl rfl ?_ | refine loadE_i_x rfl (by first | omega | decide | (simp; done) | (simp; omega)) rfl rfl rfl ?_ | refine loadE_o_x rfl (by first | omega | decide | (simp; done) | (simp; omega)) rfl rfl rfl ?_)) | first | refine offX rfl rfl rfl rfl ?_ | refine offXU rfl rfl rfl ?_)
          all_goals (refine any_pure (i := 17) rfl (by kernel_rfl) S ?_; first | (refine onX rfl rfl ?_; (refine lss_x rfl rfl rfl ?_ ?_ <;> intro hcmp <;> try (exfalso; first | omega | exact hcmp (by decide) | exact absurd hcmp (by decide)))) | first | refine offX rfl rfl rfl rfl ?_ | refine offXU rfl rfl rfl ?_)
          all_goals (refine any_pure (i := 18) rfl (by kernel_rfl) S ?_; (first | refine pick_tb_x rfl rfl rfl ?_ | refine pick_fb_x rfl rfl rfl ?_))
          all_goals (refine any_pure (i := 19) rfl (by kernel_rfl) S ?_; refine move_b_x rfl rfl ?_)
          all_goals (refine any_pure (i := 20) rfl (by kernel_rfl) S ?_; first | (refine onX rfl rfl ?_; refine move_s_x rfl rfl ?_) | first | refine offX rfl rfl rfl rfl ?_ | refine offXU rfl rfl rfl ?_)
          all_goals (refine any_pure (i := 21) rfl (by kernel_rfl) S ?_; first | (refine onX rfl rfl ?_; refine move_s_x rfl rfl ?_) | first | refine offX rfl rfl rfl rfl ?_ | refine offXU rfl rfl rfl ?_)
          all_goals (refine any_pure (i := 22) rfl (by kernel_rfl) S ?_; first | (refine onX rfl rfl ?_; refine move_s_x rfl rfl ?_) | first | refine offX rfl rfl rfl rfl ?_ | refine offXU rfl rfl rfl ?_)
          all_goals refine any_step (i := 23) rfl (by kernel_rfl) ?_
          all_goals first | refine onL rfl rfl ?_ | (first | (refine offL rfl rfl rfl rfl ?_; refine nilL ?_) | (refine offLU rfl rfl rfl ?_; refine nilL ?_) | (refine offL0 rfl rfl rfl ?_; refine nilL ?_); refine ⟨S.sub, ?_⟩)
          all_goals replace S := S1
          all_goals clear S1
          all_goals refine callL (vmay_at (l := m2) (a := a') (cap := cap') (by omega) (by omega) (S.all (slL a0 cap0 1 encI 0 z0) (by simp)) (hH2 _ (S.all (row a' z1.length cap' 32 9 (gL encAt atD m2)) (by simp)) (S.all (hisR a1 cap1 z1) (by simp))) (RowOk.sl (S.all (rowL ao co 3 1 encI 0 o) (by simp)))) (by rw [hml2]; rfl) rfl ?_
          all_goals rintro e w ⟨⟨r, rfl, hr⟩, hb⟩
          all_goals replace S := S.below hb
          all_goals clear hb
          all_goals obtain rfl : r = true := hr.2 ⟨hMm, hv2⟩
          all_goals refine ⟨_, rfl, ?_⟩
          all_goals try refine nilL ?_
          all_goals refine ⟨S.sub, ?_⟩
          all_goals (have S1 := S; replace S : Sat _ _ _ [row a' z1.length cap' 32 9 (gL encAt atD m2), hisR a1 cap1 z1] := S1.sub)
          all_goals (refine any_pure (i := 24) rfl (by kernel_rfl) S ?_; first | (refine onX rfl rfl ?_; refine not_x rfl rfl ?_) | first | refine offX rfl rfl rfl rfl ?_ | refine offXU rfl rfl rfl ?_)
          all_goals (refine any_pure (i := 25) rfl (by kernel_rfl) S ?_; (first | refine pick_tb_x rfl rfl rfl ?_ | refine pick_fb_x rfl rfl rfl ?_))
          all_goals refine any_end (by kernel_rfl) ?_
          all_goals replace S := S1
          all_goals clear S1
          all_goals repeat' (first | refine run_skip ?_ | refine run_cond_false rfl ?_ | refine thenQ_n ?_)
          all_goals exact midQ_n () (by (repeat (first | exact agree_refl | refine agree_r rfl ?_ | refine agree_l rfl ?_ | refine agree_hv rfl ?_))) S.sub
      · exact midQ_n () (by (repeat (first | exact agree_refl | refine agree_r rfl ?_ | refine agree_l rfl ?_ | refine agree_hv rfl ?_))) S.sub
      -- }}
    · clear S
      rintro _ j w S
      repeat' (first | refine move_s_l S rfl rfl ?_ | refine move_i_l S rfl rfl ?_ | refine indexAddr_l S rfl rfl (idx_cast _) (by first | omega | decide | (simp; done) | (simp; omega)) rfl ?_ | refine nilL ?_ | refine run_seq ?_ | refine run_skip ?_ | refine run_region ?_ | refine assign_b_l S rfl rfl ?_ | refine assign_s_l S rfl rfl ?_ | refine loadE_i_l S rfl (by first | omega | decide | (simp; done) | (simp; omega)) rfl rfl rfl ?_ | refine assign_i_l S rfl rfl ?_ | refine fieldAddrE_l S rfl (by first | omega | decide | (simp; done) | (simp; omega)) rfl rfl ?_ | (refine gtr_l S rfl rfl rfl ?_ ?_ <;> intro hcmp <;> try (exfalso; first | omega | exact hcmp (by decide) | exact absurd hcmp (by decide))) | refine run_block ?_ | refine run_ret ?_ | refine run_cond_true rfl ?_ | refine run_cond_false rfl ?_ | refine thenQ_n ?_ | refine thenQ_r ?_ | refine ret1_b rfl ?_)
      · exact ⟨rfl, S.chg.below⟩
      have hwr : ¬ 0 < (z1.getD k atD).wv := by assumption
      replace S := S.nilRow 32 9 encAt atD (by decide)
      refine run_while [132, 133, 134, 135, 136, 137, 138, 139, 140, 141, 142, 143, 144, 145, 146, 147] (fun (s : Nat × Option Addr × Nat) t => upd (upd t 16 (.int .i64 (s.1 : Nat))) 14 (.slice s.2.1 (fwL z1 k s.1).length s.2.2)) (fun s w' => s.1 ≤ z1.length ∧ Sat (fun _ => False) w0 w' [rowL s.2.1 s.2.2 32 9 encAt atD (fwL z1 k s.1), rowL ao co 3 1 encI 0 o, slL a0 cap0 1 encI 0 z0, hisR a1 cap1 z1]) (fun s => z1.length - s.1) (0, none, 0) ?_ ?_ ?_
      · rw [show fwL z1 k 0 = [] from by unfold fwL; rw [if_pos (Nat.zero_le _), List.take_zero]]
        (repeat (first | exact agree_refl | refine agree_r rfl ?_ | refine agree_l rfl ?_ | refine agree_hv rfl ?_))
      · refine ⟨Nat.zero_le _, ?_⟩
        dsimp only
        rw [show fwL z1 k 0 = [] from by unfold fwL; rw [if_pos (Nat.zero_le _), List.take_zero]]
        exact S
      clear S
      rintro ⟨i, af, cf⟩ j w ⟨hi, S⟩
      replace hi : i ≤ z1.length := hi
      replace S : Sat (fun _ => False) w0 w [rowL af cf 32 9 encAt atD (fwL z1 k i), rowL ao co 3 1 encI 0 o, slL a0 cap0 1 encI 0 z0, hisR a1 cap1 z1] := S
      dsimp only
      have hfl := fwL_len z1 k i
      by_cases hil : i < z1.length
      · by_cases hik : i = k
        · subst hik
          repeat' (first | refine move_s_l S rfl rfl ?_ | refine move_i_l S rfl rfl ?_ | refine nilL ?_ | refine run_seq ?_ | refine run_skip ?_ | refine run_region ?_ | refine assign_i_l S rfl rfl ?_ | refine len_l S rfl rfl ?_ | (refine neq_l S rfl rfl rfl ?_ ?_ <;> intro hcmp <;> try (exfalso; first | omega | exact hcmp (by decide) | exact absurd hcmp (by decide))) | refine add_l S rfl rfl (wrap_in (by omega)) rfl ?_ | (refine lss_l S rfl rfl rfl ?_ ?_ <;> intro hcmp <;> try (exfalso; first | omega | exact hcmp (by decide) | exact absurd hcmp (by decide))) | refine run_block ?_ | refine run_cond_true rfl ?_ | refine run_cond_false rfl ?_ | refine thenQ_n ?_ | refine blockQ_n ?_)
          rw [← fwL_eq] at S
          refine ⟨(i + 1, af, cf), ?_, ⟨by show i + 1 ≤ _; omega, S⟩, by show z1.length - (i + 1) < z1.length - i; omega⟩
          dsimp only
          rw [fwL_eq, Int.natCast_add i 1]
          (repeat (first | exact agree_refl | refine agree_r rfl ?_ | refine agree_l rfl ?_ | refine agree_hv rfl ?_))
        · repeat' (first | refine move_s_l S rfl rfl ?_ | refine move_i_l S rfl rfl ?_ | refine indexAddr_l S rfl rfl (idx_cast _) (by first | omega | decide | (simp; done) | (simp; omega)) rfl ?_ | refine nilL ?_ | refine run_seq ?_ | refine run_skip ?_ | refine run_region ?_ | refine len_l S rfl rfl ?_ | (refine neq_l S rfl rfl rfl ?_ ?_ <;> intro hcmp <;> try (exfalso; first | omega | exact hcmp (by decide) | exact absurd hcmp (by decide))) | (refine lss_l S rfl rfl rfl ?_ ?_ <;> intro hcmp <;> try (exfalso; first | omega | exact hcmp (by decide) | exact absurd hcmp (by decide))) | (apply buildSliceN_l S; (· repeat (first | exact vsN | apply vsC rfl)); (· rfl); (· rfl); (· rfl); (· rfl); (· rfl); clear S; intro b w S) | refine loadEN_l S rfl (by first | omega | decide | (simp; done) | (simp; omega)) rfl rfl ?_ | refine run_block ?_ | refine run_cond_true rfl ?_ | refine thenQ_n ?_)
          refine append1_l (enc := encAt) (dd := atD) (z := z1.getD i atD) (zs := fwL z1 k i) S rfl rfl (fun j hj => by
            rcases lt9 hj with rfl | rfl | rfl | rfl | rfl | rfl | rfl | rfl | rfl <;> rfl) (by omega) rfl ?_
          clear S
          intro a' cap' w S
          repeat' (first | refine move_i_l S rfl rfl ?_ | refine nilL ?_ | refine run_region ?_ | refine assign_s_l S rfl rfl ?_ | refine assign_i_l S rfl rfl ?_ | refine add_l S rfl rfl (wrap_in (by omega)) rfl ?_ | refine thenQ_n ?_ | refine blockQ_n ?_)
          replace S := S.tail
          rw [← fwL_ne hil hik] at S
          refine ⟨(i + 1, a', cap'), ?_, ⟨by show i + 1 ≤ _; omega, S⟩, by show z1.length - (i + 1) < z1.length - i; omega⟩
          dsimp only
          rw [← fwL_ne hil hik, Int.natCast_add i 1]
          (repeat (first | exact agree_refl | refine agree_r rfl ?_ | refine agree_l rfl ?_ | refine agree_hv rfl ?_))
      · obtain rfl : i = z1.length := by omega
        rw [fwL_end hkl] at S ⊢
        repeat' (first | refine move_s_l S rfl rfl ?_ | refine move_i_l S rfl rfl ?_ | refine nilL ?_ | refine run_seq ?_ | refine run_region ?_ | refine assign_i_l S rfl rfl ?_ | refine len_l S rfl rfl ?_ | (refine lss_l S rfl rfl rfl ?_ ?_ <;> intro hcmp <;> try (exfalso; first | omega | exact hcmp (by decide) | exact absurd hcmp (by decide))) | refine run_block ?_ | refine run_exit ?_ | refine run_cond_false rfl ?_ | refine thenQ_n ?_ | refine thenQ_e ?_ | refine blockQ_s rfl ?_)
        replace S := S.nilRow 3 1 encI 0 (by decide)
        refine run_while [148, 149, 150, 151, 152, 153, 154, 155, 156, 157, 158, 159, 160, 161, 162, 163, 164, 165, 166, 167, 168, 169, 170, 171, 172, 173, 174, 175, 176, 177, 178, 179, 180, 181, 182] (fun (s : Nat × Option Addr × Nat) t => upd (upd t 17 (.int .i64 (s.1 : Nat))) 15 (.slice s.2.1 (dropO (o.take s.1) k).length s.2.2)) (fun s w' => s.1 ≤ o.length ∧ Sat (fun _ => False) w0 w' [rowL s.2.1 s.2.2 3 1 encI 0 (dropO (o.take s.1) k), rowL af cf 32 9 encAt atD (lessL z1 k), rowL ao co 3 1 encI 0 o, slL a0 cap0 1 encI 0 z0, hisR a1 cap1 z1]) (fun s => o.length - s.1) (0, none, 0) ?_ ?_ ?_
        · (repeat (first | exact agree_refl | refine agree_r rfl ?_ | refine agree_l rfl ?_ | refine agree_hv rfl ?_))
        · exact ⟨Nat.zero_le _, S⟩
        clear S
        rintro ⟨q, ab, cb⟩ j w ⟨hq, S⟩
        replace hq : q ≤ o.length := hq
        replace S : Sat (fun _ => False) w0 w [rowL ab cb 3 1 encI 0 (dropO (o.take q) k), rowL af cf 32 9 encAt atD (lessL z1 k), rowL ao co 3 1 encI 0 o, slL a0 cap0 1 encI 0 z0, hisR a1 cap1 z1] := S
        dsimp only
        have hdl := dropO_len (o.take q) k
        rw [List.length_take] at hdl
        by_cases hql : q < o.length
        · have hsucc := dropO_succ (k := k) hql
          obtain ⟨u0, u1⟩ := valid_in hv (getD_mem (d := (0 : Int)) hql)
          rcases Int.lt_trichotomy (o.getD q 0) k with e | e | e
          · rw [if_neg (by omega), show dropI k (o.getD q 0) = o.getD q 0 from by unfold dropI; rw [if_pos e]] at hsucc
            repeat' (first | refine move_s_l S rfl rfl ?_ | refine move_i_l S rfl rfl ?_ | refine indexAddr_l S rfl rfl (idx_cast _) (by first | omega | decide | (simp; done) | (simp; omega)) rfl ?_ | refine nilL ?_ | refine run_seq ?_ | refine run_skip ?_ | refine run_region ?_ | refine assign_b_l S rfl rfl ?_ | refine assign_s_l S rfl rfl ?_ | refine loadE_i_l S rfl (by first | omega | decide | (simp; done) | (simp; omega)) rfl rfl rfl ?_ | refine assign_i_l S rfl rfl ?_ | refine len_l S rfl rfl ?_ | (refine append1_i S rfl rfl rfl (by omega) rfl ?_; clear S; intro a' cap' w S) | refine add_l S rfl rfl (wrap_in (by omega)) rfl ?_ | (refine lss_l S rfl rfl rfl ?_ ?_ <;> intro hcmp <;> try (exfalso; first | omega | exact hcmp (by decide) | exact absurd hcmp (by decide))) | (refine buildSlice_l S rfl rfl rfl rfl rfl ?_; clear S; intro b w S) | refine run_block ?_ | refine run_cond_true rfl ?_ | refine thenQ_n ?_ | refine blockQ_n ?_)
            replace S := S.tail
            rw [← hsucc] at S
            refine ⟨(q + 1, a', cap'), ?_, ⟨by show q + 1 ≤ _; omega, S⟩, by show o.length - (q + 1) < o.length - q; omega⟩
            dsimp only
            rw [← hsucc, Int.natCast_add q 1]
            (repeat (first | exact agree_refl | refine agree_r rfl ?_ | refine agree_l rfl ?_ | refine agree_hv rfl ?_))
          · rw [if_pos e, List.append_nil] at hsucc
            repeat' (first | refine move_s_l S rfl rfl ?_ | refine move_i_l S rfl rfl ?_ | refine indexAddr_l S rfl rfl (idx_cast _) (by first | omega | decide | (simp; done) | (simp; omega)) rfl ?_ | refine nilL ?_ | refine run_seq ?_ | refine run_skip ?_ | refine run_region ?_ | refine assign_b_l S rfl rfl ?_ | refine loadE_i_l S rfl (by first | omega | decide | (simp; done) | (simp; omega)) rfl rfl rfl ?_ | refine assign_i_l S rfl rfl ?_ | refine len_l S rfl rfl ?_ | refine add_l S rfl rfl (wrap_in (by omega)) rfl ?_ | (refine lss_l S rfl rfl rfl ?_ ?_ <;> intro hcmp <;> try (exfalso; first | omega | exact hcmp (by decide) | exact absurd hcmp (by decide))) | (refine gtr_l S rfl rfl rfl ?_ ?_ <;> intro hcmp <;> try (exfalso; first | omega | exact hcmp (by decide) | exact absurd hcmp (by decide))) | refine run_block ?_ | refine run_cond_true rfl ?_ | refine run_cond_false rfl ?_ | refine thenQ_n ?_ | refine blockQ_n ?_)
            rw [← hsucc] at S
            refine ⟨(q + 1, ab, cb), ?_, ⟨by show q + 1 ≤ _; omega, S⟩, by show o.length - (q + 1) < o.length - q; omega⟩
            dsimp only
            rw [hsucc, Int.natCast_add q 1]
            (repeat (first | exact agree_refl | refine agree_r rfl ?_ | refine agree_l rfl ?_ | refine agree_hv rfl ?_))
          · rw [if_neg (by omega), show dropI k (o.getD q 0) = o.getD q 0 - 1 from by unfold dropI; rw [if_neg (by omega)]] at hsucc
            repeat' (first | refine move_s_l S rfl rfl ?_ | refine move_i_l S rfl rfl ?_ | refine indexAddr_l S rfl rfl (idx_cast _) (by first | omega | decide | (simp; done) | (simp; omega)) rfl ?_ | refine nilL ?_ | refine run_seq ?_ | refine run_skip ?_ | refine run_region ?_ | refine assign_b_l S rfl rfl ?_ | refine assign_s_l S rfl rfl ?_ | refine loadE_i_l S rfl (by first | omega | decide | (simp; done) | (simp; omega)) rfl rfl rfl ?_ | refine assign_i_l S rfl rfl ?_ | refine len_l S rfl rfl ?_ | (refine append1_i S rfl rfl rfl (by omega) rfl ?_; clear S; intro a' cap' w S) | refine add_l S rfl rfl (wrap_in (by omega)) rfl ?_ | (refine lss_l S rfl rfl rfl ?_ ?_ <;> intro hcmp <;> try (exfalso; first | omega | exact hcmp (by decide) | exact absurd hcmp (by decide))) | (refine buildSlice_l S rfl rfl rfl rfl rfl ?_; clear S; intro b w S) | (refine gtr_l S rfl rfl rfl ?_ ?_ <;> intro hcmp <;> try (exfalso; first | omega | exact hcmp (by decide) | exact absurd hcmp (by decide))) | refine sub_l S rfl rfl (wrap_in (by omega)) rfl ?_ | refine run_block ?_ | refine run_cond_true rfl ?_ | refine run_cond_false rfl ?_ | refine thenQ_n ?_ | refine blockQ_n ?_)
            replace S := S.tail
            rw [← hsucc] at S
            refine ⟨(q + 1, a', cap'), ?_, ⟨by show q + 1 ≤ _; omega, S⟩, by show o.length - (q + 1) < o.length - q; omega⟩
            dsimp only
            rw [← hsucc, Int.natCast_add q 1]
            (repeat (first | exact agree_refl | refine agree_r rfl ?_ | refine agree_l rfl ?_ | refine agree_hv rfl ?_))
        · obtain rfl : q = o.length := by omega
          rw [List.take_length] at S hdl ⊢
          repeat' (first | refine move_s_l S rfl rfl ?_ | refine move_i_l S rfl rfl ?_ | refine nilL ?_ | refine run_seq ?_ | refine run_region ?_ | refine len_l S rfl rfl ?_ | (refine lss_l S rfl rfl rfl ?_ ?_ <;> intro hcmp <;> try (exfalso; first | omega | exact hcmp (by decide) | exact absurd hcmp (by decide))) | refine run_exit ?_ | refine run_cond_false rfl ?_ | refine thenQ_n ?_ | refine thenQ_e ?_ | refine blockQ_s rfl ?_)
          have hlen := lessL_len hkl
          have hHis : (hisR af cf (lessL z1 k)).holds w := his_of _ (RowOk.sl (S.all (rowL af cf 32 9 encAt atD (lessL z1 k)) (by simp))) rfl (fun _ _ _ _ => rfl) (fun z hz => by
            rw [← fwL_end hkl] at hz
            obtain ⟨i, hi, rfl⟩ := List.mem_iff_getElem.1 (fwL_mem hz)
            have h3 := ((S.all (hisR a1 cap1 z1) (by simp)) : (hisR a1 cap1 z1).holds w).2 i
            rw [List.getD_eq_getElem?_getD, List.getElem?_eq_getElem hi] at h3
            exact h3)
          refine callL (vmay_at (o := dropO o k) (by omega) (by omega) (S.all (slL a0 cap0 1 encI 0 z0) (by simp)) hHis (RowOk.sl S.got1)) rfl rfl ?_
          rintro e w ⟨⟨r, rfl, hr⟩, hb⟩
          replace S := S.below hb
          refine ⟨_, rfl, ?_⟩
          obtain rfl : r = true := hr.2 ⟨may_drop hM hkl, valid_drop hM hkl hv hwr⟩
          repeat' (first | refine nilL ?_ | refine assign_b_l S rfl rfl ?_ | refine run_ret ?_ | refine thenQ_n ?_ | refine ret1_b rfl ?_)
          exact ⟨rfl, S.chg.below⟩
end Go.Proofs.Ytciehimnhnbipaa
