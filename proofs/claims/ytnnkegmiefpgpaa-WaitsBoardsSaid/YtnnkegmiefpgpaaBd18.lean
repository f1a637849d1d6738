/- The document's board: what lies there; Put, Off, Threads, At. -/
import Derived.Test.YtnnkegmiefpgpaaBrdP
namespace Go.Proofs.Ytnnkegmiefpgpaa
open Go.RowKit Go.Lib
set_option linter.unusedVariables false
set_option maxHeartbeats 2000000
/-- For each thread: is it there, and its stripes with where they lie. -/
abbrev DbX := Nat → Bool × SlI
def noS : SlI := ⟨none, 0, []⟩
def db0 : DbX := fun _ => (false, noS)
def putD (D : DbX) (q : Nat) (s : SlI) : DbX := fun j => if j = q then (true, s) else D j
def offD (D : DbX) (q : Nat) : DbX := fun j => if j = q then (false, noS) else D j
def dbC (D : DbX) : Tm := fun i => if i < 6 then .bool (D i).1 else .slice (D (i - 6)).2.a (D (i - 6)).2.zs.length (D (i - 6)).2.cap
theorem dbC_is {D : DbX} {q : Nat} (h : q < 6) : dbC D q = .bool (D q).1 := if_pos h
theorem dbC_l (D : DbX) (q : Nat) : dbC D (6 + q) = .slice (D q).2.a (D q).2.zs.length (D q).2.cap := by
  unfold dbC
  rw [if_neg (by omega), Nat.add_sub_cancel_left]
theorem dbC_is' {D : DbX} {o : Nat} (q : Nat) (h : q < 6) (e : o = q) : dbC D o = .bool (D q).1 := by subst e; exact dbC_is h
theorem dbC_l' {D : DbX} {o : Nat} (q : Nat) (e : o = 6 + q) : dbC D o = .slice (D q).2.a (D q).2.zs.length (D q).2.cap := by subst e; exact dbC_l D q
theorem blt_of {a c : Nat} (h : a < c) : Nat.blt a c = true := by simpa [Nat.blt_eq] using h
theorem upd_is (t : Tm) (d : Nat) (v : Value) : upd t d v d = v := by unfold upd; simp
theorem upd_not (t : Tm) {d i : Nat} (v : Value) (h : i ≠ d) : upd t d v i = t i := by
  unfold upd
  rw [show Nat.beq i d = false from by cases hb : Nat.beq i d with
    | true => exact absurd (Nat.eq_of_beq_eq_true hb) h
    | false => rfl]
  rfl
theorem dbC_upd {D : DbX} {q : Nat} (p : Bool) (s : SlI) (h : q < 6) : upd (upd (dbC D) q (.bool p)) (6 + q) (.slice s.a s.zs.length s.cap) = dbC (fun j => if j = q then (p, s) else D j) := by
  funext i
  by_cases e : i = 6 + q
  · subst e
    rw [upd_is, dbC_l, if_pos rfl]
  · rw [upd_not _ _ e]
    by_cases e2 : i = q
    · subst e2
      rw [upd_is, dbC_is h, if_pos rfl]
    · rw [upd_not _ _ e2]
      unfold dbC
      by_cases e3 : i < 6
      · simp only [if_pos e3, if_neg e2]
      · have e4 : ¬ i - 6 = q := by omega
        simp only [if_neg e3, if_neg e4]
/-- The rows of stripes. -/
def inD (D : DbX) : Res where
  foot k := ∃ i, (slL (D i).2.a (D i).2.cap 1 encI 0 (D i).2.zs).foot k
  ro := false
  holds w := ∀ i, (slL (D i).2.a (D i).2.cap 1 encI 0 (D i).2.zs).holds w
  lt w k h e := by
    obtain ⟨i, hk⟩ := e
    exact (slL (D i).2.a (D i).2.cap 1 encI 0 (D i).2.zs).lt w k (h i) hk
  loc w w' h e := fun i => (slL (D i).2.a (D i).2.cap 1 encI 0 (D i).2.zs).loc w w' (h i) fun k hk => e k ⟨i, hk⟩
def bdR (b : Nat) (D : DbX) : Res where
  foot k := k = b ∨ (inD D).foot k
  ro := false
  holds w := ((blk b 12 (dbC D) 48).holds w ∧ (inD D).holds w) ∧ ¬ (inD D).foot b
  lt w k h e := by
    rcases e with rfl | e
    · exact (blk k 12 (dbC D) 48).lt w k h.1.1 rfl
    · exact (inD D).lt w k h.1.2 e
  loc w w' h e := ⟨⟨(blk b 12 (dbC D) 48).loc w w' h.1.1 (fun k hk => e k (.inl hk)), (inD D).loc w w' h.1.2 (fun k hk => e k (.inr hk))⟩, h.2⟩
abbrev bdL (b : Nat) (D : DbX) : List Res := [blk b 12 (dbC D) 48, inD D]
theorem bd_open {b : Nat} {D : DbX} {w : World} (h : (bdR b D).holds w) : Sat (bdR b D).foot w w (bdL b D) := by
  obtain ⟨⟨h1, h2⟩, g1⟩ := h
  refine ((Sat.start _ w).push (r := inD D) h2 (by simp) (fun _ k hk _ => .inr hk)).push (r := blk b 12 (dbC D) 48) h1 ?_ (fun _ k hk _ => .inl hk)
  intro x hx
  obtain rfl : x = inD D := by simpa using hx
  exact .inr fun k e e' => g1 (e ▸ e')
section
variable (L : List Res) (b : Nat) (D : DbX)
instance bd_B : PickB (bdR b D :: L) b 12 (dbC D) 48 := ⟨fun w h => (h (bdR b D) (List.mem_cons_self ..)).1.1⟩
instance bd_Sl (j : Nat) : PickSl (bdR b D :: L) (D j).2.a (D j).2.zs.length (D j).2.cap 1 (gL encI 0 (D j).2.zs) := ⟨fun w h => (h (bdR b D) (List.mem_cons_self ..)).1.2 j⟩
instance bd_E (j : Nat) : PickE (bdR b D :: L) (D j).2.a (D j).2.zs.length (D j).2.cap 1 (gL encI 0 (D j).2.zs) := ⟨fun w h => (h (bdR b D) (List.mem_cons_self ..)).1.2 j⟩
instance bd_Li (j : Nat) : PickL (bdR b D :: L) (D j).2.a (D j).2.cap 1 encI 0 (D j).2.zs := ⟨fun w h => (h (bdR b D) (List.mem_cons_self ..)).1.2 j⟩
end
/-- Such a board lies there now; nothing else is changed. -/
def BdTo (b : Nat) (D D' : DbX) (w0 w' : World) : Prop :=
  (bdR b D').holds w' ∧ Chg (bdR b D).foot w0 w' ∧ ∀ k, (bdR b D').foot k → (bdR b D).foot k ∨ w0.heap.size ≤ k
theorem bd_shut {w₀ w : World} {b : Nat} {D : DbX} {L : List Res} (h : Sat (bdR b D).foot w₀ w (blk b 12 (dbC D) 48 :: inD D :: L)) : BdTo b D D w₀ w := by
  have a1 := h.all (blk b 12 (dbC D) 48) (by simp)
  have a2 := h.all (inD D) (by simp)
  have s1 := List.pairwise_cons.1 h.sep
  exact ⟨⟨⟨a1, a2⟩, fun e => own_apart (s1.1 (inD D) (by simp)) rfl b rfl e⟩, h.chg, fun k e => .inl e⟩
theorem sl_noS (w : World) : (slL noS.a noS.cap 1 encI 0 noS.zs).holds w := ⟨by decide, Nat.le_refl _, Nat.zero_le _, fun _ => rfl, .inl rfl⟩
theorem bd_off {w₀ w : World} {b q : Nat} {D : DbX} {L : List Res} (h : Sat (bdR b D).foot w₀ w (blk b 12 (dbC (offD D q)) 48 :: inD D :: L)) : BdTo b D (offD D q) w₀ w := by
  have a1 := h.all (blk b 12 (dbC (offD D q)) 48) (by simp)
  have a2 := h.all (inD D) (by simp)
  have s1 := List.pairwise_cons.1 h.sep
  have hsub : ∀ k, (inD (offD D q)).foot k → (inD D).foot k := by
    rintro k ⟨i, hk⟩
    unfold offD at hk
    split at hk
    · exact absurd rfl hk.1
    · exact ⟨i, hk⟩
  refine ⟨⟨⟨a1, fun i => ?_⟩, fun e => own_apart (s1.1 (inD D) (by simp)) rfl b rfl (hsub _ e)⟩, h.chg, fun k e => .inl ?_⟩
  · show (slL (offD D q i).2.a (offD D q i).2.cap 1 encI 0 (offD D q i).2.zs).holds w
    unfold offD
    split
    · exact sl_noS w
    · exact a2 i
  · exact e.imp id (hsub k)
theorem bd_put {w₀ w : World} {b q cap e : Nat} {a : Option Addr} {zs : List Int} {D : DbX} {L : List Res} (h : Sat (bdR b D).foot w₀ w (rowL a cap e 1 encI 0 zs :: blk b 12 (dbC (putD D q ⟨a, cap, zs⟩)) 48 :: inD D :: L)) : BdTo b D (putD D q ⟨a, cap, zs⟩) w₀ w := by
  have a0 := h.all (rowL a cap e 1 encI 0 zs) (by simp)
  have a1 := h.all (blk b 12 (dbC (putD D q ⟨a, cap, zs⟩)) 48) (by simp)
  have a2 := h.all (inD D) (by simp)
  have s0 := List.pairwise_cons.1 h.sep
  have s1 := List.pairwise_cons.1 s0.2
  have hsub : ∀ k, (inD (putD D q ⟨a, cap, zs⟩)).foot k → (inD D).foot k ∨ (rowL a cap e 1 encI 0 zs).foot k := by
    rintro k ⟨i, hk⟩
    unfold putD at hk
    split at hk
    · exact .inr hk.2
    · exact .inl ⟨i, hk⟩
  refine ⟨⟨⟨a1, fun i => ?_⟩, fun e => ?_⟩, h.chg, fun k e => ?_⟩
  · show (slL (putD D q ⟨a, cap, zs⟩ i).2.a (putD D q ⟨a, cap, zs⟩ i).2.cap 1 encI 0 (putD D q ⟨a, cap, zs⟩ i).2.zs).holds w
    unfold putD
    split
    · exact RowOk.sl a0
    · exact a2 i
  · rcases hsub _ e with e | e
    · exact own_apart (s1.1 (inD D) (by simp)) rfl b rfl e
    · exact own_apart (s0.1 (blk b 12 (dbC (putD D q ⟨a, cap, zs⟩)) 48) (by simp)) rfl b e rfl
  · rcases e with rfl | e
    · exact .inl (.inl rfl)
    · rcases hsub _ e with e | e
      · exact .inl (.inr e)
      · by_cases hlt : k < w₀.heap.size
        · exact .inl (h.own (rowL a cap _ 1 encI 0 zs) (by simp) rfl k e hlt)
        · exact .inr (by omega)
/-- It is the board. -/
structure RelD (D : DbX) (B : Brd) : Prop where
  ok : BrdOk B
  get : ∀ j : Nat, j < 6 → getM B (j : Int) = if (D j).1 = true then some (insL (D j).2.zs) else none
  out : ∀ j : Nat, (D j).1 = false → (D j).2.zs = []
theorem RelD.start : RelD db0 [] := ⟨BrdOk.nil, fun j _ => rfl, fun j _ => rfl⟩
theorem RelD.far {D : DbX} {B : Brd} (h : RelD D B) {t : Int} (ht : t < 0 ∨ t ≥ 6) : getM B t = none := getM_none.2 fun p hp e => by
  have := h.ok.within p hp
  omega
theorem RelD.put {D : DbX} {B : Brd} (h : RelD D B) {q : Nat} (hq : q < 6) (s : SlI) : RelD (putD D q s) (putM B (q : Int) (insL s.zs)) := by
  refine ⟨⟨putM_sorted h.ok.sorted _ _, fun p hp => ?_⟩, fun j hj => ?_, fun j hj => ?_⟩
  · rcases (mem_putM h.ok.sorted).1 hp with rfl | ⟨hp, _⟩
    · show 0 ≤ (q : Int) ∧ (q : Int) < 6
      omega
    · exact h.ok.within p hp
  · rw [getM_put h.ok.sorted]
    unfold putD
    by_cases e : j = q
    · subst e
      rw [if_pos rfl, if_pos rfl, if_pos rfl]
    · rw [if_neg (by omega), if_neg e]
      exact h.get j hj
  · unfold putD at hj ⊢
    split at hj
    · cases hj
    · rename_i e
      rw [if_neg e]
      exact h.out j hj
theorem RelD.off {D : DbX} {B : Brd} (h : RelD D B) {q : Nat} (hq : q < 6) : RelD (offD D q) (offB B (q : Int)) := by
  refine ⟨h.ok.off _, fun j hj => ?_, fun j hj => ?_⟩
  · unfold offB
    rw [getM_del h.ok.sorted]
    unfold offD
    by_cases e : j = q
    · subst e
      rw [if_pos rfl, if_pos rfl]
      rfl
    · rw [if_neg (by omega), if_neg e]
      exact h.get j hj
  · unfold offD at hj ⊢
    split
    · rfl
    · rename_i e
      rw [if_neg e] at hj
      exact h.out j hj
theorem sorted_ext2 : ∀ (l m : List Int), l.Pairwise (· < ·) → m.Pairwise (· < ·) → (∀ x, x ∈ l ↔ x ∈ m) → l = m
  | [], [], _, _, _ => rfl
  | [], y :: m, _, _, h => absurd ((h y).2 (by simp)) (by simp)
  | x :: l, [], _, _, h => absurd ((h x).1 (by simp)) (by simp)
  | x :: l, y :: m, h1, h2, h => by
    obtain ⟨a1, a2⟩ := List.pairwise_cons.1 h1
    obtain ⟨b1, b2⟩ := List.pairwise_cons.1 h2
    have hxy : x = y := by
      rcases List.mem_cons.1 ((h x).1 (by simp)) with e | e
      · exact e
      · rcases List.mem_cons.1 ((h y).2 (by simp)) with e2 | e2
        · exact e2.symm
        · have := b1 x e
          have := a1 y e2
          omega
    subst hxy
    rw [sorted_ext2 l m a2 b2 fun z => ?_]
    constructor
    · intro hz
      rcases List.mem_cons.1 ((h z).1 (by simp [hz])) with e | e
      · have := a1 z hz
        omega
      · exact e
    · intro hz
      rcases List.mem_cons.1 ((h z).2 (by simp [hz])) with e | e
      · have := b1 z hz
        omega
      · exact e
def thrD (D : DbX) (q : Nat) : List Int := ((List.range q).filter fun j => (D j).1).map fun (j : Nat) => (j : Int)
def atD (D : DbX) (n : Int) (q : Nat) : List Int := ((List.range q).filter fun j => decide (n ∈ (D j).2.zs)).map fun (j : Nat) => (j : Int)
theorem thrD_succ (D : DbX) (q : Nat) : thrD D (q + 1) = thrD D q ++ if (D q).1 = true then [(q : Int)] else [] := by
  unfold thrD
  rw [List.range_succ, List.filter_append, List.map_append]
  cases h : (D q).1 <;> simp [h]
theorem atD_succ (D : DbX) (n : Int) (q : Nat) : atD D n (q + 1) = atD D n q ++ if n ∈ (D q).2.zs then [(q : Int)] else [] := by
  unfold atD
  rw [List.range_succ, List.filter_append, List.map_append]
  by_cases h : n ∈ (D q).2.zs <;> simp [h]
theorem up_range (p : Nat → Bool) (q : Nat) : (((List.range q).filter p).map fun (j : Nat) => (j : Int)).Pairwise (· < ·) := by
  rw [List.pairwise_map]
  refine (List.Pairwise.filter p List.pairwise_lt_range).imp fun h => ?_
  omega
theorem thrD_len (D : DbX) (q : Nat) : (thrD D q).length ≤ q := by
  unfold thrD
  rw [List.length_map]
  exact Nat.le_trans (List.length_filter_le _ _) (by simp)
theorem atD_len (D : DbX) (n : Int) (q : Nat) : (atD D n q).length ≤ q := by
  unfold atD
  rw [List.length_map]
  exact Nat.le_trans (List.length_filter_le _ _) (by simp)
theorem RelD.thr {D : DbX} {B : Brd} (h : RelD D B) : threadsB B = thrD D 6 := by
  refine sorted_ext2 _ _ h.ok.thr (up_range _ _) fun x => ?_
  unfold threadsB thrD
  rw [List.mem_map, List.mem_map]
  constructor
  · rintro ⟨p, hp, rfl⟩
    have hw := h.ok.within p hp
    refine ⟨p.1.toNat, List.mem_filter.2 ⟨List.mem_range.2 (by omega), ?_⟩, by omega⟩
    have hg := h.get p.1.toNat (by omega)
    rw [show ((p.1.toNat : Nat) : Int) = p.1 from by omega] at hg
    cases hd : (D p.1.toNat).1 with
    | true => rfl
    | false =>
      rw [hd, if_neg (by decide)] at hg
      exact absurd rfl (getM_none.1 hg p hp)
  · rintro ⟨j, hj, rfl⟩
    obtain ⟨h1, h2⟩ := List.mem_filter.1 hj
    have hg := h.get j (List.mem_range.1 h1)
    rw [if_pos h2] at hg
    exact ⟨_, getM_mem hg, rfl⟩
theorem RelD.at {D : DbX} {B : Brd} (h : RelD D B) (n : Int) : atB B n = atD D n 6 := by
  unfold atB
  rw [h.thr]
  unfold thrD atD
  rw [List.filter_map, List.filter_filter]
  congr 1
  refine List.filter_congr fun j hj => ?_
  have hg := h.get j (List.mem_range.1 hj)
  show (hasSt B (j : Int) n && (D j).1) = _
  unfold hasSt
  rw [hg]
  cases hd : (D j).1 with
  | true => simp [insL_get]
  | false => simp [h.out j hd]
section
variable {b0 : Nat} {D : DbX} {B : Brd} {w0 : World} (h : (bdR b0 D).holds w0) (hR : RelD D B)
include h hR
theorem dthr_at : Calls Try.prog 24 #[.pointer (some ⟨b0, 0, none⟩)] w0 fun e w' => ∃ v, e = .returned v ∧ NewRow w0 w' 3 1 encI 0 (threadsB B) v ∧ Below w0.heap.size w0 w' := by
  rw [hR.thr]
  have S := Sat.reads h
  refine enter1 Try.func24 rfl Try.ntmps24 rfl Try.results24 ?_
  repeat' (first | refine assign_s_l S rfl rfl ?_ | refine move_i_l S rfl rfl ?_ | refine assign_i_l S rfl rfl ?_ | refine nilL ?_ | refine run_seq ?_ | refine run_skip ?_ | refine run_region ?_ | refine move_s_l S rfl rfl ?_ | (refine lss_l S rfl rfl rfl ?_ ?_ <;> intro hcmp <;> try (exfalso; first | omega | exact hcmp (by decide) | exact absurd hcmp (by decide))) | refine move_p_l S rfl rfl ?_ | refine move_e_l S rfl rfl ?_ | refine nilCheck_l S rfl rfl ?_ | refine nilCheckE_l S rfl (by first | omega | decide | (simp; done) | (simp; omega)) rfl ?_ | refine fieldAddr_l S rfl rfl rfl ?_ | refine fieldAddrE_l S rfl (by first | omega | decide | (simp; done) | (simp; omega)) rfl rfl ?_ | refine indexArr_l S rfl rfl (by first | omega | decide | (simp; done) | (simp; omega)) rfl rfl ?_ | refine load_b_l S rfl rfl rfl rfl ?_ | refine loadE_b_l S rfl (by first | omega | decide | (simp; done) | (simp; omega)) rfl rfl rfl ?_ | (refine buildSlice_l S rfl rfl rfl rfl rfl ?_; clear S; intro b w S) | (apply buildSliceN_l S; (· repeat (first | exact vsN | apply vsC rfl)); (· rfl); (· rfl); (· rfl); (· rfl); (· rfl); clear S; intro b w S) | (refine append_l S rfl rfl (by omega) rfl ?_; clear S; intro a' cap' w S) | (refine append0_l S rfl rfl (by omega) rfl ?_; clear S; intro a' cap' w S) | (refine append1_i S rfl rfl rfl (by omega) rfl ?_; clear S; intro a' cap' w S) | (refine append2_i S rfl rfl rfl rfl (by omega) rfl ?_; clear S; intro a' cap' w S) | (refine appendPre_i S rfl rfl (by omega) (by omega) rfl ?_; clear S; intro a' cap' w S) | (refine appendSuf_i S rfl rfl (by omega) (by omega) rfl ?_; clear S; intro a' cap' w S) | refine add_l S rfl rfl (wrap_in (by omega)) rfl ?_ | refine add_l S rfl rfl rfl rfl ?_ | refine move_o_l S rfl rfl ?_ | refine load_o_l S rfl rfl rfl rfl ?_ | refine loadE_o_l S rfl (by first | omega | decide | (simp; done) | (simp; omega)) rfl rfl rfl ?_ | refine run_block ?_ | refine run_ret ?_ | refine run_exit ?_ | refine run_cond_true rfl ?_ | refine run_cond_false rfl ?_ | refine thenQ_n ?_ | refine thenQ_r ?_ | refine thenQ_e ?_ | refine blockQ_n ?_ | refine blockQ_r ?_ | refine blockQ_s rfl ?_ | refine blockQ_o rfl ?_ | refine ret1_i rfl ?_ | refine ret1_b rfl ?_ | refine ret1_p rfl ?_ | refine ret1_s rfl ?_ | refine ret1_e rfl ?_ | refine ret1_a rfl ?_ | refine ret1_o rfl ?_ | refine ret1n_i rfl ?_ | refine ret1n_b rfl ?_ | refine ret1n_p rfl ?_ | refine ret1n_s rfl ?_ | refine ret1n_o rfl ?_)
  replace S := S.nilRow 3 1 encI 0 (by decide)
  refine run_while [5, 6, 7, 8, 9, 10, 11, 12, 13, 14, 15, 16, 17, 18] (fun (s : Nat × Option Addr × Nat) t => upd (upd t 4 (.int .i64 s.1)) 3 (.slice s.2.1 (thrD D s.1).length s.2.2)) (fun s w' => s.1 ≤ 6 ∧ Sat (fun _ => False) w0 w' [rowL s.2.1 s.2.2 3 1 encI 0 (thrD D s.1), roR (bdR b0 D)]) (fun s => 6 - s.1) (0, none, 0) ?_ ?_ ?_
  · (repeat (first | exact agree_refl | refine agree_r rfl ?_ | refine agree_l rfl ?_ | refine agree_hv rfl ?_))
  · exact ⟨Nat.zero_le _, S⟩
  clear S
  rintro ⟨q, ta, tc⟩ j w ⟨hq, S⟩
  simp only at hq S ⊢
  have hlen := thrD_len D q
  have hsucc := thrD_succ D q
  by_cases hql : q < 6
  · repeat' (first | refine assign_s_l S rfl rfl ?_ | refine move_i_l S rfl rfl ?_ | refine assign_i_l S rfl rfl ?_ | refine nilL ?_ | refine run_seq ?_ | refine run_skip ?_ | refine run_region ?_ | refine move_s_l S rfl rfl ?_ | (refine lss_l S rfl rfl rfl ?_ ?_ <;> intro hcmp <;> try (exfalso; first | omega | exact hcmp (by decide) | exact absurd hcmp (by decide))) | refine move_p_l S rfl rfl ?_ | refine move_e_l S rfl rfl ?_ | refine nilCheck_l S rfl rfl ?_ | refine nilCheckE_l S rfl (by first | omega | decide | (simp; done) | (simp; omega)) rfl ?_ | refine fieldAddr_l S rfl rfl rfl ?_ | refine fieldAddrE_l S rfl (by first | omega | decide | (simp; done) | (simp; omega)) rfl rfl ?_ | refine indexArr_l S rfl rfl (by first | omega | decide | (simp; done) | (simp; omega)) rfl rfl ?_ | refine load_b_l S rfl rfl rfl rfl ?_ | refine loadE_b_l S rfl (by first | omega | decide | (simp; done) | (simp; omega)) rfl rfl rfl ?_ | (refine buildSlice_l S rfl rfl rfl rfl rfl ?_; clear S; intro b w S) | (apply buildSliceN_l S; (· repeat (first | exact vsN | apply vsC rfl)); (· rfl); (· rfl); (· rfl); (· rfl); (· rfl); clear S; intro b w S) | (refine append_l S rfl rfl (by omega) rfl ?_; clear S; intro a' cap' w S) | (refine append0_l S rfl rfl (by omega) rfl ?_; clear S; intro a' cap' w S) | (refine append1_i S rfl rfl rfl (by omega) rfl ?_; clear S; intro a' cap' w S) | (refine append2_i S rfl rfl rfl rfl (by omega) rfl ?_; clear S; intro a' cap' w S) | (refine appendPre_i S rfl rfl (by omega) (by omega) rfl ?_; clear S; intro a' cap' w S) | (refine appendSuf_i S rfl rfl (by omega) (by omega) rfl ?_; clear S; intro a' cap' w S) | refine add_l S rfl rfl (wrap_in (by omega)) rfl ?_ | refine add_l S rfl rfl rfl rfl ?_ | refine move_o_l S rfl rfl ?_ | refine load_o_l S rfl rfl rfl rfl ?_ | refine loadE_o_l S rfl (by first | omega | decide | (simp; done) | (simp; omega)) rfl rfl rfl ?_ | refine run_block ?_ | refine run_ret ?_ | refine run_exit ?_ | refine run_cond_true rfl ?_ | refine run_cond_false rfl ?_ | refine thenQ_n ?_ | refine thenQ_r ?_ | refine thenQ_e ?_ | refine blockQ_n ?_ | refine blockQ_r ?_ | refine blockQ_s rfl ?_ | refine blockQ_o rfl ?_ | refine ret1_i rfl ?_ | refine ret1_b rfl ?_ | refine ret1_p rfl ?_ | refine ret1_s rfl ?_ | refine ret1_e rfl ?_ | refine ret1_a rfl ?_ | refine ret1_o rfl ?_ | refine ret1n_i rfl ?_ | refine ret1n_b rfl ?_ | refine ret1n_p rfl ?_ | refine ret1n_s rfl ?_ | refine ret1n_o rfl ?_)
    refine load_b_l S rfl (dbC_is' q hql (by omega)) (blt_of (by omega)) rfl ?_
    cases hd : (D q).1 with
    | true =>
      rw [hd, if_pos rfl] at hsucc
      repeat' (first | refine assign_s_l S rfl rfl ?_ | refine move_i_l S rfl rfl ?_ | refine assign_i_l S rfl rfl ?_ | refine nilL ?_ | refine run_seq ?_ | refine run_skip ?_ | refine run_region ?_ | refine move_s_l S rfl rfl ?_ | (refine lss_l S rfl rfl rfl ?_ ?_ <;> intro hcmp <;> try (exfalso; first | omega | exact hcmp (by decide) | exact absurd hcmp (by decide))) | refine move_p_l S rfl rfl ?_ | refine move_e_l S rfl rfl ?_ | refine nilCheck_l S rfl rfl ?_ | refine nilCheckE_l S rfl (by first | omega | decide | (simp; done) | (simp; omega)) rfl ?_ | refine fieldAddr_l S rfl rfl rfl ?_ | refine fieldAddrE_l S rfl (by first | omega | decide | (simp; done) | (simp; omega)) rfl rfl ?_ | refine indexArr_l S rfl rfl (by first | omega | decide | (simp; done) | (simp; omega)) rfl rfl ?_ | refine load_b_l S rfl rfl rfl rfl ?_ | refine loadE_b_l S rfl (by first | omega | decide | (simp; done) | (simp; omega)) rfl rfl rfl ?_ | (refine buildSlice_l S rfl rfl rfl rfl rfl ?_; clear S; intro b w S) | (apply buildSliceN_l S; (· repeat (first | exact vsN | apply vsC rfl)); (· rfl); (· rfl); (· rfl); (· rfl); (· rfl); clear S; intro b w S) | (refine append_l S rfl rfl (by omega) rfl ?_; clear S; intro a' cap' w S) | (refine append0_l S rfl rfl (by omega) rfl ?_; clear S; intro a' cap' w S) | (refine append1_i S rfl rfl rfl (by omega) rfl ?_; clear S; intro a' cap' w S) | (refine append2_i S rfl rfl rfl rfl (by omega) rfl ?_; clear S; intro a' cap' w S) | (refine appendPre_i S rfl rfl (by omega) (by omega) rfl ?_; clear S; intro a' cap' w S) | (refine appendSuf_i S rfl rfl (by omega) (by omega) rfl ?_; clear S; intro a' cap' w S) | refine add_l S rfl rfl (wrap_in (by omega)) rfl ?_ | refine add_l S rfl rfl rfl rfl ?_ | refine move_o_l S rfl rfl ?_ | refine load_o_l S rfl rfl rfl rfl ?_ | refine loadE_o_l S rfl (by first | omega | decide | (simp; done) | (simp; omega)) rfl rfl rfl ?_ | refine run_block ?_ | refine run_ret ?_ | refine run_exit ?_ | refine run_cond_true rfl ?_ | refine run_cond_false rfl ?_ | refine thenQ_n ?_ | refine thenQ_r ?_ | refine thenQ_e ?_ | refine blockQ_n ?_ | refine blockQ_r ?_ | refine blockQ_s rfl ?_ | refine blockQ_o rfl ?_ | refine ret1_i rfl ?_ | refine ret1_b rfl ?_ | refine ret1_p rfl ?_ | refine ret1_s rfl ?_ | refine ret1_e rfl ?_ | refine ret1_a rfl ?_ | refine ret1_o rfl ?_ | refine ret1n_i rfl ?_ | refine ret1n_b rfl ?_ | refine ret1n_p rfl ?_ | refine ret1n_s rfl ?_ | refine ret1n_o rfl ?_)
      refine ⟨(q + 1, a', cap'), ?_, ⟨by simp only; omega, ?_⟩, by simp only; omega⟩
      · simp only
        rw [hsucc, Int.natCast_add]
        (repeat (first | exact agree_refl | refine agree_r rfl ?_ | refine agree_l rfl ?_ | refine agree_hv rfl ?_))
      · simp only
        rw [hsucc]
        exact S.sub
    | false =>
      rw [hd, if_neg (by decide), List.append_nil] at hsucc
      repeat' (first | refine assign_s_l S rfl rfl ?_ | refine move_i_l S rfl rfl ?_ | refine assign_i_l S rfl rfl ?_ | refine nilL ?_ | refine run_seq ?_ | refine run_skip ?_ | refine run_region ?_ | refine move_s_l S rfl rfl ?_ | (refine lss_l S rfl rfl rfl ?_ ?_ <;> intro hcmp <;> try (exfalso; first | omega | exact hcmp (by decide) | exact absurd hcmp (by decide))) | refine move_p_l S rfl rfl ?_ | refine move_e_l S rfl rfl ?_ | refine nilCheck_l S rfl rfl ?_ | refine nilCheckE_l S rfl (by first | omega | decide | (simp; done) | (simp; omega)) rfl ?_ | refine fieldAddr_l S rfl rfl rfl ?_ | refine fieldAddrE_l S rfl (by first | omega | decide | (simp; done) | (simp; omega)) rfl rfl ?_ | refine indexArr_l S rfl rfl (by first | omega | decide | (simp; done) | (simp; omega)) rfl rfl ?_ | refine load_b_l S rfl rfl rfl rfl ?_ | refine loadE_b_l S rfl (by first | omega | decide | (simp; done) | (simp; omega)) rfl rfl rfl ?_ | (refine buildSlice_l S rfl rfl rfl rfl rfl ?_; clear S; intro b w S) | (apply buildSliceN_l S; (· repeat (first | exact vsN | apply vsC rfl)); (· rfl); (· rfl); (· rfl); (· rfl); (· rfl); clear S; intro b w S) | (refine append_l S rfl rfl (by omega) rfl ?_; clear S; intro a' cap' w S) | (refine append0_l S rfl rfl (by omega) rfl ?_; clear S; intro a' cap' w S) | (refine append1_i S rfl rfl rfl (by omega) rfl ?_; clear S; intro a' cap' w S) | (refine append2_i S rfl rfl rfl rfl (by omega) rfl ?_; clear S; intro a' cap' w S) | (refine appendPre_i S rfl rfl (by omega) (by omega) rfl ?_; clear S; intro a' cap' w S) | (refine appendSuf_i S rfl rfl (by omega) (by omega) rfl ?_; clear S; intro a' cap' w S) | refine add_l S rfl rfl (wrap_in (by omega)) rfl ?_ | refine add_l S rfl rfl rfl rfl ?_ | refine move_o_l S rfl rfl ?_ | refine load_o_l S rfl rfl rfl rfl ?_ | refine loadE_o_l S rfl (by first | omega | decide | (simp; done) | (simp; omega)) rfl rfl rfl ?_ | refine run_block ?_ | refine run_ret ?_ | refine run_exit ?_ | refine run_cond_true rfl ?_ | refine run_cond_false rfl ?_ | refine thenQ_n ?_ | refine thenQ_r ?_ | refine thenQ_e ?_ | refine blockQ_n ?_ | refine blockQ_r ?_ | refine blockQ_s rfl ?_ | refine blockQ_o rfl ?_ | refine ret1_i rfl ?_ | refine ret1_b rfl ?_ | refine ret1_p rfl ?_ | refine ret1_s rfl ?_ | refine ret1_e rfl ?_ | refine ret1_a rfl ?_ | refine ret1_o rfl ?_ | refine ret1n_i rfl ?_ | refine ret1n_b rfl ?_ | refine ret1n_p rfl ?_ | refine ret1n_s rfl ?_ | refine ret1n_o rfl ?_)
      refine ⟨(q + 1, ta, tc), ?_, ⟨by simp only; omega, ?_⟩, by simp only; omega⟩
      · simp only
        rw [hsucc, Int.natCast_add]
        (repeat (first | exact agree_refl | refine agree_r rfl ?_ | refine agree_l rfl ?_ | refine agree_hv rfl ?_))
      · simp only
        rw [hsucc]
        exact S
  · repeat' (first | refine assign_s_l S rfl rfl ?_ | refine move_i_l S rfl rfl ?_ | refine assign_i_l S rfl rfl ?_ | refine nilL ?_ | refine run_seq ?_ | refine run_skip ?_ | refine run_region ?_ | refine move_s_l S rfl rfl ?_ | (refine lss_l S rfl rfl rfl ?_ ?_ <;> intro hcmp <;> try (exfalso; first | omega | exact hcmp (by decide) | exact absurd hcmp (by decide))) | refine move_p_l S rfl rfl ?_ | refine move_e_l S rfl rfl ?_ | refine nilCheck_l S rfl rfl ?_ | refine nilCheckE_l S rfl (by first | omega | decide | (simp; done) | (simp; omega)) rfl ?_ | refine fieldAddr_l S rfl rfl rfl ?_ | refine fieldAddrE_l S rfl (by first | omega | decide | (simp; done) | (simp; omega)) rfl rfl ?_ | refine indexArr_l S rfl rfl (by first | omega | decide | (simp; done) | (simp; omega)) rfl rfl ?_ | refine load_b_l S rfl rfl rfl rfl ?_ | refine loadE_b_l S rfl (by first | omega | decide | (simp; done) | (simp; omega)) rfl rfl rfl ?_ | (refine buildSlice_l S rfl rfl rfl rfl rfl ?_; clear S; intro b w S) | (apply buildSliceN_l S; (· repeat (first | exact vsN | apply vsC rfl)); (· rfl); (· rfl); (· rfl); (· rfl); (· rfl); clear S; intro b w S) | (refine append_l S rfl rfl (by omega) rfl ?_; clear S; intro a' cap' w S) | (refine append0_l S rfl rfl (by omega) rfl ?_; clear S; intro a' cap' w S) | (refine append1_i S rfl rfl rfl (by omega) rfl ?_; clear S; intro a' cap' w S) | (refine append2_i S rfl rfl rfl rfl (by omega) rfl ?_; clear S; intro a' cap' w S) | (refine appendPre_i S rfl rfl (by omega) (by omega) rfl ?_; clear S; intro a' cap' w S) | (refine appendSuf_i S rfl rfl (by omega) (by omega) rfl ?_; clear S; intro a' cap' w S) | refine add_l S rfl rfl (wrap_in (by omega)) rfl ?_ | refine add_l S rfl rfl rfl rfl ?_ | refine move_o_l S rfl rfl ?_ | refine load_o_l S rfl rfl rfl rfl ?_ | refine loadE_o_l S rfl (by first | omega | decide | (simp; done) | (simp; omega)) rfl rfl rfl ?_ | refine run_block ?_ | refine run_ret ?_ | refine run_exit ?_ | refine run_cond_true rfl ?_ | refine run_cond_false rfl ?_ | refine thenQ_n ?_ | refine thenQ_r ?_ | refine thenQ_e ?_ | refine blockQ_n ?_ | refine blockQ_r ?_ | refine blockQ_s rfl ?_ | refine blockQ_o rfl ?_ | refine ret1_i rfl ?_ | refine ret1_b rfl ?_ | refine ret1_p rfl ?_ | refine ret1_s rfl ?_ | refine ret1_e rfl ?_ | refine ret1_a rfl ?_ | refine ret1_o rfl ?_ | refine ret1n_i rfl ?_ | refine ret1n_b rfl ?_ | refine ret1n_p rfl ?_ | refine ret1n_s rfl ?_ | refine ret1n_o rfl ?_)
    obtain rfl : q = 6 := by omega
    exact ⟨_, rfl, S.newRow, S.chg.below⟩
theorem dat_at (n : Int) : Calls Try.prog 26 #[.pointer (some ⟨b0, 0, none⟩), .int .i64 n] w0 fun e w' => ∃ v, e = .returned v ∧ NewRow w0 w' 3 1 encI 0 (atB B n) v ∧ Below w0.heap.size w0 w' := by
  rw [hR.at]
  have S := Sat.reads h
  refine enter1 Try.func26 rfl Try.ntmps26 rfl Try.results26 ?_
  repeat' (first | refine move_i_l S rfl rfl ?_ | refine assign_s_l S rfl rfl ?_ | refine assign_i_l S rfl rfl ?_ | refine nilL ?_ | refine run_seq ?_ | refine run_skip ?_ | refine run_region ?_ | (refine lss_l S rfl rfl rfl ?_ ?_ <;> intro hcmp <;> try (exfalso; first | omega | exact hcmp (by decide) | exact absurd hcmp (by decide))) | refine move_p_l S rfl rfl ?_ | refine move_e_l S rfl rfl ?_ | refine nilCheck_l S rfl rfl ?_ | refine nilCheckE_l S rfl (by first | omega | decide | (simp; done) | (simp; omega)) rfl ?_ | refine fieldAddr_l S rfl rfl rfl ?_ | refine fieldAddrE_l S rfl (by first | omega | decide | (simp; done) | (simp; omega)) rfl rfl ?_ | refine indexArr_l S rfl rfl (by first | omega | decide | (simp; done) | (simp; omega)) rfl rfl ?_ | refine load_s_l S rfl rfl rfl rfl ?_ | refine loadE_s_l S rfl (by first | omega | decide | (simp; done) | (simp; omega)) rfl rfl rfl ?_ | refine move_s_l S rfl rfl ?_ | refine add_l S rfl rfl (wrap_in (by omega)) rfl ?_ | refine add_l S rfl rfl rfl rfl ?_ | refine len_l S rfl rfl ?_ | refine indexAddr_l S rfl rfl (idx_cast _) (by first | omega | decide | (simp; done) | (simp; omega)) rfl ?_ | refine indexAddr_l S rfl rfl (idx_eq _) (by first | omega | decide | (simp; done) | (simp; omega)) rfl ?_ | refine load_i_l S rfl rfl rfl rfl ?_ | refine loadE_i_l S rfl (by first | omega | decide | (simp; done) | (simp; omega)) rfl rfl rfl ?_ | (refine eql_l S rfl rfl rfl ?_ ?_ <;> intro hcmp <;> try (exfalso; first | omega | exact hcmp (by decide) | exact absurd hcmp (by decide))) | (refine buildSlice_l S rfl rfl rfl rfl rfl ?_; clear S; intro b w S) | (apply buildSliceN_l S; (· repeat (first | exact vsN | apply vsC rfl)); (· rfl); (· rfl); (· rfl); (· rfl); (· rfl); clear S; intro b w S) | (refine append_l S rfl rfl (by omega) rfl ?_; clear S; intro a' cap' w S) | (refine append0_l S rfl rfl (by omega) rfl ?_; clear S; intro a' cap' w S) | (refine append1_i S rfl rfl rfl (by omega) rfl ?_; clear S; intro a' cap' w S) | (refine append2_i S rfl rfl rfl rfl (by omega) rfl ?_; clear S; intro a' cap' w S) | (refine appendPre_i S rfl rfl (by omega) (by omega) rfl ?_; clear S; intro a' cap' w S) | (refine appendSuf_i S rfl rfl (by omega) (by omega) rfl ?_; clear S; intro a' cap' w S) | refine load_o_l S rfl rfl rfl rfl ?_ | refine loadE_o_l S rfl (by first | omega | decide | (simp; done) | (simp; omega)) rfl rfl rfl ?_ | refine move_o_l S rfl rfl ?_ | refine run_block ?_ | refine run_ret ?_ | refine run_exit ?_ | refine run_cond_true rfl ?_ | refine run_cond_false rfl ?_ | refine thenQ_n ?_ | refine thenQ_r ?_ | refine thenQ_e ?_ | refine blockQ_n ?_ | refine blockQ_r ?_ | refine blockQ_s rfl ?_ | refine blockQ_o rfl ?_ | refine ret1_i rfl ?_ | refine ret1_b rfl ?_ | refine ret1_p rfl ?_ | refine ret1_s rfl ?_ | refine ret1_e rfl ?_ | refine ret1_a rfl ?_ | refine ret1_o rfl ?_ | refine ret1n_i rfl ?_ | refine ret1n_b rfl ?_ | refine ret1n_p rfl ?_ | refine ret1n_s rfl ?_ | refine ret1n_o rfl ?_)
  replace S := S.nilRow 3 1 encI 0 (by decide)
  refine run_while [8, 9, 10, 11, 12, 13, 14, 15, 16, 17, 18, 19, 20, 21, 22, 23, 24, 25, 26, 27, 28, 29, 30, 31, 32, 33, 34, 35, 36, 37] (fun (s : Nat × (Option Addr × Nat) × Value) t => upd (upd (upd t 7 s.2.2) 6 (.int .i64 s.1)) 5 (.slice s.2.1.1 (atD D n s.1).length s.2.1.2)) (fun s w' => s.1 ≤ 6 ∧ Sat (fun _ => False) w0 w' [rowL s.2.1.1 s.2.1.2 3 1 encI 0 (atD D n s.1), roR (bdR b0 D)]) (fun s => 6 - s.1) (0, (none, 0), undef) ?_ ?_ ?_
  · (repeat (first | exact agree_refl | refine agree_r rfl ?_ | refine agree_l rfl ?_ | refine agree_hv rfl ?_))
  · exact ⟨Nat.zero_le _, S⟩
  clear S
  rintro ⟨q, ⟨ta, tc⟩, uu⟩ j w ⟨hq, S⟩
  simp only at hq S ⊢
  have hlen := atD_len D n q
  have hsucc := atD_succ D n q
  by_cases hql : q < 6
  · have hsm : (D q).2.zs.length ≤ 9223372036854775807 := (show SlOk w (D q).2.a (D q).2.zs.length (D q).2.cap 1 (gL encI 0 (D q).2.zs) from (show (bdR b0 D).holds w from S.second).1.2 q).small
    repeat' (first | refine move_i_l S rfl rfl ?_ | refine assign_s_l S rfl rfl ?_ | refine assign_i_l S rfl rfl ?_ | refine nilL ?_ | refine run_seq ?_ | refine run_skip ?_ | refine run_region ?_ | (refine lss_l S rfl rfl rfl ?_ ?_ <;> intro hcmp <;> try (exfalso; first | omega | exact hcmp (by decide) | exact absurd hcmp (by decide))) | refine move_p_l S rfl rfl ?_ | refine move_e_l S rfl rfl ?_ | refine nilCheck_l S rfl rfl ?_ | refine nilCheckE_l S rfl (by first | omega | decide | (simp; done) | (simp; omega)) rfl ?_ | refine fieldAddr_l S rfl rfl rfl ?_ | refine fieldAddrE_l S rfl (by first | omega | decide | (simp; done) | (simp; omega)) rfl rfl ?_ | refine indexArr_l S rfl rfl (by first | omega | decide | (simp; done) | (simp; omega)) rfl rfl ?_ | refine load_s_l S rfl rfl rfl rfl ?_ | refine loadE_s_l S rfl (by first | omega | decide | (simp; done) | (simp; omega)) rfl rfl rfl ?_ | refine move_s_l S rfl rfl ?_ | refine add_l S rfl rfl (wrap_in (by omega)) rfl ?_ | refine add_l S rfl rfl rfl rfl ?_ | refine len_l S rfl rfl ?_ | refine indexAddr_l S rfl rfl (idx_cast _) (by first | omega | decide | (simp; done) | (simp; omega)) rfl ?_ | refine indexAddr_l S rfl rfl (idx_eq _) (by first | omega | decide | (simp; done) | (simp; omega)) rfl ?_ | refine load_i_l S rfl rfl rfl rfl ?_ | refine loadE_i_l S rfl (by first | omega | decide | (simp; done) | (simp; omega)) rfl rfl rfl ?_ | (refine eql_l S rfl rfl rfl ?_ ?_ <;> intro hcmp <;> try (exfalso; first | omega | exact hcmp (by decide) | exact absurd hcmp (by decide))) | (refine buildSlice_l S rfl rfl rfl rfl rfl ?_; clear S; intro b w S) | (apply buildSliceN_l S; (· repeat (first | exact vsN | apply vsC rfl)); (· rfl); (· rfl); (· rfl); (· rfl); (· rfl); clear S; intro b w S) | (refine append_l S rfl rfl (by omega) rfl ?_; clear S; intro a' cap' w S) | (refine append0_l S rfl rfl (by omega) rfl ?_; clear S; intro a' cap' w S) | (refine append1_i S rfl rfl rfl (by omega) rfl ?_; clear S; intro a' cap' w S) | (refine append2_i S rfl rfl rfl rfl (by omega) rfl ?_; clear S; intro a' cap' w S) | (refine appendPre_i S rfl rfl (by omega) (by omega) rfl ?_; clear S; intro a' cap' w S) | (refine appendSuf_i S rfl rfl (by omega) (by omega) rfl ?_; clear S; intro a' cap' w S) | refine load_o_l S rfl rfl rfl rfl ?_ | refine loadE_o_l S rfl (by first | omega | decide | (simp; done) | (simp; omega)) rfl rfl rfl ?_ | refine move_o_l S rfl rfl ?_ | refine run_block ?_ | refine run_ret ?_ | refine run_exit ?_ | refine run_cond_true rfl ?_ | refine run_cond_false rfl ?_ | refine thenQ_n ?_ | refine thenQ_r ?_ | refine thenQ_e ?_ | refine blockQ_n ?_ | refine blockQ_r ?_ | refine blockQ_s rfl ?_ | refine blockQ_o rfl ?_ | refine ret1_i rfl ?_ | refine ret1_b rfl ?_ | refine ret1_p rfl ?_ | refine ret1_s rfl ?_ | refine ret1_e rfl ?_ | refine ret1_a rfl ?_ | refine ret1_o rfl ?_ | refine ret1n_i rfl ?_ | refine ret1n_b rfl ?_ | refine ret1n_p rfl ?_ | refine ret1n_s rfl ?_ | refine ret1n_o rfl ?_)
    refine run_while [12, 13, 14, 15, 16, 17, 18, 19, 20, 21, 22, 23, 24, 25, 26, 27, 28, 29, 30, 31, 32, 33, 34, 35, 36, 37] (fun (i : Nat) t => upd (upd t 7 (.int .i64 i)) 5 (.slice ta (atD D n q).length tc)) (fun i w' => i ≤ (D q).2.zs.length ∧ (∀ k, k < i → ¬ (D q).2.zs.getD k 0 = n) ∧ Sat (fun _ => False) w0 w' [rowL ta tc 3 1 encI 0 (atD D n q), roR (bdR b0 D)]) (fun i => (D q).2.zs.length - i) 0 ?_ ?_ ?_
    · (repeat (first | exact agree_refl | refine agree_r rfl ?_ | refine agree_l rfl ?_ | refine agree_hv rfl ?_))
    · exact ⟨Nat.zero_le _, fun k hk => by omega, S⟩
    clear S
    rintro i j2 w ⟨hi, hall, S⟩
    repeat' (first | refine move_i_l S rfl rfl ?_ | refine assign_s_l S rfl rfl ?_ | refine assign_i_l S rfl rfl ?_ | refine nilL ?_ | refine run_seq ?_ | refine run_skip ?_ | refine run_region ?_ | (refine lss_l S rfl rfl rfl ?_ ?_ <;> intro hcmp <;> try (exfalso; first | omega | exact hcmp (by decide) | exact absurd hcmp (by decide))) | refine move_p_l S rfl rfl ?_ | refine move_e_l S rfl rfl ?_ | refine nilCheck_l S rfl rfl ?_ | refine nilCheckE_l S rfl (by first | omega | decide | (simp; done) | (simp; omega)) rfl ?_ | refine fieldAddr_l S rfl rfl rfl ?_ | refine fieldAddrE_l S rfl (by first | omega | decide | (simp; done) | (simp; omega)) rfl rfl ?_ | refine indexArr_l S rfl rfl (by first | omega | decide | (simp; done) | (simp; omega)) rfl rfl ?_ | refine load_s_l S rfl rfl rfl rfl ?_ | refine loadE_s_l S rfl (by first | omega | decide | (simp; done) | (simp; omega)) rfl rfl rfl ?_ | refine move_s_l S rfl rfl ?_ | refine add_l S rfl rfl (wrap_in (by omega)) rfl ?_ | refine add_l S rfl rfl rfl rfl ?_ | refine len_l S rfl rfl ?_ | refine indexAddr_l S rfl rfl (idx_cast _) (by first | omega | decide | (simp; done) | (simp; omega)) rfl ?_ | refine indexAddr_l S rfl rfl (idx_eq _) (by first | omega | decide | (simp; done) | (simp; omega)) rfl ?_ | refine load_i_l S rfl rfl rfl rfl ?_ | refine loadE_i_l S rfl (by first | omega | decide | (simp; done) | (simp; omega)) rfl rfl rfl ?_ | (refine eql_l S rfl rfl rfl ?_ ?_ <;> intro hcmp <;> try (exfalso; first | omega | exact hcmp (by decide) | exact absurd hcmp (by decide))) | (refine buildSlice_l S rfl rfl rfl rfl rfl ?_; clear S; intro b w S) | (apply buildSliceN_l S; (· repeat (first | exact vsN | apply vsC rfl)); (· rfl); (· rfl); (· rfl); (· rfl); (· rfl); clear S; intro b w S) | (refine append_l S rfl rfl (by omega) rfl ?_; clear S; intro a' cap' w S) | (refine append0_l S rfl rfl (by omega) rfl ?_; clear S; intro a' cap' w S) | (refine append1_i S rfl rfl rfl (by omega) rfl ?_; clear S; intro a' cap' w S) | (refine append2_i S rfl rfl rfl rfl (by omega) rfl ?_; clear S; intro a' cap' w S) | (refine appendPre_i S rfl rfl (by omega) (by omega) rfl ?_; clear S; intro a' cap' w S) | (refine appendSuf_i S rfl rfl (by omega) (by omega) rfl ?_; clear S; intro a' cap' w S) | refine load_o_l S rfl rfl rfl rfl ?_ | refine loadE_o_l S rfl (by first | omega | decide | (simp; done) | (simp; omega)) rfl rfl rfl ?_ | refine move_o_l S rfl rfl ?_ | refine run_block ?_ | refine run_ret ?_ | refine run_exit ?_ | refine run_cond_true rfl ?_ | refine run_cond_false rfl ?_ | refine thenQ_n ?_ | refine thenQ_r ?_ | refine thenQ_e ?_ | refine blockQ_n ?_ | refine blockQ_r ?_ | refine blockQ_s rfl ?_ | refine blockQ_o rfl ?_ | refine ret1_i rfl ?_ | refine ret1_b rfl ?_ | refine ret1_p rfl ?_ | refine ret1_s rfl ?_ | refine ret1_e rfl ?_ | refine ret1_a rfl ?_ | refine ret1_o rfl ?_ | refine ret1n_i rfl ?_ | refine ret1n_b rfl ?_ | refine ret1n_p rfl ?_ | refine ret1n_s rfl ?_ | refine ret1n_o rfl ?_)
    refine load_o_l S rfl (dbC_l' q (by omega)) (blt_of (by omega)) rfl ?_
    by_cases hil : i < (D q).2.zs.length
    · repeat' (first | refine move_i_l S rfl rfl ?_ | refine assign_s_l S rfl rfl ?_ | refine assign_i_l S rfl rfl ?_ | refine nilL ?_ | refine run_seq ?_ | refine run_skip ?_ | refine run_region ?_ | (refine lss_l S rfl rfl rfl ?_ ?_ <;> intro hcmp <;> try (exfalso; first | omega | exact hcmp (by decide) | exact absurd hcmp (by decide))) | refine move_p_l S rfl rfl ?_ | refine move_e_l S rfl rfl ?_ | refine nilCheck_l S rfl rfl ?_ | refine nilCheckE_l S rfl (by first | omega | decide | (simp; done) | (simp; omega)) rfl ?_ | refine fieldAddr_l S rfl rfl rfl ?_ | refine fieldAddrE_l S rfl (by first | omega | decide | (simp; done) | (simp; omega)) rfl rfl ?_ | refine indexArr_l S rfl rfl (by first | omega | decide | (simp; done) | (simp; omega)) rfl rfl ?_ | refine load_s_l S rfl rfl rfl rfl ?_ | refine loadE_s_l S rfl (by first | omega | decide | (simp; done) | (simp; omega)) rfl rfl rfl ?_ | refine move_s_l S rfl rfl ?_ | refine add_l S rfl rfl (wrap_in (by omega)) rfl ?_ | refine add_l S rfl rfl rfl rfl ?_ | refine len_l S rfl rfl ?_ | refine indexAddr_l S rfl rfl (idx_cast _) (by first | omega | decide | (simp; done) | (simp; omega)) rfl ?_ | refine indexAddr_l S rfl rfl (idx_eq _) (by first | omega | decide | (simp; done) | (simp; omega)) rfl ?_ | refine load_i_l S rfl rfl rfl rfl ?_ | refine loadE_i_l S rfl (by first | omega | decide | (simp; done) | (simp; omega)) rfl rfl rfl ?_ | (refine eql_l S rfl rfl rfl ?_ ?_ <;> intro hcmp <;> try (exfalso; first | omega | exact hcmp (by decide) | exact absurd hcmp (by decide))) | (refine buildSlice_l S rfl rfl rfl rfl rfl ?_; clear S; intro b w S) | (apply buildSliceN_l S; (· repeat (first | exact vsN | apply vsC rfl)); (· rfl); (· rfl); (· rfl); (· rfl); (· rfl); clear S; intro b w S) | (refine append_l S rfl rfl (by omega) rfl ?_; clear S; intro a' cap' w S) | (refine append0_l S rfl rfl (by omega) rfl ?_; clear S; intro a' cap' w S) | (refine append1_i S rfl rfl rfl (by omega) rfl ?_; clear S; intro a' cap' w S) | (refine append2_i S rfl rfl rfl rfl (by omega) rfl ?_; clear S; intro a' cap' w S) | (refine appendPre_i S rfl rfl (by omega) (by omega) rfl ?_; clear S; intro a' cap' w S) | (refine appendSuf_i S rfl rfl (by omega) (by omega) rfl ?_; clear S; intro a' cap' w S) | refine load_o_l S rfl rfl rfl rfl ?_ | refine loadE_o_l S rfl (by first | omega | decide | (simp; done) | (simp; omega)) rfl rfl rfl ?_ | refine move_o_l S rfl rfl ?_ | refine run_block ?_ | refine run_ret ?_ | refine run_exit ?_ | refine run_cond_true rfl ?_ | refine run_cond_false rfl ?_ | refine thenQ_n ?_ | refine thenQ_r ?_ | refine thenQ_e ?_ | refine blockQ_n ?_ | refine blockQ_r ?_ | refine blockQ_s rfl ?_ | refine blockQ_o rfl ?_ | refine ret1_i rfl ?_ | refine ret1_b rfl ?_ | refine ret1_p rfl ?_ | refine ret1_s rfl ?_ | refine ret1_e rfl ?_ | refine ret1_a rfl ?_ | refine ret1_o rfl ?_ | refine ret1n_i rfl ?_ | refine ret1n_b rfl ?_ | refine ret1n_p rfl ?_ | refine ret1n_s rfl ?_ | refine ret1n_o rfl ?_)
      refine load_o_l S rfl (dbC_l' q (by omega)) (blt_of (by omega)) rfl ?_
      repeat' (first | refine move_i_l S rfl rfl ?_ | refine assign_s_l S rfl rfl ?_ | refine assign_i_l S rfl rfl ?_ | refine nilL ?_ | refine run_seq ?_ | refine run_skip ?_ | refine run_region ?_ | (refine lss_l S rfl rfl rfl ?_ ?_ <;> intro hcmp <;> try (exfalso; first | omega | exact hcmp (by decide) | exact absurd hcmp (by decide))) | refine move_p_l S rfl rfl ?_ | refine move_e_l S rfl rfl ?_ | refine nilCheck_l S rfl rfl ?_ | refine nilCheckE_l S rfl (by first | omega | decide | (simp; done) | (simp; omega)) rfl ?_ | refine fieldAddr_l S rfl rfl rfl ?_ | refine fieldAddrE_l S rfl (by first | omega | decide | (simp; done) | (simp; omega)) rfl rfl ?_ | refine indexArr_l S rfl rfl (by first | omega | decide | (simp; done) | (simp; omega)) rfl rfl ?_ | refine load_s_l S rfl rfl rfl rfl ?_ | refine loadE_s_l S rfl (by first | omega | decide | (simp; done) | (simp; omega)) rfl rfl rfl ?_ | refine move_s_l S rfl rfl ?_ | refine add_l S rfl rfl (wrap_in (by omega)) rfl ?_ | refine add_l S rfl rfl rfl rfl ?_ | refine len_l S rfl rfl ?_ | refine indexAddr_l S rfl rfl (idx_cast _) (by first | omega | decide | (simp; done) | (simp; omega)) rfl ?_ | refine indexAddr_l S rfl rfl (idx_eq _) (by first | omega | decide | (simp; done) | (simp; omega)) rfl ?_ | refine load_i_l S rfl rfl rfl rfl ?_ | refine loadE_i_l S rfl (by first | omega | decide | (simp; done) | (simp; omega)) rfl rfl rfl ?_ | (refine eql_l S rfl rfl rfl ?_ ?_ <;> intro hcmp <;> try (exfalso; first | omega | exact hcmp (by decide) | exact absurd hcmp (by decide))) | (refine buildSlice_l S rfl rfl rfl rfl rfl ?_; clear S; intro b w S) | (apply buildSliceN_l S; (· repeat (first | exact vsN | apply vsC rfl)); (· rfl); (· rfl); (· rfl); (· rfl); (· rfl); clear S; intro b w S) | (refine append_l S rfl rfl (by omega) rfl ?_; clear S; intro a' cap' w S) | (refine append0_l S rfl rfl (by omega) rfl ?_; clear S; intro a' cap' w S) | (refine append1_i S rfl rfl rfl (by omega) rfl ?_; clear S; intro a' cap' w S) | (refine append2_i S rfl rfl rfl rfl (by omega) rfl ?_; clear S; intro a' cap' w S) | (refine appendPre_i S rfl rfl (by omega) (by omega) rfl ?_; clear S; intro a' cap' w S) | (refine appendSuf_i S rfl rfl (by omega) (by omega) rfl ?_; clear S; intro a' cap' w S) | refine load_o_l S rfl rfl rfl rfl ?_ | refine loadE_o_l S rfl (by first | omega | decide | (simp; done) | (simp; omega)) rfl rfl rfl ?_ | refine move_o_l S rfl rfl ?_ | refine run_block ?_ | refine run_ret ?_ | refine run_exit ?_ | refine run_cond_true rfl ?_ | refine run_cond_false rfl ?_ | refine thenQ_n ?_ | refine thenQ_r ?_ | refine thenQ_e ?_ | refine blockQ_n ?_ | refine blockQ_r ?_ | refine blockQ_s rfl ?_ | refine blockQ_o rfl ?_ | refine ret1_i rfl ?_ | refine ret1_b rfl ?_ | refine ret1_p rfl ?_ | refine ret1_s rfl ?_ | refine ret1_e rfl ?_ | refine ret1_a rfl ?_ | refine ret1_o rfl ?_ | refine ret1n_i rfl ?_ | refine ret1n_b rfl ?_ | refine ret1n_p rfl ?_ | refine ret1n_s rfl ?_ | refine ret1n_o rfl ?_)
      · have hmem : n ∈ (D q).2.zs := (getD_mem_iff _ n).2 ⟨i, hil, hcmp⟩
        rw [if_pos hmem] at hsucc
        refine ⟨(q + 1, (a', cap'), .int .i64 i), ?_, ⟨by simp only; omega, ?_⟩, by simp only; omega⟩
        · simp only
          rw [hsucc, Int.natCast_add]
          (repeat (first | exact agree_refl | refine agree_r rfl ?_ | refine agree_l rfl ?_ | refine agree_hv rfl ?_))
        · simp only
          rw [hsucc]
          exact S.sub
      · refine ⟨i + 1, ?_, ⟨by omega, fun k hk => ?_, S⟩, by omega⟩
        · rw [Int.natCast_add]
          (repeat (first | exact agree_refl | refine agree_r rfl ?_ | refine agree_l rfl ?_ | refine agree_hv rfl ?_))
        · rcases Nat.lt_or_ge k i with h | h
          · exact hall k h
          · obtain rfl : k = i := by omega
            exact hcmp
    · repeat' (first | refine move_i_l S rfl rfl ?_ | refine assign_s_l S rfl rfl ?_ | refine assign_i_l S rfl rfl ?_ | refine nilL ?_ | refine run_seq ?_ | refine run_skip ?_ | refine run_region ?_ | (refine lss_l S rfl rfl rfl ?_ ?_ <;> intro hcmp <;> try (exfalso; first | omega | exact hcmp (by decide) | exact absurd hcmp (by decide))) | refine move_p_l S rfl rfl ?_ | refine move_e_l S rfl rfl ?_ | refine nilCheck_l S rfl rfl ?_ | refine nilCheckE_l S rfl (by first | omega | decide | (simp; done) | (simp; omega)) rfl ?_ | refine fieldAddr_l S rfl rfl rfl ?_ | refine fieldAddrE_l S rfl (by first | omega | decide | (simp; done) | (simp; omega)) rfl rfl ?_ | refine indexArr_l S rfl rfl (by first | omega | decide | (simp; done) | (simp; omega)) rfl rfl ?_ | refine load_s_l S rfl rfl rfl rfl ?_ | refine loadE_s_l S rfl (by first | omega | decide | (simp; done) | (simp; omega)) rfl rfl rfl ?_ | refine move_s_l S rfl rfl ?_ | refine add_l S rfl rfl (wrap_in (by omega)) rfl ?_ | refine add_l S rfl rfl rfl rfl ?_ | refine len_l S rfl rfl ?_ | refine indexAddr_l S rfl rfl (idx_cast _) (by first | omega | decide | (simp; done) | (simp; omega)) rfl ?_ | refine indexAddr_l S rfl rfl (idx_eq _) (by first | omega | decide | (simp; done) | (simp; omega)) rfl ?_ | refine load_i_l S rfl rfl rfl rfl ?_ | refine loadE_i_l S rfl (by first | omega | decide | (simp; done) | (simp; omega)) rfl rfl rfl ?_ | (refine eql_l S rfl rfl rfl ?_ ?_ <;> intro hcmp <;> try (exfalso; first | omega | exact hcmp (by decide) | exact absurd hcmp (by decide))) | (refine buildSlice_l S rfl rfl rfl rfl rfl ?_; clear S; intro b w S) | (apply buildSliceN_l S; (· repeat (first | exact vsN | apply vsC rfl)); (· rfl); (· rfl); (· rfl); (· rfl); (· rfl); clear S; intro b w S) | (refine append_l S rfl rfl (by omega) rfl ?_; clear S; intro a' cap' w S) | (refine append0_l S rfl rfl (by omega) rfl ?_; clear S; intro a' cap' w S) | (refine append1_i S rfl rfl rfl (by omega) rfl ?_; clear S; intro a' cap' w S) | (refine append2_i S rfl rfl rfl rfl (by omega) rfl ?_; clear S; intro a' cap' w S) | (refine appendPre_i S rfl rfl (by omega) (by omega) rfl ?_; clear S; intro a' cap' w S) | (refine appendSuf_i S rfl rfl (by omega) (by omega) rfl ?_; clear S; intro a' cap' w S) | refine load_o_l S rfl rfl rfl rfl ?_ | refine loadE_o_l S rfl (by first | omega | decide | (simp; done) | (simp; omega)) rfl rfl rfl ?_ | refine move_o_l S rfl rfl ?_ | refine run_block ?_ | refine run_ret ?_ | refine run_exit ?_ | refine run_cond_true rfl ?_ | refine run_cond_false rfl ?_ | refine thenQ_n ?_ | refine thenQ_r ?_ | refine thenQ_e ?_ | refine blockQ_n ?_ | refine blockQ_r ?_ | refine blockQ_s rfl ?_ | refine blockQ_o rfl ?_ | refine ret1_i rfl ?_ | refine ret1_b rfl ?_ | refine ret1_p rfl ?_ | refine ret1_s rfl ?_ | refine ret1_e rfl ?_ | refine ret1_a rfl ?_ | refine ret1_o rfl ?_ | refine ret1n_i rfl ?_ | refine ret1n_b rfl ?_ | refine ret1n_p rfl ?_ | refine ret1n_s rfl ?_ | refine ret1n_o rfl ?_)
      have hno : ¬ n ∈ (D q).2.zs := fun hm => by
        obtain ⟨k, hk, e⟩ := (getD_mem_iff _ n).1 hm
        exact hall k (by omega) e
      rw [if_neg hno, List.append_nil] at hsucc
      refine ⟨(q + 1, (ta, tc), .int .i64 i), ?_, ⟨by simp only; omega, ?_⟩, by simp only; omega⟩
      · simp only
        rw [hsucc, Int.natCast_add]
        (repeat (first | exact agree_refl | refine agree_r rfl ?_ | refine agree_l rfl ?_ | refine agree_hv rfl ?_))
      · simp only
        rw [hsucc]
        exact S
  · repeat' (first | refine move_i_l S rfl rfl ?_ | refine assign_s_l S rfl rfl ?_ | refine assign_i_l S rfl rfl ?_ | refine nilL ?_ | refine run_seq ?_ | refine run_skip ?_ | refine run_region ?_ | (refine lss_l S rfl rfl rfl ?_ ?_ <;> intro hcmp <;> try (exfalso; first | omega | exact hcmp (by decide) | exact absurd hcmp (by decide))) | refine move_p_l S rfl rfl ?_ | refine move_e_l S rfl rfl ?_ | refine nilCheck_l S rfl rfl ?_ | refine nilCheckE_l S rfl (by first | omega | decide | (simp; done) | (simp; omega)) rfl ?_ | refine fieldAddr_l S rfl rfl rfl ?_ | refine fieldAddrE_l S rfl (by first | omega | decide | (simp; done) | (simp; omega)) rfl rfl ?_ | refine indexArr_l S rfl rfl (by first | omega | decide | (simp; done) | (simp; omega)) rfl rfl ?_ | refine load_s_l S rfl rfl rfl rfl ?_ | refine loadE_s_l S rfl (by first | omega | decide | (simp; done) | (simp; omega)) rfl rfl rfl ?_ | refine move_s_l S rfl rfl ?_ | refine add_l S rfl rfl (wrap_in (by omega)) rfl ?_ | refine add_l S rfl rfl rfl rfl ?_ | refine len_l S rfl rfl ?_ | refine indexAddr_l S rfl rfl (idx_cast _) (by first | omega | decide | (simp; done) | (simp; omega)) rfl ?_ | refine indexAddr_l S rfl rfl (idx_eq _) (by first | omega | decide | (simp; done) | (simp; omega)) rfl ?_ | refine load_i_l S rfl rfl rfl rfl ?_ | refine loadE_i_l S rfl (by first | omega | decide | (simp; done) | (simp; omega)) rfl rfl rfl ?_ | (refine eql_l S rfl rfl rfl ?_ ?_ <;> intro hcmp <;> try (exfalso; first | omega | exact hcmp (by decide) | exact absurd hcmp (by decide))) | (refine buildSlice_l S rfl rfl rfl rfl rfl ?_; clear S; intro b w S) | (apply buildSliceN_l S; (· repeat (first | exact vsN | apply vsC rfl)); (· rfl); (· rfl); (· rfl); (· rfl); (· rfl); clear S; intro b w S) | (refine append_l S rfl rfl (by omega) rfl ?_; clear S; intro a' cap' w S) | (refine append0_l S rfl rfl (by omega) rfl ?_; clear S; intro a' cap' w S) | (refine append1_i S rfl rfl rfl (by omega) rfl ?_; clear S; intro a' cap' w S) | (refine append2_i S rfl rfl rfl rfl (by omega) rfl ?_; clear S; intro a' cap' w S) | (refine appendPre_i S rfl rfl (by omega) (by omega) rfl ?_; clear S; intro a' cap' w S) | (refine appendSuf_i S rfl rfl (by omega) (by omega) rfl ?_; clear S; intro a' cap' w S) | refine load_o_l S rfl rfl rfl rfl ?_ | refine loadE_o_l S rfl (by first | omega | decide | (simp; done) | (simp; omega)) rfl rfl rfl ?_ | refine move_o_l S rfl rfl ?_ | refine run_block ?_ | refine run_ret ?_ | refine run_exit ?_ | refine run_cond_true rfl ?_ | refine run_cond_false rfl ?_ | refine thenQ_n ?_ | refine thenQ_r ?_ | refine thenQ_e ?_ | refine blockQ_n ?_ | refine blockQ_r ?_ | refine blockQ_s rfl ?_ | refine blockQ_o rfl ?_ | refine ret1_i rfl ?_ | refine ret1_b rfl ?_ | refine ret1_p rfl ?_ | refine ret1_s rfl ?_ | refine ret1_e rfl ?_ | refine ret1_a rfl ?_ | refine ret1_o rfl ?_ | refine ret1n_i rfl ?_ | refine ret1n_b rfl ?_ | refine ret1n_p rfl ?_ | refine ret1n_s rfl ?_ | refine ret1n_o rfl ?_)
    obtain rfl : q = 6 := by omega
    exact ⟨_, rfl, S.newRow, S.chg.below⟩
theorem doff_at (t : Int) : Calls Try.prog 21 #[.pointer (some ⟨b0, 0, none⟩), .int .i64 t] w0 fun e w' => e = .returned (.int .i64 (offE B t)) ∧ ∃ D', RelD D' (offB B t) ∧ BdTo b0 D D' w0 w' := by
  have S : Sat (bdR b0 D).foot w0 w0 (blk b0 12 (dbC D) 48 :: inD D :: []) := bd_open h
  by_cases hr : t < 0 ∨ t ≥ 6
  · have hn := hR.far hr
    have he : offE B t = 5 := by unfold offE; rw [hn]; rfl
    have hb : offB B t = B := delM_self hn
    rw [he, hb]
    refine enter1 Try.func21 rfl Try.ntmps21 rfl Try.results21 ?_
    repeat' (first | refine assign_i_l S rfl rfl ?_ | refine move_i_l S rfl rfl ?_ | refine move_b_l S rfl rfl ?_ | refine nilL ?_ | refine run_seq ?_ | refine run_skip ?_ | refine run_region ?_ | refine onL rfl rfl ?_ | refine offL rfl rfl rfl rfl ?_ | refine offL0 rfl rfl rfl ?_ | refine offLU rfl rfl rfl ?_ | refine pick_tb_l S rfl rfl rfl ?_ | refine pick_fb_l S rfl rfl rfl ?_ | (refine lss_l S rfl rfl rfl ?_ ?_ <;> intro hcmp <;> try (exfalso; first | omega | exact hcmp (by decide) | exact absurd hcmp (by decide))) | (refine gtr_l S rfl rfl rfl ?_ ?_ <;> intro hcmp <;> try (exfalso; first | omega | exact hcmp (by decide) | exact absurd hcmp (by decide))) | refine move_p_l S rfl rfl ?_ | refine move_e_l S rfl rfl ?_ | refine nilCheck_l S rfl rfl ?_ | refine nilCheckE_l S rfl (by first | omega | decide | (simp; done) | (simp; omega)) rfl ?_ | refine fieldAddr_l S rfl rfl rfl ?_ | refine fieldAddrE_l S rfl (by first | omega | decide | (simp; done) | (simp; omega)) rfl rfl ?_ | refine indexArr_l S rfl rfl (by first | omega | decide | (simp; done) | (simp; omega)) rfl rfl ?_ | refine load_b_l S rfl rfl rfl rfl ?_ | refine loadE_b_l S rfl (by first | omega | decide | (simp; done) | (simp; omega)) rfl rfl rfl ?_ | refine not_l S rfl rfl ?_ | refine move_o_l S rfl rfl ?_ | refine load_o_l S rfl rfl rfl rfl ?_ | refine loadE_o_l S rfl (by first | omega | decide | (simp; done) | (simp; omega)) rfl rfl rfl ?_ | refine run_block ?_ | refine run_ret ?_ | refine run_exit ?_ | refine run_cond_true rfl ?_ | refine run_cond_false rfl ?_ | refine thenQ_n ?_ | refine thenQ_r ?_ | refine thenQ_e ?_ | refine blockQ_n ?_ | refine blockQ_r ?_ | refine blockQ_s rfl ?_ | refine blockQ_o rfl ?_ | refine ret1_i rfl ?_ | refine ret1_b rfl ?_ | refine ret1_p rfl ?_ | refine ret1_s rfl ?_ | refine ret1_e rfl ?_ | refine ret1_a rfl ?_ | refine ret1_o rfl ?_ | refine ret1n_i rfl ?_ | refine ret1n_b rfl ?_ | refine ret1n_p rfl ?_ | refine ret1n_s rfl ?_ | refine ret1n_o rfl ?_)
    all_goals exact ⟨rfl, D, hR, bd_shut S⟩
  · obtain ⟨q, rfl⟩ : ∃ q : Nat, t = q := ⟨t.toNat, by omega⟩
    have hql : q < 6 := by omega
    have hg := hR.get q hql
    refine enter1 Try.func21 rfl Try.ntmps21 rfl Try.results21 ?_
    repeat' (first | refine assign_i_l S rfl rfl ?_ | refine move_i_l S rfl rfl ?_ | refine move_b_l S rfl rfl ?_ | refine nilL ?_ | refine run_seq ?_ | refine run_skip ?_ | refine run_region ?_ | refine onL rfl rfl ?_ | refine offL rfl rfl rfl rfl ?_ | refine offL0 rfl rfl rfl ?_ | refine offLU rfl rfl rfl ?_ | refine pick_tb_l S rfl rfl rfl ?_ | refine pick_fb_l S rfl rfl rfl ?_ | (refine lss_l S rfl rfl rfl ?_ ?_ <;> intro hcmp <;> try (exfalso; first | omega | exact hcmp (by decide) | exact absurd hcmp (by decide))) | (refine gtr_l S rfl rfl rfl ?_ ?_ <;> intro hcmp <;> try (exfalso; first | omega | exact hcmp (by decide) | exact absurd hcmp (by decide))) | refine move_p_l S rfl rfl ?_ | refine move_e_l S rfl rfl ?_ | refine nilCheck_l S rfl rfl ?_ | refine nilCheckE_l S rfl (by first | omega | decide | (simp; done) | (simp; omega)) rfl ?_ | refine fieldAddr_l S rfl rfl rfl ?_ | refine fieldAddrE_l S rfl (by first | omega | decide | (simp; done) | (simp; omega)) rfl rfl ?_ | refine indexArr_l S rfl rfl (by first | omega | decide | (simp; done) | (simp; omega)) rfl rfl ?_ | refine load_b_l S rfl rfl rfl rfl ?_ | refine loadE_b_l S rfl (by first | omega | decide | (simp; done) | (simp; omega)) rfl rfl rfl ?_ | refine not_l S rfl rfl ?_ | refine move_o_l S rfl rfl ?_ | refine load_o_l S rfl rfl rfl rfl ?_ | refine loadE_o_l S rfl (by first | omega | decide | (simp; done) | (simp; omega)) rfl rfl rfl ?_ | refine run_block ?_ | refine run_ret ?_ | refine run_exit ?_ | refine run_cond_true rfl ?_ | refine run_cond_false rfl ?_ | refine thenQ_n ?_ | refine thenQ_r ?_ | refine thenQ_e ?_ | refine blockQ_n ?_ | refine blockQ_r ?_ | refine blockQ_s rfl ?_ | refine blockQ_o rfl ?_ | refine ret1_i rfl ?_ | refine ret1_b rfl ?_ | refine ret1_p rfl ?_ | refine ret1_s rfl ?_ | refine ret1_e rfl ?_ | refine ret1_a rfl ?_ | refine ret1_o rfl ?_ | refine ret1n_i rfl ?_ | refine ret1n_b rfl ?_ | refine ret1n_p rfl ?_ | refine ret1n_s rfl ?_ | refine ret1n_o rfl ?_)
    refine load_b_l S rfl (dbC_is' q hql (by omega)) (blt_of (by omega)) rfl ?_
    cases hd : (D q).1 with
    | false =>
      rw [hd, if_neg (by decide)] at hg
      have he : offE B (q : Int) = 5 := by unfold offE; rw [hg]; rfl
      have hb : offB B (q : Int) = B := delM_self hg
      rw [he, hb]
      repeat' (first | refine assign_i_l S rfl rfl ?_ | refine move_i_l S rfl rfl ?_ | refine move_b_l S rfl rfl ?_ | refine nilL ?_ | refine run_seq ?_ | refine run_skip ?_ | refine run_region ?_ | refine onL rfl rfl ?_ | refine offL rfl rfl rfl rfl ?_ | refine offL0 rfl rfl rfl ?_ | refine offLU rfl rfl rfl ?_ | refine pick_tb_l S rfl rfl rfl ?_ | refine pick_fb_l S rfl rfl rfl ?_ | (refine lss_l S rfl rfl rfl ?_ ?_ <;> intro hcmp <;> try (exfalso; first | omega | exact hcmp (by decide) | exact absurd hcmp (by decide))) | (refine gtr_l S rfl rfl rfl ?_ ?_ <;> intro hcmp <;> try (exfalso; first | omega | exact hcmp (by decide) | exact absurd hcmp (by decide))) | refine move_p_l S rfl rfl ?_ | refine move_e_l S rfl rfl ?_ | refine nilCheck_l S rfl rfl ?_ | refine nilCheckE_l S rfl (by first | omega | decide | (simp; done) | (simp; omega)) rfl ?_ | refine fieldAddr_l S rfl rfl rfl ?_ | refine fieldAddrE_l S rfl (by first | omega | decide | (simp; done) | (simp; omega)) rfl rfl ?_ | refine indexArr_l S rfl rfl (by first | omega | decide | (simp; done) | (simp; omega)) rfl rfl ?_ | refine load_b_l S rfl rfl rfl rfl ?_ | refine loadE_b_l S rfl (by first | omega | decide | (simp; done) | (simp; omega)) rfl rfl rfl ?_ | refine not_l S rfl rfl ?_ | refine move_o_l S rfl rfl ?_ | refine load_o_l S rfl rfl rfl rfl ?_ | refine loadE_o_l S rfl (by first | omega | decide | (simp; done) | (simp; omega)) rfl rfl rfl ?_ | refine run_block ?_ | refine run_ret ?_ | refine run_exit ?_ | refine run_cond_true rfl ?_ | refine run_cond_false rfl ?_ | refine thenQ_n ?_ | refine thenQ_r ?_ | refine thenQ_e ?_ | refine blockQ_n ?_ | refine blockQ_r ?_ | refine blockQ_s rfl ?_ | refine blockQ_o rfl ?_ | refine ret1_i rfl ?_ | refine ret1_b rfl ?_ | refine ret1_p rfl ?_ | refine ret1_s rfl ?_ | refine ret1_e rfl ?_ | refine ret1_a rfl ?_ | refine ret1_o rfl ?_ | refine ret1n_i rfl ?_ | refine ret1n_b rfl ?_ | refine ret1n_p rfl ?_ | refine ret1n_s rfl ?_ | refine ret1n_o rfl ?_)
      exact ⟨rfl, D, hR, bd_shut S⟩
    | true =>
      rw [hd, if_pos rfl] at hg
      have he : offE B (q : Int) = 0 := by unfold offE; rw [hg]; rfl
      rw [he]
      repeat' (first | refine assign_i_l S rfl rfl ?_ | refine move_i_l S rfl rfl ?_ | refine move_b_l S rfl rfl ?_ | refine nilL ?_ | refine run_seq ?_ | refine run_skip ?_ | refine run_region ?_ | refine onL rfl rfl ?_ | refine offL rfl rfl rfl rfl ?_ | refine offL0 rfl rfl rfl ?_ | refine offLU rfl rfl rfl ?_ | refine pick_tb_l S rfl rfl rfl ?_ | refine pick_fb_l S rfl rfl rfl ?_ | (refine lss_l S rfl rfl rfl ?_ ?_ <;> intro hcmp <;> try (exfalso; first | omega | exact hcmp (by decide) | exact absurd hcmp (by decide))) | (refine gtr_l S rfl rfl rfl ?_ ?_ <;> intro hcmp <;> try (exfalso; first | omega | exact hcmp (by decide) | exact absurd hcmp (by decide))) | refine move_p_l S rfl rfl ?_ | refine move_e_l S rfl rfl ?_ | refine nilCheck_l S rfl rfl ?_ | refine nilCheckE_l S rfl (by first | omega | decide | (simp; done) | (simp; omega)) rfl ?_ | refine fieldAddr_l S rfl rfl rfl ?_ | refine fieldAddrE_l S rfl (by first | omega | decide | (simp; done) | (simp; omega)) rfl rfl ?_ | refine indexArr_l S rfl rfl (by first | omega | decide | (simp; done) | (simp; omega)) rfl rfl ?_ | refine load_b_l S rfl rfl rfl rfl ?_ | refine loadE_b_l S rfl (by first | omega | decide | (simp; done) | (simp; omega)) rfl rfl rfl ?_ | refine not_l S rfl rfl ?_ | refine move_o_l S rfl rfl ?_ | refine load_o_l S rfl rfl rfl rfl ?_ | refine loadE_o_l S rfl (by first | omega | decide | (simp; done) | (simp; omega)) rfl rfl rfl ?_ | refine run_block ?_ | refine run_ret ?_ | refine run_exit ?_ | refine run_cond_true rfl ?_ | refine run_cond_false rfl ?_ | refine thenQ_n ?_ | refine thenQ_r ?_ | refine thenQ_e ?_ | refine blockQ_n ?_ | refine blockQ_r ?_ | refine blockQ_s rfl ?_ | refine blockQ_o rfl ?_ | refine ret1_i rfl ?_ | refine ret1_b rfl ?_ | refine ret1_p rfl ?_ | refine ret1_s rfl ?_ | refine ret1_e rfl ?_ | refine ret1_a rfl ?_ | refine ret1_o rfl ?_ | refine ret1n_i rfl ?_ | refine ret1n_b rfl ?_ | refine ret1n_p rfl ?_ | refine ret1n_s rfl ?_ | refine ret1n_o rfl ?_)
      refine run_any S (L' := []) (f := 12) mixed rfl ?_
      clear S
      intro w S1
      have S : Sat _ _ w [] := S1.sub
      all_goals (refine any_pure (i := 0) rfl (by kernel_rfl) S ?_; (first | refine move_p_x rfl rfl ?_ | refine move_e_x rfl rfl ?_ | refine move_o_x rfl rfl ?_))
      all_goals (refine any_pure (i := 1) rfl (by kernel_rfl) S ?_; refine move_i_x rfl rfl ?_)
      all_goals (refine any_pure (i := 2) rfl (by kernel_rfl) S ?_; (first | refine move_p_x rfl rfl ?_ | refine move_e_x rfl rfl ?_ | refine move_o_x rfl rfl ?_))
      all_goals (refine any_pure (i := 3) rfl (by kernel_rfl) S ?_; refine move_i_x rfl rfl ?_)
      all_goals (refine any_pure (i := 4) rfl (by kernel_rfl) S ?_; (first | refine nilCheck_x rfl rfl ?_ | refine nilCheckE_x rfl (by first | omega | decide | (simp; done) | (simp; omega)) rfl ?_))
      all_goals (refine any_pure (i := 5) rfl (by kernel_rfl) S ?_; (first | refine fieldAddr_x rfl rfl rfl ?_ | refine fieldAddrE_x rfl (by first | omega | decide | (simp; done) | (simp; omega)) rfl rfl ?_))
      all_goals (refine any_pure (i := 6) rfl (by kernel_rfl) S ?_; refine indexArr_x rfl rfl (by first | omega | decide | (simp; done) | (simp; omega)) rfl rfl ?_)
      all_goals (refine any_pure (i := 8) rfl (by kernel_rfl) S ?_; (first | refine nilCheck_x rfl rfl ?_ | refine nilCheckE_x rfl (by first | omega | decide | (simp; done) | (simp; omega)) rfl ?_))
      all_goals (refine any_pure (i := 9) rfl (by kernel_rfl) S ?_; (first | refine fieldAddr_x rfl rfl rfl ?_ | refine fieldAddrE_x rfl (by first | omega | decide | (simp; done) | (simp; omega)) rfl rfl ?_))
      all_goals (refine any_step (i := 7) rfl (by kernel_rfl) ?_; replace S := S1; clear S1; (refine store_b S rfl rfl (blt_of (by omega)) ?_; clear S; intro w S); refine nilL ?_; refine ⟨S.sub, ?_⟩; have S1 := S; replace S : Sat _ _ _ [] := S1.sub)
      all_goals (refine any_pure (i := 10) rfl (by kernel_rfl) S ?_; refine indexArr_x rfl rfl (by first | omega | decide | (simp; done) | (simp; omega)) rfl rfl ?_)
      all_goals (refine any_step (i := 11) rfl (by kernel_rfl) ?_; replace S := S1; clear S1; (refine store_s S rfl rfl (blt_of (by omega)) ?_; clear S; intro w S); refine nilL ?_; refine ⟨S.sub, ?_⟩; have S1 := S; replace S : Sat _ _ _ [] := S1.sub)
      all_goals refine any_end (by kernel_rfl) ?_
      replace S := S1
      rw [show upd (upd (dbC D) (0 + 0 + (q : Int).toNat * 1) (.bool false)) (0 + 6 + (q : Int).toNat * 1) (.slice none 0 0) = dbC (offD D q) from by
        rw [show 0 + 0 + (q : Int).toNat * 1 = q from by omega, show 0 + 6 + (q : Int).toNat * 1 = 6 + q from by omega]
        exact dbC_upd false noS hql] at S
      repeat' (first | refine assign_i_l S rfl rfl ?_ | refine move_i_l S rfl rfl ?_ | refine move_b_l S rfl rfl ?_ | refine nilL ?_ | refine run_seq ?_ | refine run_skip ?_ | refine run_region ?_ | refine onL rfl rfl ?_ | refine offL rfl rfl rfl rfl ?_ | refine offL0 rfl rfl rfl ?_ | refine offLU rfl rfl rfl ?_ | refine pick_tb_l S rfl rfl rfl ?_ | refine pick_fb_l S rfl rfl rfl ?_ | (refine lss_l S rfl rfl rfl ?_ ?_ <;> intro hcmp <;> try (exfalso; first | omega | exact hcmp (by decide) | exact absurd hcmp (by decide))) | (refine gtr_l S rfl rfl rfl ?_ ?_ <;> intro hcmp <;> try (exfalso; first | omega | exact hcmp (by decide) | exact absurd hcmp (by decide))) | refine move_p_l S rfl rfl ?_ | refine move_e_l S rfl rfl ?_ | refine nilCheck_l S rfl rfl ?_ | refine nilCheckE_l S rfl (by first | omega | decide | (simp; done) | (simp; omega)) rfl ?_ | refine fieldAddr_l S rfl rfl rfl ?_ | refine fieldAddrE_l S rfl (by first | omega | decide | (simp; done) | (simp; omega)) rfl rfl ?_ | refine indexArr_l S rfl rfl (by first | omega | decide | (simp; done) | (simp; omega)) rfl rfl ?_ | refine load_b_l S rfl rfl rfl rfl ?_ | refine loadE_b_l S rfl (by first | omega | decide | (simp; done) | (simp; omega)) rfl rfl rfl ?_ | refine not_l S rfl rfl ?_ | refine move_o_l S rfl rfl ?_ | refine load_o_l S rfl rfl rfl rfl ?_ | refine loadE_o_l S rfl (by first | omega | decide | (simp; done) | (simp; omega)) rfl rfl rfl ?_ | refine run_block ?_ | refine run_ret ?_ | refine run_exit ?_ | refine run_cond_true rfl ?_ | refine run_cond_false rfl ?_ | refine thenQ_n ?_ | refine thenQ_r ?_ | refine thenQ_e ?_ | refine blockQ_n ?_ | refine blockQ_r ?_ | refine blockQ_s rfl ?_ | refine blockQ_o rfl ?_ | refine ret1_i rfl ?_ | refine ret1_b rfl ?_ | refine ret1_p rfl ?_ | refine ret1_s rfl ?_ | refine ret1_e rfl ?_ | refine ret1_a rfl ?_ | refine ret1_o rfl ?_ | refine ret1n_i rfl ?_ | refine ret1n_b rfl ?_ | refine ret1n_p rfl ?_ | refine ret1n_s rfl ?_ | refine ret1n_o rfl ?_)
      exact ⟨rfl, _, hR.off hql, bd_off S⟩
theorem dput_at {a : Option Addr} {cap : Nat} {zs : List Int} (hz : SlOk w0 a zs.length cap 1 (gL encI 0 zs)) (hap : ∀ k, (bdR b0 D).foot k → ¬ (slL a cap 1 encI 0 zs).foot k) (t : Int) (hn : zs.length ≤ 1000) :
    Calls Try.prog 19 #[.pointer (some ⟨b0, 0, none⟩), .int .i64 t, .slice a zs.length cap] w0 fun e w' => e = .returned (.int .i64 (putE B t zs)) ∧ ∃ D', RelD D' (putB B t zs) ∧ BdTo b0 D D' w0 w' := by
  have S0 : Sat (bdR b0 D).foot w0 w0 [roR (slL a cap 1 encI 0 zs)] := (Sat.start _ w0).ro (r := roR (slL a cap 1 encI 0 zs)) hz rfl rfl
  have S : Sat (bdR b0 D).foot w0 w0 (bdL b0 D ++ [roR (slL a cap 1 encI 0 zs)]) := by
    have hb := bd_open h
    refine ⟨Chg.refl _ _, fun r hr => ?_, List.pairwise_append.2 ⟨hb.sep, by simp, fun r hr x hx => ?_⟩, fun r hr hro k hk hlt => ?_⟩
    · rcases List.mem_append.1 hr with hr | hr
      · exact hb.all r hr
      · exact S0.all r hr
    · obtain rfl : x = roR (slL a cap 1 encI 0 zs) := by simpa using hx
      refine .inr fun k e e' => hap k ?_ e'
      have := hb.own r hr ?_ k e (r.lt w0 k (hb.all r hr) e)
      · exact this
      · simp only [List.mem_cons, List.not_mem_nil, or_false] at hr
        rcases hr with rfl | rfl <;> rfl
    · rcases List.mem_append.1 hr with hr | hr
      · exact hb.own r hr hro k hk hlt
      · obtain rfl : r = roR (slL a cap 1 encI 0 zs) := by simpa using hr
        cases hro
  clear S0
  replace S : Sat (bdR b0 D).foot w0 w0 (blk b0 12 (dbC D) 48 :: inD D :: [roR (slL a cap 1 encI 0 zs)]) := S
  have far : ∀ {w : World} {c : Int}, Sat (bdR b0 D).foot w0 w (blk b0 12 (dbC D) 48 :: inD D :: [roR (slL a cap 1 encI 0 zs)]) → putE B t zs = c → c ≠ 0 → Ending.returned (Value.int .i64 c) = .returned (.int .i64 (putE B t zs)) ∧ ∃ D', RelD D' (putB B t zs) ∧ BdTo b0 D D' w0 w := fun S e hc => by
    subst e
    exact ⟨rfl, D, by rw [putB_ne hc]; exact hR, bd_shut S⟩
  refine enter1 Try.func19 rfl Try.ntmps19 rfl Try.results19 ?_
  by_cases hr : t < 0 ∨ t ≥ 6
  · repeat' (first | refine assign_i_l S rfl rfl ?_ | refine move_i_l S rfl rfl ?_ | (refine lss_l S rfl rfl rfl ?_ ?_ <;> intro hcmp <;> try (exfalso; first | omega | exact hcmp (by decide) | exact absurd hcmp (by decide))) | refine nilL ?_ | refine run_seq ?_ | refine run_skip ?_ | refine run_region ?_ | refine onL rfl rfl ?_ | refine offL rfl rfl rfl rfl ?_ | refine offL0 rfl rfl rfl ?_ | refine offLU rfl rfl rfl ?_ | refine move_s_l S rfl rfl ?_ | refine move_b_l S rfl rfl ?_ | (refine gtr_l S rfl rfl rfl ?_ ?_ <;> intro hcmp <;> try (exfalso; first | omega | exact hcmp (by decide) | exact absurd hcmp (by decide))) | refine pick_tb_l S rfl rfl rfl ?_ | refine pick_fb_l S rfl rfl rfl ?_ | refine indexAddr_l S rfl rfl (idx_cast _) (by first | omega | decide | (simp; done) | (simp; omega)) rfl ?_ | refine indexAddr_l S rfl rfl (idx_eq _) (by first | omega | decide | (simp; done) | (simp; omega)) rfl ?_ | refine load_i_l S rfl rfl rfl rfl ?_ | refine loadE_i_l S rfl (by first | omega | decide | (simp; done) | (simp; omega)) rfl rfl rfl ?_ | refine len_l S rfl rfl ?_ | refine add_l S rfl rfl (wrap_in (by omega)) rfl ?_ | refine add_l S rfl rfl rfl rfl ?_ | refine move_p_l S rfl rfl ?_ | refine move_e_l S rfl rfl ?_ | refine nilCheck_l S rfl rfl ?_ | refine nilCheckE_l S rfl (by first | omega | decide | (simp; done) | (simp; omega)) rfl ?_ | refine fieldAddr_l S rfl rfl rfl ?_ | refine fieldAddrE_l S rfl (by first | omega | decide | (simp; done) | (simp; omega)) rfl rfl ?_ | refine indexArr_l S rfl rfl (by first | omega | decide | (simp; done) | (simp; omega)) rfl rfl ?_ | refine load_b_l S rfl rfl rfl rfl ?_ | refine loadE_b_l S rfl (by first | omega | decide | (simp; done) | (simp; omega)) rfl rfl rfl ?_ | refine load_o_l S rfl rfl rfl rfl ?_ | refine loadE_o_l S rfl (by first | omega | decide | (simp; done) | (simp; omega)) rfl rfl rfl ?_ | refine move_o_l S rfl rfl ?_ | refine run_block ?_ | refine run_ret ?_ | refine run_exit ?_ | refine run_cond_true rfl ?_ | refine run_cond_false rfl ?_ | refine thenQ_n ?_ | refine thenQ_r ?_ | refine thenQ_e ?_ | refine blockQ_n ?_ | refine blockQ_r ?_ | refine blockQ_s rfl ?_ | refine blockQ_o rfl ?_ | refine ret1_i rfl ?_ | refine ret1_b rfl ?_ | refine ret1_p rfl ?_ | refine ret1_s rfl ?_ | refine ret1_e rfl ?_ | refine ret1_a rfl ?_ | refine ret1_o rfl ?_ | refine ret1n_i rfl ?_ | refine ret1n_b rfl ?_ | refine ret1n_p rfl ?_ | refine ret1n_s rfl ?_ | refine ret1n_o rfl ?_)
    all_goals exact far S (if_pos (.inl (by omega))) (by decide)
  obtain ⟨q, rfl⟩ : ∃ q : Nat, t = q := ⟨t.toNat, by omega⟩
  have hql : q < 6 := by omega
  have hg := hR.get q hql
  repeat' (first | refine assign_i_l S rfl rfl ?_ | refine move_i_l S rfl rfl ?_ | (refine lss_l S rfl rfl rfl ?_ ?_ <;> intro hcmp <;> try (exfalso; first | omega | exact hcmp (by decide) | exact absurd hcmp (by decide))) | refine nilL ?_ | refine run_seq ?_ | refine run_skip ?_ | refine run_region ?_ | refine onL rfl rfl ?_ | refine offL rfl rfl rfl rfl ?_ | refine offL0 rfl rfl rfl ?_ | refine offLU rfl rfl rfl ?_ | refine move_s_l S rfl rfl ?_ | refine move_b_l S rfl rfl ?_ | (refine gtr_l S rfl rfl rfl ?_ ?_ <;> intro hcmp <;> try (exfalso; first | omega | exact hcmp (by decide) | exact absurd hcmp (by decide))) | refine pick_tb_l S rfl rfl rfl ?_ | refine pick_fb_l S rfl rfl rfl ?_ | refine indexAddr_l S rfl rfl (idx_cast _) (by first | omega | decide | (simp; done) | (simp; omega)) rfl ?_ | refine indexAddr_l S rfl rfl (idx_eq _) (by first | omega | decide | (simp; done) | (simp; omega)) rfl ?_ | refine load_i_l S rfl rfl rfl rfl ?_ | refine loadE_i_l S rfl (by first | omega | decide | (simp; done) | (simp; omega)) rfl rfl rfl ?_ | refine len_l S rfl rfl ?_ | refine add_l S rfl rfl (wrap_in (by omega)) rfl ?_ | refine add_l S rfl rfl rfl rfl ?_ | refine move_p_l S rfl rfl ?_ | refine move_e_l S rfl rfl ?_ | refine nilCheck_l S rfl rfl ?_ | refine nilCheckE_l S rfl (by first | omega | decide | (simp; done) | (simp; omega)) rfl ?_ | refine fieldAddr_l S rfl rfl rfl ?_ | refine fieldAddrE_l S rfl (by first | omega | decide | (simp; done) | (simp; omega)) rfl rfl ?_ | refine indexArr_l S rfl rfl (by first | omega | decide | (simp; done) | (simp; omega)) rfl rfl ?_ | refine load_b_l S rfl rfl rfl rfl ?_ | refine loadE_b_l S rfl (by first | omega | decide | (simp; done) | (simp; omega)) rfl rfl rfl ?_ | refine load_o_l S rfl rfl rfl rfl ?_ | refine loadE_o_l S rfl (by first | omega | decide | (simp; done) | (simp; omega)) rfl rfl rfl ?_ | refine move_o_l S rfl rfl ?_ | refine run_block ?_ | refine run_ret ?_ | refine run_exit ?_ | refine run_cond_true rfl ?_ | refine run_cond_false rfl ?_ | refine thenQ_n ?_ | refine thenQ_r ?_ | refine thenQ_e ?_ | refine blockQ_n ?_ | refine blockQ_r ?_ | refine blockQ_s rfl ?_ | refine blockQ_o rfl ?_ | refine ret1_i rfl ?_ | refine ret1_b rfl ?_ | refine ret1_p rfl ?_ | refine ret1_s rfl ?_ | refine ret1_e rfl ?_ | refine ret1_a rfl ?_ | refine ret1_o rfl ?_ | refine ret1n_i rfl ?_ | refine ret1n_b rfl ?_ | refine ret1n_p rfl ?_ | refine ret1n_s rfl ?_ | refine ret1n_o rfl ?_)
  refine run_while [6, 14, 15, 16, 17, 18, 19, 20, 21, 22, 23, 24, 25, 26, 27, 28, 29, 30, 31] (fun (i : Nat) t => upd t 7 (.int .i64 i)) (fun i w' => i ≤ zs.length ∧ (∀ k, k < i → farB (zs.getD k 0) = false) ∧ Sat (bdR b0 D).foot w0 w' (blk b0 12 (dbC D) 48 :: inD D :: [roR (slL a cap 1 encI 0 zs)])) (fun i => zs.length - i) 0 ?_ ?_ ?_
  · (repeat (first | exact agree_refl | refine agree_r rfl ?_ | refine agree_l rfl ?_ | refine agree_hv rfl ?_))
  · exact ⟨Nat.zero_le _, fun k hk => by omega, S⟩
  clear S
  rintro i j w ⟨hi, hall, S⟩
  by_cases hil : i < zs.length
  · have hmem : zs.getD i 0 ∈ zs := by rw [List.getD_eq_getElem?_getD, List.getElem?_eq_getElem hil]; exact List.getElem_mem hil
    repeat' (first | refine assign_i_l S rfl rfl ?_ | refine move_i_l S rfl rfl ?_ | (refine lss_l S rfl rfl rfl ?_ ?_ <;> intro hcmp <;> try (exfalso; first | omega | exact hcmp (by decide) | exact absurd hcmp (by decide))) | refine nilL ?_ | refine run_seq ?_ | refine run_skip ?_ | refine run_region ?_ | refine onL rfl rfl ?_ | refine offL rfl rfl rfl rfl ?_ | refine offL0 rfl rfl rfl ?_ | refine offLU rfl rfl rfl ?_ | refine move_s_l S rfl rfl ?_ | refine move_b_l S rfl rfl ?_ | (refine gtr_l S rfl rfl rfl ?_ ?_ <;> intro hcmp <;> try (exfalso; first | omega | exact hcmp (by decide) | exact absurd hcmp (by decide))) | refine pick_tb_l S rfl rfl rfl ?_ | refine pick_fb_l S rfl rfl rfl ?_ | refine indexAddr_l S rfl rfl (idx_cast _) (by first | omega | decide | (simp; done) | (simp; omega)) rfl ?_ | refine indexAddr_l S rfl rfl (idx_eq _) (by first | omega | decide | (simp; done) | (simp; omega)) rfl ?_ | refine load_i_l S rfl rfl rfl rfl ?_ | refine loadE_i_l S rfl (by first | omega | decide | (simp; done) | (simp; omega)) rfl rfl rfl ?_ | refine len_l S rfl rfl ?_ | refine add_l S rfl rfl (wrap_in (by omega)) rfl ?_ | refine add_l S rfl rfl rfl rfl ?_ | refine move_p_l S rfl rfl ?_ | refine move_e_l S rfl rfl ?_ | refine nilCheck_l S rfl rfl ?_ | refine nilCheckE_l S rfl (by first | omega | decide | (simp; done) | (simp; omega)) rfl ?_ | refine fieldAddr_l S rfl rfl rfl ?_ | refine fieldAddrE_l S rfl (by first | omega | decide | (simp; done) | (simp; omega)) rfl rfl ?_ | refine indexArr_l S rfl rfl (by first | omega | decide | (simp; done) | (simp; omega)) rfl rfl ?_ | refine load_b_l S rfl rfl rfl rfl ?_ | refine loadE_b_l S rfl (by first | omega | decide | (simp; done) | (simp; omega)) rfl rfl rfl ?_ | refine load_o_l S rfl rfl rfl rfl ?_ | refine loadE_o_l S rfl (by first | omega | decide | (simp; done) | (simp; omega)) rfl rfl rfl ?_ | refine move_o_l S rfl rfl ?_ | refine run_block ?_ | refine run_ret ?_ | refine run_exit ?_ | refine run_cond_true rfl ?_ | refine run_cond_false rfl ?_ | refine thenQ_n ?_ | refine thenQ_r ?_ | refine thenQ_e ?_ | refine blockQ_n ?_ | refine blockQ_r ?_ | refine blockQ_s rfl ?_ | refine blockQ_o rfl ?_ | refine ret1_i rfl ?_ | refine ret1_b rfl ?_ | refine ret1_p rfl ?_ | refine ret1_s rfl ?_ | refine ret1_e rfl ?_ | refine ret1_a rfl ?_ | refine ret1_o rfl ?_ | refine ret1n_i rfl ?_ | refine ret1n_b rfl ?_ | refine ret1n_p rfl ?_ | refine ret1n_s rfl ?_ | refine ret1n_o rfl ?_)
    · exact far S (if_pos (.inr (List.any_eq_true.2 ⟨_, hmem, by unfold farB; rw [decide_eq_true hcmp]; rfl⟩))) (by decide)
    · exact far S (if_pos (.inr (List.any_eq_true.2 ⟨_, hmem, by unfold farB; rw [decide_eq_true (show zs.getD i 0 ≥ 32 by omega), Bool.or_true]⟩))) (by decide)
    · refine ⟨i + 1, ?_, ⟨by omega, fun k hk => ?_, S⟩, by omega⟩
      · rw [Int.natCast_add]
        (repeat (first | exact agree_refl | refine agree_r rfl ?_ | refine agree_l rfl ?_ | refine agree_hv rfl ?_))
      · rcases Nat.lt_or_ge k i with h | h
        · exact hall k h
        · obtain rfl : k = i := by omega
          unfold farB
          rw [decide_eq_false (by omega), decide_eq_false (by omega)]
          rfl
  · have hfar : zs.any farB = false := by
      rw [← Bool.not_eq_true, List.any_eq_true]
      rintro ⟨x, hx, e⟩
      obtain ⟨k, hk, rfl⟩ := (getD_mem_iff zs x).1 hx
      rw [hall k (by omega)] at e
      cases e
    repeat' (first | refine assign_i_l S rfl rfl ?_ | refine move_i_l S rfl rfl ?_ | (refine lss_l S rfl rfl rfl ?_ ?_ <;> intro hcmp <;> try (exfalso; first | omega | exact hcmp (by decide) | exact absurd hcmp (by decide))) | refine nilL ?_ | refine run_seq ?_ | refine run_skip ?_ | refine run_region ?_ | refine onL rfl rfl ?_ | refine offL rfl rfl rfl rfl ?_ | refine offL0 rfl rfl rfl ?_ | refine offLU rfl rfl rfl ?_ | refine move_s_l S rfl rfl ?_ | refine move_b_l S rfl rfl ?_ | (refine gtr_l S rfl rfl rfl ?_ ?_ <;> intro hcmp <;> try (exfalso; first | omega | exact hcmp (by decide) | exact absurd hcmp (by decide))) | refine pick_tb_l S rfl rfl rfl ?_ | refine pick_fb_l S rfl rfl rfl ?_ | refine indexAddr_l S rfl rfl (idx_cast _) (by first | omega | decide | (simp; done) | (simp; omega)) rfl ?_ | refine indexAddr_l S rfl rfl (idx_eq _) (by first | omega | decide | (simp; done) | (simp; omega)) rfl ?_ | refine load_i_l S rfl rfl rfl rfl ?_ | refine loadE_i_l S rfl (by first | omega | decide | (simp; done) | (simp; omega)) rfl rfl rfl ?_ | refine len_l S rfl rfl ?_ | refine add_l S rfl rfl (wrap_in (by omega)) rfl ?_ | refine add_l S rfl rfl rfl rfl ?_ | refine move_p_l S rfl rfl ?_ | refine move_e_l S rfl rfl ?_ | refine nilCheck_l S rfl rfl ?_ | refine nilCheckE_l S rfl (by first | omega | decide | (simp; done) | (simp; omega)) rfl ?_ | refine fieldAddr_l S rfl rfl rfl ?_ | refine fieldAddrE_l S rfl (by first | omega | decide | (simp; done) | (simp; omega)) rfl rfl ?_ | refine indexArr_l S rfl rfl (by first | omega | decide | (simp; done) | (simp; omega)) rfl rfl ?_ | refine load_b_l S rfl rfl rfl rfl ?_ | refine loadE_b_l S rfl (by first | omega | decide | (simp; done) | (simp; omega)) rfl rfl rfl ?_ | refine load_o_l S rfl rfl rfl rfl ?_ | refine loadE_o_l S rfl (by first | omega | decide | (simp; done) | (simp; omega)) rfl rfl rfl ?_ | refine move_o_l S rfl rfl ?_ | refine run_block ?_ | refine run_ret ?_ | refine run_exit ?_ | refine run_cond_true rfl ?_ | refine run_cond_false rfl ?_ | refine thenQ_n ?_ | refine thenQ_r ?_ | refine thenQ_e ?_ | refine blockQ_n ?_ | refine blockQ_r ?_ | refine blockQ_s rfl ?_ | refine blockQ_o rfl ?_ | refine ret1_i rfl ?_ | refine ret1_b rfl ?_ | refine ret1_p rfl ?_ | refine ret1_s rfl ?_ | refine ret1_e rfl ?_ | refine ret1_a rfl ?_ | refine ret1_o rfl ?_ | refine ret1n_i rfl ?_ | refine ret1n_b rfl ?_ | refine ret1n_p rfl ?_ | refine ret1n_s rfl ?_ | refine ret1n_o rfl ?_)
    refine load_b_l S rfl (dbC_is' q hql (by omega)) (blt_of (by omega)) rfl ?_
    cases hd : (D q).1 with
    | true =>
      rw [hd, if_pos rfl] at hg
      repeat' (first | refine assign_i_l S rfl rfl ?_ | refine move_i_l S rfl rfl ?_ | (refine lss_l S rfl rfl rfl ?_ ?_ <;> intro hcmp <;> try (exfalso; first | omega | exact hcmp (by decide) | exact absurd hcmp (by decide))) | refine nilL ?_ | refine run_seq ?_ | refine run_skip ?_ | refine run_region ?_ | refine onL rfl rfl ?_ | refine offL rfl rfl rfl rfl ?_ | refine offL0 rfl rfl rfl ?_ | refine offLU rfl rfl rfl ?_ | refine move_s_l S rfl rfl ?_ | refine move_b_l S rfl rfl ?_ | (refine gtr_l S rfl rfl rfl ?_ ?_ <;> intro hcmp <;> try (exfalso; first | omega | exact hcmp (by decide) | exact absurd hcmp (by decide))) | refine pick_tb_l S rfl rfl rfl ?_ | refine pick_fb_l S rfl rfl rfl ?_ | refine indexAddr_l S rfl rfl (idx_cast _) (by first | omega | decide | (simp; done) | (simp; omega)) rfl ?_ | refine indexAddr_l S rfl rfl (idx_eq _) (by first | omega | decide | (simp; done) | (simp; omega)) rfl ?_ | refine load_i_l S rfl rfl rfl rfl ?_ | refine loadE_i_l S rfl (by first | omega | decide | (simp; done) | (simp; omega)) rfl rfl rfl ?_ | refine len_l S rfl rfl ?_ | refine add_l S rfl rfl (wrap_in (by omega)) rfl ?_ | refine add_l S rfl rfl rfl rfl ?_ | refine move_p_l S rfl rfl ?_ | refine move_e_l S rfl rfl ?_ | refine nilCheck_l S rfl rfl ?_ | refine nilCheckE_l S rfl (by first | omega | decide | (simp; done) | (simp; omega)) rfl ?_ | refine fieldAddr_l S rfl rfl rfl ?_ | refine fieldAddrE_l S rfl (by first | omega | decide | (simp; done) | (simp; omega)) rfl rfl ?_ | refine indexArr_l S rfl rfl (by first | omega | decide | (simp; done) | (simp; omega)) rfl rfl ?_ | refine load_b_l S rfl rfl rfl rfl ?_ | refine loadE_b_l S rfl (by first | omega | decide | (simp; done) | (simp; omega)) rfl rfl rfl ?_ | refine load_o_l S rfl rfl rfl rfl ?_ | refine loadE_o_l S rfl (by first | omega | decide | (simp; done) | (simp; omega)) rfl rfl rfl ?_ | refine move_o_l S rfl rfl ?_ | refine run_block ?_ | refine run_ret ?_ | refine run_exit ?_ | refine run_cond_true rfl ?_ | refine run_cond_false rfl ?_ | refine thenQ_n ?_ | refine thenQ_r ?_ | refine thenQ_e ?_ | refine blockQ_n ?_ | refine blockQ_r ?_ | refine blockQ_s rfl ?_ | refine blockQ_o rfl ?_ | refine ret1_i rfl ?_ | refine ret1_b rfl ?_ | refine ret1_p rfl ?_ | refine ret1_s rfl ?_ | refine ret1_e rfl ?_ | refine ret1_a rfl ?_ | refine ret1_o rfl ?_ | refine ret1n_i rfl ?_ | refine ret1n_b rfl ?_ | refine ret1n_p rfl ?_ | refine ret1n_s rfl ?_ | refine ret1n_o rfl ?_)
      refine far S ?_ (by decide)
      unfold putE
      rw [if_neg (by rw [hfar]; simp; omega), hg]
      rfl
    | false =>
      rw [hd, if_neg (by decide)] at hg
      have he : putE B (q : Int) zs = 0 := by
        unfold putE
        rw [if_neg (by rw [hfar]; simp; omega), hg]
        rfl
      have hb : putB B (q : Int) zs = putM B (q : Int) (insL zs) := if_pos he
      rw [he, hb]
      repeat' (first | refine assign_i_l S rfl rfl ?_ | refine move_i_l S rfl rfl ?_ | (refine lss_l S rfl rfl rfl ?_ ?_ <;> intro hcmp <;> try (exfalso; first | omega | exact hcmp (by decide) | exact absurd hcmp (by decide))) | refine nilL ?_ | refine run_seq ?_ | refine run_skip ?_ | refine run_region ?_ | refine onL rfl rfl ?_ | refine offL rfl rfl rfl rfl ?_ | refine offL0 rfl rfl rfl ?_ | refine offLU rfl rfl rfl ?_ | refine move_s_l S rfl rfl ?_ | refine move_b_l S rfl rfl ?_ | (refine gtr_l S rfl rfl rfl ?_ ?_ <;> intro hcmp <;> try (exfalso; first | omega | exact hcmp (by decide) | exact absurd hcmp (by decide))) | refine pick_tb_l S rfl rfl rfl ?_ | refine pick_fb_l S rfl rfl rfl ?_ | refine indexAddr_l S rfl rfl (idx_cast _) (by first | omega | decide | (simp; done) | (simp; omega)) rfl ?_ | refine indexAddr_l S rfl rfl (idx_eq _) (by first | omega | decide | (simp; done) | (simp; omega)) rfl ?_ | refine load_i_l S rfl rfl rfl rfl ?_ | refine loadE_i_l S rfl (by first | omega | decide | (simp; done) | (simp; omega)) rfl rfl rfl ?_ | refine len_l S rfl rfl ?_ | refine add_l S rfl rfl (wrap_in (by omega)) rfl ?_ | refine add_l S rfl rfl rfl rfl ?_ | refine move_p_l S rfl rfl ?_ | refine move_e_l S rfl rfl ?_ | refine nilCheck_l S rfl rfl ?_ | refine nilCheckE_l S rfl (by first | omega | decide | (simp; done) | (simp; omega)) rfl ?_ | refine fieldAddr_l S rfl rfl rfl ?_ | refine fieldAddrE_l S rfl (by first | omega | decide | (simp; done) | (simp; omega)) rfl rfl ?_ | refine indexArr_l S rfl rfl (by first | omega | decide | (simp; done) | (simp; omega)) rfl rfl ?_ | refine load_b_l S rfl rfl rfl rfl ?_ | refine loadE_b_l S rfl (by first | omega | decide | (simp; done) | (simp; omega)) rfl rfl rfl ?_ | refine load_o_l S rfl rfl rfl rfl ?_ | refine loadE_o_l S rfl (by first | omega | decide | (simp; done) | (simp; omega)) rfl rfl rfl ?_ | refine move_o_l S rfl rfl ?_ | refine run_block ?_ | refine run_ret ?_ | refine run_exit ?_ | refine run_cond_true rfl ?_ | refine run_cond_false rfl ?_ | refine thenQ_n ?_ | refine thenQ_r ?_ | refine thenQ_e ?_ | refine blockQ_n ?_ | refine blockQ_r ?_ | refine blockQ_s rfl ?_ | refine blockQ_o rfl ?_ | refine ret1_i rfl ?_ | refine ret1_b rfl ?_ | refine ret1_p rfl ?_ | refine ret1_s rfl ?_ | refine ret1_e rfl ?_ | refine ret1_a rfl ?_ | refine ret1_o rfl ?_ | refine ret1n_i rfl ?_ | refine ret1n_b rfl ?_ | refine ret1n_p rfl ?_ | refine ret1n_s rfl ?_ | refine ret1n_o rfl ?_)
      refine run_any S (L' := []) (f := 15) mixed rfl ?_
      clear S
      intro w S1
      have S : Sat _ _ w [] := S1.sub
      all_goals (refine any_pure (i := 0) rfl (by kernel_rfl) S ?_; (first | refine move_p_x rfl rfl ?_ | refine move_e_x rfl rfl ?_ | refine move_o_x rfl rfl ?_))
      all_goals (refine any_pure (i := 1) rfl (by kernel_rfl) S ?_; refine move_i_x rfl rfl ?_)
      all_goals (refine any_pure (i := 2) rfl (by kernel_rfl) S ?_; (first | refine move_p_x rfl rfl ?_ | refine move_e_x rfl rfl ?_ | refine move_o_x rfl rfl ?_))
      all_goals (refine any_pure (i := 3) rfl (by kernel_rfl) S ?_; refine move_i_x rfl rfl ?_)
      all_goals (refine any_pure (i := 5) rfl (by kernel_rfl) S ?_; refine move_s_x rfl rfl ?_)
      all_goals (refine any_pure (i := 7) rfl (by kernel_rfl) S ?_; (first | refine nilCheck_x rfl rfl ?_ | refine nilCheckE_x rfl (by first | omega | decide | (simp; done) | (simp; omega)) rfl ?_))
      all_goals (refine any_pure (i := 8) rfl (by kernel_rfl) S ?_; (first | refine fieldAddr_x rfl rfl rfl ?_ | refine fieldAddrE_x rfl (by first | omega | decide | (simp; done) | (simp; omega)) rfl rfl ?_))
      all_goals (refine any_pure (i := 11) rfl (by kernel_rfl) S ?_; (first | refine nilCheck_x rfl rfl ?_ | refine nilCheckE_x rfl (by first | omega | decide | (simp; done) | (simp; omega)) rfl ?_))
      all_goals (refine any_pure (i := 12) rfl (by kernel_rfl) S ?_; (first | refine fieldAddr_x rfl rfl rfl ?_ | refine fieldAddrE_x rfl (by first | omega | decide | (simp; done) | (simp; omega)) rfl rfl ?_))
      all_goals (refine any_step (i := 4) rfl (by kernel_rfl) ?_; replace S := S1; clear S1; (refine buildSliceN_l S (vs := []) rfl rfl rfl rfl rfl rfl ?_; clear S; intro b w S); refine nilL ?_; refine ⟨S.sub, ?_⟩; have S1 := S; replace S : Sat _ _ _ [] := S1.sub)
      all_goals (refine any_step (i := 6) rfl (by kernel_rfl) ?_; replace S := S1; clear S1; (first | (refine append_l S rfl rfl (by omega) rfl ?_; clear S; intro a' cap' w S) | (refine append0_l S rfl rfl (by omega) rfl ?_; clear S; intro a' cap' w S) | (refine append1_i S rfl rfl rfl (by omega) rfl ?_; clear S; intro a' cap' w S) | (refine append2_i S rfl rfl rfl rfl (by omega) rfl ?_; clear S; intro a' cap' w S) | (refine appendPre_i S rfl rfl (by omega) (by omega) rfl ?_; clear S; intro a' cap' w S) | (refine appendSuf_i S rfl rfl (by omega) (by omega) rfl ?_; clear S; intro a' cap' w S)); refine nilL ?_; refine ⟨S.sub, ?_⟩; have S1 := S; replace S : Sat _ _ _ [] := S1.sub)
      all_goals (refine any_pure (i := 9) rfl (by kernel_rfl) S ?_; refine indexArr_x rfl rfl (by first | omega | decide | (simp; done) | (simp; omega)) rfl rfl ?_)
      all_goals (refine any_step (i := 10) rfl (by kernel_rfl) ?_; replace S := S1; clear S1; (refine store_b S rfl rfl (blt_of (by omega)) ?_; clear S; intro w S); refine nilL ?_; refine ⟨S.sub, ?_⟩; have S1 := S; replace S : Sat _ _ _ [] := S1.sub)
      all_goals (refine any_pure (i := 13) rfl (by kernel_rfl) S ?_; refine indexArr_x rfl rfl (by first | omega | decide | (simp; done) | (simp; omega)) rfl rfl ?_)
      all_goals (refine any_step (i := 14) rfl (by kernel_rfl) ?_; replace S := S1; clear S1; (refine store_s S rfl rfl (blt_of (by omega)) ?_; clear S; intro w S); refine nilL ?_; refine ⟨S.sub, ?_⟩; have S1 := S; replace S : Sat _ _ _ [] := S1.sub)
      all_goals refine any_end (by kernel_rfl) ?_
      replace S := S1
      clear S1
      rw [show upd (upd (dbC D) (0 + 0 + (q : Int).toNat * 1) (.bool true)) (0 + 6 + (q : Int).toNat * 1) (.slice a' zs.length cap') = dbC (putD D q ⟨a', cap', zs⟩) from by
        rw [show 0 + 0 + (q : Int).toNat * 1 = q from by omega, show 0 + 6 + (q : Int).toNat * 1 = 6 + q from by omega]
        exact dbC_upd true ⟨a', cap', zs⟩ hql] at S
      repeat' (first | refine assign_i_l S rfl rfl ?_ | refine move_i_l S rfl rfl ?_ | (refine lss_l S rfl rfl rfl ?_ ?_ <;> intro hcmp <;> try (exfalso; first | omega | exact hcmp (by decide) | exact absurd hcmp (by decide))) | refine nilL ?_ | refine run_seq ?_ | refine run_skip ?_ | refine run_region ?_ | refine onL rfl rfl ?_ | refine offL rfl rfl rfl rfl ?_ | refine offL0 rfl rfl rfl ?_ | refine offLU rfl rfl rfl ?_ | refine move_s_l S rfl rfl ?_ | refine move_b_l S rfl rfl ?_ | (refine gtr_l S rfl rfl rfl ?_ ?_ <;> intro hcmp <;> try (exfalso; first | omega | exact hcmp (by decide) | exact absurd hcmp (by decide))) | refine pick_tb_l S rfl rfl rfl ?_ | refine pick_fb_l S rfl rfl rfl ?_ | refine indexAddr_l S rfl rfl (idx_cast _) (by first | omega | decide | (simp; done) | (simp; omega)) rfl ?_ | refine indexAddr_l S rfl rfl (idx_eq _) (by first | omega | decide | (simp; done) | (simp; omega)) rfl ?_ | refine load_i_l S rfl rfl rfl rfl ?_ | refine loadE_i_l S rfl (by first | omega | decide | (simp; done) | (simp; omega)) rfl rfl rfl ?_ | refine len_l S rfl rfl ?_ | refine add_l S rfl rfl (wrap_in (by omega)) rfl ?_ | refine add_l S rfl rfl rfl rfl ?_ | refine move_p_l S rfl rfl ?_ | refine move_e_l S rfl rfl ?_ | refine nilCheck_l S rfl rfl ?_ | refine nilCheckE_l S rfl (by first | omega | decide | (simp; done) | (simp; omega)) rfl ?_ | refine fieldAddr_l S rfl rfl rfl ?_ | refine fieldAddrE_l S rfl (by first | omega | decide | (simp; done) | (simp; omega)) rfl rfl ?_ | refine indexArr_l S rfl rfl (by first | omega | decide | (simp; done) | (simp; omega)) rfl rfl ?_ | refine load_b_l S rfl rfl rfl rfl ?_ | refine loadE_b_l S rfl (by first | omega | decide | (simp; done) | (simp; omega)) rfl rfl rfl ?_ | refine load_o_l S rfl rfl rfl rfl ?_ | refine loadE_o_l S rfl (by first | omega | decide | (simp; done) | (simp; omega)) rfl rfl rfl ?_ | refine move_o_l S rfl rfl ?_ | refine run_block ?_ | refine run_ret ?_ | refine run_exit ?_ | refine run_cond_true rfl ?_ | refine run_cond_false rfl ?_ | refine thenQ_n ?_ | refine thenQ_r ?_ | refine thenQ_e ?_ | refine blockQ_n ?_ | refine blockQ_r ?_ | refine blockQ_s rfl ?_ | refine blockQ_o rfl ?_ | refine ret1_i rfl ?_ | refine ret1_b rfl ?_ | refine ret1_p rfl ?_ | refine ret1_s rfl ?_ | refine ret1_e rfl ?_ | refine ret1_a rfl ?_ | refine ret1_o rfl ?_ | refine ret1n_i rfl ?_ | refine ret1n_b rfl ?_ | refine ret1n_p rfl ?_ | refine ret1n_s rfl ?_ | refine ret1n_o rfl ?_)
      exact ⟨rfl, _, hR.put hql _, bd_put S⟩
end
section
variable {S₀ : Nat → Prop} {w₀ w : World} {L : List Res}
theorem Sat.bdTo {b : Nat} {D D' : DbX} (S : Sat S₀ w₀ w (bdR b D :: L)) {w' : World} (hm : BdTo b D D' w w') : Sat S₀ w₀ w' (bdR b D' :: L) := S.swap (r := bdR b D) (r' := bdR b D') rfl hm.2.1 hm.1 rfl hm.2.2
theorem Sat.bdput {b : Nat} {D : DbX} {B : Brd} {a : Option Addr} {cap : Nat} {zs : List Int} (S : Sat S₀ w₀ w (bdR b D :: L)) (hR : RelD D B) (hz : SlOk w a zs.length cap 1 (gL encI 0 zs)) (hap : ∀ k, (bdR b D).foot k → ¬ (slL a cap 1 encI 0 zs).foot k) (t : Int) (hn : zs.length ≤ 1000) :
    Calls Try.prog 19 #[.pointer (some ⟨b, 0, none⟩), .int .i64 t, .slice a zs.length cap] w fun e w' => e = .returned (.int .i64 (putE B t zs)) ∧ ∃ D', RelD D' (putB B t zs) ∧ Sat S₀ w₀ w' (bdR b D' :: L) := by
  refine (dput_at S.got1 hR hz hap t hn).mono ?_
  rintro e w' ⟨rfl, D', h1, h2⟩
  exact ⟨rfl, D', h1, S.bdTo h2⟩
theorem Sat.bdoff {b : Nat} {D : DbX} {B : Brd} (S : Sat S₀ w₀ w (bdR b D :: L)) (hR : RelD D B) (t : Int) :
    Calls Try.prog 21 #[.pointer (some ⟨b, 0, none⟩), .int .i64 t] w fun e w' => e = .returned (.int .i64 (offE B t)) ∧ ∃ D', RelD D' (offB B t) ∧ Sat S₀ w₀ w' (bdR b D' :: L) := by
  refine (doff_at S.got1 hR t).mono ?_
  rintro e w' ⟨rfl, D', h1, h2⟩
  exact ⟨rfl, D', h1, S.bdTo h2⟩
end
end Go.Proofs.Ytnnkegmiefpgpaa
