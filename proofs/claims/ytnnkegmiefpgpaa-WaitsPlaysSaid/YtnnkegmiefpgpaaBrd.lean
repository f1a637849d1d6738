/- waits: the board: what lies there; Put, Off, Threads, At. waits: the board: Threads, At. -/
import Derived.Test.YtnnkegmiefpgpaaSeq
import Derived.Test.YtnnkegmiefpgpaaCont
import Derived.Test.YtnnkegmiefpgpaaShSort
import Derived.Test.YtnnkegmiefpgpaaMap
import Derived.Test.YtnnkegmiefpgpaaExch
namespace Go.Proofs.Ytnnkegmiefpgpaa
open Go.RowKit Go.Lib
set_option linter.unusedVariables false
set_option maxHeartbeats 2000000
/-- The threads that are there, rising; each with where its map lies, and its stripes. -/
abbrev StrM := List (Int × Unit)
abbrev BrdX := List (Int × (Nat × StrM))
def encU (_ : Unit) : Value := .bool true
def encMp (b : Nat) : Value := .map (some b)
def outX (X : BrdX) : List (Int × Nat) := X.map fun p => (p.1, p.2.1)
def absX (X : BrdX) : List (Int × StrM) := X.map fun p => (p.1, p.2.2)
theorem getM_map {α β : Type} (f : α → β) (m : List (Int × α)) (k : Int) : getM (m.map fun p => (p.1, f p.2)) k = (getM m k).map f := by
  unfold getM
  induction m with
  | nil => rfl
  | cons p r ih =>
    rw [List.map_cons, List.find?_cons, List.find?_cons]
    by_cases e : p.1 = k
    · rw [show (p.1 == k) = true from by simp [e]]; rfl
    · rw [show (p.1 == k) = false from by simp [e]]; exact ih
theorem putM_map {α β : Type} (f : α → β) (m : List (Int × α)) (k : Int) (x : α) : putM (m.map fun p => (p.1, f p.2)) k (f x) = (putM m k x).map fun p => (p.1, f p.2) := by
  induction m with
  | nil => rfl
  | cons p r ih =>
    simp only [List.map_cons, putM]
    split
    · rfl
    · split
      · rfl
      · simp only [List.map_cons, ih]
theorem delM_map {α β : Type} (f : α → β) (m : List (Int × α)) (k : Int) : delM (m.map fun p => (p.1, f p.2)) k = (delM m k).map fun p => (p.1, f p.2) := by
  unfold delM
  rw [List.filter_map]
  rfl
abbrev outR (bm : Nat) (X : BrdX) : Res := mapR bm encMp (outX X)
/-- The inner maps. -/
def inR (X : BrdX) : Res where
  foot k := ∃ p ∈ X, p.2.1 = k
  ro := false
  holds w := (∀ p ∈ X, MapOk w p.2.1 encU p.2.2) ∧ X.Pairwise fun (p q : Int × (Nat × StrM)) => p.2.1 ≠ q.2.1
  lt w k h e := by
    obtain ⟨p, hp, rfl⟩ := e
    exact (mapR p.2.1 encU p.2.2).lt w _ (h.1 p hp) rfl
  loc w w' h e := ⟨fun p hp => (mapR p.2.1 encU p.2.2).loc w w' (h.1 p hp) fun k hk => e k ⟨p, hp, hk.symm⟩, h.2⟩
def brdR (b bm : Nat) (X : BrdX) : Res where
  foot k := k = b ∨ k = bm ∨ (inR X).foot k
  ro := false
  holds w := ((blk b 1 (fun _ => .map (some bm)) 109).holds w ∧ (outR bm X).holds w ∧ (inR X).holds w) ∧ b ≠ bm ∧ ∀ k, (inR X).foot k → k ≠ b ∧ k ≠ bm
  lt w k h e := by
    rcases e with rfl | rfl | e
    · exact (blk k 1 (fun _ => .map (some bm)) 109).lt w k h.1.1 rfl
    · exact (outR k X).lt w k h.1.2.1 rfl
    · exact (inR X).lt w k h.1.2.2 e
  loc w w' h e := ⟨⟨(blk b 1 (fun _ => .map (some bm)) 109).loc w w' h.1.1 (fun k hk => e k (.inl hk)), (outR bm X).loc w w' h.1.2.1 (fun k hk => e k (.inr (.inl hk))), (inR X).loc w w' h.1.2.2 (fun k hk => e k (.inr (.inr hk)))⟩, h.2⟩
abbrev brdL (b bm : Nat) (X : BrdX) : List Res := [blk b 1 (fun _ => .map (some bm)) 109, outR bm X, inR X]
theorem brd_open {b bm : Nat} {X : BrdX} {w : World} (h : (brdR b bm X).holds w) : Sat (brdR b bm X).foot w w (brdL b bm X) := by
  obtain ⟨⟨h1, h2, h3⟩, g1, g2⟩ := h
  refine (((Sat.start _ w).push (r := inR X) h3 (by simp) (fun _ k hk _ => .inr (.inr hk))).push (r := outR bm X) h2 ?_ (fun _ k hk _ => .inr (.inl hk))).push (r := blk b 1 (fun _ => .map (some bm)) 109) h1 ?_ (fun _ k hk _ => .inl hk)
  · intro x hx
    obtain rfl : x = inR X := by simpa using hx
    exact .inr fun k e e' => (g2 k e').2 e
  · intro x hx
    simp only [List.mem_cons, List.not_mem_nil, or_false] at hx
    rcases hx with rfl | rfl
    · exact .inr fun k e e' => g1 (e.symm.trans e')
    · exact .inr fun k e e' => (g2 k e').1 e
theorem own_apart {r r' : Res} (h : r.apart r') (hr : r.ro = false) : ∀ k, r.foot k → r'.foot k → False := by
  rcases h with e | e
  · rw [hr] at e; cases e.1
  · exact e
theorem brd_shut {S : Nat → Prop} {w₀ w : World} {b bm : Nat} {X : BrdX} {L : List Res} (h : Sat S w₀ w (brdL b bm X ++ L)) : (brdR b bm X).holds w := by
  have a1 := h.all (blk b 1 (fun _ => .map (some bm)) 109) (by simp)
  have a2 := h.all (outR bm X) (by simp)
  have a3 := h.all (inR X) (by simp)
  have s1 := List.pairwise_cons.1 h.sep
  have s2 := List.pairwise_cons.1 s1.2
  exact ⟨⟨a1, a2, a3⟩, fun e => own_apart (s1.1 (outR bm X) (by simp)) rfl b rfl e, fun k hk => ⟨fun e => own_apart (s1.1 (inR X) (by simp)) rfl k e hk, fun e => own_apart (s2.1 (inR X) (by simp)) rfl k e hk⟩⟩
/-- A thread more: its map, that is one's own, is among the others. -/
theorem inR_put {S : Nat → Prop} {w₀ w : World} {b bm bi : Nat} {X : BrdX} {t : Int} {s : StrM} {L : List Res} (hs : X.Pairwise fun p q => p.1 < q.1) (h : Sat S w₀ w (mapR bi encU s :: blk b 1 (fun _ => .map (some bm)) 109 :: mapR bm encMp (putM (outX X) t bi) :: inR X :: L)) :
    (brdR b bm (putM X t (bi, s))).holds w := by
  have a0 := h.all (mapR bi encU s) (by simp)
  have a1 := h.all (blk b 1 (fun _ => .map (some bm)) 109) (by simp)
  have a2 := h.all (mapR bm encMp (putM (outX X) t bi)) (by simp)
  have a3 := h.all (inR X) (by simp)
  have s0 := List.pairwise_cons.1 h.sep
  have s1 := List.pairwise_cons.1 s0.2
  have s2 := List.pairwise_cons.1 s1.2
  have hmem : ∀ p, p ∈ putM X t (bi, s) → p = (t, (bi, s)) ∨ p ∈ X := fun p hp => by
    rcases (mem_putM hs).1 hp with e | e
    · exact .inl e
    · exact .inr e.1
  have d0 : ∀ p ∈ X, p.2.1 ≠ bi := fun p hp e => own_apart (s0.1 (inR X) (by simp)) rfl bi rfl ⟨p, hp, e⟩
  have d1 : ∀ p ∈ X, p.2.1 ≠ b := fun p hp e => own_apart (s1.1 (inR X) (by simp)) rfl b rfl ⟨p, hp, e⟩
  have d2 : ∀ p ∈ X, p.2.1 ≠ bm := fun p hp e => own_apart (s2.1 (inR X) (by simp)) rfl bm rfl ⟨p, hp, e⟩
  have d3 : bi ≠ b := fun e => own_apart (s0.1 (blk b 1 (fun _ => .map (some bm)) 109) (by simp)) rfl bi rfl e
  have d4 : bi ≠ bm := fun e => own_apart (s0.1 (mapR bm encMp (putM (outX X) t bi)) (by simp)) rfl bi rfl e
  have d5 : b ≠ bm := fun e => own_apart (s1.1 (mapR bm encMp (putM (outX X) t bi)) (by simp)) rfl b rfl e
  refine ⟨⟨a1, ?_, ⟨fun p hp => ?_, ?_⟩⟩, d5, ?_⟩
  · show MapOk w bm encMp (outX (putM X t (bi, s)))
    have : outX (putM X t (bi, s)) = putM (outX X) t bi := (putM_map (fun p : Nat × StrM => p.1) X t (bi, s)).symm
    rw [this]
    exact a2
  · rcases hmem p hp with rfl | hp
    · exact a0
    · exact a3.1 p hp
  · have hpw := a3.2
    clear a0 a1 a2 a3 s0 s1 s2 hmem d1 d2 h
    induction X with
    | nil => simp [putM]
    | cons q r ih =>
      obtain ⟨p1, p2⟩ := List.pairwise_cons.1 hpw
      obtain ⟨q1, q2⟩ := List.pairwise_cons.1 hs
      unfold putM
      split
      · refine .cons (fun p hp => ?_) hpw
        exact fun e => d0 p hp e.symm
      · split
        · exact .cons (fun p hp e => d0 p (by simp [hp]) e.symm) p2
        · refine .cons (fun p hp => ?_) (ih q2 (fun p hp => d0 p (by simp [hp])) p2)
          rcases (mem_putM q2).1 hp with rfl | ⟨hp, _⟩
          · exact d0 q (by simp)
          · exact p1 p hp
  · rintro k ⟨p, hp, rfl⟩
    rcases hmem p hp with rfl | hp
    · exact ⟨d3, d4⟩
    · exact ⟨d1 p hp, d2 p hp⟩
/-! What is called. -/
def insL (zs : List Int) : StrM := zs.foldl (fun m z => putM m z ()) []
theorem insL_succ {zs : List Int} {q : Nat} (h : q < zs.length) : insL (zs.take (q + 1)) = putM (insL (zs.take q)) (zs.getD q 0) () := by
  unfold insL
  rw [List.take_succ_eq_append_getElem h, List.foldl_append, List.getD_eq_getElem?_getD, List.getElem?_eq_getElem h]
  rfl
def farB (x : Int) : Bool := decide (x < 0) || decide (x ≥ 32)
theorem put1_at (x : Int) (w : World) : Calls Try.prog 53 #[.int .i64 x] w fun e w' => e = .returned (.bool (farB x)) ∧ Below w.heap.size w w' := by
  have S := Sat.start (fun _ => False) w
  unfold farB
  refine enter1 Try.func53 rfl Try.ntmps53 rfl Try.results53 ?_
  repeat' (first | refine assign_b_l S rfl rfl ?_ | refine move_i_l S rfl rfl ?_ | (refine lss_l S rfl rfl rfl ?_ ?_ <;> intro hcmp <;> try (exfalso; first | omega | exact hcmp (by decide) | exact absurd hcmp (by decide))) | refine nilL ?_ | refine run_seq ?_ | refine run_skip ?_ | refine run_region ?_ | refine onL rfl rfl ?_ | refine offL rfl rfl rfl rfl ?_ | refine offL0 rfl rfl rfl ?_ | refine offLU rfl rfl rfl ?_ | refine move_b_l S rfl rfl ?_ | (refine geq_l S rfl rfl rfl ?_ ?_ <;> intro hcmp <;> try (exfalso; first | omega | exact hcmp (by decide) | exact absurd hcmp (by decide))) | refine pick_tb_l S rfl rfl rfl ?_ | refine pick_fb_l S rfl rfl rfl ?_ | refine run_block ?_ | refine run_ret ?_ | refine run_exit ?_ | refine run_cond_true rfl ?_ | refine run_cond_false rfl ?_ | refine thenQ_n ?_ | refine thenQ_r ?_ | refine thenQ_e ?_ | refine blockQ_n ?_ | refine blockQ_r ?_ | refine blockQ_s rfl ?_ | refine blockQ_o rfl ?_ | refine ret1_i rfl ?_ | refine ret1_b rfl ?_ | refine ret1_p rfl ?_ | refine ret1_s rfl ?_ | refine ret1_e rfl ?_ | refine ret1_a rfl ?_ | refine ret1_o rfl ?_ | refine ret1n_i rfl ?_ | refine ret1n_b rfl ?_ | refine ret1n_p rfl ?_ | refine ret1n_s rfl ?_ | refine ret1n_o rfl ?_)
  all_goals refine ⟨?_, S.chg.below⟩
  · rw [decide_eq_true hcmp]; rfl
  · rename_i h1
    rw [decide_eq_false h1, decide_eq_true (by omega)]; rfl
  · rename_i h1
    rw [decide_eq_false h1, decide_eq_false (by omega)]; rfl
abbrev Brd := List (Int × StrM)
def putE (B : Brd) (t : Int) (zs : List Int) : Int := if (t < 0 ∨ t ≥ 6) ∨ zs.any farB = true then 1 else if (getM B t).isSome = true then 6 else 0
def putB (B : Brd) (t : Int) (zs : List Int) : Brd := if putE B t zs = 0 then putM B t (insL zs) else B
def offE (B : Brd) (t : Int) : Int := if (getM B t).isSome = true then 0 else 5
def offB (B : Brd) (t : Int) : Brd := delM B t
/-- Such a board lies there now; nothing else is changed. -/
def BrdTo (b bm : Nat) (X : BrdX) (B : Brd) (w0 w' : World) : Prop :=
  ∃ X', absX X' = B ∧ (brdR b bm X').holds w' ∧ Chg (brdR b bm X).foot w0 w' ∧ ∀ k, (brdR b bm X').foot k → (brdR b bm X).foot k ∨ w0.heap.size ≤ k
theorem BrdTo.same {b bm : Nat} {X : BrdX} {w0 w' : World} (h : (brdR b bm X).holds w') (hc : Chg (brdR b bm X).foot w0 w') : BrdTo b bm X (absX X) w0 w' := ⟨X, rfl, h, hc, fun k e => .inl e⟩
theorem brd_sorted {b bm : Nat} {X : BrdX} {w : World} (h : (brdR b bm X).holds w) : X.Pairwise fun p q => p.1 < q.1 := by
  obtain ⟨_, _, _, _, _, _, _, hs⟩ := (show MapOk w bm encMp (outX X) from h.1.2.1)
  unfold outX at hs
  rw [List.pairwise_map] at hs
  exact hs
theorem putB_ne {B : Brd} {t : Int} {zs : List Int} (h : putE B t zs ≠ 0) : putB B t zs = B := if_neg h
theorem getM_out (X : BrdX) (t : Int) : getM (outX X) t = (getM X t).map (·.1) := getM_map (fun p : Nat × StrM => p.1) X t
theorem getM_abs (X : BrdX) (t : Int) : getM (absX X) t = (getM X t).map (·.2) := getM_map (fun p : Nat × StrM => p.2) X t
section
variable {b bm : Nat} {X : BrdX} {w0 : World} (h : (brdR b bm X).holds w0)
include h
theorem bput_at {a : Option Addr} {cap : Nat} {zs : List Int} (hz : SlOk w0 a zs.length cap 1 (gL encI 0 zs)) (hap : ∀ k, (brdR b bm X).foot k → ¬ (slL a cap 1 encI 0 zs).foot k) (t : Int) :
    Calls Try.prog 18 #[.pointer (some ⟨b, 0, none⟩), .int .i64 t, .slice a zs.length cap] w0 fun e w' => e = .returned (.int .i64 (putE (absX X) t zs)) ∧ BrdTo b bm X (putB (absX X) t zs) w0 w' := by
  have hs := brd_sorted h
  have hm := hz.small
  have S0 : Sat (brdR b bm X).foot w0 w0 [roR (slL a cap 1 encI 0 zs)] := (Sat.start _ w0).ro (r := roR (slL a cap 1 encI 0 zs)) hz rfl rfl
  have S : Sat (brdR b bm X).foot w0 w0 (brdL b bm X ++ [roR (slL a cap 1 encI 0 zs)]) := by
    have hb := brd_open h
    refine ⟨Chg.refl _ _, fun r hr => ?_, List.pairwise_append.2 ⟨hb.sep, by simp, fun r hr x hx => ?_⟩, fun r hr hro k hk hlt => ?_⟩
    · rcases List.mem_append.1 hr with hr | hr
      · exact hb.all r hr
      · exact S0.all r hr
    · obtain rfl : x = roR (slL a cap 1 encI 0 zs) := by simpa using hx
      refine .inr fun k e e' => hap k ?_ e'
      have := hb.own r hr ?_ k e (r.lt w0 k (hb.all r hr) e)
      · exact this
      · simp only [List.mem_cons, List.not_mem_nil, or_false] at hr
        rcases hr with rfl | rfl | rfl <;> rfl
    · rcases List.mem_append.1 hr with hr | hr
      · exact hb.own r hr hro k hk hlt
      · obtain rfl : r = roR (slL a cap 1 encI 0 zs) := by simpa using hr
        cases hro
  clear S0
  replace S : Sat (brdR b bm X).foot w0 w0 (blk b 1 (fun _ => .map (some bm)) 109 :: outR bm X :: inR X :: [roR (slL a cap 1 encI 0 zs)]) := S
  refine enter1 Try.func18 rfl Try.ntmps18 rfl Try.results18 ?_
  have far : ∀ {w : World} {c : Int}, Sat (brdR b bm X).foot w0 w (blk b 1 (fun _ => .map (some bm)) 109 :: outR bm X :: inR X :: [roR (slL a cap 1 encI 0 zs)]) → putE (absX X) t zs = c → c ≠ 0 → Ending.returned (Value.int .i64 c) = .returned (.int .i64 (putE (absX X) t zs)) ∧ BrdTo b bm X (putB (absX X) t zs) w0 w := fun S e hc => by
    subst e
    exact ⟨rfl, by rw [putB_ne hc]; exact BrdTo.same (brd_shut S) S.chg⟩
  repeat' (first | refine move_i_l S rfl rfl ?_ | refine assign_i_l S rfl rfl ?_ | refine move_p_l S rfl rfl ?_ | refine nilL ?_ | refine run_seq ?_ | refine run_skip ?_ | refine run_region ?_ | refine onL rfl rfl ?_ | refine offL rfl rfl rfl rfl ?_ | refine offL0 rfl rfl rfl ?_ | refine offLU rfl rfl rfl ?_ | refine move_e_l S rfl rfl ?_ | refine assign_b_l S rfl rfl ?_ | refine nilCheck_l S rfl rfl ?_ | refine nilCheckE_l S rfl (by first | omega | decide | (simp; done) | (simp; omega)) rfl ?_ | refine fieldAddr_l S rfl rfl rfl ?_ | refine fieldAddrE_l S rfl (by first | omega | decide | (simp; done) | (simp; omega)) rfl rfl ?_ | (refine lss_l S rfl rfl rfl ?_ ?_ <;> intro hcmp <;> try (exfalso; first | omega | exact hcmp (by decide) | exact absurd hcmp (by decide))) | refine move_b_l S rfl rfl ?_ | refine pick_tb_l S rfl rfl rfl ?_ | refine pick_fb_l S rfl rfl rfl ?_ | refine move_s_l S rfl rfl ?_ | refine eqlP_l S rfl rfl rfl ?_ | refine eqlE_l S rfl rfl (by omega) rfl ?_ | (refine geq_l S rfl rfl rfl ?_ ?_ <;> intro hcmp <;> try (exfalso; first | omega | exact hcmp (by decide) | exact absurd hcmp (by decide))) | refine neqM_l S rfl rfl rfl ?_ | refine len_l S rfl rfl ?_ | refine indexAddr_l S rfl rfl (idx_cast _) (by first | omega | decide | (simp; done) | (simp; omega)) rfl ?_ | refine indexAddr_l S rfl rfl (idx_eq _) (by first | omega | decide | (simp; done) | (simp; omega)) rfl ?_ | refine load_i_l S rfl rfl rfl rfl ?_ | refine loadE_i_l S rfl (by first | omega | decide | (simp; done) | (simp; omega)) rfl rfl rfl ?_ | refine add_l S rfl rfl (wrap_in (by omega)) rfl ?_ | refine add_l S rfl rfl rfl rfl ?_ | refine move_o_l S rfl rfl ?_ | refine load_o_l S rfl rfl rfl rfl ?_ | refine loadE_o_l S rfl (by first | omega | decide | (simp; done) | (simp; omega)) rfl rfl rfl ?_ | refine assign_o_l S rfl rfl ?_ | refine run_block ?_ | refine run_ret ?_ | refine run_exit ?_ | refine run_cond_true rfl ?_ | refine run_cond_false rfl ?_ | refine thenQ_n ?_ | refine thenQ_r ?_ | refine thenQ_e ?_ | refine blockQ_n ?_ | refine blockQ_r ?_ | refine blockQ_s rfl ?_ | refine blockQ_o rfl ?_ | refine ret1_i rfl ?_ | refine ret1_b rfl ?_ | refine ret1_p rfl ?_ | refine ret1_s rfl ?_ | refine ret1_e rfl ?_ | refine ret1_a rfl ?_ | refine ret1_o rfl ?_ | refine ret1n_i rfl ?_ | refine ret1n_b rfl ?_ | refine ret1n_p rfl ?_ | refine ret1n_s rfl ?_ | refine ret1n_o rfl ?_)
  · exact far S (if_pos (.inl (.inl hcmp))) (by decide)
  · exact far S (if_pos (.inl (.inr hcmp))) (by decide)
  rename_i hlo
  refine callL (contains_at (f := 53) (l2 := []) (p := farB) (I := fun _ => True) (fun _ _ _ _ => trivial) (fun x w _ => put1_at x w) a cap zs _ trivial (S.all (roR (slL a cap 1 encI 0 zs)) (by simp))) rfl rfl ?_
  rintro e w ⟨rfl, hb⟩
  replace S := S.below hb
  clear hb
  refine ⟨_, rfl, ?_⟩
  cases hfar : zs.any farB with
  | true =>
    repeat' (first | refine move_i_l S rfl rfl ?_ | refine assign_i_l S rfl rfl ?_ | refine move_p_l S rfl rfl ?_ | refine nilL ?_ | refine run_seq ?_ | refine run_skip ?_ | refine run_region ?_ | refine onL rfl rfl ?_ | refine offL rfl rfl rfl rfl ?_ | refine offL0 rfl rfl rfl ?_ | refine offLU rfl rfl rfl ?_ | refine move_e_l S rfl rfl ?_ | refine assign_b_l S rfl rfl ?_ | refine nilCheck_l S rfl rfl ?_ | refine nilCheckE_l S rfl (by first | omega | decide | (simp; done) | (simp; omega)) rfl ?_ | refine fieldAddr_l S rfl rfl rfl ?_ | refine fieldAddrE_l S rfl (by first | omega | decide | (simp; done) | (simp; omega)) rfl rfl ?_ | (refine lss_l S rfl rfl rfl ?_ ?_ <;> intro hcmp <;> try (exfalso; first | omega | exact hcmp (by decide) | exact absurd hcmp (by decide))) | refine move_b_l S rfl rfl ?_ | refine pick_tb_l S rfl rfl rfl ?_ | refine pick_fb_l S rfl rfl rfl ?_ | refine move_s_l S rfl rfl ?_ | refine eqlP_l S rfl rfl rfl ?_ | refine eqlE_l S rfl rfl (by omega) rfl ?_ | (refine geq_l S rfl rfl rfl ?_ ?_ <;> intro hcmp <;> try (exfalso; first | omega | exact hcmp (by decide) | exact absurd hcmp (by decide))) | refine neqM_l S rfl rfl rfl ?_ | refine len_l S rfl rfl ?_ | refine indexAddr_l S rfl rfl (idx_cast _) (by first | omega | decide | (simp; done) | (simp; omega)) rfl ?_ | refine indexAddr_l S rfl rfl (idx_eq _) (by first | omega | decide | (simp; done) | (simp; omega)) rfl ?_ | refine load_i_l S rfl rfl rfl rfl ?_ | refine loadE_i_l S rfl (by first | omega | decide | (simp; done) | (simp; omega)) rfl rfl rfl ?_ | refine add_l S rfl rfl (wrap_in (by omega)) rfl ?_ | refine add_l S rfl rfl rfl rfl ?_ | refine move_o_l S rfl rfl ?_ | refine load_o_l S rfl rfl rfl rfl ?_ | refine loadE_o_l S rfl (by first | omega | decide | (simp; done) | (simp; omega)) rfl rfl rfl ?_ | refine assign_o_l S rfl rfl ?_ | refine run_block ?_ | refine run_ret ?_ | refine run_exit ?_ | refine run_cond_true rfl ?_ | refine run_cond_false rfl ?_ | refine thenQ_n ?_ | refine thenQ_r ?_ | refine thenQ_e ?_ | refine blockQ_n ?_ | refine blockQ_r ?_ | refine blockQ_s rfl ?_ | refine blockQ_o rfl ?_ | refine ret1_i rfl ?_ | refine ret1_b rfl ?_ | refine ret1_p rfl ?_ | refine ret1_s rfl ?_ | refine ret1_e rfl ?_ | refine ret1_a rfl ?_ | refine ret1_o rfl ?_ | refine ret1n_i rfl ?_ | refine ret1n_b rfl ?_ | refine ret1n_p rfl ?_ | refine ret1n_s rfl ?_ | refine ret1n_o rfl ?_)
    exact far S (if_pos (.inr hfar)) (by decide)
  | false =>
    repeat' (first | refine move_i_l S rfl rfl ?_ | refine assign_i_l S rfl rfl ?_ | refine move_p_l S rfl rfl ?_ | refine nilL ?_ | refine run_seq ?_ | refine run_skip ?_ | refine run_region ?_ | refine onL rfl rfl ?_ | refine offL rfl rfl rfl rfl ?_ | refine offL0 rfl rfl rfl ?_ | refine offLU rfl rfl rfl ?_ | refine move_e_l S rfl rfl ?_ | refine assign_b_l S rfl rfl ?_ | refine nilCheck_l S rfl rfl ?_ | refine nilCheckE_l S rfl (by first | omega | decide | (simp; done) | (simp; omega)) rfl ?_ | refine fieldAddr_l S rfl rfl rfl ?_ | refine fieldAddrE_l S rfl (by first | omega | decide | (simp; done) | (simp; omega)) rfl rfl ?_ | (refine lss_l S rfl rfl rfl ?_ ?_ <;> intro hcmp <;> try (exfalso; first | omega | exact hcmp (by decide) | exact absurd hcmp (by decide))) | refine move_b_l S rfl rfl ?_ | refine pick_tb_l S rfl rfl rfl ?_ | refine pick_fb_l S rfl rfl rfl ?_ | refine move_s_l S rfl rfl ?_ | refine eqlP_l S rfl rfl rfl ?_ | refine eqlE_l S rfl rfl (by omega) rfl ?_ | (refine geq_l S rfl rfl rfl ?_ ?_ <;> intro hcmp <;> try (exfalso; first | omega | exact hcmp (by decide) | exact absurd hcmp (by decide))) | refine neqM_l S rfl rfl rfl ?_ | refine len_l S rfl rfl ?_ | refine indexAddr_l S rfl rfl (idx_cast _) (by first | omega | decide | (simp; done) | (simp; omega)) rfl ?_ | refine indexAddr_l S rfl rfl (idx_eq _) (by first | omega | decide | (simp; done) | (simp; omega)) rfl ?_ | refine load_i_l S rfl rfl rfl rfl ?_ | refine loadE_i_l S rfl (by first | omega | decide | (simp; done) | (simp; omega)) rfl rfl rfl ?_ | refine add_l S rfl rfl (wrap_in (by omega)) rfl ?_ | refine add_l S rfl rfl rfl rfl ?_ | refine move_o_l S rfl rfl ?_ | refine load_o_l S rfl rfl rfl rfl ?_ | refine loadE_o_l S rfl (by first | omega | decide | (simp; done) | (simp; omega)) rfl rfl rfl ?_ | refine assign_o_l S rfl rfl ?_ | refine run_block ?_ | refine run_ret ?_ | refine run_exit ?_ | refine run_cond_true rfl ?_ | refine run_cond_false rfl ?_ | refine thenQ_n ?_ | refine thenQ_r ?_ | refine thenQ_e ?_ | refine blockQ_n ?_ | refine blockQ_r ?_ | refine blockQ_s rfl ?_ | refine blockQ_o rfl ?_ | refine ret1_i rfl ?_ | refine ret1_b rfl ?_ | refine ret1_p rfl ?_ | refine ret1_s rfl ?_ | refine ret1_e rfl ?_ | refine ret1_a rfl ?_ | refine ret1_o rfl ?_ | refine ret1n_i rfl ?_ | refine ret1n_b rfl ?_ | refine ret1n_p rfl ?_ | refine ret1n_s rfl ?_ | refine ret1n_o rfl ?_)
    have hgo : getM (outX X) t = (getM X t).map (·.1) := getM_out X t
    have hga : getM (absX X) t = (getM X t).map (·.2) := getM_abs X t
    cases hg : getM X t with
    | some y =>
      rw [hg] at hgo hga
      refine lookup_l (b := bm) (m := outX X) (enc := encMp) (v := .map (some y.1)) S rfl rfl (by rw [hgo]; rfl) rfl ?_
      repeat' (first | refine move_i_l S rfl rfl ?_ | refine assign_i_l S rfl rfl ?_ | refine move_p_l S rfl rfl ?_ | refine nilL ?_ | refine run_seq ?_ | refine run_skip ?_ | refine run_region ?_ | refine onL rfl rfl ?_ | refine offL rfl rfl rfl rfl ?_ | refine offL0 rfl rfl rfl ?_ | refine offLU rfl rfl rfl ?_ | refine move_e_l S rfl rfl ?_ | refine assign_b_l S rfl rfl ?_ | refine nilCheck_l S rfl rfl ?_ | refine nilCheckE_l S rfl (by first | omega | decide | (simp; done) | (simp; omega)) rfl ?_ | refine fieldAddr_l S rfl rfl rfl ?_ | refine fieldAddrE_l S rfl (by first | omega | decide | (simp; done) | (simp; omega)) rfl rfl ?_ | (refine lss_l S rfl rfl rfl ?_ ?_ <;> intro hcmp <;> try (exfalso; first | omega | exact hcmp (by decide) | exact absurd hcmp (by decide))) | refine move_b_l S rfl rfl ?_ | refine pick_tb_l S rfl rfl rfl ?_ | refine pick_fb_l S rfl rfl rfl ?_ | refine move_s_l S rfl rfl ?_ | refine eqlP_l S rfl rfl rfl ?_ | refine eqlE_l S rfl rfl (by omega) rfl ?_ | (refine geq_l S rfl rfl rfl ?_ ?_ <;> intro hcmp <;> try (exfalso; first | omega | exact hcmp (by decide) | exact absurd hcmp (by decide))) | refine neqM_l S rfl rfl rfl ?_ | refine len_l S rfl rfl ?_ | refine indexAddr_l S rfl rfl (idx_cast _) (by first | omega | decide | (simp; done) | (simp; omega)) rfl ?_ | refine indexAddr_l S rfl rfl (idx_eq _) (by first | omega | decide | (simp; done) | (simp; omega)) rfl ?_ | refine load_i_l S rfl rfl rfl rfl ?_ | refine loadE_i_l S rfl (by first | omega | decide | (simp; done) | (simp; omega)) rfl rfl rfl ?_ | refine add_l S rfl rfl (wrap_in (by omega)) rfl ?_ | refine add_l S rfl rfl rfl rfl ?_ | refine move_o_l S rfl rfl ?_ | refine load_o_l S rfl rfl rfl rfl ?_ | refine loadE_o_l S rfl (by first | omega | decide | (simp; done) | (simp; omega)) rfl rfl rfl ?_ | refine assign_o_l S rfl rfl ?_ | refine run_block ?_ | refine run_ret ?_ | refine run_exit ?_ | refine run_cond_true rfl ?_ | refine run_cond_false rfl ?_ | refine thenQ_n ?_ | refine thenQ_r ?_ | refine thenQ_e ?_ | refine blockQ_n ?_ | refine blockQ_r ?_ | refine blockQ_s rfl ?_ | refine blockQ_o rfl ?_ | refine ret1_i rfl ?_ | refine ret1_b rfl ?_ | refine ret1_p rfl ?_ | refine ret1_s rfl ?_ | refine ret1_e rfl ?_ | refine ret1_a rfl ?_ | refine ret1_o rfl ?_ | refine ret1n_i rfl ?_ | refine ret1n_b rfl ?_ | refine ret1n_p rfl ?_ | refine ret1n_s rfl ?_ | refine ret1n_o rfl ?_)
      refine far S ?_ (by decide)
      unfold putE
      rw [if_neg (by rw [hfar]; simp; omega), hga]
      rfl
    | none =>
      rw [hg] at hgo hga
      refine lookup_l (b := bm) (m := outX X) (enc := encMp) (v := .map none) S rfl rfl (by rw [hgo]; rfl) rfl ?_
      repeat' (first | refine move_i_l S rfl rfl ?_ | refine assign_i_l S rfl rfl ?_ | refine move_p_l S rfl rfl ?_ | refine nilL ?_ | refine run_seq ?_ | refine run_skip ?_ | refine run_region ?_ | refine onL rfl rfl ?_ | refine offL rfl rfl rfl rfl ?_ | refine offL0 rfl rfl rfl ?_ | refine offLU rfl rfl rfl ?_ | refine move_e_l S rfl rfl ?_ | refine assign_b_l S rfl rfl ?_ | refine nilCheck_l S rfl rfl ?_ | refine nilCheckE_l S rfl (by first | omega | decide | (simp; done) | (simp; omega)) rfl ?_ | refine fieldAddr_l S rfl rfl rfl ?_ | refine fieldAddrE_l S rfl (by first | omega | decide | (simp; done) | (simp; omega)) rfl rfl ?_ | (refine lss_l S rfl rfl rfl ?_ ?_ <;> intro hcmp <;> try (exfalso; first | omega | exact hcmp (by decide) | exact absurd hcmp (by decide))) | refine move_b_l S rfl rfl ?_ | refine pick_tb_l S rfl rfl rfl ?_ | refine pick_fb_l S rfl rfl rfl ?_ | refine move_s_l S rfl rfl ?_ | refine eqlP_l S rfl rfl rfl ?_ | refine eqlE_l S rfl rfl (by omega) rfl ?_ | (refine geq_l S rfl rfl rfl ?_ ?_ <;> intro hcmp <;> try (exfalso; first | omega | exact hcmp (by decide) | exact absurd hcmp (by decide))) | refine neqM_l S rfl rfl rfl ?_ | refine len_l S rfl rfl ?_ | refine indexAddr_l S rfl rfl (idx_cast _) (by first | omega | decide | (simp; done) | (simp; omega)) rfl ?_ | refine indexAddr_l S rfl rfl (idx_eq _) (by first | omega | decide | (simp; done) | (simp; omega)) rfl ?_ | refine load_i_l S rfl rfl rfl rfl ?_ | refine loadE_i_l S rfl (by first | omega | decide | (simp; done) | (simp; omega)) rfl rfl rfl ?_ | refine add_l S rfl rfl (wrap_in (by omega)) rfl ?_ | refine add_l S rfl rfl rfl rfl ?_ | refine move_o_l S rfl rfl ?_ | refine load_o_l S rfl rfl rfl rfl ?_ | refine loadE_o_l S rfl (by first | omega | decide | (simp; done) | (simp; omega)) rfl rfl rfl ?_ | refine assign_o_l S rfl rfl ?_ | refine run_block ?_ | refine run_ret ?_ | refine run_exit ?_ | refine run_cond_true rfl ?_ | refine run_cond_false rfl ?_ | refine thenQ_n ?_ | refine thenQ_r ?_ | refine thenQ_e ?_ | refine blockQ_n ?_ | refine blockQ_r ?_ | refine blockQ_s rfl ?_ | refine blockQ_o rfl ?_ | refine ret1_i rfl ?_ | refine ret1_b rfl ?_ | refine ret1_p rfl ?_ | refine ret1_s rfl ?_ | refine ret1_e rfl ?_ | refine ret1_a rfl ?_ | refine ret1_o rfl ?_ | refine ret1n_i rfl ?_ | refine ret1n_b rfl ?_ | refine ret1n_p rfl ?_ | refine ret1n_s rfl ?_ | refine ret1n_o rfl ?_)
      refine makeMap_l S encU rfl ?_
      clear S
      intro bi w S
      repeat' (first | refine move_i_l S rfl rfl ?_ | refine assign_i_l S rfl rfl ?_ | refine move_p_l S rfl rfl ?_ | refine nilL ?_ | refine run_seq ?_ | refine run_skip ?_ | refine run_region ?_ | refine onL rfl rfl ?_ | refine offL rfl rfl rfl rfl ?_ | refine offL0 rfl rfl rfl ?_ | refine offLU rfl rfl rfl ?_ | refine move_e_l S rfl rfl ?_ | refine assign_b_l S rfl rfl ?_ | refine nilCheck_l S rfl rfl ?_ | refine nilCheckE_l S rfl (by first | omega | decide | (simp; done) | (simp; omega)) rfl ?_ | refine fieldAddr_l S rfl rfl rfl ?_ | refine fieldAddrE_l S rfl (by first | omega | decide | (simp; done) | (simp; omega)) rfl rfl ?_ | (refine lss_l S rfl rfl rfl ?_ ?_ <;> intro hcmp <;> try (exfalso; first | omega | exact hcmp (by decide) | exact absurd hcmp (by decide))) | refine move_b_l S rfl rfl ?_ | refine pick_tb_l S rfl rfl rfl ?_ | refine pick_fb_l S rfl rfl rfl ?_ | refine move_s_l S rfl rfl ?_ | refine eqlP_l S rfl rfl rfl ?_ | refine eqlE_l S rfl rfl (by omega) rfl ?_ | (refine geq_l S rfl rfl rfl ?_ ?_ <;> intro hcmp <;> try (exfalso; first | omega | exact hcmp (by decide) | exact absurd hcmp (by decide))) | refine neqM_l S rfl rfl rfl ?_ | refine len_l S rfl rfl ?_ | refine indexAddr_l S rfl rfl (idx_cast _) (by first | omega | decide | (simp; done) | (simp; omega)) rfl ?_ | refine indexAddr_l S rfl rfl (idx_eq _) (by first | omega | decide | (simp; done) | (simp; omega)) rfl ?_ | refine load_i_l S rfl rfl rfl rfl ?_ | refine loadE_i_l S rfl (by first | omega | decide | (simp; done) | (simp; omega)) rfl rfl rfl ?_ | refine add_l S rfl rfl (wrap_in (by omega)) rfl ?_ | refine add_l S rfl rfl rfl rfl ?_ | refine move_o_l S rfl rfl ?_ | refine load_o_l S rfl rfl rfl rfl ?_ | refine loadE_o_l S rfl (by first | omega | decide | (simp; done) | (simp; omega)) rfl rfl rfl ?_ | refine assign_o_l S rfl rfl ?_ | refine run_block ?_ | refine run_ret ?_ | refine run_exit ?_ | refine run_cond_true rfl ?_ | refine run_cond_false rfl ?_ | refine thenQ_n ?_ | refine thenQ_r ?_ | refine thenQ_e ?_ | refine blockQ_n ?_ | refine blockQ_r ?_ | refine blockQ_s rfl ?_ | refine blockQ_o rfl ?_ | refine ret1_i rfl ?_ | refine ret1_b rfl ?_ | refine ret1_p rfl ?_ | refine ret1_s rfl ?_ | refine ret1_e rfl ?_ | refine ret1_a rfl ?_ | refine ret1_o rfl ?_ | refine ret1n_i rfl ?_ | refine ret1n_b rfl ?_ | refine ret1n_p rfl ?_ | refine ret1n_s rfl ?_ | refine ret1n_o rfl ?_)
      refine mapPut_l (b := bm) (m := outX X) (enc := encMp) (a := bi) S rfl rfl rfl ?_
      clear S
      intro w S
      have hso : (outX X).Pairwise fun p q => p.1 < q.1 := by unfold outX; rw [List.pairwise_map]; exact hs
      replace S : Sat (brdR b bm X).foot w0 w (mapR bi encU (insL (zs.take 0)) :: blk b 1 (fun _ => .map (some bm)) 109 :: mapR bm encMp (putM (outX X) t bi) :: inR X :: [roR (slL a cap 1 encI 0 zs)]) := S
      repeat' (first | refine move_i_l S rfl rfl ?_ | refine assign_i_l S rfl rfl ?_ | refine move_p_l S rfl rfl ?_ | refine nilL ?_ | refine run_seq ?_ | refine run_skip ?_ | refine run_region ?_ | refine onL rfl rfl ?_ | refine offL rfl rfl rfl rfl ?_ | refine offL0 rfl rfl rfl ?_ | refine offLU rfl rfl rfl ?_ | refine move_e_l S rfl rfl ?_ | refine assign_b_l S rfl rfl ?_ | refine nilCheck_l S rfl rfl ?_ | refine nilCheckE_l S rfl (by first | omega | decide | (simp; done) | (simp; omega)) rfl ?_ | refine fieldAddr_l S rfl rfl rfl ?_ | refine fieldAddrE_l S rfl (by first | omega | decide | (simp; done) | (simp; omega)) rfl rfl ?_ | (refine lss_l S rfl rfl rfl ?_ ?_ <;> intro hcmp <;> try (exfalso; first | omega | exact hcmp (by decide) | exact absurd hcmp (by decide))) | refine move_b_l S rfl rfl ?_ | refine pick_tb_l S rfl rfl rfl ?_ | refine pick_fb_l S rfl rfl rfl ?_ | refine move_s_l S rfl rfl ?_ | refine eqlP_l S rfl rfl rfl ?_ | refine eqlE_l S rfl rfl (by omega) rfl ?_ | (refine geq_l S rfl rfl rfl ?_ ?_ <;> intro hcmp <;> try (exfalso; first | omega | exact hcmp (by decide) | exact absurd hcmp (by decide))) | refine neqM_l S rfl rfl rfl ?_ | refine len_l S rfl rfl ?_ | refine indexAddr_l S rfl rfl (idx_cast _) (by first | omega | decide | (simp; done) | (simp; omega)) rfl ?_ | refine indexAddr_l S rfl rfl (idx_eq _) (by first | omega | decide | (simp; done) | (simp; omega)) rfl ?_ | refine load_i_l S rfl rfl rfl rfl ?_ | refine loadE_i_l S rfl (by first | omega | decide | (simp; done) | (simp; omega)) rfl rfl rfl ?_ | refine add_l S rfl rfl (wrap_in (by omega)) rfl ?_ | refine add_l S rfl rfl rfl rfl ?_ | refine move_o_l S rfl rfl ?_ | refine load_o_l S rfl rfl rfl rfl ?_ | refine loadE_o_l S rfl (by first | omega | decide | (simp; done) | (simp; omega)) rfl rfl rfl ?_ | refine assign_o_l S rfl rfl ?_ | refine run_block ?_ | refine run_ret ?_ | refine run_exit ?_ | refine run_cond_true rfl ?_ | refine run_cond_false rfl ?_ | refine thenQ_n ?_ | refine thenQ_r ?_ | refine thenQ_e ?_ | refine blockQ_n ?_ | refine blockQ_r ?_ | refine blockQ_s rfl ?_ | refine blockQ_o rfl ?_ | refine ret1_i rfl ?_ | refine ret1_b rfl ?_ | refine ret1_p rfl ?_ | refine ret1_s rfl ?_ | refine ret1_e rfl ?_ | refine ret1_a rfl ?_ | refine ret1_o rfl ?_ | refine ret1n_i rfl ?_ | refine ret1n_b rfl ?_ | refine ret1n_p rfl ?_ | refine ret1n_s rfl ?_ | refine ret1n_o rfl ?_)
      refine run_while [9, 42, 43, 44, 45, 46, 47, 48, 49, 50, 51, 52] (fun (q : Nat) t => upd t 41 (.int .i64 q)) (fun q w' => q ≤ zs.length ∧ Sat (brdR b bm X).foot w0 w' (mapR bi encU (insL (zs.take q)) :: blk b 1 (fun _ => .map (some bm)) 109 :: mapR bm encMp (putM (outX X) t bi) :: inR X :: [roR (slL a cap 1 encI 0 zs)])) (fun q => zs.length - q) 0 ?_ ?_ ?_
      · (repeat (first | exact agree_refl | refine agree_r rfl ?_ | refine agree_l rfl ?_ | refine agree_hv rfl ?_))
      · exact ⟨Nat.zero_le _, S⟩
      clear S
      rintro q j w ⟨hq, S⟩
      by_cases hql : q < zs.length
      · have hsucc := insL_succ hql
        repeat' (first | refine move_i_l S rfl rfl ?_ | refine assign_i_l S rfl rfl ?_ | refine move_p_l S rfl rfl ?_ | refine nilL ?_ | refine run_seq ?_ | refine run_skip ?_ | refine run_region ?_ | refine onL rfl rfl ?_ | refine offL rfl rfl rfl rfl ?_ | refine offL0 rfl rfl rfl ?_ | refine offLU rfl rfl rfl ?_ | refine move_e_l S rfl rfl ?_ | refine assign_b_l S rfl rfl ?_ | refine nilCheck_l S rfl rfl ?_ | refine nilCheckE_l S rfl (by first | omega | decide | (simp; done) | (simp; omega)) rfl ?_ | refine fieldAddr_l S rfl rfl rfl ?_ | refine fieldAddrE_l S rfl (by first | omega | decide | (simp; done) | (simp; omega)) rfl rfl ?_ | (refine lss_l S rfl rfl rfl ?_ ?_ <;> intro hcmp <;> try (exfalso; first | omega | exact hcmp (by decide) | exact absurd hcmp (by decide))) | refine move_b_l S rfl rfl ?_ | refine pick_tb_l S rfl rfl rfl ?_ | refine pick_fb_l S rfl rfl rfl ?_ | refine move_s_l S rfl rfl ?_ | refine eqlP_l S rfl rfl rfl ?_ | refine eqlE_l S rfl rfl (by omega) rfl ?_ | (refine geq_l S rfl rfl rfl ?_ ?_ <;> intro hcmp <;> try (exfalso; first | omega | exact hcmp (by decide) | exact absurd hcmp (by decide))) | refine neqM_l S rfl rfl rfl ?_ | refine len_l S rfl rfl ?_ | refine indexAddr_l S rfl rfl (idx_cast _) (by first | omega | decide | (simp; done) | (simp; omega)) rfl ?_ | refine indexAddr_l S rfl rfl (idx_eq _) (by first | omega | decide | (simp; done) | (simp; omega)) rfl ?_ | refine load_i_l S rfl rfl rfl rfl ?_ | refine loadE_i_l S rfl (by first | omega | decide | (simp; done) | (simp; omega)) rfl rfl rfl ?_ | refine add_l S rfl rfl (wrap_in (by omega)) rfl ?_ | refine add_l S rfl rfl rfl rfl ?_ | refine move_o_l S rfl rfl ?_ | refine load_o_l S rfl rfl rfl rfl ?_ | refine loadE_o_l S rfl (by first | omega | decide | (simp; done) | (simp; omega)) rfl rfl rfl ?_ | refine assign_o_l S rfl rfl ?_ | refine run_block ?_ | refine run_ret ?_ | refine run_exit ?_ | refine run_cond_true rfl ?_ | refine run_cond_false rfl ?_ | refine thenQ_n ?_ | refine thenQ_r ?_ | refine thenQ_e ?_ | refine blockQ_n ?_ | refine blockQ_r ?_ | refine blockQ_s rfl ?_ | refine blockQ_o rfl ?_ | refine ret1_i rfl ?_ | refine ret1_b rfl ?_ | refine ret1_p rfl ?_ | refine ret1_s rfl ?_ | refine ret1_e rfl ?_ | refine ret1_a rfl ?_ | refine ret1_o rfl ?_ | refine ret1n_i rfl ?_ | refine ret1n_b rfl ?_ | refine ret1n_p rfl ?_ | refine ret1n_s rfl ?_ | refine ret1n_o rfl ?_)
        refine lookup_l (b := bm) (m := putM (outX X) t bi) (enc := encMp) (v := .map (some bi)) S rfl rfl (by rw [getM_put hso, if_pos rfl]; rfl) rfl ?_
        repeat' (first | refine move_i_l S rfl rfl ?_ | refine assign_i_l S rfl rfl ?_ | refine move_p_l S rfl rfl ?_ | refine nilL ?_ | refine run_seq ?_ | refine run_skip ?_ | refine run_region ?_ | refine onL rfl rfl ?_ | refine offL rfl rfl rfl rfl ?_ | refine offL0 rfl rfl rfl ?_ | refine offLU rfl rfl rfl ?_ | refine move_e_l S rfl rfl ?_ | refine assign_b_l S rfl rfl ?_ | refine nilCheck_l S rfl rfl ?_ | refine nilCheckE_l S rfl (by first | omega | decide | (simp; done) | (simp; omega)) rfl ?_ | refine fieldAddr_l S rfl rfl rfl ?_ | refine fieldAddrE_l S rfl (by first | omega | decide | (simp; done) | (simp; omega)) rfl rfl ?_ | (refine lss_l S rfl rfl rfl ?_ ?_ <;> intro hcmp <;> try (exfalso; first | omega | exact hcmp (by decide) | exact absurd hcmp (by decide))) | refine move_b_l S rfl rfl ?_ | refine pick_tb_l S rfl rfl rfl ?_ | refine pick_fb_l S rfl rfl rfl ?_ | refine move_s_l S rfl rfl ?_ | refine eqlP_l S rfl rfl rfl ?_ | refine eqlE_l S rfl rfl (by omega) rfl ?_ | (refine geq_l S rfl rfl rfl ?_ ?_ <;> intro hcmp <;> try (exfalso; first | omega | exact hcmp (by decide) | exact absurd hcmp (by decide))) | refine neqM_l S rfl rfl rfl ?_ | refine len_l S rfl rfl ?_ | refine indexAddr_l S rfl rfl (idx_cast _) (by first | omega | decide | (simp; done) | (simp; omega)) rfl ?_ | refine indexAddr_l S rfl rfl (idx_eq _) (by first | omega | decide | (simp; done) | (simp; omega)) rfl ?_ | refine load_i_l S rfl rfl rfl rfl ?_ | refine loadE_i_l S rfl (by first | omega | decide | (simp; done) | (simp; omega)) rfl rfl rfl ?_ | refine add_l S rfl rfl (wrap_in (by omega)) rfl ?_ | refine add_l S rfl rfl rfl rfl ?_ | refine move_o_l S rfl rfl ?_ | refine load_o_l S rfl rfl rfl rfl ?_ | refine loadE_o_l S rfl (by first | omega | decide | (simp; done) | (simp; omega)) rfl rfl rfl ?_ | refine assign_o_l S rfl rfl ?_ | refine run_block ?_ | refine run_ret ?_ | refine run_exit ?_ | refine run_cond_true rfl ?_ | refine run_cond_false rfl ?_ | refine thenQ_n ?_ | refine thenQ_r ?_ | refine thenQ_e ?_ | refine blockQ_n ?_ | refine blockQ_r ?_ | refine blockQ_s rfl ?_ | refine blockQ_o rfl ?_ | refine ret1_i rfl ?_ | refine ret1_b rfl ?_ | refine ret1_p rfl ?_ | refine ret1_s rfl ?_ | refine ret1_e rfl ?_ | refine ret1_a rfl ?_ | refine ret1_o rfl ?_ | refine ret1n_i rfl ?_ | refine ret1n_b rfl ?_ | refine ret1n_p rfl ?_ | refine ret1n_s rfl ?_ | refine ret1n_o rfl ?_)
        refine mapPut_l (b := bi) (m := insL (zs.take q)) (enc := encU) (a := ()) (k := zs.getD q 0) S rfl rfl rfl ?_
        clear S
        intro w S
        rw [← hsucc] at S
        repeat' (first | refine move_i_l S rfl rfl ?_ | refine assign_i_l S rfl rfl ?_ | refine move_p_l S rfl rfl ?_ | refine nilL ?_ | refine run_seq ?_ | refine run_skip ?_ | refine run_region ?_ | refine onL rfl rfl ?_ | refine offL rfl rfl rfl rfl ?_ | refine offL0 rfl rfl rfl ?_ | refine offLU rfl rfl rfl ?_ | refine move_e_l S rfl rfl ?_ | refine assign_b_l S rfl rfl ?_ | refine nilCheck_l S rfl rfl ?_ | refine nilCheckE_l S rfl (by first | omega | decide | (simp; done) | (simp; omega)) rfl ?_ | refine fieldAddr_l S rfl rfl rfl ?_ | refine fieldAddrE_l S rfl (by first | omega | decide | (simp; done) | (simp; omega)) rfl rfl ?_ | (refine lss_l S rfl rfl rfl ?_ ?_ <;> intro hcmp <;> try (exfalso; first | omega | exact hcmp (by decide) | exact absurd hcmp (by decide))) | refine move_b_l S rfl rfl ?_ | refine pick_tb_l S rfl rfl rfl ?_ | refine pick_fb_l S rfl rfl rfl ?_ | refine move_s_l S rfl rfl ?_ | refine eqlP_l S rfl rfl rfl ?_ | refine eqlE_l S rfl rfl (by omega) rfl ?_ | (refine geq_l S rfl rfl rfl ?_ ?_ <;> intro hcmp <;> try (exfalso; first | omega | exact hcmp (by decide) | exact absurd hcmp (by decide))) | refine neqM_l S rfl rfl rfl ?_ | refine len_l S rfl rfl ?_ | refine indexAddr_l S rfl rfl (idx_cast _) (by first | omega | decide | (simp; done) | (simp; omega)) rfl ?_ | refine indexAddr_l S rfl rfl (idx_eq _) (by first | omega | decide | (simp; done) | (simp; omega)) rfl ?_ | refine load_i_l S rfl rfl rfl rfl ?_ | refine loadE_i_l S rfl (by first | omega | decide | (simp; done) | (simp; omega)) rfl rfl rfl ?_ | refine add_l S rfl rfl (wrap_in (by omega)) rfl ?_ | refine add_l S rfl rfl rfl rfl ?_ | refine move_o_l S rfl rfl ?_ | refine load_o_l S rfl rfl rfl rfl ?_ | refine loadE_o_l S rfl (by first | omega | decide | (simp; done) | (simp; omega)) rfl rfl rfl ?_ | refine assign_o_l S rfl rfl ?_ | refine run_block ?_ | refine run_ret ?_ | refine run_exit ?_ | refine run_cond_true rfl ?_ | refine run_cond_false rfl ?_ | refine thenQ_n ?_ | refine thenQ_r ?_ | refine thenQ_e ?_ | refine blockQ_n ?_ | refine blockQ_r ?_ | refine blockQ_s rfl ?_ | refine blockQ_o rfl ?_ | refine ret1_i rfl ?_ | refine ret1_b rfl ?_ | refine ret1_p rfl ?_ | refine ret1_s rfl ?_ | refine ret1_e rfl ?_ | refine ret1_a rfl ?_ | refine ret1_o rfl ?_ | refine ret1n_i rfl ?_ | refine ret1n_b rfl ?_ | refine ret1n_p rfl ?_ | refine ret1n_s rfl ?_ | refine ret1n_o rfl ?_)
        refine ⟨q + 1, ?_, ⟨by omega, S⟩, by omega⟩
        rw [Int.natCast_add]
        (repeat (first | exact agree_refl | refine agree_r rfl ?_ | refine agree_l rfl ?_ | refine agree_hv rfl ?_))
      · repeat' (first | refine move_i_l S rfl rfl ?_ | refine assign_i_l S rfl rfl ?_ | refine move_p_l S rfl rfl ?_ | refine nilL ?_ | refine run_seq ?_ | refine run_skip ?_ | refine run_region ?_ | refine onL rfl rfl ?_ | refine offL rfl rfl rfl rfl ?_ | refine offL0 rfl rfl rfl ?_ | refine offLU rfl rfl rfl ?_ | refine move_e_l S rfl rfl ?_ | refine assign_b_l S rfl rfl ?_ | refine nilCheck_l S rfl rfl ?_ | refine nilCheckE_l S rfl (by first | omega | decide | (simp; done) | (simp; omega)) rfl ?_ | refine fieldAddr_l S rfl rfl rfl ?_ | refine fieldAddrE_l S rfl (by first | omega | decide | (simp; done) | (simp; omega)) rfl rfl ?_ | (refine lss_l S rfl rfl rfl ?_ ?_ <;> intro hcmp <;> try (exfalso; first | omega | exact hcmp (by decide) | exact absurd hcmp (by decide))) | refine move_b_l S rfl rfl ?_ | refine pick_tb_l S rfl rfl rfl ?_ | refine pick_fb_l S rfl rfl rfl ?_ | refine move_s_l S rfl rfl ?_ | refine eqlP_l S rfl rfl rfl ?_ | refine eqlE_l S rfl rfl (by omega) rfl ?_ | (refine geq_l S rfl rfl rfl ?_ ?_ <;> intro hcmp <;> try (exfalso; first | omega | exact hcmp (by decide) | exact absurd hcmp (by decide))) | refine neqM_l S rfl rfl rfl ?_ | refine len_l S rfl rfl ?_ | refine indexAddr_l S rfl rfl (idx_cast _) (by first | omega | decide | (simp; done) | (simp; omega)) rfl ?_ | refine indexAddr_l S rfl rfl (idx_eq _) (by first | omega | decide | (simp; done) | (simp; omega)) rfl ?_ | refine load_i_l S rfl rfl rfl rfl ?_ | refine loadE_i_l S rfl (by first | omega | decide | (simp; done) | (simp; omega)) rfl rfl rfl ?_ | refine add_l S rfl rfl (wrap_in (by omega)) rfl ?_ | refine add_l S rfl rfl rfl rfl ?_ | refine move_o_l S rfl rfl ?_ | refine load_o_l S rfl rfl rfl rfl ?_ | refine loadE_o_l S rfl (by first | omega | decide | (simp; done) | (simp; omega)) rfl rfl rfl ?_ | refine assign_o_l S rfl rfl ?_ | refine run_block ?_ | refine run_ret ?_ | refine run_exit ?_ | refine run_cond_true rfl ?_ | refine run_cond_false rfl ?_ | refine thenQ_n ?_ | refine thenQ_r ?_ | refine thenQ_e ?_ | refine blockQ_n ?_ | refine blockQ_r ?_ | refine blockQ_s rfl ?_ | refine blockQ_o rfl ?_ | refine ret1_i rfl ?_ | refine ret1_b rfl ?_ | refine ret1_p rfl ?_ | refine ret1_s rfl ?_ | refine ret1_e rfl ?_ | refine ret1_a rfl ?_ | refine ret1_o rfl ?_ | refine ret1n_i rfl ?_ | refine ret1n_b rfl ?_ | refine ret1n_p rfl ?_ | refine ret1n_s rfl ?_ | refine ret1n_o rfl ?_)
        have hqe : zs.take q = zs := List.take_of_length_le (by omega)
        rw [hqe] at S
        have hput : putE (absX X) t zs = 0 := by
          unfold putE
          rw [if_neg (by rw [hfar]; simp; omega), hga]
          rfl
        refine ⟨by rw [hput], putM X t (bi, insL zs), ?_, inR_put hs S, S.chg, ?_⟩
        · unfold putB
          rw [if_pos hput]
          exact (putM_map (fun p : Nat × StrM => p.2) X t (bi, insL zs)).symm
        · intro k hk
          by_cases hlt : k < w0.heap.size
          · left
            rcases hk with rfl | rfl | ⟨p, hp, rfl⟩
            · exact .inl rfl
            · exact .inr (.inl rfl)
            · rcases (mem_putM hs).1 hp with rfl | ⟨hp, _⟩
              · exact S.own (mapR bi encU (insL zs)) (by simp) rfl bi rfl hlt
              · exact .inr (.inr ⟨p, hp, rfl⟩)
          · right; omega
theorem boff_at (t : Int) : Calls Try.prog 20 #[.pointer (some ⟨b, 0, none⟩), .int .i64 t] w0 fun e w' => e = .returned (.int .i64 (offE (absX X) t)) ∧ BrdTo b bm X (offB (absX X) t) w0 w' := by
  have hs := brd_sorted h
  have S : Sat (brdR b bm X).foot w0 w0 (blk b 1 (fun _ => .map (some bm)) 109 :: outR bm X :: inR X :: []) := brd_open h
  have hgo : getM (outX X) t = (getM X t).map (·.1) := getM_out X t
  have hga : getM (absX X) t = (getM X t).map (·.2) := getM_abs X t
  refine enter1 Try.func20 rfl Try.ntmps20 rfl Try.results20 ?_
  repeat' (first | refine assign_i_l S rfl rfl ?_ | refine move_p_l S rfl rfl ?_ | refine move_e_l S rfl rfl ?_ | refine nilL ?_ | refine run_seq ?_ | refine run_skip ?_ | refine run_region ?_ | refine assign_b_l S rfl rfl ?_ | refine nilCheck_l S rfl rfl ?_ | refine nilCheckE_l S rfl (by first | omega | decide | (simp; done) | (simp; omega)) rfl ?_ | refine fieldAddr_l S rfl rfl rfl ?_ | refine fieldAddrE_l S rfl (by first | omega | decide | (simp; done) | (simp; omega)) rfl rfl ?_ | refine move_i_l S rfl rfl ?_ | refine eqlP_l S rfl rfl rfl ?_ | refine eqlE_l S rfl rfl (by omega) rfl ?_ | refine eqlM_l S rfl rfl rfl ?_ | refine move_o_l S rfl rfl ?_ | refine load_o_l S rfl rfl rfl rfl ?_ | refine loadE_o_l S rfl (by first | omega | decide | (simp; done) | (simp; omega)) rfl rfl rfl ?_ | refine run_block ?_ | refine run_ret ?_ | refine run_exit ?_ | refine run_cond_true rfl ?_ | refine run_cond_false rfl ?_ | refine thenQ_n ?_ | refine thenQ_r ?_ | refine thenQ_e ?_ | refine blockQ_n ?_ | refine blockQ_r ?_ | refine blockQ_s rfl ?_ | refine blockQ_o rfl ?_ | refine ret1_i rfl ?_ | refine ret1_b rfl ?_ | refine ret1_p rfl ?_ | refine ret1_s rfl ?_ | refine ret1_e rfl ?_ | refine ret1_a rfl ?_ | refine ret1_o rfl ?_ | refine ret1n_i rfl ?_ | refine ret1n_b rfl ?_ | refine ret1n_p rfl ?_ | refine ret1n_s rfl ?_ | refine ret1n_o rfl ?_)
  cases hg : getM X t with
  | none =>
    rw [hg] at hgo hga
    refine lookup_l (b := bm) (m := outX X) (enc := encMp) (v := .map none) S rfl rfl (by rw [hgo]; rfl) rfl ?_
    repeat' (first | refine assign_i_l S rfl rfl ?_ | refine move_p_l S rfl rfl ?_ | refine move_e_l S rfl rfl ?_ | refine nilL ?_ | refine run_seq ?_ | refine run_skip ?_ | refine run_region ?_ | refine assign_b_l S rfl rfl ?_ | refine nilCheck_l S rfl rfl ?_ | refine nilCheckE_l S rfl (by first | omega | decide | (simp; done) | (simp; omega)) rfl ?_ | refine fieldAddr_l S rfl rfl rfl ?_ | refine fieldAddrE_l S rfl (by first | omega | decide | (simp; done) | (simp; omega)) rfl rfl ?_ | refine move_i_l S rfl rfl ?_ | refine eqlP_l S rfl rfl rfl ?_ | refine eqlE_l S rfl rfl (by omega) rfl ?_ | refine eqlM_l S rfl rfl rfl ?_ | refine move_o_l S rfl rfl ?_ | refine load_o_l S rfl rfl rfl rfl ?_ | refine loadE_o_l S rfl (by first | omega | decide | (simp; done) | (simp; omega)) rfl rfl rfl ?_ | refine run_block ?_ | refine run_ret ?_ | refine run_exit ?_ | refine run_cond_true rfl ?_ | refine run_cond_false rfl ?_ | refine thenQ_n ?_ | refine thenQ_r ?_ | refine thenQ_e ?_ | refine blockQ_n ?_ | refine blockQ_r ?_ | refine blockQ_s rfl ?_ | refine blockQ_o rfl ?_ | refine ret1_i rfl ?_ | refine ret1_b rfl ?_ | refine ret1_p rfl ?_ | refine ret1_s rfl ?_ | refine ret1_e rfl ?_ | refine ret1_a rfl ?_ | refine ret1_o rfl ?_ | refine ret1n_i rfl ?_ | refine ret1n_b rfl ?_ | refine ret1n_p rfl ?_ | refine ret1n_s rfl ?_ | refine ret1n_o rfl ?_)
    have hd : offB (absX X) t = absX X := by
      refine List.filter_eq_self.2 fun p hp => ?_
      simpa using getM_none.1 hga p hp
    refine ⟨by unfold offE; rw [hga]; rfl, ?_⟩
    rw [hd]
    exact BrdTo.same (brd_shut S) S.chg
  | some y =>
    rw [hg] at hgo hga
    refine lookup_l (b := bm) (m := outX X) (enc := encMp) (v := .map (some y.1)) S rfl rfl (by rw [hgo]; rfl) rfl ?_
    repeat' (first | refine assign_i_l S rfl rfl ?_ | refine move_p_l S rfl rfl ?_ | refine move_e_l S rfl rfl ?_ | refine nilL ?_ | refine run_seq ?_ | refine run_skip ?_ | refine run_region ?_ | refine assign_b_l S rfl rfl ?_ | refine nilCheck_l S rfl rfl ?_ | refine nilCheckE_l S rfl (by first | omega | decide | (simp; done) | (simp; omega)) rfl ?_ | refine fieldAddr_l S rfl rfl rfl ?_ | refine fieldAddrE_l S rfl (by first | omega | decide | (simp; done) | (simp; omega)) rfl rfl ?_ | refine move_i_l S rfl rfl ?_ | refine eqlP_l S rfl rfl rfl ?_ | refine eqlE_l S rfl rfl (by omega) rfl ?_ | refine eqlM_l S rfl rfl rfl ?_ | refine move_o_l S rfl rfl ?_ | refine load_o_l S rfl rfl rfl rfl ?_ | refine loadE_o_l S rfl (by first | omega | decide | (simp; done) | (simp; omega)) rfl rfl rfl ?_ | refine run_block ?_ | refine run_ret ?_ | refine run_exit ?_ | refine run_cond_true rfl ?_ | refine run_cond_false rfl ?_ | refine thenQ_n ?_ | refine thenQ_r ?_ | refine thenQ_e ?_ | refine blockQ_n ?_ | refine blockQ_r ?_ | refine blockQ_s rfl ?_ | refine blockQ_o rfl ?_ | refine ret1_i rfl ?_ | refine ret1_b rfl ?_ | refine ret1_p rfl ?_ | refine ret1_s rfl ?_ | refine ret1_e rfl ?_ | refine ret1_a rfl ?_ | refine ret1_o rfl ?_ | refine ret1n_i rfl ?_ | refine ret1n_b rfl ?_ | refine ret1n_p rfl ?_ | refine ret1n_s rfl ?_ | refine ret1n_o rfl ?_)
    refine mapDel_l (b := bm) (m := outX X) (enc := encMp) S rfl rfl ?_
    clear S
    intro w S
    repeat' (first | refine assign_i_l S rfl rfl ?_ | refine move_p_l S rfl rfl ?_ | refine move_e_l S rfl rfl ?_ | refine nilL ?_ | refine run_seq ?_ | refine run_skip ?_ | refine run_region ?_ | refine assign_b_l S rfl rfl ?_ | refine nilCheck_l S rfl rfl ?_ | refine nilCheckE_l S rfl (by first | omega | decide | (simp; done) | (simp; omega)) rfl ?_ | refine fieldAddr_l S rfl rfl rfl ?_ | refine fieldAddrE_l S rfl (by first | omega | decide | (simp; done) | (simp; omega)) rfl rfl ?_ | refine move_i_l S rfl rfl ?_ | refine eqlP_l S rfl rfl rfl ?_ | refine eqlE_l S rfl rfl (by omega) rfl ?_ | refine eqlM_l S rfl rfl rfl ?_ | refine move_o_l S rfl rfl ?_ | refine load_o_l S rfl rfl rfl rfl ?_ | refine loadE_o_l S rfl (by first | omega | decide | (simp; done) | (simp; omega)) rfl rfl rfl ?_ | refine run_block ?_ | refine run_ret ?_ | refine run_exit ?_ | refine run_cond_true rfl ?_ | refine run_cond_false rfl ?_ | refine thenQ_n ?_ | refine thenQ_r ?_ | refine thenQ_e ?_ | refine blockQ_n ?_ | refine blockQ_r ?_ | refine blockQ_s rfl ?_ | refine blockQ_o rfl ?_ | refine ret1_i rfl ?_ | refine ret1_b rfl ?_ | refine ret1_p rfl ?_ | refine ret1_s rfl ?_ | refine ret1_e rfl ?_ | refine ret1_a rfl ?_ | refine ret1_o rfl ?_ | refine ret1n_i rfl ?_ | refine ret1n_b rfl ?_ | refine ret1n_p rfl ?_ | refine ret1n_s rfl ?_ | refine ret1n_o rfl ?_)
    have hsub : ∀ p, p ∈ delM X t → p ∈ X := fun p hp => (List.mem_filter.1 hp).1
    have ho : delM (outX X) t = outX (delM X t) := delM_map (fun p : Nat × StrM => p.1) X t
    rw [ho] at S
    replace S := S.rev3
    replace S := S.turn1 (r' := inR (delM X t)) ⟨fun p hp => (S.got1).1 p (hsub p hp), (S.got1).2.filter _⟩ rfl (fun k ⟨p, hp, e⟩ => ⟨p, hsub p hp, e⟩)
    replace S := S.rev3
    refine ⟨by unfold offE; rw [hga]; rfl, delM X t, (delM_map (fun p : Nat × StrM => p.2) X t).symm, brd_shut (L := []) S, S.chg, ?_⟩
    rintro k (rfl | rfl | ⟨p, hp, rfl⟩)
    · exact .inl (.inl rfl)
    · exact .inl (.inr (.inl rfl))
    · exact .inl (.inr (.inr ⟨p, hsub p hp, rfl⟩))
end
end Go.Proofs.Ytnnkegmiefpgpaa
namespace Go.Proofs.Ytnnkegmiefpgpaa
open Go.RowKit Go.Lib
set_option linter.unusedVariables false
set_option maxHeartbeats 2000000
theorem sortL_of_perm {xs ys : List Int} (hp : xs.Perm ys) (hs : ys.Pairwise (· < ·)) : sortL xs = ys := by
  have h1 : (sortL xs).Perm ys := (sortL_perm xs).trans hp
  refine h1.eq_of_pairwise (le := fun a b => a ≤ b) (fun a b _ _ h h' => by omega) (sortL_le xs) (hs.imp fun h => by omega)
/-- slices.Sorted of whatever tells ints. -/
theorem sorted_i {gf : FuncId} [FnOk Try.prog gf] {lb : List Value} {N : Nat} {ok : List Int → Prop} {Lit : List Res} (hI : Iter Try.prog gf lb (fun x : Int => [.int .i64 x]) N ok Lit) (hN : N ≤ 1000000) (hok : ∀ xs, ok xs → xs.length < 4611686018427387904) {w0 : World} (S : Sat (fun _ => False) w0 w0 Lit) :
    Calls Try.prog 55 #[.func (.func gf) #[] lb.toArray] w0 fun e w' => ∃ v xs, e = .returned v ∧ ok xs ∧ NewRow w0 w' 3 1 encI 0 (sortL xs) v ∧ Below w0.heap.size w0 w' := by
  have HC := collect_i hI hN S
  replace S := Sat.start (fun _ => False) w0
  refine enter1 Try.func55 rfl Try.ntmps55 rfl Try.results55 ?_
  repeat' (first | refine assign_s_l S rfl rfl ?_ | refine move_s_l S rfl rfl ?_ | refine move_o_l S rfl rfl ?_ | refine nilL ?_ | refine run_seq ?_ | refine run_skip ?_ | refine run_region ?_ | refine run_block ?_ | refine run_ret ?_ | refine run_exit ?_ | refine run_cond_true rfl ?_ | refine run_cond_false rfl ?_ | refine thenQ_n ?_ | refine thenQ_r ?_ | refine thenQ_e ?_ | refine blockQ_n ?_ | refine blockQ_r ?_ | refine blockQ_s rfl ?_ | refine blockQ_o rfl ?_ | refine ret1_i rfl ?_ | refine ret1_b rfl ?_ | refine ret1_p rfl ?_ | refine ret1_s rfl ?_ | refine ret1_e rfl ?_ | refine ret1_a rfl ?_ | refine ret1_o rfl ?_ | refine ret1n_i rfl ?_ | refine ret1n_b rfl ?_ | refine ret1n_p rfl ?_ | refine ret1n_s rfl ?_ | refine ret1n_o rfl ?_)
  refine callL HC rfl rfl ?_
  rintro e w' ⟨v, xs, rfl, hx, ⟨a, cap, rfl, g1, g2⟩, hb⟩
  replace S := Sat.freshRow S hb g1 g2
  refine ⟨_, rfl, ?_⟩
  repeat' (first | refine assign_s_l S rfl rfl ?_ | refine move_s_l S rfl rfl ?_ | refine move_o_l S rfl rfl ?_ | refine nilL ?_ | refine run_seq ?_ | refine run_skip ?_ | refine run_region ?_ | refine run_block ?_ | refine run_ret ?_ | refine run_exit ?_ | refine run_cond_true rfl ?_ | refine run_cond_false rfl ?_ | refine thenQ_n ?_ | refine thenQ_r ?_ | refine thenQ_e ?_ | refine blockQ_n ?_ | refine blockQ_r ?_ | refine blockQ_s rfl ?_ | refine blockQ_o rfl ?_ | refine ret1_i rfl ?_ | refine ret1_b rfl ?_ | refine ret1_p rfl ?_ | refine ret1_s rfl ?_ | refine ret1_e rfl ?_ | refine ret1_a rfl ?_ | refine ret1_o rfl ?_ | refine ret1n_i rfl ?_ | refine ret1n_b rfl ?_ | refine ret1n_p rfl ?_ | refine ret1n_s rfl ?_ | refine ret1n_o rfl ?_)
  refine callL (sort_at (hok xs hx) (S.all (rowL a cap 3 1 encI 0 xs) (by simp))) rfl rfl ?_
  rintro r w' ⟨rfl, h1, h2⟩
  replace S := S.swap (r := rowL a cap 3 1 encI 0 xs) (r' := rowL a cap 3 1 encI 0 (sortL xs)) rfl h2 h1 rfl (fun k e => .inl e)
  clear h1 h2
  refine ⟨_, rfl, ?_⟩
  have hsl : xs.length = (sortL xs).length := (sortL_perm _).length_eq.symm
  rw [hsl]
  repeat' (first | refine assign_s_l S rfl rfl ?_ | refine move_s_l S rfl rfl ?_ | refine move_o_l S rfl rfl ?_ | refine nilL ?_ | refine run_seq ?_ | refine run_skip ?_ | refine run_region ?_ | refine run_block ?_ | refine run_ret ?_ | refine run_exit ?_ | refine run_cond_true rfl ?_ | refine run_cond_false rfl ?_ | refine thenQ_n ?_ | refine thenQ_r ?_ | refine thenQ_e ?_ | refine blockQ_n ?_ | refine blockQ_r ?_ | refine blockQ_s rfl ?_ | refine blockQ_o rfl ?_ | refine ret1_i rfl ?_ | refine ret1_b rfl ?_ | refine ret1_p rfl ?_ | refine ret1_s rfl ?_ | refine ret1_e rfl ?_ | refine ret1_a rfl ?_ | refine ret1_o rfl ?_ | refine ret1n_i rfl ?_ | refine ret1n_b rfl ?_ | refine ret1n_p rfl ?_ | refine ret1n_s rfl ?_ | refine ret1n_o rfl ?_)
  exact ⟨_, xs, rfl, hx, S.newRow, S.chg.below⟩
def threadsB (B : Brd) : List Int := B.map (·.1)
def hasSt (B : Brd) (t n : Int) : Bool := match getM B t with | some s => (getM s n).isSome | none => false
def atB (B : Brd) (n : Int) : List Int := (threadsB B).filter fun t => hasSt B t n
section
variable {b bm : Nat} {X : BrdX} {w0 : World} (h : (brdR b bm X).holds w0)
include h
theorem bthreads_at (hX : X.length ≤ 1000) : Calls Try.prog 23 #[.pointer (some ⟨b, 0, none⟩)] w0 fun e w' => ∃ v, e = .returned v ∧ NewRow w0 w' 3 1 encI 0 (threadsB (absX X)) v ∧ Below w0.heap.size w0 w' := by
  have hs := brd_sorted h
  have S : Sat (fun _ => False) w0 w0 (roR (blk b 1 (fun _ => .map (some bm)) 109) :: roR (outR bm X) :: []) := ((Sat.start _ w0).ro (r := roR (outR bm X)) h.1.2.1 rfl rfl).ro (r := roR (blk b 1 (fun _ => .map (some bm)) 109)) h.1.1 rfl rfl
  refine enter1 Try.func23 rfl Try.ntmps23 rfl Try.results23 ?_
  repeat' (first | refine assign_s_l S rfl rfl ?_ | refine move_p_l S rfl rfl ?_ | refine move_e_l S rfl rfl ?_ | refine nilL ?_ | refine run_seq ?_ | refine run_skip ?_ | refine run_region ?_ | refine eqlP_l S rfl rfl rfl ?_ | refine eqlE_l S rfl rfl (by omega) rfl ?_ | refine nilCheck_l S rfl rfl ?_ | refine nilCheckE_l S rfl (by first | omega | decide | (simp; done) | (simp; omega)) rfl ?_ | refine fieldAddr_l S rfl rfl rfl ?_ | refine fieldAddrE_l S rfl (by first | omega | decide | (simp; done) | (simp; omega)) rfl rfl ?_ | refine move_o_l S rfl rfl ?_ | refine load_o_l S rfl rfl rfl rfl ?_ | refine loadE_o_l S rfl (by first | omega | decide | (simp; done) | (simp; omega)) rfl rfl rfl ?_ | refine run_block ?_ | refine run_ret ?_ | refine run_exit ?_ | refine run_cond_true rfl ?_ | refine run_cond_false rfl ?_ | refine thenQ_n ?_ | refine thenQ_r ?_ | refine thenQ_e ?_ | refine blockQ_n ?_ | refine blockQ_r ?_ | refine blockQ_s rfl ?_ | refine blockQ_o rfl ?_ | refine ret1_i rfl ?_ | refine ret1_b rfl ?_ | refine ret1_p rfl ?_ | refine ret1_s rfl ?_ | refine ret1_e rfl ?_ | refine ret1_a rfl ?_ | refine ret1_o rfl ?_ | refine ret1n_i rfl ?_ | refine ret1n_b rfl ?_ | refine ret1n_p rfl ?_ | refine ret1n_s rfl ?_ | refine ret1n_o rfl ?_)
  refine callL (keys_at (some bm) _) rfl rfl ?_
  rintro e w ⟨cb, rfl, hcb, hfr, hb⟩
  replace S := Sat.fresh S (r := blk cb 1 (fun _ => .map (some bm)) 107) hb hcb (fun k e => by cases e; exact hfr)
  clear hb hcb hfr
  refine ⟨_, rfl, ?_⟩
  obtain ⟨es, clock, hE, S2⟩ := Sat.mapEnts (b := bm) (enc := encMp) (m := outX X) S
  replace S2 : Sat (fun _ => False) w0 w (blk cb 1 (fun _ => .map (some bm)) 107 :: roR (blk b 1 (fun _ => .map (some bm)) 109) :: roR (mapE bm es clock) :: []) := S2
  have hlen : (outX X).length = X.length := by unfold outX; rw [List.length_map]
  have SL : Sat (fun _ => False) w w [roR (blk cb 1 (fun _ => .map (some bm)) 107), roR (mapE bm es clock)] :=
    ((Sat.start _ w).ro (r := roR (mapE bm es clock)) (S2.all (roR (mapE bm es clock)) (by simp)) rfl rfl).ro (r := roR (blk cb 1 (fun _ => .map (some bm)) 107)) (S2.all (blk cb 1 (fun _ => .map (some bm)) 107) (by simp)) rfl rfl
  refine callL (sorted_i (gf := 81) (lb := [.pointer (some ⟨cb, 0, none⟩)]) (keys1_i hE) (by omega) (fun xs hx => by rw [hx.length_eq, List.length_map]; omega) SL) rfl rfl ?_
  rintro e w ⟨v, xs, rfl, hx, ⟨a, cap, rfl, g1, g2⟩, hb⟩
  have hsx : sortL xs = threadsB (absX X) := by
    refine sortL_of_perm (ys := threadsB (absX X)) (hx.trans ?_) ?_
    · unfold outX threadsB absX
      rw [List.map_map, List.map_map]
      exact List.Perm.refl _
    · unfold threadsB absX
      rw [List.map_map, List.pairwise_map]
      exact hs
  rw [hsx] at g1 ⊢
  replace S := Sat.freshRow S hb g1 g2
  refine ⟨_, rfl, ?_⟩
  repeat' (first | refine assign_s_l S rfl rfl ?_ | refine move_p_l S rfl rfl ?_ | refine move_e_l S rfl rfl ?_ | refine nilL ?_ | refine run_seq ?_ | refine run_skip ?_ | refine run_region ?_ | refine eqlP_l S rfl rfl rfl ?_ | refine eqlE_l S rfl rfl (by omega) rfl ?_ | refine nilCheck_l S rfl rfl ?_ | refine nilCheckE_l S rfl (by first | omega | decide | (simp; done) | (simp; omega)) rfl ?_ | refine fieldAddr_l S rfl rfl rfl ?_ | refine fieldAddrE_l S rfl (by first | omega | decide | (simp; done) | (simp; omega)) rfl rfl ?_ | refine move_o_l S rfl rfl ?_ | refine load_o_l S rfl rfl rfl rfl ?_ | refine loadE_o_l S rfl (by first | omega | decide | (simp; done) | (simp; omega)) rfl rfl rfl ?_ | refine run_block ?_ | refine run_ret ?_ | refine run_exit ?_ | refine run_cond_true rfl ?_ | refine run_cond_false rfl ?_ | refine thenQ_n ?_ | refine thenQ_r ?_ | refine thenQ_e ?_ | refine blockQ_n ?_ | refine blockQ_r ?_ | refine blockQ_s rfl ?_ | refine blockQ_o rfl ?_ | refine ret1_i rfl ?_ | refine ret1_b rfl ?_ | refine ret1_p rfl ?_ | refine ret1_s rfl ?_ | refine ret1_e rfl ?_ | refine ret1_a rfl ?_ | refine ret1_o rfl ?_ | refine ret1n_i rfl ?_ | refine ret1n_b rfl ?_ | refine ret1n_p rfl ?_ | refine ret1n_s rfl ?_ | refine ret1n_o rfl ?_)
  exact ⟨_, rfl, S.newRow, S.chg.below⟩
end
theorem getM_mem {α : Type} {m : List (Int × α)} {k : Int} {x : α} (h : getM m k = some x) : (k, x) ∈ m := by
  unfold getM at h
  cases hf : m.find? fun p => p.1 == k with
  | none => rw [hf] at h; cases h
  | some p =>
    rw [hf] at h
    injection h with h
    have h1 := List.find?_some hf
    have h2 := List.mem_of_find?_eq_some hf
    simp at h1
    rw [← h1, ← h]
    exact h2
/-- Is thread x not at stripe n? -/
theorem at1_at {b bm c1 c2 : Nat} {X : BrdX} {n : Int} (x : Int) {w0 : World} (S : Sat (fun _ => False) w0 w0 [roR (blk c1 1 (fun _ => .pointer (some ⟨b, 0, none⟩)) 42), roR (blk c2 1 (fun _ => .int .i64 n) 3), roR (brdR b bm X)]) :
    Calls Try.prog 58 #[.int .i64 x, .pointer (some ⟨c1, 0, none⟩), .pointer (some ⟨c2, 0, none⟩)] w0 fun e w' => e = .returned (.bool (!hasSt (absX X) x n)) ∧ Below w0.heap.size w0 w' := by
  have hB : (brdR b bm X).holds w0 := S.all (roR (brdR b bm X)) (by simp)
  have i0 : ∀ w, (∀ r ∈ [roR (blk c1 1 (fun _ => .pointer (some ⟨b, 0, none⟩)) 42), roR (blk c2 1 (fun _ => .int .i64 n) 3), roR (brdR b bm X)], r.holds w) → (brdR b bm X).holds w := fun w h => h (roR (brdR b bm X)) (by simp)
  have i1 : PickB [roR (blk c1 1 (fun _ => .pointer (some ⟨b, 0, none⟩)) 42), roR (blk c2 1 (fun _ => .int .i64 n) 3), roR (brdR b bm X)] b 1 (fun _ => .map (some bm)) 109 := ⟨fun w h => (i0 w h).1.1⟩
  have i2 : PickM [roR (blk c1 1 (fun _ => .pointer (some ⟨b, 0, none⟩)) 42), roR (blk c2 1 (fun _ => .int .i64 n) 3), roR (brdR b bm X)] bm Nat encMp (outX X) := ⟨fun w h => (i0 w h).1.2.1⟩
  have hgo : getM (outX X) x = (getM X x).map (·.1) := getM_out X x
  have hga : getM (absX X) x = (getM X x).map (·.2) := getM_abs X x
  refine enter1 Try.func58 rfl Try.ntmps58 rfl Try.results58 ?_
  repeat' (first | refine assign_b_l S rfl rfl ?_ | refine nilL ?_ | refine run_seq ?_ | refine run_skip ?_ | refine run_region ?_ | refine run_block ?_ | refine run_ret ?_ | refine run_exit ?_ | refine run_cond_true rfl ?_ | refine run_cond_false rfl ?_ | refine thenQ_n ?_ | refine thenQ_r ?_ | refine thenQ_e ?_ | refine blockQ_n ?_ | refine blockQ_r ?_ | refine blockQ_s rfl ?_ | refine blockQ_o rfl ?_ | refine ret1_i rfl ?_ | refine ret1_b rfl ?_ | refine ret1_p rfl ?_ | refine ret1_s rfl ?_ | refine ret1_e rfl ?_ | refine ret1_a rfl ?_ | refine ret1_o rfl ?_ | refine ret1n_i rfl ?_ | refine ret1n_b rfl ?_ | refine ret1n_p rfl ?_ | refine ret1n_s rfl ?_ | refine ret1n_o rfl ?_)
  refine run_draws S mixed ?_ ?_
  · kernel_rfl
  repeat' (first | (refine nilQ ?_; clear S; intro w S) | refine onQ rfl rfl ?_ | refine offQ rfl rfl rfl rfl ?_ | refine load_p_q rfl rfl rfl rfl ?_ | refine loadE_p_q rfl (by first | omega | decide | (simp; done) | (simp; omega)) rfl rfl rfl ?_ | refine nilCheck_q rfl rfl ?_ | refine nilCheckE_q rfl (by first | omega | decide | (simp; done) | (simp; omega)) rfl ?_ | refine fieldAddr_q rfl rfl rfl ?_ | refine fieldAddrE_q rfl (by first | omega | decide | (simp; done) | (simp; omega)) rfl rfl ?_ | refine move_i_q rfl rfl ?_ | refine load_i_q rfl rfl rfl rfl ?_ | refine loadE_i_q rfl (by first | omega | decide | (simp; done) | (simp; omega)) rfl rfl rfl ?_ | refine not_q rfl rfl ?_ | refine assign_b_q rfl rfl ?_ | refine load_o_q rfl rfl rfl rfl ?_ | refine loadE_o_q rfl (by first | omega | decide | (simp; done) | (simp; omega)) rfl rfl rfl ?_)
  cases hg : getM X x with
  | none =>
    rw [hg] at hgo hga
    refine lookup_q (b := bm) (m := outX X) (enc := encMp) (v := .map none) rfl rfl (by rw [hgo]; rfl) rfl ?_
    repeat' (first | (refine nilQ ?_; clear S; intro w S) | refine onQ rfl rfl ?_ | refine offQ rfl rfl rfl rfl ?_ | refine load_p_q rfl rfl rfl rfl ?_ | refine loadE_p_q rfl (by first | omega | decide | (simp; done) | (simp; omega)) rfl rfl rfl ?_ | refine nilCheck_q rfl rfl ?_ | refine nilCheckE_q rfl (by first | omega | decide | (simp; done) | (simp; omega)) rfl ?_ | refine fieldAddr_q rfl rfl rfl ?_ | refine fieldAddrE_q rfl (by first | omega | decide | (simp; done) | (simp; omega)) rfl rfl ?_ | refine move_i_q rfl rfl ?_ | refine load_i_q rfl rfl rfl rfl ?_ | refine loadE_i_q rfl (by first | omega | decide | (simp; done) | (simp; omega)) rfl rfl rfl ?_ | refine not_q rfl rfl ?_ | refine assign_b_q rfl rfl ?_ | refine load_o_q rfl rfl rfl rfl ?_ | refine loadE_o_q rfl (by first | omega | decide | (simp; done) | (simp; omega)) rfl rfl rfl ?_)
    refine lookupN_q rfl rfl rfl ?_
    repeat' (first | (refine nilQ ?_; clear S; intro w S) | refine onQ rfl rfl ?_ | refine offQ rfl rfl rfl rfl ?_ | refine load_p_q rfl rfl rfl rfl ?_ | refine loadE_p_q rfl (by first | omega | decide | (simp; done) | (simp; omega)) rfl rfl rfl ?_ | refine nilCheck_q rfl rfl ?_ | refine nilCheckE_q rfl (by first | omega | decide | (simp; done) | (simp; omega)) rfl ?_ | refine fieldAddr_q rfl rfl rfl ?_ | refine fieldAddrE_q rfl (by first | omega | decide | (simp; done) | (simp; omega)) rfl rfl ?_ | refine move_i_q rfl rfl ?_ | refine load_i_q rfl rfl rfl rfl ?_ | refine loadE_i_q rfl (by first | omega | decide | (simp; done) | (simp; omega)) rfl rfl rfl ?_ | refine not_q rfl rfl ?_ | refine assign_b_q rfl rfl ?_ | refine load_o_q rfl rfl rfl rfl ?_ | refine loadE_o_q rfl (by first | omega | decide | (simp; done) | (simp; omega)) rfl rfl rfl ?_)
    repeat' (first | refine assign_b_l S rfl rfl ?_ | refine nilL ?_ | refine run_seq ?_ | refine run_skip ?_ | refine run_region ?_ | refine run_block ?_ | refine run_ret ?_ | refine run_exit ?_ | refine run_cond_true rfl ?_ | refine run_cond_false rfl ?_ | refine thenQ_n ?_ | refine thenQ_r ?_ | refine thenQ_e ?_ | refine blockQ_n ?_ | refine blockQ_r ?_ | refine blockQ_s rfl ?_ | refine blockQ_o rfl ?_ | refine ret1_i rfl ?_ | refine ret1_b rfl ?_ | refine ret1_p rfl ?_ | refine ret1_s rfl ?_ | refine ret1_e rfl ?_ | refine ret1_a rfl ?_ | refine ret1_o rfl ?_ | refine ret1n_i rfl ?_ | refine ret1n_b rfl ?_ | refine ret1n_p rfl ?_ | refine ret1n_s rfl ?_ | refine ret1n_o rfl ?_)
    refine ⟨?_, S.chg.below⟩
    unfold hasSt
    rw [hga]
    rfl
  | some y =>
    rw [hg] at hgo hga
    have i3 : PickM [roR (blk c1 1 (fun _ => .pointer (some ⟨b, 0, none⟩)) 42), roR (blk c2 1 (fun _ => .int .i64 n) 3), roR (brdR b bm X)] y.1 Unit encU y.2 := ⟨fun w h => (i0 w h).1.2.2.1 (x, y) (getM_mem hg)⟩
    refine lookup_q (b := bm) (m := outX X) (enc := encMp) (v := .map (some y.1)) rfl rfl (by rw [hgo]; rfl) rfl ?_
    repeat' (first | (refine nilQ ?_; clear S; intro w S) | refine onQ rfl rfl ?_ | refine offQ rfl rfl rfl rfl ?_ | refine load_p_q rfl rfl rfl rfl ?_ | refine loadE_p_q rfl (by first | omega | decide | (simp; done) | (simp; omega)) rfl rfl rfl ?_ | refine nilCheck_q rfl rfl ?_ | refine nilCheckE_q rfl (by first | omega | decide | (simp; done) | (simp; omega)) rfl ?_ | refine fieldAddr_q rfl rfl rfl ?_ | refine fieldAddrE_q rfl (by first | omega | decide | (simp; done) | (simp; omega)) rfl rfl ?_ | refine move_i_q rfl rfl ?_ | refine load_i_q rfl rfl rfl rfl ?_ | refine loadE_i_q rfl (by first | omega | decide | (simp; done) | (simp; omega)) rfl rfl rfl ?_ | refine not_q rfl rfl ?_ | refine assign_b_q rfl rfl ?_ | refine load_o_q rfl rfl rfl rfl ?_ | refine loadE_o_q rfl (by first | omega | decide | (simp; done) | (simp; omega)) rfl rfl rfl ?_)
    refine lookup_q (b := y.1) (m := y.2) (enc := encU) (v := .bool (getM y.2 n).isSome) rfl rfl (by cases getM y.2 n <;> rfl) rfl ?_
    repeat' (first | (refine nilQ ?_; clear S; intro w S) | refine onQ rfl rfl ?_ | refine offQ rfl rfl rfl rfl ?_ | refine load_p_q rfl rfl rfl rfl ?_ | refine loadE_p_q rfl (by first | omega | decide | (simp; done) | (simp; omega)) rfl rfl rfl ?_ | refine nilCheck_q rfl rfl ?_ | refine nilCheckE_q rfl (by first | omega | decide | (simp; done) | (simp; omega)) rfl ?_ | refine fieldAddr_q rfl rfl rfl ?_ | refine fieldAddrE_q rfl (by first | omega | decide | (simp; done) | (simp; omega)) rfl rfl ?_ | refine move_i_q rfl rfl ?_ | refine load_i_q rfl rfl rfl rfl ?_ | refine loadE_i_q rfl (by first | omega | decide | (simp; done) | (simp; omega)) rfl rfl rfl ?_ | refine not_q rfl rfl ?_ | refine assign_b_q rfl rfl ?_ | refine load_o_q rfl rfl rfl rfl ?_ | refine loadE_o_q rfl (by first | omega | decide | (simp; done) | (simp; omega)) rfl rfl rfl ?_)
    repeat' (first | refine assign_b_l S rfl rfl ?_ | refine nilL ?_ | refine run_seq ?_ | refine run_skip ?_ | refine run_region ?_ | refine run_block ?_ | refine run_ret ?_ | refine run_exit ?_ | refine run_cond_true rfl ?_ | refine run_cond_false rfl ?_ | refine thenQ_n ?_ | refine thenQ_r ?_ | refine thenQ_e ?_ | refine blockQ_n ?_ | refine blockQ_r ?_ | refine blockQ_s rfl ?_ | refine blockQ_o rfl ?_ | refine ret1_i rfl ?_ | refine ret1_b rfl ?_ | refine ret1_p rfl ?_ | refine ret1_s rfl ?_ | refine ret1_e rfl ?_ | refine ret1_a rfl ?_ | refine ret1_o rfl ?_ | refine ret1n_i rfl ?_ | refine ret1n_b rfl ?_ | refine ret1n_p rfl ?_ | refine ret1n_s rfl ?_ | refine ret1n_o rfl ?_)
    refine ⟨?_, S.chg.below⟩
    unfold hasSt
    rw [hga]
    rfl
section
variable {b0 bm : Nat} {X : BrdX} {w0 : World} (h : (brdR b0 bm X).holds w0)
include h
theorem bat_at (hX : X.length ≤ 1000) (n : Int) : Calls Try.prog 25 #[.pointer (some ⟨b0, 0, none⟩), .int .i64 n] w0 fun e w' => ∃ v, e = .returned v ∧ NewRow w0 w' 3 1 encI 0 (atB (absX X) n) v ∧ Below w0.heap.size w0 w' := by
  have S := Sat.reads h
  refine enter1 Try.func25 rfl Try.ntmps25 rfl Try.results25 ?_
  repeat' (first | refine assign_s_l S rfl rfl ?_ | (refine box_p S rfl rfl ?_; clear S; intro b w S) | (refine box_i S rfl rfl ?_; clear S; intro b w S) | refine nilL ?_ | refine run_seq ?_ | refine run_skip ?_ | refine run_region ?_ | refine load_p_l S rfl rfl rfl rfl ?_ | refine loadE_p_l S rfl (by first | omega | decide | (simp; done) | (simp; omega)) rfl rfl rfl ?_ | refine makeFunc_l S rfl rfl rfl ?_ | refine load_o_l S rfl rfl rfl rfl ?_ | refine loadE_o_l S rfl (by first | omega | decide | (simp; done) | (simp; omega)) rfl rfl rfl ?_ | refine run_block ?_ | refine run_ret ?_ | refine run_exit ?_ | refine run_cond_true rfl ?_ | refine run_cond_false rfl ?_ | refine thenQ_n ?_ | refine thenQ_r ?_ | refine thenQ_e ?_ | refine blockQ_n ?_ | refine blockQ_r ?_ | refine blockQ_s rfl ?_ | refine blockQ_o rfl ?_ | refine ret1_i rfl ?_ | refine ret1_b rfl ?_ | refine ret1_p rfl ?_ | refine ret1_s rfl ?_ | refine ret1_e rfl ?_ | refine ret1_a rfl ?_ | refine ret1_o rfl ?_ | refine ret1n_i rfl ?_ | refine ret1n_b rfl ?_ | refine ret1n_p rfl ?_ | refine ret1n_s rfl ?_ | refine ret1n_o rfl ?_)
  rename_i b1 w1
  refine callL (bthreads_at (S.all (roR (brdR b0 bm X)) (by simp)) hX) rfl rfl ?_
  rintro e w ⟨v, rfl, ⟨a, cap, rfl, g1, g2⟩, hb⟩
  replace S := Sat.freshRow S hb g1 g2
  clear hb g1 g2
  refine ⟨_, rfl, ?_⟩
  repeat' (first | refine assign_s_l S rfl rfl ?_ | (refine box_p S rfl rfl ?_; clear S; intro b w S) | (refine box_i S rfl rfl ?_; clear S; intro b w S) | refine nilL ?_ | refine run_seq ?_ | refine run_skip ?_ | refine run_region ?_ | refine load_p_l S rfl rfl rfl rfl ?_ | refine loadE_p_l S rfl (by first | omega | decide | (simp; done) | (simp; omega)) rfl rfl rfl ?_ | refine makeFunc_l S rfl rfl rfl ?_ | refine load_o_l S rfl rfl rfl rfl ?_ | refine loadE_o_l S rfl (by first | omega | decide | (simp; done) | (simp; omega)) rfl rfl rfl ?_ | refine run_block ?_ | refine run_ret ?_ | refine run_exit ?_ | refine run_cond_true rfl ?_ | refine run_cond_false rfl ?_ | refine thenQ_n ?_ | refine thenQ_r ?_ | refine thenQ_e ?_ | refine blockQ_n ?_ | refine blockQ_r ?_ | refine blockQ_s rfl ?_ | refine blockQ_o rfl ?_ | refine ret1_i rfl ?_ | refine ret1_b rfl ?_ | refine ret1_p rfl ?_ | refine ret1_s rfl ?_ | refine ret1_e rfl ?_ | refine ret1_a rfl ?_ | refine ret1_o rfl ?_ | refine ret1n_i rfl ?_ | refine ret1n_b rfl ?_ | refine ret1n_p rfl ?_ | refine ret1n_s rfl ?_ | refine ret1n_o rfl ?_)
  have S2 : Sat (fun k => ∃ x, a = some x ∧ x.block = k) w w (rowL a cap 3 1 encI 0 (threadsB (absX X)) :: [roR (blk b1 1 (fun _ => .pointer (some ⟨b0, 0, none⟩)) 42), roR (blk b 1 (fun _ => .int .i64 n) 3), roR (brdR b0 bm X)]) := by
    have a1 := S.all (blk b1 1 (fun _ => .pointer (some ⟨b0, 0, none⟩)) 42) (by simp)
    have a2 := S.all (blk b 1 (fun _ => .int .i64 n) 3) (by simp)
    have a3 := S.all (roR (brdR b0 bm X)) (by simp)
    have s0 := List.pairwise_cons.1 S.sep
    refine ((((Sat.start _ w).ro (r := roR (brdR b0 bm X)) a3 rfl rfl).ro (r := roR (blk b 1 (fun _ => .int .i64 n) 3)) a2 rfl rfl).ro (r := roR (blk b1 1 (fun _ => .pointer (some ⟨b0, 0, none⟩)) 42)) a1 rfl rfl).push (r := rowL a cap 3 1 encI 0 (threadsB (absX X))) S.got1 (fun x hx => .inr fun k e e' => ?_) (fun _ k hk _ => hk)
    simp only [List.mem_cons, List.not_mem_nil, or_false] at hx
    rcases hx with rfl | rfl | rfl
    · exact own_apart (s0.1 (blk b1 1 (fun _ => .pointer (some ⟨b0, 0, none⟩)) 42) (by simp)) rfl k e e'
    · exact own_apart (s0.1 (blk b 1 (fun _ => .int .i64 n) 3) (by simp)) rfl k e e'
    · exact own_apart (s0.1 (roR (brdR b0 bm X)) (by simp)) rfl k e e'
  refine callL (deleteFunc_at (f := 58) (l2 := [.pointer (some ⟨b1, 0, none⟩), .pointer (some ⟨b, 0, none⟩)]) (p := fun x => !hasSt (absX X) x n) (fun x w S => at1_at x S) rfl a cap (threadsB (absX X)) _ S2) rfl rfl ?_
  rintro e w' ⟨rfl, h1, h2⟩
  replace S := S.swap (r := rowL a cap 3 1 encI 0 (threadsB (absX X))) (r' := rowL a cap 3 1 encI 0 ((threadsB (absX X)).filter fun z => !!hasSt (absX X) z n)) rfl h2 h1 rfl (fun k e => .inl e)
  refine ⟨_, rfl, ?_⟩
  repeat' (first | refine assign_s_l S rfl rfl ?_ | (refine box_p S rfl rfl ?_; clear S; intro b w S) | (refine box_i S rfl rfl ?_; clear S; intro b w S) | refine nilL ?_ | refine run_seq ?_ | refine run_skip ?_ | refine run_region ?_ | refine load_p_l S rfl rfl rfl rfl ?_ | refine loadE_p_l S rfl (by first | omega | decide | (simp; done) | (simp; omega)) rfl rfl rfl ?_ | refine makeFunc_l S rfl rfl rfl ?_ | refine load_o_l S rfl rfl rfl rfl ?_ | refine loadE_o_l S rfl (by first | omega | decide | (simp; done) | (simp; omega)) rfl rfl rfl ?_ | refine run_block ?_ | refine run_ret ?_ | refine run_exit ?_ | refine run_cond_true rfl ?_ | refine run_cond_false rfl ?_ | refine thenQ_n ?_ | refine thenQ_r ?_ | refine thenQ_e ?_ | refine blockQ_n ?_ | refine blockQ_r ?_ | refine blockQ_s rfl ?_ | refine blockQ_o rfl ?_ | refine ret1_i rfl ?_ | refine ret1_b rfl ?_ | refine ret1_p rfl ?_ | refine ret1_s rfl ?_ | refine ret1_e rfl ?_ | refine ret1_a rfl ?_ | refine ret1_o rfl ?_ | refine ret1n_i rfl ?_ | refine ret1n_b rfl ?_ | refine ret1n_p rfl ?_ | refine ret1n_s rfl ?_ | refine ret1n_o rfl ?_)
  have he : ((threadsB (absX X)).filter fun z => !!hasSt (absX X) z n) = atB (absX X) n := by unfold atB; simp
  rw [he] at S ⊢
  exact ⟨_, rfl, S.newRow, S.chg.below⟩
end
end Go.Proofs.Ytnnkegmiefpgpaa
