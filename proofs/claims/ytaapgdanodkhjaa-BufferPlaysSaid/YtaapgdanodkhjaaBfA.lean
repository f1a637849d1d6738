/- buffer: what lies there; New, Depth. -/
import Derived.Test.YtaapgdanodkhjaaMap
import Derived.Test.YtaapgdanodkhjaaExch
import Derived.Test.YtaapgdanodkhjaaFacts
namespace Go.Proofs.Ytaapgdanodkhjaa
open Go.RowKit Go.Lib
set_option linter.unusedVariables false
set_option maxHeartbeats 2000000
/-- What a level has, by rising variables. -/
abbrev LvM := List (Int × Int)
/-- The levels, the lowest one first: where its map lies, and what it has. -/
abbrev BfX := List (Nat × LvM)
def encV (x : Int) : Value := .int .i64 x
def encH (m : Nat) : Nat → Value := fun _ => .map (some m)
instance plainH : Plain encH := ⟨fun _ _ => rfl⟩
abbrev rowH (a : Option Addr) (cap : Nat) (l : List Nat) : Res := rowL a cap 52 1 encH 0 l
/-- The maps. -/
def mapsR (X : BfX) : Res where
  foot k := ∃ p ∈ X, p.1 = k
  ro := false
  holds w := (∀ p ∈ X, MapOk w p.1 encV p.2) ∧ X.Pairwise fun (p q : Nat × LvM) => p.1 ≠ q.1
  lt w k h e := by
    obtain ⟨p, hp, rfl⟩ := e
    exact (mapR p.1 encV p.2).lt w _ (h.1 p hp) rfl
  loc w w' h e := ⟨fun p hp => (mapR p.1 encV p.2).loc w w' (h.1 p hp) fun k hk => e k ⟨p, hp, hk.symm⟩, h.2⟩
def bfC (a : Option Addr) (cap : Nat) (l : List Nat) : Tm := fun _ => .slice a l.length cap
def bfR (b : Nat) (a : Option Addr) (cap : Nat) (X : BfX) : Res where
  foot k := k = b ∨ (rowH a cap (X.map (·.1))).foot k ∨ (mapsR X).foot k
  ro := false
  holds w := ((blk b 1 (bfC a cap (X.map (·.1))) 55).holds w ∧ (rowH a cap (X.map (·.1))).holds w ∧ (mapsR X).holds w) ∧ ¬ (rowH a cap (X.map (·.1))).foot b ∧ ¬ (mapsR X).foot b ∧ ∀ k, (rowH a cap (X.map (·.1))).foot k → ¬ (mapsR X).foot k
  lt w k h e := by
    rcases e with rfl | e | e
    · exact lt_of_heap h.1.1
    · exact (rowH a cap (X.map (·.1))).lt w k h.1.2.1 e
    · exact (mapsR X).lt w k h.1.2.2 e
  loc w w' h e := ⟨⟨(blk b 1 (bfC a cap (X.map (·.1))) 55).loc w w' h.1.1 (fun k hk => e k (.inl hk)), (rowH a cap (X.map (·.1))).loc w w' h.1.2.1 (fun k hk => e k (.inr (.inl hk))), (mapsR X).loc w w' h.1.2.2 (fun k hk => e k (.inr (.inr hk)))⟩, h.2⟩
abbrev bfL (b : Nat) (a : Option Addr) (cap : Nat) (X : BfX) : List Res := [blk b 1 (bfC a cap (X.map (·.1))) 55, rowH a cap (X.map (·.1)), mapsR X]
theorem bf_open {b : Nat} {a : Option Addr} {cap : Nat} {X : BfX} {w : World} (h : (bfR b a cap X).holds w) : Sat (bfR b a cap X).foot w w (bfL b a cap X) := by
  obtain ⟨⟨h1, h2, h3⟩, g1, g2, g3⟩ := h
  refine (((Sat.start _ w).push (r := mapsR X) h3 (by simp) (fun _ k hk _ => Or.inr (Or.inr hk))).push (r := rowH a cap (X.map (·.1))) h2 ?_ (fun _ k hk _ => Or.inr (Or.inl hk))).push (r := blk b 1 (bfC a cap (X.map (·.1))) 55) h1 ?_ (fun _ k hk _ => Or.inl hk)
  · intro x hx
    obtain rfl : x = mapsR X := by simpa using hx
    exact .inr fun k e e' => g3 k e e'
  · intro x hx
    simp only [List.mem_cons, List.not_mem_nil, or_false] at hx
    rcases hx with rfl | rfl
    · exact .inr fun k e e' => g1 (e ▸ e')
    · exact .inr fun k e e' => g2 (e ▸ e')
theorem own_apart {r r' : Res} (h : r.apart r') (hr : r.ro = false) : ∀ k, r.foot k → r'.foot k → False := by
  rcases h with e | e
  · rw [hr] at e; cases e.1
  · exact e
theorem bf_shut {S : Nat → Prop} {w₀ w : World} {b : Nat} {a : Option Addr} {cap : Nat} {X : BfX} {L : List Res} (h : Sat S w₀ w (bfL b a cap X ++ L)) : (bfR b a cap X).holds w := by
  have a1 := h.all (blk b 1 (bfC a cap (X.map (·.1))) 55) (by simp)
  have a2 := h.all (rowH a cap (X.map (·.1))) (by simp)
  have a3 := h.all (mapsR X) (by simp)
  have s1 := List.pairwise_cons.1 h.sep
  have s2 := List.pairwise_cons.1 s1.2
  exact ⟨⟨a1, a2, a3⟩, fun e => own_apart (s1.1 (rowH a cap (X.map (·.1))) (by simp)) rfl b rfl e, fun e => own_apart (s1.1 (mapsR X) (by simp)) rfl b rfl e, fun k e e' => own_apart (s2.1 (mapsR X) (by simp)) rfl k e e'⟩
section
variable (L : List Res) (b : Nat) (a : Option Addr) (cap : Nat) (X : BfX)
instance bf_B : PickB (bfR b a cap X :: L) b 1 (bfC a cap (X.map (·.1))) 55 := ⟨fun w h => (h (bfR b a cap X) (List.mem_cons_self ..)).1.1⟩
instance bf_Sl : PickSl (bfR b a cap X :: L) a (X.map (·.1)).length cap 1 (gL encH 0 (X.map (·.1))) := ⟨fun w h => RowOk.sl (h (bfR b a cap X) (List.mem_cons_self ..)).1.2.1⟩
instance bf_E : PickE (bfR b a cap X :: L) a (X.map (·.1)).length cap 1 (gL encH 0 (X.map (·.1))) := ⟨fun w h => RowOk.sl (h (bfR b a cap X) (List.mem_cons_self ..)).1.2.1⟩
end
theorem bf_fresh {w₀ w : World} {b : Nat} {a : Option Addr} {cap : Nat} {X : BfX} {L : List Res} (S : Sat (fun _ => False) w₀ w (bfL b a cap X ++ L)) : (bfR b a cap X).holds w ∧ ∀ k, (bfR b a cap X).foot k → w₀.heap.size ≤ k := by
  refine ⟨bf_shut S, fun k hk => Nat.le_of_not_lt fun hlt => ?_⟩
  rcases hk with rfl | hk | hk
  · exact S.own (blk k 1 (bfC a cap (X.map (·.1))) 55) (by simp) rfl k rfl hlt
  · exact S.own (rowH a cap (X.map (·.1))) (by simp) rfl k hk hlt
  · exact S.own (mapsR X) (by simp) rfl k hk hlt
theorem depth_at {b : Nat} {a : Option Addr} {cap : Nat} {X : BfX} {w0 : World} (h : (bfR b a cap X).holds w0) : Calls Try.prog 13 #[.pointer (some ⟨b, 0, none⟩)] w0 fun e w' => e = .returned (.int .i64 X.length) ∧ Below w0.heap.size w0 w' := by
  have S := Sat.reads h
  refine enter1 Try.func13 rfl Try.ntmps13 rfl Try.results13 ?_
  repeat' (first | refine assign_i_l S rfl rfl ?_ | refine move_p_l S rfl rfl ?_ | refine move_e_l S rfl rfl ?_ | refine nilL ?_ | refine run_seq ?_ | refine run_skip ?_ | refine run_region ?_ | refine eqlP_l S rfl rfl rfl ?_ | refine eqlE_l S rfl rfl (by omega) rfl ?_ | refine nilCheck_l S rfl rfl ?_ | refine nilCheckE_l S rfl (by first | omega | decide | (simp; done) | (simp; omega)) rfl ?_ | refine fieldAddr_l S rfl rfl rfl ?_ | refine fieldAddrE_l S rfl (by first | omega | decide | (simp; done) | (simp; omega)) rfl rfl ?_ | refine load_s_l S rfl rfl rfl rfl ?_ | refine loadE_s_l S rfl (by first | omega | decide | (simp; done) | (simp; omega)) rfl rfl rfl ?_ | refine len_l S rfl rfl ?_ | refine move_o_l S rfl rfl ?_ | refine load_o_l S rfl rfl rfl rfl ?_ | refine loadE_o_l S rfl (by first | omega | decide | (simp; done) | (simp; omega)) rfl rfl rfl ?_ | refine run_block ?_ | refine run_ret ?_ | refine run_exit ?_ | refine run_cond_true rfl ?_ | refine run_cond_false rfl ?_ | refine thenQ_n ?_ | refine thenQ_r ?_ | refine thenQ_e ?_ | refine blockQ_n ?_ | refine blockQ_r ?_ | refine blockQ_s rfl ?_ | refine blockQ_o rfl ?_ | refine ret1_i rfl ?_ | refine ret1_b rfl ?_ | refine ret1_p rfl ?_ | refine ret1_s rfl ?_ | refine ret1_e rfl ?_ | refine ret1_a rfl ?_ | refine ret1_o rfl ?_ | refine ret1n_i rfl ?_ | refine ret1n_b rfl ?_ | refine ret1n_p rfl ?_ | refine ret1n_s rfl ?_ | refine ret1n_o rfl ?_)
  exact ⟨by rw [List.length_map], S.chg.below⟩
theorem bfnew_at (w0 : World) : Calls Try.prog 9 #[] w0 fun e w' => ∃ b a cap m, e = .returned (.pointer (some ⟨b, 0, none⟩)) ∧ (bfR b a cap [(m, [])]).holds w' ∧ (∀ k, (bfR b a cap [(m, [])]).foot k → w0.heap.size ≤ k) ∧ Below w0.heap.size w0 w' := by
  have S := Sat.start (fun _ => False) w0
  refine enter1 Try.func9 rfl Try.ntmps9 rfl Try.results9 ?_
  repeat' (first | refine assign_p_l S rfl rfl ?_ | refine assign_e_l S rfl rfl ?_ | (refine buildSlice_l S rfl rfl rfl rfl rfl ?_; clear S; intro b w S) | refine nilL ?_ | refine run_seq ?_ | refine run_skip ?_ | refine run_region ?_ | (apply buildSliceN_l S; (· repeat (first | exact vsN | apply vsC rfl)); (· rfl); (· rfl); (· rfl); (· rfl); (· rfl); clear S; intro b w S) | (apply build1_l S; (· repeat (first | exact mapN | apply mapC_i rfl | apply mapC_b rfl | apply mapC_p rfl | apply mapC_s rfl | apply mapC_e rfl | apply mapC_a rfl | apply mapC_o rfl)); (· rfl); (· rfl)) | (refine box_a S rfl rfl rfl ?_; clear S; intro b w S) | refine assign_o_l S rfl rfl ?_ | refine run_block ?_ | refine run_ret ?_ | refine run_exit ?_ | refine run_cond_true rfl ?_ | refine run_cond_false rfl ?_ | refine thenQ_n ?_ | refine thenQ_r ?_ | refine thenQ_e ?_ | refine blockQ_n ?_ | refine blockQ_r ?_ | refine blockQ_s rfl ?_ | refine blockQ_o rfl ?_ | refine ret1_i rfl ?_ | refine ret1_b rfl ?_ | refine ret1_p rfl ?_ | refine ret1_s rfl ?_ | refine ret1_e rfl ?_ | refine ret1_a rfl ?_ | refine ret1_o rfl ?_ | refine ret1n_i rfl ?_ | refine ret1n_b rfl ?_ | refine ret1n_p rfl ?_ | refine ret1n_s rfl ?_ | refine ret1n_o rfl ?_)
  refine makeMap_l S encV rfl ?_
  clear S
  intro bm w S
  repeat' (first | refine assign_p_l S rfl rfl ?_ | refine assign_e_l S rfl rfl ?_ | (refine buildSlice_l S rfl rfl rfl rfl rfl ?_; clear S; intro b w S) | refine nilL ?_ | refine run_seq ?_ | refine run_skip ?_ | refine run_region ?_ | (apply buildSliceN_l S; (· repeat (first | exact vsN | apply vsC rfl)); (· rfl); (· rfl); (· rfl); (· rfl); (· rfl); clear S; intro b w S) | (apply build1_l S; (· repeat (first | exact mapN | apply mapC_i rfl | apply mapC_b rfl | apply mapC_p rfl | apply mapC_s rfl | apply mapC_e rfl | apply mapC_a rfl | apply mapC_o rfl)); (· rfl); (· rfl)) | (refine box_a S rfl rfl rfl ?_; clear S; intro b w S) | refine assign_o_l S rfl rfl ?_ | refine run_block ?_ | refine run_ret ?_ | refine run_exit ?_ | refine run_cond_true rfl ?_ | refine run_cond_false rfl ?_ | refine thenQ_n ?_ | refine thenQ_r ?_ | refine thenQ_e ?_ | refine blockQ_n ?_ | refine blockQ_r ?_ | refine blockQ_s rfl ?_ | refine blockQ_o rfl ?_ | refine ret1_i rfl ?_ | refine ret1_b rfl ?_ | refine ret1_p rfl ?_ | refine ret1_s rfl ?_ | refine ret1_e rfl ?_ | refine ret1_a rfl ?_ | refine ret1_o rfl ?_ | refine ret1n_i rfl ?_ | refine ret1n_b rfl ?_ | refine ret1n_p rfl ?_ | refine ret1n_s rfl ?_ | refine ret1n_o rfl ?_)
  rename_i bs _
  replace S := S.turn1 (r' := blk b 1 (bfC (some ⟨bs, 0, none⟩) 1 [bm]) 55) S.got1 rfl (fun k e => e)
  replace S := S.sw.turn1 (r' := rowH (some ⟨bs, 0, none⟩) 1 [bm]) (RowOk.congr S.second (fun i hi j hj => by
    match i, hi with
    | 0, _ => rfl)) rfl (fun k e => e)
  replace S := S.rev3.turn1 (r' := mapsR [(bm, [])]) ⟨(fun p hp => by
    obtain rfl : p = (bm, []) := by simpa using hp
    exact S.third), List.pairwise_singleton ..⟩ rfl (fun k ⟨p, hp, e⟩ => by
    obtain rfl : p = (bm, []) := by simpa using hp
    exact e.symm)
  have h := bf_fresh (L := []) (X := [(bm, [])]) S.rev3.sw
  exact ⟨b, _, _, bm, rfl, h.1, h.2, S.chg.below⟩
end Go.Proofs.Ytaapgdanodkhjaa
