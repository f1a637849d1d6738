/- shape: the other events: checked, committed, stored, freed, ended, undone. shape: freed, ended, undone. -/
import Derived.Test.YtpiodhdbdlfnhaaGreatDoorBits
namespace Go.Proofs.YtpiodhdbdlfnhaaGreatDoor
open Go.RowKit Go.Lib
set_option linter.unusedVariables false
set_option linter.unusedSimpArgs false
set_option maxHeartbeats 4000000
theorem gset_same {g : Nat → Nat → Value} {i j : Nat} {v : Value} (h : g i j = v) : gset g i j v = g := by
  funext a b
  unfold gset
  by_cases e : a = i ∧ b = j
  · rw [if_pos e, e.1, e.2, h]
  · rw [if_neg e]
abbrev lessW (x : BitVec 32) (s : Int) : BitVec 32 := x &&& ~~~(BitVec.twoPow 32 s.toNat)
def freedT (T : ThS) (s : Int) : ThS := if ((lessW T.owned s).toNat : Int) = 0 then { T with owned := lessW T.owned s, at_ := 0, commits := T.commits + 1 } else { T with owned := lessW T.owned s, at_ := 6 }
def undoT (T : ThS) (s : Int) : ThS := if ((lessW T.owned s).toNat : Int) = 0 then { T with owned := lessW T.owned s, at_ := if T.full = true then 9 else 0 } else { T with owned := lessW T.owned s }
def abortT (T : ThS) (why : Int) : ThS := if (T.owned.toNat : Int) = 0 then { T with at_ := 0, full := decide (why = 6) } else { T with at_ := 7, full := decide (why = 6) }
theorem ends_at {S0 : Nat → Prop} {ww w0 : World} {L : List Res} {ta : Option Addr} {n tc i : Nat} {T : TypeId} {g : Nat → Nat → Value} {c : Int} (hS : Sat S0 ww w0 (row ta n tc T 13 g :: L)) (hi : i < n) (hc : g i 1 = .int .i64 c) (hb : 0 ≤ c ∧ c ≤ 1000000) :
    Calls Tryz.prog 59 #[ePtr ta i 13 0] w0 fun r w' => r = .returned (.tuple #[]) ∧ Sat S0 ww w' (row ta n tc T 13 (gset (gset g i 0 (.int .i64 0)) i 1 (.int .i64 (c + 1))) :: L) := by
  have S := hS
  rw [← gset_same hc] at S
  refine enter0 Tryz.func59 rfl Tryz.ntmps59 rfl Tryz.results59 ?_
  repeat' (first | refine nilCheckE_l S rfl (by first | omega | decide | (simp; done) | (simp; omega)) rfl ?_ | refine nilL ?_ | refine run_seq ?_ | refine run_region ?_ | refine fieldAddrE_l S rfl (by first | omega | decide | (simp; done) | (simp; omega)) rfl rfl ?_ | refine move_e_l S rfl rfl ?_ | (refine storeE_i S rfl rfl (by omega) rfl ?_; clear S; intro w S) | refine loadE_i_l S rfl (by omega) rfl (by simp only [gset_at]; rfl) rfl ?_ | refine add_l S rfl rfl (wrap_in (by omega)) rfl ?_ | refine thenQ_n ?_ | refine ret0_n ?_)
  rw [gset_same hc] at S
  exact ⟨rfl, S⟩
section
variable {bk : Nat} {ta sa : Option Addr} {tc sc : Nat} {C : ShS}
theorem leave_at {S0 : Nat → Prop} {ww w0 : World} {L : List Res} {i : Nat} {s : Int} (hS : Sat S0 ww w0 (thsR ta tc C.ths :: strsR sa sc C.strs :: blk bk 5 (shC ta sa tc sc C) 76 :: L)) (hi : i < C.ths.length) (hs : 0 ≤ s ∧ s < C.strs.length) (hs32 : C.strs.length ≤ 32) :
    Calls Tryz.prog 60 #[.pointer (some ⟨bk, 0, none⟩), ePtr ta i 13 0, .int .i64 s] w0 fun r w' => r = .returned (.tuple #[]) ∧ Sat S0 ww w' (row ta C.ths.length tc 87 13 (gset (gL encTh thD C.ths) i 7 (wv (lessW (C.ths.getD i thD).owned s))) :: row sa C.strs.length sc 74 2 (gset (gL encP (0, 0) C.strs) s.toNat 0 (.int .i64 (-1))) :: blk bk 5 (shC ta sa tc sc C) 76 :: L) := by
  have S := hS
  refine enter0 Tryz.func60 rfl Tryz.ntmps60 rfl Tryz.results60 ?_
  repeat' (first | refine run_seq ?_)
  refine run_any S (L' := []) (f := 10) mixed rfl ?_
  clear S
  intro w S1
  have S : Sat _ _ w [] := S1.sub
  all_goals (refine any_pure (i := 0) rfl (by kernel_rfl) S ?_; (refine move_e_x rfl rfl ?_))
  all_goals (refine any_pure (i := 4) rfl (by kernel_rfl) S ?_; refine move_i_x rfl rfl ?_)
  all_goals (refine any_pure (i := 5) rfl (by kernel_rfl) S ?_; refine shl1W_x rfl rfl (by omega) rfl ?_)
  all_goals (refine any_step (i := 1) rfl (by kernel_rfl) ?_; replace S := S1; clear S1; (refine nilCheckE_l S rfl (by omega) rfl ?_); refine nilL ?_; refine ⟨S.sub, ?_⟩; have S1 := S; replace S : Sat _ _ _ [] := S1.sub)
  all_goals (refine any_step (i := 2) rfl (by kernel_rfl) ?_; replace S := S1; clear S1; (refine fieldAddrE_l S rfl (by omega) rfl rfl ?_); refine nilL ?_; refine ⟨S.sub, ?_⟩; have S1 := S; replace S : Sat _ _ _ [] := S1.sub)
  all_goals (refine any_step (i := 3) rfl (by kernel_rfl) ?_; replace S := S1; clear S1; (refine loadE_i_l S rfl (by omega) rfl rfl rfl ?_); refine nilL ?_; refine ⟨S.sub, ?_⟩; have S1 := S; replace S : Sat _ _ _ [] := S1.sub)
  all_goals (refine any_pure (i := 6) rfl (by kernel_rfl) S ?_; refine andNotW_x rfl rfl rfl ?_)
  all_goals (refine any_step (i := 7) rfl (by kernel_rfl) ?_; replace S := S1; clear S1; (refine nilCheckE_l S rfl (by omega) rfl ?_); refine nilL ?_; refine ⟨S.sub, ?_⟩; have S1 := S; replace S : Sat _ _ _ [] := S1.sub)
  all_goals (refine any_step (i := 8) rfl (by kernel_rfl) ?_; replace S := S1; clear S1; (refine fieldAddrE_l S rfl (by omega) rfl rfl ?_); refine nilL ?_; refine ⟨S.sub, ?_⟩; have S1 := S; replace S : Sat _ _ _ [] := S1.sub)
  all_goals (refine any_step (i := 9) rfl (by kernel_rfl) ?_; replace S := S1; clear S1; ((refine storeE_i S rfl rfl (by omega) rfl ?_; clear S; intro w S)); refine nilL ?_; refine ⟨S.sub, ?_⟩; have S1 := S; replace S : Sat _ _ _ [] := S1.sub)
  all_goals refine any_end (by kernel_rfl) ?_
  all_goals replace S := S1
  repeat' (first | refine fieldAddr_l S rfl rfl rfl ?_ | refine fieldAddrE_l S rfl (by first | omega | decide | (simp; done) | (simp; omega)) rfl rfl ?_ | refine move_p_l S rfl rfl ?_ | refine nilL ?_ | refine run_region ?_ | refine nilCheck_l S rfl rfl ?_ | refine move_i_l S rfl rfl ?_ | refine indexAddr_l S rfl rfl (idx_eq _) (by first | omega | decide | (simp; done) | (simp; omega)) rfl ?_ | (refine storeE_i S rfl rfl (by omega) rfl ?_; clear S; intro w S) | refine load_o_l S rfl rfl rfl rfl ?_ | refine thenQ_n ?_ | refine ret0_n ?_)
  exact ⟨rfl, S⟩

theorem sh_openT {w : World} {b : Nat} (h : (shR b ta sa tc sc C).holds w) (hT : tabR.holds w) (hap : (shR b ta sa tc sc C).apart tabR) : Sat (shR b ta sa tc sc C).foot w w (tabR :: shL b ta sa tc sc C) :=
  (sh_open h).push (r := tabR) hT (fun x hx => .inr fun k h1 h2 => by
    rcases hap with hap | hap
    · cases hap.1
    · refine hap k ?_ h1
      simp only [List.mem_cons, List.not_mem_nil, or_false] at hx
      rcases hx with rfl | rfl | rfl
      · exact .inl h2
      · exact .inr (.inl h2)
      · exact .inr (.inr h2)) (fun e => by cases e)
end
section
variable {bk : Nat} {ta sa : Option Addr} {tc sc : Nat} {C : ShS} {w0 : World} (h : (shR bk ta sa tc sc C).holds w0) (hT : tabR.holds w0) (hap : (shR bk ta sa tc sc C).apart tabR) {i : Nat} (hi : i < C.ths.length) (e : EvS) (h0 : 0 < C.strs.length)
include h hT hap hi h0

theorem checked_at (hs : 0 ≤ e.at_ ∧ e.at_ < C.strs.length) (hs32 : C.strs.length ≤ 32) (g1 : (C.ths.getD i thD).at_ = 4) (g2 : e.at_ = leastW (C.ths.getD i thD).check) (g3 : ¬ (¬ (C.strs.getD e.at_.toNat (0, 0)).1 = -1 ∧ ¬ (C.strs.getD e.at_.toNat (0, 0)).1 = e.thread)) (g4 : ¬ (C.ths.getD i thD).rv < (C.strs.getD e.at_.toNat (0, 0)).2) : Calls Tryz.prog 31 #[.pointer (some ⟨bk, 0, none⟩), ePtr ta i 13 0, evA e] w0 fun r w' => r = .returned (.bool true) ∧ ShTo bk ta sa tc sc C (putTh C i { (C.ths.getD i thD) with check := lessW (C.ths.getD i thD).check e.at_ }) w0 w' := by
  have S := sh_openT h hT hap
  have hm := sh_small h
  have hs' : e.at_.toNat < C.strs.length := by omega
  refine enter1 Tryz.func31 rfl Tryz.ntmps31 rfl Tryz.results31 ?_
  repeat' (first | refine assign_b_l S rfl rfl ?_ | (refine box_a S rfl rfl rfl ?_; clear S; intro b w S) | refine nilL ?_ | refine run_seq ?_ | refine run_region ?_ | refine thenQ_n ?_)
  refine run_any S (L' := [evR b e, tabR, blk bk 5 (shC ta sa tc sc C) 76, thsR ta tc C.ths, strsR sa sc C.strs]) (f := 29) mixed rfl ?_
  clear S
  intro w S1
  have S : Sat _ _ w [evR b e, tabR, blk bk 5 (shC ta sa tc sc C) 76, thsR ta tc C.ths, strsR sa sc C.strs] := S1.sub
  all_goals (refine any_pure (i := 0) rfl (by kernel_rfl) S ?_; (refine move_e_x rfl rfl ?_))
  all_goals (refine any_pure (i := 1) rfl (by kernel_rfl) S ?_; (refine nilCheckE_x rfl (by omega) rfl ?_))
  all_goals (refine any_pure (i := 2) rfl (by kernel_rfl) S ?_; (refine fieldAddrE_x rfl (by omega) rfl rfl ?_))
  all_goals (refine any_pure (i := 3) rfl (by kernel_rfl) S ?_; (refine loadE_i_x rfl (by omega) rfl rfl rfl ?_))
  all_goals (refine any_pure (i := 4) rfl (by kernel_rfl) S ?_; (refine neq_x rfl rfl rfl ?_ ?_ <;> intro hcmp <;> try (exfalso; omega)))
  all_goals (refine any_pure (i := 5) rfl (by kernel_rfl) S ?_; refine move_b_x rfl rfl ?_)
  all_goals (refine any_pure (i := 6) rfl (by kernel_rfl) S ?_; (refine onX rfl rfl ?_; (refine fieldAddr_x rfl rfl rfl ?_)))
  all_goals (refine any_pure (i := 7) rfl (by kernel_rfl) S ?_; (refine onX rfl rfl ?_; (refine load_i_x rfl rfl rfl rfl ?_)))
  all_goals (refine any_pure (i := 8) rfl (by kernel_rfl) S ?_; (refine onX rfl rfl ?_; (refine move_e_x rfl rfl ?_)))
  all_goals (refine any_pure (i := 9) rfl (by kernel_rfl) S ?_; (refine onX rfl rfl ?_; (refine nilCheckE_x rfl (by omega) rfl ?_)))
  all_goals (refine any_pure (i := 10) rfl (by kernel_rfl) S ?_; (refine onX rfl rfl ?_; (refine fieldAddrE_x rfl (by omega) rfl rfl ?_)))
  all_goals (refine any_pure (i := 11) rfl (by kernel_rfl) S ?_; (refine onX rfl rfl ?_; (refine loadE_i_x rfl (by omega) rfl rfl rfl ?_)))
  all_goals refine any_step (i := 12) rfl (by kernel_rfl) ?_
  all_goals refine onL rfl rfl ?_
  all_goals replace S := S1
  (refine callL (least_w S.second (C.ths.getD i thD).check) rfl rfl ?_; rintro e w ⟨rfl, hb⟩; replace S := S.below hb; clear hb; refine ⟨_, rfl, ?_⟩)
  all_goals try refine nilL ?_
  all_goals refine ⟨S.sub, ?_⟩
  all_goals (have S1 := S; replace S : Sat _ _ _ [evR b e, tabR, blk bk 5 (shC ta sa tc sc C) 76, thsR ta tc C.ths, strsR sa sc C.strs] := S1.sub)
  all_goals (refine any_pure (i := 13) rfl (by kernel_rfl) S ?_; (refine onX rfl rfl ?_; (refine neq_x rfl rfl rfl ?_ ?_ <;> intro hcmp <;> try (exfalso; omega))))
  all_goals (refine any_pure (i := 14) rfl (by kernel_rfl) S ?_; (refine pick_fb_x rfl rfl rfl ?_))
  all_goals (refine any_pure (i := 15) rfl (by kernel_rfl) S ?_; refine move_b_x rfl rfl ?_)
  all_goals (refine any_pure (i := 16) rfl (by kernel_rfl) S ?_; (refine onX rfl rfl ?_; (refine move_p_x rfl rfl ?_)))
  all_goals (refine any_pure (i := 17) rfl (by kernel_rfl) S ?_; (refine onX rfl rfl ?_; (refine fieldAddr_x rfl rfl rfl ?_)))
  all_goals (refine any_pure (i := 18) rfl (by kernel_rfl) S ?_; (refine onX rfl rfl ?_; (refine load_i_x rfl rfl rfl rfl ?_)))
  all_goals (refine any_pure (i := 19) rfl (by kernel_rfl) S ?_; (refine onX rfl rfl ?_; (refine loadN_x rfl rfl rfl ?_)))
  all_goals refine any_step (i := 20) rfl (by kernel_rfl) ?_
  all_goals refine onL rfl rfl ?_
  all_goals replace S := S1
  (refine callL (others_at (sh_shut S.tl.tl) e e.at_ hs) rfl rfl ?_; rintro e w ⟨rfl, hb⟩; replace S := S.below hb; clear hb; refine ⟨_, rfl, ?_⟩)
  rw [decide_eq_false g3]
  all_goals try refine nilL ?_
  all_goals refine ⟨S.sub, ?_⟩
  all_goals (have S1 := S; replace S : Sat _ _ _ [evR b e, tabR, blk bk 5 (shC ta sa tc sc C) 76, thsR ta tc C.ths, strsR sa sc C.strs] := S1.sub)
  all_goals (refine any_pure (i := 21) rfl (by kernel_rfl) S ?_; (refine pick_fb_x rfl rfl rfl ?_))
  all_goals (refine any_pure (i := 22) rfl (by kernel_rfl) S ?_; refine move_b_x rfl rfl ?_)
  all_goals (refine any_pure (i := 23) rfl (by kernel_rfl) S ?_; (refine onX rfl rfl ?_; (refine move_p_x rfl rfl ?_)))
  all_goals (refine any_pure (i := 24) rfl (by kernel_rfl) S ?_; (refine onX rfl rfl ?_; (refine fieldAddr_x rfl rfl rfl ?_)))
  all_goals (refine any_pure (i := 25) rfl (by kernel_rfl) S ?_; (refine onX rfl rfl ?_; (refine load_i_x rfl rfl rfl rfl ?_)))
  all_goals (refine any_pure (i := 26) rfl (by kernel_rfl) S ?_; (refine onX rfl rfl ?_; (refine move_e_x rfl rfl ?_)))
  all_goals refine any_step (i := 27) rfl (by kernel_rfl) ?_
  all_goals refine onL rfl rfl ?_
  all_goals replace S := S1
  (refine callL (snewer_at (sh_shut S.tl.tl) e.at_ hs i hi) rfl rfl ?_; rintro e w ⟨rfl, hb⟩; replace S := S.below hb; clear hb; refine ⟨_, rfl, ?_⟩)
  rw [decide_eq_false g4]
  all_goals try refine nilL ?_
  all_goals refine ⟨S.sub, ?_⟩
  all_goals (have S1 := S; replace S : Sat _ _ _ [evR b e, tabR, blk bk 5 (shC ta sa tc sc C) 76, thsR ta tc C.ths, strsR sa sc C.strs] := S1.sub)
  all_goals (refine any_pure (i := 28) rfl (by kernel_rfl) S ?_; (refine pick_fb_x rfl rfl rfl ?_))
  all_goals refine any_end (by kernel_rfl) ?_
  all_goals replace S := S1
  repeat' (first | refine run_seq ?_ | refine run_skip ?_ | refine run_cond_false rfl ?_ | refine thenQ_n ?_)
  refine run_any S (L' := [evR b e]) (f := 11) mixed rfl ?_
  clear S
  intro w S1
  have S : Sat _ _ w [evR b e] := S1.sub
  all_goals (refine any_pure (i := 0) rfl (by kernel_rfl) S ?_; (refine move_e_x rfl rfl ?_))
  all_goals (refine any_pure (i := 4) rfl (by kernel_rfl) S ?_; (refine fieldAddr_x rfl rfl rfl ?_))
  all_goals (refine any_pure (i := 5) rfl (by kernel_rfl) S ?_; (refine load_i_x rfl rfl rfl rfl ?_))
  all_goals (refine any_pure (i := 6) rfl (by kernel_rfl) S ?_; refine shl1W_x rfl rfl (by omega) rfl ?_)
  all_goals (refine any_step (i := 1) rfl (by kernel_rfl) ?_; replace S := S1; clear S1; (refine nilCheckE_l S rfl (by omega) rfl ?_); refine nilL ?_; refine ⟨S.sub, ?_⟩; have S1 := S; replace S : Sat _ _ _ [evR b e] := S1.sub)
  all_goals (refine any_step (i := 2) rfl (by kernel_rfl) ?_; replace S := S1; clear S1; (refine fieldAddrE_l S rfl (by omega) rfl rfl ?_); refine nilL ?_; refine ⟨S.sub, ?_⟩; have S1 := S; replace S : Sat _ _ _ [evR b e] := S1.sub)
  all_goals (refine any_step (i := 3) rfl (by kernel_rfl) ?_; replace S := S1; clear S1; (refine loadE_i_l S rfl (by omega) rfl rfl rfl ?_); refine nilL ?_; refine ⟨S.sub, ?_⟩; have S1 := S; replace S : Sat _ _ _ [evR b e] := S1.sub)
  all_goals (refine any_pure (i := 7) rfl (by kernel_rfl) S ?_; refine andNotW_x rfl rfl rfl ?_)
  all_goals (refine any_step (i := 8) rfl (by kernel_rfl) ?_; replace S := S1; clear S1; (refine nilCheckE_l S rfl (by omega) rfl ?_); refine nilL ?_; refine ⟨S.sub, ?_⟩; have S1 := S; replace S : Sat _ _ _ [evR b e] := S1.sub)
  all_goals (refine any_step (i := 9) rfl (by kernel_rfl) ?_; replace S := S1; clear S1; (refine fieldAddrE_l S rfl (by omega) rfl rfl ?_); refine nilL ?_; refine ⟨S.sub, ?_⟩; have S1 := S; replace S : Sat _ _ _ [evR b e] := S1.sub)
  all_goals (refine any_step (i := 10) rfl (by kernel_rfl) ?_; replace S := S1; clear S1; ((refine storeE_i S rfl rfl (by omega) rfl ?_; clear S; intro w S)); refine nilL ?_; refine ⟨S.sub, ?_⟩; have S1 := S; replace S : Sat _ _ _ [evR b e] := S1.sub)
  all_goals refine any_end (by kernel_rfl) ?_
  all_goals replace S := S1
  repeat' (first | refine assign_b_l S rfl rfl ?_ | refine nilL ?_ | refine run_seq ?_ | refine run_region ?_ | refine run_ret ?_ | refine thenQ_n ?_ | refine ret1_b rfl ?_)
  exact ⟨rfl, fin_t hi h0 (thirteen (by (simp only [gset_at]; rfl)) (by (simp only [gset_at]; rfl)) (by (simp only [gset_at]; rfl)) (by (simp only [gset_at]; rfl)) (by (simp only [gset_at]; rfl)) (by (simp only [gset_at]; rfl)) (by (simp only [gset_at]; rfl)) (by (simp only [gset_at]; rfl)) (by (simp only [gset_at]; rfl)) (by (simp only [gset_at]; rfl)) (by (simp only [gset_at]; rfl)) (by (simp only [gset_at]; rfl)) (by (simp only [gset_at]; rfl))) (fun k hk j => by simp only [gset_ne hk]) S.tl.tl, S.chg⟩
theorem commit0_at (hb : 0 ≤ (C.ths.getD i thD).commits ∧ (C.ths.getD i thD).commits ≤ 1000000) (g1 : e.v = 0) (g2 : (C.ths.getD i thD).at_ = 1) : Calls Tryz.prog 32 #[.pointer (some ⟨bk, 0, none⟩), ePtr ta i 13 0, evA e] w0 fun r w' => r = .returned (.bool true) ∧ ShTo bk ta sa tc sc C (putTh C i { (C.ths.getD i thD) with at_ := 0, commits := (C.ths.getD i thD).commits + 1 }) w0 w' := by
  have S := sh_openT h hT hap
  have hm := sh_small h
  refine enter1 Tryz.func32 rfl Tryz.ntmps32 rfl Tryz.results32 ?_
  repeat' (first | refine assign_b_l S rfl rfl ?_ | refine fieldAddr_l S rfl rfl rfl ?_ | refine fieldAddrE_l S rfl (by first | omega | decide | (simp; done) | (simp; omega)) rfl rfl ?_ | refine nilL ?_ | refine run_seq ?_ | refine run_region ?_ | refine onL rfl rfl ?_ | refine move_e_l S rfl rfl ?_ | refine load_i_l S rfl rfl rfl rfl ?_ | refine loadE_i_l S rfl (by first | omega | decide | (simp; done) | (simp; omega)) rfl rfl rfl ?_ | (refine eql_l S rfl rfl rfl ?_ ?_ <;> intro hcmp <;> try (exfalso; first | omega | exact hcmp (by decide) | exact absurd hcmp (by decide))) | refine nilCheckE_l S rfl (by first | omega | decide | (simp; done) | (simp; omega)) rfl ?_ | (refine box_a S rfl rfl rfl ?_; clear S; intro b w S) | refine move_b_l S rfl rfl ?_ | refine pick_tb_l S rfl rfl rfl ?_ | refine run_block ?_ | refine run_cond_true rfl ?_ | refine thenQ_n ?_)
  replace S := S.perm (L' := [thsR ta tc C.ths, evR b e, tabR, blk bk 5 (shC ta sa tc sc C) 76, strsR sa sc C.strs]) (List.Perm.symm (List.perm_middle (a := thsR ta tc C.ths) (l₁ := [evR b e, tabR, blk bk 5 (shC ta sa tc sc C) 76]) (l₂ := [strsR sa sc C.strs])))
  refine callL (ends_at S hi (c := (C.ths.getD i thD).commits) rfl hb) rfl rfl ?_
  clear S
  rintro r w ⟨rfl, S⟩
  refine ⟨_, rfl, ?_⟩
  replace S := S.perm (List.perm_middle (l₁ := [evR b e, tabR, blk bk 5 (shC ta sa tc sc C) 76]) (l₂ := [strsR sa sc C.strs]))
  repeat' (first | refine assign_b_l S rfl rfl ?_ | refine nilL ?_ | refine run_seq ?_ | refine run_region ?_ | refine run_ret ?_ | refine thenQ_n ?_ | refine blockQ_n ?_ | refine ret1_b rfl ?_)
  exact ⟨rfl, fin_t hi h0 (thirteen (by (simp only [gset_at]; rfl)) (by (simp only [gset_at]; rfl)) (by (simp only [gset_at]; rfl)) (by (simp only [gset_at]; rfl)) (by (simp only [gset_at]; rfl)) (by (simp only [gset_at]; rfl)) (by (simp only [gset_at]; rfl)) (by (simp only [gset_at]; rfl)) (by (simp only [gset_at]; rfl)) (by (simp only [gset_at]; rfl)) (by (simp only [gset_at]; rfl)) (by (simp only [gset_at]; rfl)) (by (simp only [gset_at]; rfl))) (fun k hk j => by simp only [gset_ne hk]) S.tl.tl, S.chg⟩
theorem commit1_at (g1 : ¬ e.v = 0) (g2 : (C.ths.getD i thD).at_ = 4) (g3 : ((C.ths.getD i thD).check.toNat : Int) = 0) (g4 : e.v = (C.ths.getD i thD).wv_) : Calls Tryz.prog 32 #[.pointer (some ⟨bk, 0, none⟩), ePtr ta i 13 0, evA e] w0 fun r w' => r = .returned (.bool true) ∧ ShTo bk ta sa tc sc C (putTh C i { (C.ths.getD i thD) with at_ := 5 }) w0 w' := by
  have S := sh_openT h hT hap
  have hm := sh_small h
  refine enter1 Tryz.func32 rfl Tryz.ntmps32 rfl Tryz.results32 ?_
  repeat' (first | refine assign_b_l S rfl rfl ?_ | refine fieldAddr_l S rfl rfl rfl ?_ | refine fieldAddrE_l S rfl (by first | omega | decide | (simp; done) | (simp; omega)) rfl rfl ?_ | refine nilL ?_ | refine run_seq ?_ | refine run_region ?_ | refine offL rfl rfl rfl rfl ?_ | refine move_e_l S rfl rfl ?_ | refine load_i_l S rfl rfl rfl rfl ?_ | (refine eql_l S rfl rfl rfl ?_ ?_ <;> intro hcmp <;> try (exfalso; first | omega | exact hcmp (by decide) | exact absurd hcmp (by decide))) | refine nilCheckE_l S rfl (by first | omega | decide | (simp; done) | (simp; omega)) rfl ?_ | (refine box_a S rfl rfl rfl ?_; clear S; intro b w S) | refine move_b_l S rfl rfl ?_ | refine pick_fb_l S rfl rfl rfl ?_ | (refine storeE_i S rfl rfl (by omega) rfl ?_; clear S; intro w S) | refine run_block ?_ | refine run_ret ?_ | refine run_cond_true rfl ?_ | refine run_cond_false rfl ?_ | refine thenQ_n ?_ | refine blockQ_n ?_ | (refine run_draws (id := 4) S mixed ?_ ?_; · kernel_rfl) | (refine nilQ ?_; clear S; intro w S) | refine onQ rfl rfl ?_ | refine fieldAddr_q rfl rfl rfl ?_ | refine fieldAddrE_q rfl (by first | omega | decide | (simp; done) | (simp; omega)) rfl rfl ?_ | refine load_i_q rfl rfl rfl rfl ?_ | refine loadE_i_q rfl (by first | omega | decide | (simp; done) | (simp; omega)) rfl rfl rfl ?_ | (refine neq_q rfl rfl rfl ?_ ?_ <;> intro hcmp <;> try (exfalso; first | omega | exact hcmp (by decide) | exact absurd hcmp (by decide))) | refine move_b_q rfl rfl ?_ | refine move_e_q rfl rfl ?_ | refine nilCheckE_q rfl (by first | omega | decide | (simp; done) | (simp; omega)) rfl ?_ | (refine eql_q rfl rfl rfl ?_ ?_ <;> intro hcmp <;> try (exfalso; first | omega | exact hcmp (by decide) | exact absurd hcmp (by decide))) | refine pick_tb_q rfl rfl rfl ?_ | refine assign_b_q rfl rfl ?_ | refine ret1_b rfl ?_)
  exact ⟨rfl, fin_t hi h0 (thirteen (by (simp only [gset_at]; rfl)) (by (simp only [gset_at]; rfl)) (by (simp only [gset_at]; rfl)) (by (simp only [gset_at]; rfl)) (by (simp only [gset_at]; rfl)) (by (simp only [gset_at]; rfl)) (by (simp only [gset_at]; rfl)) (by (simp only [gset_at]; rfl)) (by (simp only [gset_at]; rfl)) (by (simp only [gset_at]; rfl)) (by (simp only [gset_at]; rfl)) (by (simp only [gset_at]; rfl)) (by (simp only [gset_at]; rfl))) (fun k hk j => by simp only [gset_ne hk]) S.tl.tl, S.chg⟩
theorem store_at (hs32 : C.strs.length ≤ 32) (ge : 0 ≤ e.at_) (g1 : (C.ths.getD i thD).at_ = 5) (g2 : (C.ths.getD i thD).var_ < e.at_) (g3 : ¬ (((C.ths.getD i thD).owned >>> (e.at_.tmod C.strs.length).toNat &&& 1#32).toNat : Int) = 0) : Calls Tryz.prog 33 #[.pointer (some ⟨bk, 0, none⟩), ePtr ta i 13 0, evA e] w0 fun r w' => r = .returned (.bool true) ∧ ShTo bk ta sa tc sc C (putTh C i { (C.ths.getD i thD) with var_ := e.at_, stored := (C.ths.getD i thD).stored ||| BitVec.twoPow 32 (e.at_.tmod C.strs.length).toNat }) w0 w' := by
  have S := sh_openT h hT hap
  have hm := sh_small h
  have hx : 0 ≤ e.at_.tmod C.strs.length ∧ e.at_.tmod C.strs.length < 32 := by have a := Int.tmod_nonneg (b := (C.strs.length : Int)) (a := e.at_) ge; have b := Int.tmod_lt_of_pos e.at_ (b := (C.strs.length : Int)) (by omega); omega
  refine enter1 Tryz.func33 rfl Tryz.ntmps33 rfl Tryz.results33 ?_
  repeat' (first | refine assign_b_l S rfl rfl ?_ | refine fieldAddr_l S rfl rfl rfl ?_ | refine fieldAddrE_l S rfl (by first | omega | decide | (simp; done) | (simp; omega)) rfl rfl ?_ | refine nilL ?_ | refine run_seq ?_ | refine run_skip ?_ | refine run_region ?_ | (refine box_a S rfl rfl rfl ?_; clear S; intro b w S) | refine move_e_l S rfl rfl ?_ | refine load_i_l S rfl rfl rfl rfl ?_ | refine nilCheckE_l S rfl (by first | omega | decide | (simp; done) | (simp; omega)) rfl ?_ | (refine storeE_i S rfl rfl (by omega) rfl ?_; clear S; intro w S) | refine run_cond_false rfl ?_ | refine thenQ_n ?_ | (refine run_draws (id := 1) S mixed ?_ ?_; · kernel_rfl) | (refine run_draws (id := 2) S mixed ?_ ?_; · kernel_rfl) | (refine nilQ ?_; clear S; intro w S) | refine onQ rfl rfl ?_ | refine fieldAddr_q rfl rfl rfl ?_ | refine fieldAddrE_q rfl (by first | omega | decide | (simp; done) | (simp; omega)) rfl rfl ?_ | refine load_i_q rfl rfl rfl rfl ?_ | refine loadE_i_q rfl (by first | omega | decide | (simp; done) | (simp; omega)) rfl rfl rfl ?_ | refine move_p_q rfl rfl ?_ | refine move_e_q rfl rfl ?_ | refine nilCheck_q rfl rfl ?_ | refine nilCheckE_q rfl (by first | omega | decide | (simp; done) | (simp; omega)) rfl ?_ | refine len_q rfl rfl ?_ | refine rem_q rfl rfl (by omega) rfl rfl ?_ | refine assign_i_q rfl rfl ?_ | (refine neq_q rfl rfl rfl ?_ ?_ <;> intro hcmp <;> try (exfalso; first | omega | exact hcmp (by decide) | exact absurd hcmp (by decide))) | refine move_b_q rfl rfl ?_ | (refine leq_q rfl rfl rfl ?_ ?_ <;> intro hcmp <;> try (exfalso; first | omega | exact hcmp (by decide) | exact absurd hcmp (by decide))) | refine pick_fb_q rfl rfl rfl ?_ | refine move_i_q rfl rfl ?_ | refine shrW_q rfl rfl (by omega) rfl ?_ | refine and1W_q rfl rfl rfl ?_ | (refine eql_q rfl rfl rfl ?_ ?_ <;> intro hcmp <;> try (exfalso; first | omega | exact hcmp (by decide) | exact absurd hcmp (by decide))) | refine load_o_q rfl rfl rfl rfl ?_)
  refine run_any S (L' := [evR b e]) (f := 10) mixed rfl ?_
  clear S
  intro w S1
  have S : Sat _ _ w [evR b e] := S1.sub
  all_goals (refine any_pure (i := 0) rfl (by kernel_rfl) S ?_; (refine move_e_x rfl rfl ?_))
  all_goals (refine any_pure (i := 4) rfl (by kernel_rfl) S ?_; refine move_i_x rfl rfl ?_)
  all_goals (refine any_pure (i := 5) rfl (by kernel_rfl) S ?_; refine shl1W_x rfl rfl (by omega) rfl ?_)
  all_goals (refine any_step (i := 1) rfl (by kernel_rfl) ?_; replace S := S1; clear S1; (refine nilCheckE_l S rfl (by omega) rfl ?_); refine nilL ?_; refine ⟨S.sub, ?_⟩; have S1 := S; replace S : Sat _ _ _ [evR b e] := S1.sub)
  all_goals (refine any_step (i := 2) rfl (by kernel_rfl) ?_; replace S := S1; clear S1; (refine fieldAddrE_l S rfl (by omega) rfl rfl ?_); refine nilL ?_; refine ⟨S.sub, ?_⟩; have S1 := S; replace S : Sat _ _ _ [evR b e] := S1.sub)
  all_goals (refine any_step (i := 3) rfl (by kernel_rfl) ?_; replace S := S1; clear S1; (refine loadE_i_l S rfl (by omega) rfl (by simp only [gset_at]; rfl) rfl ?_); refine nilL ?_; refine ⟨S.sub, ?_⟩; have S1 := S; replace S : Sat _ _ _ [evR b e] := S1.sub)
  all_goals (refine any_pure (i := 6) rfl (by kernel_rfl) S ?_; refine orW_x rfl rfl rfl ?_)
  all_goals (refine any_step (i := 7) rfl (by kernel_rfl) ?_; replace S := S1; clear S1; (refine nilCheckE_l S rfl (by omega) rfl ?_); refine nilL ?_; refine ⟨S.sub, ?_⟩; have S1 := S; replace S : Sat _ _ _ [evR b e] := S1.sub)
  all_goals (refine any_step (i := 8) rfl (by kernel_rfl) ?_; replace S := S1; clear S1; (refine fieldAddrE_l S rfl (by omega) rfl rfl ?_); refine nilL ?_; refine ⟨S.sub, ?_⟩; have S1 := S; replace S : Sat _ _ _ [evR b e] := S1.sub)
  all_goals (refine any_step (i := 9) rfl (by kernel_rfl) ?_; replace S := S1; clear S1; ((refine storeE_i S rfl rfl (by omega) rfl ?_; clear S; intro w S)); refine nilL ?_; refine ⟨S.sub, ?_⟩; have S1 := S; replace S : Sat _ _ _ [evR b e] := S1.sub)
  all_goals refine any_end (by kernel_rfl) ?_
  all_goals replace S := S1
  repeat' (first | refine assign_b_l S rfl rfl ?_ | refine nilL ?_ | refine run_seq ?_ | refine run_region ?_ | refine run_ret ?_ | refine thenQ_n ?_ | refine ret1_b rfl ?_)
  exact ⟨rfl, fin_t hi h0 (thirteen (by (simp only [gset_at]; rfl)) (by (simp only [gset_at]; rfl)) (by (simp only [gset_at]; rfl)) (by (simp only [gset_at]; rfl)) (by (simp only [gset_at]; rfl)) (by (simp only [gset_at]; rfl)) (by (simp only [gset_at]; rfl)) (by (simp only [gset_at]; rfl)) (by (simp only [gset_at]; rfl)) (by (simp only [gset_at]; rfl)) (by (simp only [gset_at]; rfl)) (by (simp only [gset_at]; rfl)) (by (simp only [gset_at]; rfl))) (fun k hk j => by simp only [gset_ne hk]) S.tl.tl, S.chg⟩
end
end Go.Proofs.YtpiodhdbdlfnhaaGreatDoor
namespace Go.Proofs.YtpiodhdbdlfnhaaGreatDoor
open Go.RowKit Go.Lib
set_option linter.unusedVariables false
set_option linter.unusedSimpArgs false
set_option maxHeartbeats 4000000
theorem perm5 {α : Type} (a b c d e : α) : [a, b, c, d, e].Perm [d, e, c, a, b] := by
  refine (List.perm_middle (a := d) (l₁ := [a, b, c]) (l₂ := [e])).trans (List.Perm.cons d ?_)
  refine (List.perm_middle (a := e) (l₁ := [a, b, c]) (l₂ := [])).trans (List.Perm.cons e ?_)
  exact List.perm_middle (a := c) (l₁ := [a, b]) (l₂ := [])
section
variable {bk : Nat} {ta sa : Option Addr} {tc sc : Nat} {C : ShS} {w0 : World} (h : (shR bk ta sa tc sc C).holds w0) (hT : tabR.holds w0) (hap : (shR bk ta sa tc sc C).apart tabR) {i : Nat} (hi : i < C.ths.length) (e : EvS) (h0 : 0 < C.strs.length)
include h hT hap hi h0
omit h0 in
theorem freed_at (hs : 0 ≤ e.at_ ∧ e.at_ < C.strs.length) (hs32 : C.strs.length ≤ 32) (hb : 0 ≤ (C.ths.getD i thD).commits ∧ (C.ths.getD i thD).commits ≤ 1000000) (g1 : (C.ths.getD i thD).at_ = 6 ∨ (C.ths.getD i thD).at_ = 5 ∧ ((C.ths.getD i thD).stored.toNat : Int) = (C.ths.getD i thD).owned.toNat) (g2 : e.at_ = leastW (C.ths.getD i thD).owned) : Calls Tryz.prog 34 #[.pointer (some ⟨bk, 0, none⟩), ePtr ta i 13 0, evA e] w0 fun r w' => r = .returned (.bool true) ∧ ShTo bk ta sa tc sc C (putTh (putSt C e.at_.toNat (-1, (C.ths.getD i thD).wv_)) i (freedT (C.ths.getD i thD) e.at_)) w0 w' := by
  have S := sh_openT h hT hap
  have hm := sh_small h
  have hs' : e.at_.toNat < C.strs.length := by omega
  refine enter1 Tryz.func34 rfl Tryz.ntmps34 rfl Tryz.results34 ?_
  rcases g1 with g1 | ⟨g1, g5⟩
  · skip
    repeat' (first | refine assign_b_l S rfl rfl ?_ | refine nilL ?_ | refine run_seq ?_ | refine run_region ?_ | (refine box_a S rfl rfl rfl ?_; clear S; intro b w S) | refine thenQ_n ?_)
    refine run_any S (L' := [evR b e, tabR, blk bk 5 (shC ta sa tc sc C) 76, thsR ta tc C.ths, strsR sa sc C.strs]) (f := 33) mixed rfl ?_
    clear S
    intro w S1
    have S : Sat _ _ w [evR b e, tabR, blk bk 5 (shC ta sa tc sc C) 76, thsR ta tc C.ths, strsR sa sc C.strs] := S1.sub
    all_goals (refine any_pure (i := 0) rfl (by kernel_rfl) S ?_; (refine move_e_x rfl rfl ?_))
    all_goals (refine any_pure (i := 1) rfl (by kernel_rfl) S ?_; (refine nilCheckE_x rfl (by first | omega | decide | (simp; done) | (simp; omega)) rfl ?_))
    all_goals (refine any_pure (i := 2) rfl (by kernel_rfl) S ?_; (refine fieldAddrE_x rfl (by first | omega | decide | (simp; done) | (simp; omega)) rfl rfl ?_))
    all_goals (refine any_pure (i := 3) rfl (by kernel_rfl) S ?_; (refine loadE_i_x rfl (by first | omega | decide | (simp; done) | (simp; omega)) rfl rfl rfl ?_))
    all_goals (refine any_pure (i := 4) rfl (by kernel_rfl) S ?_; (refine neq_x rfl rfl rfl ?_ ?_ <;> intro hcmp <;> try (exfalso; omega)))
    all_goals (refine any_pure (i := 5) rfl (by kernel_rfl) S ?_; refine move_b_x rfl rfl ?_)
    all_goals (refine any_pure (i := 6) rfl (by kernel_rfl) S ?_; refine offX rfl rfl rfl rfl ?_)
    all_goals (refine any_pure (i := 7) rfl (by kernel_rfl) S ?_; refine offX rfl rfl rfl rfl ?_)
    all_goals (refine any_pure (i := 8) rfl (by kernel_rfl) S ?_; refine offX rfl rfl rfl rfl ?_)
    all_goals (refine any_pure (i := 9) rfl (by kernel_rfl) S ?_; refine offX rfl rfl rfl rfl ?_)
    all_goals (refine any_pure (i := 10) rfl (by kernel_rfl) S ?_; refine offX rfl rfl rfl rfl ?_)
    all_goals (refine any_pure (i := 11) rfl (by kernel_rfl) S ?_; refine offX rfl rfl rfl rfl ?_)
    all_goals (refine any_pure (i := 12) rfl (by kernel_rfl) S ?_; refine offXU rfl rfl rfl ?_)
    all_goals (refine any_pure (i := 13) rfl (by kernel_rfl) S ?_; refine offXU rfl rfl rfl ?_)
    all_goals (refine any_pure (i := 14) rfl (by kernel_rfl) S ?_; refine offXU rfl rfl rfl ?_)
    all_goals (refine any_pure (i := 15) rfl (by kernel_rfl) S ?_; refine offXU rfl rfl rfl ?_)
    all_goals (refine any_pure (i := 16) rfl (by kernel_rfl) S ?_; refine offXU rfl rfl rfl ?_)
    all_goals (refine any_pure (i := 17) rfl (by kernel_rfl) S ?_; refine offXU rfl rfl rfl ?_)
    all_goals (refine any_pure (i := 18) rfl (by kernel_rfl) S ?_; refine offXU rfl rfl rfl ?_)
    all_goals (refine any_pure (i := 19) rfl (by kernel_rfl) S ?_; refine offXU rfl rfl rfl ?_)
    all_goals (refine any_pure (i := 20) rfl (by kernel_rfl) S ?_; refine offXU rfl rfl rfl ?_)
    all_goals (refine any_pure (i := 21) rfl (by kernel_rfl) S ?_; refine offX rfl rfl rfl rfl ?_)
    all_goals (refine any_pure (i := 22) rfl (by kernel_rfl) S ?_; (refine pick_fb_x rfl rfl rfl ?_))
    all_goals (refine any_pure (i := 23) rfl (by kernel_rfl) S ?_; refine move_b_x rfl rfl ?_)
    all_goals (refine any_pure (i := 24) rfl (by kernel_rfl) S ?_; (refine onX rfl rfl ?_; (first | refine fieldAddr_x rfl rfl rfl ?_ | refine fieldAddrE_x rfl (by first | omega | decide | (simp; done) | (simp; omega)) rfl rfl ?_)))
    all_goals (refine any_pure (i := 25) rfl (by kernel_rfl) S ?_; (refine onX rfl rfl ?_; (first | refine load_i_x rfl rfl rfl rfl ?_ | refine load_o_x rfl rfl rfl rfl ?_ | refine loadE_i_x rfl (by first | omega | decide | (simp; done) | (simp; omega)) rfl rfl rfl ?_ | refine loadE_i_x rfl (by omega) rfl (by simp only [gset_at]; rfl) rfl ?_ | refine loadE_o_x rfl (by first | omega | decide | (simp; done) | (simp; omega)) rfl rfl rfl ?_)))
    all_goals (refine any_pure (i := 26) rfl (by kernel_rfl) S ?_; (refine onX rfl rfl ?_; (first | refine move_p_x rfl rfl ?_ | refine move_e_x rfl rfl ?_ | refine move_o_x rfl rfl ?_)))
    all_goals (refine any_pure (i := 27) rfl (by kernel_rfl) S ?_; (refine onX rfl rfl ?_; (first | refine nilCheck_x rfl rfl ?_ | refine nilCheckE_x rfl (by first | omega | decide | (simp; done) | (simp; omega)) rfl ?_)))
    all_goals (refine any_pure (i := 28) rfl (by kernel_rfl) S ?_; (refine onX rfl rfl ?_; (first | refine fieldAddr_x rfl rfl rfl ?_ | refine fieldAddrE_x rfl (by first | omega | decide | (simp; done) | (simp; omega)) rfl rfl ?_)))
    all_goals (refine any_pure (i := 29) rfl (by kernel_rfl) S ?_; (refine onX rfl rfl ?_; (first | refine load_i_x rfl rfl rfl rfl ?_ | refine load_o_x rfl rfl rfl rfl ?_ | refine loadE_i_x rfl (by first | omega | decide | (simp; done) | (simp; omega)) rfl rfl rfl ?_ | refine loadE_i_x rfl (by omega) rfl (by simp only [gset_at]; rfl) rfl ?_ | refine loadE_o_x rfl (by first | omega | decide | (simp; done) | (simp; omega)) rfl rfl rfl ?_)))
    all_goals refine any_step (i := 30) rfl (by kernel_rfl) ?_
    all_goals refine onL rfl rfl ?_
    all_goals replace S := S1
    (refine callL (least_w S.second (C.ths.getD i thD).owned) rfl rfl ?_; rintro e w ⟨rfl, hb⟩; replace S := S.below hb; clear hb; refine ⟨_, rfl, ?_⟩)
    all_goals try refine nilL ?_
    all_goals refine ⟨S.sub, ?_⟩
    all_goals (have S1 := S; replace S : Sat _ _ _ [evR b e, tabR, blk bk 5 (shC ta sa tc sc C) 76, thsR ta tc C.ths, strsR sa sc C.strs] := S1.sub)
    all_goals (refine any_pure (i := 31) rfl (by kernel_rfl) S ?_; (refine onX rfl rfl ?_; (refine neq_x rfl rfl rfl ?_ ?_ <;> intro hcmp <;> try (exfalso; first | omega | exact hcmp (by decide) | exact absurd hcmp (by decide)))))
    all_goals (refine any_pure (i := 32) rfl (by kernel_rfl) S ?_; (refine pick_fb_x rfl rfl rfl ?_))
    all_goals refine any_end (by kernel_rfl) ?_
    all_goals replace S := S1
    repeat' (first | refine move_p_l S rfl rfl ?_ | refine move_e_l S rfl rfl ?_ | refine run_seq ?_ | refine run_skip ?_ | refine run_region ?_ | refine fieldAddr_l S rfl rfl rfl ?_ | refine load_i_l S rfl rfl rfl rfl ?_ | refine run_cond_false rfl ?_ | refine thenQ_n ?_)
    replace S := S.perm (L' := [thsR ta tc C.ths, strsR sa sc C.strs, blk bk 5 (shC ta sa tc sc C) 76, evR b e, tabR]) (List.Perm.symm (perm5 (evR b e) tabR (blk bk 5 (shC ta sa tc sc C) 76) (thsR ta tc C.ths) (strsR sa sc C.strs)))
    refine callL (leave_at S hi hs hs32) rfl rfl ?_
    clear S
    rintro r w ⟨rfl, S⟩
    refine ⟨_, rfl, ?_⟩
    replace S := S.perm (perm5 (evR b e) tabR (blk bk 5 (shC ta sa tc sc C) 76) _ _)
    repeat' (first | refine nilL ?_ | refine run_seq ?_ | refine thenQ_n ?_)
    refine run_any S (L' := [evR b e, blk bk 5 (shC ta sa tc sc C) 76, row ta C.ths.length tc 87 13 (gset (gL encTh thD C.ths) i 7 (wv (lessW (C.ths.getD i thD).owned e.at_)))]) (f := 13) mixed rfl ?_
    clear S
    intro w S1
    have S : Sat _ _ w [evR b e, blk bk 5 (shC ta sa tc sc C) 76, row ta C.ths.length tc 87 13 (gset (gL encTh thD C.ths) i 7 (wv (lessW (C.ths.getD i thD).owned e.at_)))] := S1.sub
    all_goals (refine any_pure (i := 0) rfl (by kernel_rfl) S ?_; (refine move_p_x rfl rfl ?_))
    all_goals (refine any_pure (i := 1) rfl (by kernel_rfl) S ?_; (refine nilCheck_x rfl rfl ?_))
    all_goals (refine any_pure (i := 2) rfl (by kernel_rfl) S ?_; (refine fieldAddr_x rfl rfl rfl ?_))
    all_goals (refine any_pure (i := 3) rfl (by kernel_rfl) S ?_; (refine load_o_x rfl rfl rfl rfl ?_))
    all_goals (refine any_pure (i := 4) rfl (by kernel_rfl) S ?_; (refine fieldAddr_x rfl rfl rfl ?_))
    all_goals (refine any_pure (i := 5) rfl (by kernel_rfl) S ?_; (refine load_i_x rfl rfl rfl rfl ?_))
    all_goals (refine any_pure (i := 6) rfl (by kernel_rfl) S ?_; (refine move_e_x rfl rfl ?_))
    all_goals (refine any_pure (i := 7) rfl (by kernel_rfl) S ?_; (refine nilCheckE_x rfl (by first | omega | decide | (simp; done) | (simp; omega)) rfl ?_))
    all_goals (refine any_pure (i := 8) rfl (by kernel_rfl) S ?_; (refine fieldAddrE_x rfl (by first | omega | decide | (simp; done) | (simp; omega)) rfl rfl ?_))
    all_goals (refine any_pure (i := 9) rfl (by kernel_rfl) S ?_; (refine loadE_i_x rfl (by omega) rfl (by simp only [gset_at]; rfl) rfl ?_))
    all_goals (refine any_step (i := 10) rfl (by kernel_rfl) ?_; replace S := S1; clear S1; (refine indexAddr_l S rfl rfl (idx_eq _) (by first | omega | decide | (simp; done) | (simp; omega)) rfl ?_); refine nilL ?_; refine ⟨S.sub, ?_⟩; have S1 := S; replace S : Sat _ _ _ [evR b e, blk bk 5 (shC ta sa tc sc C) 76, row ta C.ths.length tc 87 13 (gset (gL encTh thD C.ths) i 7 (wv (lessW (C.ths.getD i thD).owned e.at_)))] := S1.sub)
    all_goals (refine any_step (i := 11) rfl (by kernel_rfl) ?_; replace S := S1; clear S1; (refine fieldAddrE_l S rfl (by first | omega | decide | (simp; done) | (simp; omega)) rfl rfl ?_); refine nilL ?_; refine ⟨S.sub, ?_⟩; have S1 := S; replace S : Sat _ _ _ [evR b e, blk bk 5 (shC ta sa tc sc C) 76, row ta C.ths.length tc 87 13 (gset (gL encTh thD C.ths) i 7 (wv (lessW (C.ths.getD i thD).owned e.at_)))] := S1.sub)
    all_goals (refine any_step (i := 12) rfl (by kernel_rfl) ?_; replace S := S1; clear S1; ((refine storeE_i S rfl rfl (by omega) rfl ?_; clear S; intro w S)); refine nilL ?_; refine ⟨S.sub, ?_⟩; have S1 := S; replace S : Sat _ _ _ [evR b e, blk bk 5 (shC ta sa tc sc C) 76, row ta C.ths.length tc 87 13 (gset (gL encTh thD C.ths) i 7 (wv (lessW (C.ths.getD i thD).owned e.at_)))] := S1.sub)
    all_goals refine any_end (by kernel_rfl) ?_
    all_goals replace S := S1
    repeat' (first | refine move_e_l S rfl rfl ?_ | refine assign_b_l S rfl rfl ?_ | refine nilL ?_ | refine run_seq ?_ | refine run_skip ?_ | refine run_region ?_ | refine fieldAddrE_l S rfl (by first | omega | decide | (simp; done) | (simp; omega)) rfl rfl ?_ | refine loadE_i_l S rfl (by omega) rfl (by simp only [gset_at]; rfl) rfl ?_ | refine nilCheckE_l S rfl (by first | omega | decide | (simp; done) | (simp; omega)) rfl ?_ | (refine storeE_i S rfl rfl (by omega) rfl ?_; clear S; intro w S) | (refine eql_l S rfl rfl rfl ?_ ?_ <;> intro hcmp <;> try (exfalso; first | omega | exact hcmp (by decide) | exact absurd hcmp (by decide))) | refine run_ret ?_ | refine run_cond_true rfl ?_ | refine run_cond_false rfl ?_ | refine thenQ_n ?_ | refine ret1_b rfl ?_)
    · replace S := S.perm (L' := [row ta C.ths.length tc 87 13 (gset (gset (gL encTh thD C.ths) i 7 (wv (lessW (C.ths.getD i thD).owned e.at_))) i 0 (.int .i64 6)), evR b e, tabR, blk bk 5 (shC ta sa tc sc C) 76, row sa C.strs.length sc 74 2 (gset (gset (gL encP (0, 0) C.strs) e.at_.toNat 0 (.int .i64 (-1))) e.at_.toNat 1 (.int .i64 (C.ths.getD i thD).wv_))]) (List.Perm.symm (List.perm_middle (l₁ := [evR b e, tabR, blk bk 5 (shC ta sa tc sc C) 76]) (l₂ := [row sa C.strs.length sc 74 2 (gset (gset (gL encP (0, 0) C.strs) e.at_.toNat 0 (.int .i64 (-1))) e.at_.toNat 1 (.int .i64 (C.ths.getD i thD).wv_))])))
      refine callL (ends_at S hi (c := (C.ths.getD i thD).commits) (by simp only [gset_at]; rfl) hb) rfl rfl ?_
      clear S
      rintro r w ⟨rfl, S⟩
      refine ⟨_, rfl, ?_⟩
      replace S := S.perm (List.perm_middle (l₁ := [evR b e, tabR, blk bk 5 (shC ta sa tc sc C) 76]) (l₂ := [_]))
      repeat' (first | refine assign_b_l S rfl rfl ?_ | refine nilL ?_ | refine run_seq ?_ | refine run_region ?_ | refine run_ret ?_ | refine thenQ_n ?_ | refine ret1_b rfl ?_)
      have ef : freedT (C.ths.getD i thD) e.at_ = { (C.ths.getD i thD) with owned := lessW (C.ths.getD i thD).owned e.at_, at_ := 0, commits := (C.ths.getD i thD).commits + 1 } := by unfold freedT; rw [if_pos hcmp]
      rw [ef]
      exact ⟨rfl, fin_ts hi hs' (thirteen (by (simp only [gset_at]; rfl)) (by (simp only [gset_at]; rfl)) (by (simp only [gset_at]; rfl)) (by (simp only [gset_at]; rfl)) (by (simp only [gset_at]; rfl)) (by (simp only [gset_at]; rfl)) (by (simp only [gset_at]; rfl)) (by (simp only [gset_at]; rfl)) (by (simp only [gset_at]; rfl)) (by (simp only [gset_at]; rfl)) (by (simp only [gset_at]; rfl)) (by (simp only [gset_at]; rfl)) (by (simp only [gset_at]; rfl))) (fun k hk j => by simp only [gset_ne hk]) (by simp [gset]) (by simp [gset]) (fun k hk j => by simp only [gset_ne hk]) S.tl.tl, S.chg⟩
    · have ef : freedT (C.ths.getD i thD) e.at_ = { (C.ths.getD i thD) with owned := lessW (C.ths.getD i thD).owned e.at_, at_ := 6 } := by unfold freedT; rw [if_neg hcmp]
      rw [ef]
      exact ⟨rfl, fin_ts hi hs' (thirteen (by (simp only [gset_at]; rfl)) (by (simp only [gset_at]; rfl)) (by (simp only [gset_at]; rfl)) (by (simp only [gset_at]; rfl)) (by (simp only [gset_at]; rfl)) (by (simp only [gset_at]; rfl)) (by (simp only [gset_at]; rfl)) (by (simp only [gset_at]; rfl)) (by (simp only [gset_at]; rfl)) (by (simp only [gset_at]; rfl)) (by (simp only [gset_at]; rfl)) (by (simp only [gset_at]; rfl)) (by (simp only [gset_at]; rfl))) (fun k hk j => by simp only [gset_ne hk]) (by simp [gset]) (by simp [gset]) (fun k hk j => by simp only [gset_ne hk]) S.tl.tl, S.chg⟩
  · skip
    repeat' (first | refine assign_b_l S rfl rfl ?_ | refine nilL ?_ | refine run_seq ?_ | refine run_region ?_ | (refine box_a S rfl rfl rfl ?_; clear S; intro b w S) | refine thenQ_n ?_)
    refine run_any S (L' := [evR b e, tabR, blk bk 5 (shC ta sa tc sc C) 76, thsR ta tc C.ths, strsR sa sc C.strs]) (f := 33) mixed rfl ?_
    clear S
    intro w S1
    have S : Sat _ _ w [evR b e, tabR, blk bk 5 (shC ta sa tc sc C) 76, thsR ta tc C.ths, strsR sa sc C.strs] := S1.sub
    all_goals (refine any_pure (i := 0) rfl (by kernel_rfl) S ?_; (refine move_e_x rfl rfl ?_))
    all_goals (refine any_pure (i := 1) rfl (by kernel_rfl) S ?_; (refine nilCheckE_x rfl (by first | omega | decide | (simp; done) | (simp; omega)) rfl ?_))
    all_goals (refine any_pure (i := 2) rfl (by kernel_rfl) S ?_; (refine fieldAddrE_x rfl (by first | omega | decide | (simp; done) | (simp; omega)) rfl rfl ?_))
    all_goals (refine any_pure (i := 3) rfl (by kernel_rfl) S ?_; (refine loadE_i_x rfl (by first | omega | decide | (simp; done) | (simp; omega)) rfl rfl rfl ?_))
    all_goals (refine any_pure (i := 4) rfl (by kernel_rfl) S ?_; (refine neq_x rfl rfl rfl ?_ ?_ <;> intro hcmp <;> try (exfalso; omega)))
    all_goals (refine any_pure (i := 5) rfl (by kernel_rfl) S ?_; refine move_b_x rfl rfl ?_)
    all_goals (refine any_pure (i := 6) rfl (by kernel_rfl) S ?_; (refine onX rfl rfl ?_; (first | refine move_p_x rfl rfl ?_ | refine move_e_x rfl rfl ?_ | refine move_o_x rfl rfl ?_)))
    all_goals (refine any_pure (i := 7) rfl (by kernel_rfl) S ?_; (refine onX rfl rfl ?_; (first | refine nilCheck_x rfl rfl ?_ | refine nilCheckE_x rfl (by first | omega | decide | (simp; done) | (simp; omega)) rfl ?_)))
    all_goals (refine any_pure (i := 8) rfl (by kernel_rfl) S ?_; (refine onX rfl rfl ?_; (first | refine fieldAddr_x rfl rfl rfl ?_ | refine fieldAddrE_x rfl (by first | omega | decide | (simp; done) | (simp; omega)) rfl rfl ?_)))
    all_goals (refine any_pure (i := 9) rfl (by kernel_rfl) S ?_; (refine onX rfl rfl ?_; (first | refine load_i_x rfl rfl rfl rfl ?_ | refine load_o_x rfl rfl rfl rfl ?_ | refine loadE_i_x rfl (by first | omega | decide | (simp; done) | (simp; omega)) rfl rfl rfl ?_ | refine loadE_i_x rfl (by omega) rfl (by simp only [gset_at]; rfl) rfl ?_ | refine loadE_o_x rfl (by first | omega | decide | (simp; done) | (simp; omega)) rfl rfl rfl ?_)))
    all_goals (refine any_pure (i := 10) rfl (by kernel_rfl) S ?_; (refine onX rfl rfl ?_; (refine neq_x rfl rfl rfl ?_ ?_ <;> intro hcmp <;> try (exfalso; first | omega | exact hcmp (by decide) | exact absurd hcmp (by decide)))))
    all_goals (refine any_pure (i := 11) rfl (by kernel_rfl) S ?_; (refine onX rfl rfl ?_; refine move_b_x rfl rfl ?_))
    all_goals (refine any_pure (i := 12) rfl (by kernel_rfl) S ?_; (refine onX rfl rfl ?_; (first | refine move_p_x rfl rfl ?_ | refine move_e_x rfl rfl ?_ | refine move_o_x rfl rfl ?_)))
    all_goals (refine any_pure (i := 13) rfl (by kernel_rfl) S ?_; (refine onX rfl rfl ?_; (first | refine nilCheck_x rfl rfl ?_ | refine nilCheckE_x rfl (by first | omega | decide | (simp; done) | (simp; omega)) rfl ?_)))
    all_goals (refine any_pure (i := 14) rfl (by kernel_rfl) S ?_; (refine onX rfl rfl ?_; (first | refine fieldAddr_x rfl rfl rfl ?_ | refine fieldAddrE_x rfl (by first | omega | decide | (simp; done) | (simp; omega)) rfl rfl ?_)))
    all_goals (refine any_pure (i := 15) rfl (by kernel_rfl) S ?_; (refine onX rfl rfl ?_; (first | refine load_i_x rfl rfl rfl rfl ?_ | refine load_o_x rfl rfl rfl rfl ?_ | refine loadE_i_x rfl (by first | omega | decide | (simp; done) | (simp; omega)) rfl rfl rfl ?_ | refine loadE_i_x rfl (by omega) rfl (by simp only [gset_at]; rfl) rfl ?_ | refine loadE_o_x rfl (by first | omega | decide | (simp; done) | (simp; omega)) rfl rfl rfl ?_)))
    all_goals (refine any_pure (i := 16) rfl (by kernel_rfl) S ?_; (refine onX rfl rfl ?_; (first | refine move_p_x rfl rfl ?_ | refine move_e_x rfl rfl ?_ | refine move_o_x rfl rfl ?_)))
    all_goals (refine any_pure (i := 17) rfl (by kernel_rfl) S ?_; (refine onX rfl rfl ?_; (first | refine nilCheck_x rfl rfl ?_ | refine nilCheckE_x rfl (by first | omega | decide | (simp; done) | (simp; omega)) rfl ?_)))
    all_goals (refine any_pure (i := 18) rfl (by kernel_rfl) S ?_; (refine onX rfl rfl ?_; (first | refine fieldAddr_x rfl rfl rfl ?_ | refine fieldAddrE_x rfl (by first | omega | decide | (simp; done) | (simp; omega)) rfl rfl ?_)))
    all_goals (refine any_pure (i := 19) rfl (by kernel_rfl) S ?_; (refine onX rfl rfl ?_; (first | refine load_i_x rfl rfl rfl rfl ?_ | refine load_o_x rfl rfl rfl rfl ?_ | refine loadE_i_x rfl (by first | omega | decide | (simp; done) | (simp; omega)) rfl rfl rfl ?_ | refine loadE_i_x rfl (by omega) rfl (by simp only [gset_at]; rfl) rfl ?_ | refine loadE_o_x rfl (by first | omega | decide | (simp; done) | (simp; omega)) rfl rfl rfl ?_)))
    all_goals (refine any_pure (i := 20) rfl (by kernel_rfl) S ?_; (refine onX rfl rfl ?_; (refine neq_x rfl rfl rfl ?_ ?_ <;> intro hcmp <;> try (exfalso; first | omega | exact hcmp (by decide) | exact absurd hcmp (by decide)))))
    all_goals (refine any_pure (i := 21) rfl (by kernel_rfl) S ?_; (refine onX rfl rfl ?_; (first | refine pick_tb_x rfl rfl rfl ?_ | refine pick_fb_x rfl rfl rfl ?_)))
    all_goals (refine any_pure (i := 22) rfl (by kernel_rfl) S ?_; (refine pick_tb_x rfl rfl rfl ?_))
    all_goals (refine any_pure (i := 23) rfl (by kernel_rfl) S ?_; refine move_b_x rfl rfl ?_)
    all_goals (refine any_pure (i := 24) rfl (by kernel_rfl) S ?_; (refine onX rfl rfl ?_; (first | refine fieldAddr_x rfl rfl rfl ?_ | refine fieldAddrE_x rfl (by first | omega | decide | (simp; done) | (simp; omega)) rfl rfl ?_)))
    all_goals (refine any_pure (i := 25) rfl (by kernel_rfl) S ?_; (refine onX rfl rfl ?_; (first | refine load_i_x rfl rfl rfl rfl ?_ | refine load_o_x rfl rfl rfl rfl ?_ | refine loadE_i_x rfl (by first | omega | decide | (simp; done) | (simp; omega)) rfl rfl rfl ?_ | refine loadE_i_x rfl (by omega) rfl (by simp only [gset_at]; rfl) rfl ?_ | refine loadE_o_x rfl (by first | omega | decide | (simp; done) | (simp; omega)) rfl rfl rfl ?_)))
    all_goals (refine any_pure (i := 26) rfl (by kernel_rfl) S ?_; (refine onX rfl rfl ?_; (first | refine move_p_x rfl rfl ?_ | refine move_e_x rfl rfl ?_ | refine move_o_x rfl rfl ?_)))
    all_goals (refine any_pure (i := 27) rfl (by kernel_rfl) S ?_; (refine onX rfl rfl ?_; (first | refine nilCheck_x rfl rfl ?_ | refine nilCheckE_x rfl (by first | omega | decide | (simp; done) | (simp; omega)) rfl ?_)))
    all_goals (refine any_pure (i := 28) rfl (by kernel_rfl) S ?_; (refine onX rfl rfl ?_; (first | refine fieldAddr_x rfl rfl rfl ?_ | refine fieldAddrE_x rfl (by first | omega | decide | (simp; done) | (simp; omega)) rfl rfl ?_)))
    all_goals (refine any_pure (i := 29) rfl (by kernel_rfl) S ?_; (refine onX rfl rfl ?_; (first | refine load_i_x rfl rfl rfl rfl ?_ | refine load_o_x rfl rfl rfl rfl ?_ | refine loadE_i_x rfl (by first | omega | decide | (simp; done) | (simp; omega)) rfl rfl rfl ?_ | refine loadE_i_x rfl (by omega) rfl (by simp only [gset_at]; rfl) rfl ?_ | refine loadE_o_x rfl (by first | omega | decide | (simp; done) | (simp; omega)) rfl rfl rfl ?_)))
    all_goals refine any_step (i := 30) rfl (by kernel_rfl) ?_
    all_goals refine onL rfl rfl ?_
    all_goals replace S := S1
    (refine callL (least_w S.second (C.ths.getD i thD).owned) rfl rfl ?_; rintro e w ⟨rfl, hb⟩; replace S := S.below hb; clear hb; refine ⟨_, rfl, ?_⟩)
    all_goals try refine nilL ?_
    all_goals refine ⟨S.sub, ?_⟩
    all_goals (have S1 := S; replace S : Sat _ _ _ [evR b e, tabR, blk bk 5 (shC ta sa tc sc C) 76, thsR ta tc C.ths, strsR sa sc C.strs] := S1.sub)
    all_goals (refine any_pure (i := 31) rfl (by kernel_rfl) S ?_; (refine onX rfl rfl ?_; (refine neq_x rfl rfl rfl ?_ ?_ <;> intro hcmp <;> try (exfalso; first | omega | exact hcmp (by decide) | exact absurd hcmp (by decide)))))
    all_goals (refine any_pure (i := 32) rfl (by kernel_rfl) S ?_; (refine pick_fb_x rfl rfl rfl ?_))
    all_goals refine any_end (by kernel_rfl) ?_
    all_goals replace S := S1
    repeat' (first | refine move_p_l S rfl rfl ?_ | refine move_e_l S rfl rfl ?_ | refine run_seq ?_ | refine run_skip ?_ | refine run_region ?_ | refine fieldAddr_l S rfl rfl rfl ?_ | refine load_i_l S rfl rfl rfl rfl ?_ | refine run_cond_false rfl ?_ | refine thenQ_n ?_)
    replace S := S.perm (L' := [thsR ta tc C.ths, strsR sa sc C.strs, blk bk 5 (shC ta sa tc sc C) 76, evR b e, tabR]) (List.Perm.symm (perm5 (evR b e) tabR (blk bk 5 (shC ta sa tc sc C) 76) (thsR ta tc C.ths) (strsR sa sc C.strs)))
    refine callL (leave_at S hi hs hs32) rfl rfl ?_
    clear S
    rintro r w ⟨rfl, S⟩
    refine ⟨_, rfl, ?_⟩
    replace S := S.perm (perm5 (evR b e) tabR (blk bk 5 (shC ta sa tc sc C) 76) _ _)
    repeat' (first | refine nilL ?_ | refine run_seq ?_ | refine thenQ_n ?_)
    refine run_any S (L' := [evR b e, blk bk 5 (shC ta sa tc sc C) 76, row ta C.ths.length tc 87 13 (gset (gL encTh thD C.ths) i 7 (wv (lessW (C.ths.getD i thD).owned e.at_)))]) (f := 13) mixed rfl ?_
    clear S
    intro w S1
    have S : Sat _ _ w [evR b e, blk bk 5 (shC ta sa tc sc C) 76, row ta C.ths.length tc 87 13 (gset (gL encTh thD C.ths) i 7 (wv (lessW (C.ths.getD i thD).owned e.at_)))] := S1.sub
    all_goals (refine any_pure (i := 0) rfl (by kernel_rfl) S ?_; (refine move_p_x rfl rfl ?_))
    all_goals (refine any_pure (i := 1) rfl (by kernel_rfl) S ?_; (refine nilCheck_x rfl rfl ?_))
    all_goals (refine any_pure (i := 2) rfl (by kernel_rfl) S ?_; (refine fieldAddr_x rfl rfl rfl ?_))
    all_goals (refine any_pure (i := 3) rfl (by kernel_rfl) S ?_; (refine load_o_x rfl rfl rfl rfl ?_))
    all_goals (refine any_pure (i := 4) rfl (by kernel_rfl) S ?_; (refine fieldAddr_x rfl rfl rfl ?_))
    all_goals (refine any_pure (i := 5) rfl (by kernel_rfl) S ?_; (refine load_i_x rfl rfl rfl rfl ?_))
    all_goals (refine any_pure (i := 6) rfl (by kernel_rfl) S ?_; (refine move_e_x rfl rfl ?_))
    all_goals (refine any_pure (i := 7) rfl (by kernel_rfl) S ?_; (refine nilCheckE_x rfl (by first | omega | decide | (simp; done) | (simp; omega)) rfl ?_))
    all_goals (refine any_pure (i := 8) rfl (by kernel_rfl) S ?_; (refine fieldAddrE_x rfl (by first | omega | decide | (simp; done) | (simp; omega)) rfl rfl ?_))
    all_goals (refine any_pure (i := 9) rfl (by kernel_rfl) S ?_; (refine loadE_i_x rfl (by omega) rfl (by simp only [gset_at]; rfl) rfl ?_))
    all_goals (refine any_step (i := 10) rfl (by kernel_rfl) ?_; replace S := S1; clear S1; (refine indexAddr_l S rfl rfl (idx_eq _) (by first | omega | decide | (simp; done) | (simp; omega)) rfl ?_); refine nilL ?_; refine ⟨S.sub, ?_⟩; have S1 := S; replace S : Sat _ _ _ [evR b e, blk bk 5 (shC ta sa tc sc C) 76, row ta C.ths.length tc 87 13 (gset (gL encTh thD C.ths) i 7 (wv (lessW (C.ths.getD i thD).owned e.at_)))] := S1.sub)
    all_goals (refine any_step (i := 11) rfl (by kernel_rfl) ?_; replace S := S1; clear S1; (refine fieldAddrE_l S rfl (by first | omega | decide | (simp; done) | (simp; omega)) rfl rfl ?_); refine nilL ?_; refine ⟨S.sub, ?_⟩; have S1 := S; replace S : Sat _ _ _ [evR b e, blk bk 5 (shC ta sa tc sc C) 76, row ta C.ths.length tc 87 13 (gset (gL encTh thD C.ths) i 7 (wv (lessW (C.ths.getD i thD).owned e.at_)))] := S1.sub)
    all_goals (refine any_step (i := 12) rfl (by kernel_rfl) ?_; replace S := S1; clear S1; ((refine storeE_i S rfl rfl (by omega) rfl ?_; clear S; intro w S)); refine nilL ?_; refine ⟨S.sub, ?_⟩; have S1 := S; replace S : Sat _ _ _ [evR b e, blk bk 5 (shC ta sa tc sc C) 76, row ta C.ths.length tc 87 13 (gset (gL encTh thD C.ths) i 7 (wv (lessW (C.ths.getD i thD).owned e.at_)))] := S1.sub)
    all_goals refine any_end (by kernel_rfl) ?_
    all_goals replace S := S1
    repeat' (first | refine move_e_l S rfl rfl ?_ | refine assign_b_l S rfl rfl ?_ | refine nilL ?_ | refine run_seq ?_ | refine run_skip ?_ | refine run_region ?_ | refine fieldAddrE_l S rfl (by first | omega | decide | (simp; done) | (simp; omega)) rfl rfl ?_ | refine loadE_i_l S rfl (by omega) rfl (by simp only [gset_at]; rfl) rfl ?_ | refine nilCheckE_l S rfl (by first | omega | decide | (simp; done) | (simp; omega)) rfl ?_ | (refine storeE_i S rfl rfl (by omega) rfl ?_; clear S; intro w S) | (refine eql_l S rfl rfl rfl ?_ ?_ <;> intro hcmp <;> try (exfalso; first | omega | exact hcmp (by decide) | exact absurd hcmp (by decide))) | refine run_ret ?_ | refine run_cond_true rfl ?_ | refine run_cond_false rfl ?_ | refine thenQ_n ?_ | refine ret1_b rfl ?_)
    · replace S := S.perm (L' := [row ta C.ths.length tc 87 13 (gset (gset (gL encTh thD C.ths) i 7 (wv (lessW (C.ths.getD i thD).owned e.at_))) i 0 (.int .i64 6)), evR b e, tabR, blk bk 5 (shC ta sa tc sc C) 76, row sa C.strs.length sc 74 2 (gset (gset (gL encP (0, 0) C.strs) e.at_.toNat 0 (.int .i64 (-1))) e.at_.toNat 1 (.int .i64 (C.ths.getD i thD).wv_))]) (List.Perm.symm (List.perm_middle (l₁ := [evR b e, tabR, blk bk 5 (shC ta sa tc sc C) 76]) (l₂ := [row sa C.strs.length sc 74 2 (gset (gset (gL encP (0, 0) C.strs) e.at_.toNat 0 (.int .i64 (-1))) e.at_.toNat 1 (.int .i64 (C.ths.getD i thD).wv_))])))
      refine callL (ends_at S hi (c := (C.ths.getD i thD).commits) (by simp only [gset_at]; rfl) hb) rfl rfl ?_
      clear S
      rintro r w ⟨rfl, S⟩
      refine ⟨_, rfl, ?_⟩
      replace S := S.perm (List.perm_middle (l₁ := [evR b e, tabR, blk bk 5 (shC ta sa tc sc C) 76]) (l₂ := [_]))
      repeat' (first | refine assign_b_l S rfl rfl ?_ | refine nilL ?_ | refine run_seq ?_ | refine run_region ?_ | refine run_ret ?_ | refine thenQ_n ?_ | refine ret1_b rfl ?_)
      have ef : freedT (C.ths.getD i thD) e.at_ = { (C.ths.getD i thD) with owned := lessW (C.ths.getD i thD).owned e.at_, at_ := 0, commits := (C.ths.getD i thD).commits + 1 } := by unfold freedT; rw [if_pos hcmp]
      rw [ef]
      exact ⟨rfl, fin_ts hi hs' (thirteen (by (simp only [gset_at]; rfl)) (by (simp only [gset_at]; rfl)) (by (simp only [gset_at]; rfl)) (by (simp only [gset_at]; rfl)) (by (simp only [gset_at]; rfl)) (by (simp only [gset_at]; rfl)) (by (simp only [gset_at]; rfl)) (by (simp only [gset_at]; rfl)) (by (simp only [gset_at]; rfl)) (by (simp only [gset_at]; rfl)) (by (simp only [gset_at]; rfl)) (by (simp only [gset_at]; rfl)) (by (simp only [gset_at]; rfl))) (fun k hk j => by simp only [gset_ne hk]) (by simp [gset]) (by simp [gset]) (fun k hk j => by simp only [gset_ne hk]) S.tl.tl, S.chg⟩
    · have ef : freedT (C.ths.getD i thD) e.at_ = { (C.ths.getD i thD) with owned := lessW (C.ths.getD i thD).owned e.at_, at_ := 6 } := by unfold freedT; rw [if_neg hcmp]
      rw [ef]
      exact ⟨rfl, fin_ts hi hs' (thirteen (by (simp only [gset_at]; rfl)) (by (simp only [gset_at]; rfl)) (by (simp only [gset_at]; rfl)) (by (simp only [gset_at]; rfl)) (by (simp only [gset_at]; rfl)) (by (simp only [gset_at]; rfl)) (by (simp only [gset_at]; rfl)) (by (simp only [gset_at]; rfl)) (by (simp only [gset_at]; rfl)) (by (simp only [gset_at]; rfl)) (by (simp only [gset_at]; rfl)) (by (simp only [gset_at]; rfl)) (by (simp only [gset_at]; rfl))) (fun k hk j => by simp only [gset_ne hk]) (by simp [gset]) (by simp [gset]) (fun k hk j => by simp only [gset_ne hk]) S.tl.tl, S.chg⟩
theorem busy_at (hw : e.why = 4) (hs : 0 ≤ e.at_ ∧ e.at_ < C.strs.length) (g1 : (C.ths.getD i thD).at_ = 1 ∨ (C.ths.getD i thD).at_ = 3) (g2 : (C.ths.getD i thD).locked < e.at_) (g3 : ¬ (C.strs.getD e.at_.toNat (0, 0)).1 = -1 ∧ ¬ (C.strs.getD e.at_.toNat (0, 0)).1 = e.thread) : Calls Tryz.prog 35 #[.pointer (some ⟨bk, 0, none⟩), ePtr ta i 13 0, evA e] w0 fun r w' => r = .returned (.bool true) ∧ ShTo bk ta sa tc sc C (putTh C i (abortT (C.ths.getD i thD) e.why)) w0 w' := by
  have S := sh_openT h hT hap
  have hm := sh_small h
  refine enter1 Tryz.func35 rfl Tryz.ntmps35 rfl Tryz.results35 ?_
  rcases g1 with g1 | g1
  · skip
    repeat' (first | refine assign_b_l S rfl rfl ?_ | (refine eql_l S rfl rfl rfl ?_ ?_ <;> intro hcmp <;> try (exfalso; first | omega | exact hcmp (by decide) | exact absurd hcmp (by decide))) | refine fieldAddr_l S rfl rfl rfl ?_ | refine nilL ?_ | refine run_seq ?_ | refine run_region ?_ | refine load_i_l S rfl rfl rfl rfl ?_ | (refine box_a S rfl rfl rfl ?_; clear S; intro b w S) | refine run_block ?_ | refine run_cond_true rfl ?_ | refine run_cond_false rfl ?_ | refine thenQ_n ?_)
    refine run_any S (L' := [evR b e, tabR, blk bk 5 (shC ta sa tc sc C) 76, thsR ta tc C.ths, strsR sa sc C.strs]) (f := 29) mixed rfl ?_
    clear S
    intro w S1
    have S : Sat _ _ w [evR b e, tabR, blk bk 5 (shC ta sa tc sc C) 76, thsR ta tc C.ths, strsR sa sc C.strs] := S1.sub
    all_goals (refine any_pure (i := 0) rfl (by kernel_rfl) S ?_; (refine move_e_x rfl rfl ?_))
    all_goals (refine any_pure (i := 1) rfl (by kernel_rfl) S ?_; (refine nilCheckE_x rfl (by first | omega | decide | (simp; done) | (simp; omega)) rfl ?_))
    all_goals (refine any_pure (i := 2) rfl (by kernel_rfl) S ?_; (refine fieldAddrE_x rfl (by first | omega | decide | (simp; done) | (simp; omega)) rfl rfl ?_))
    all_goals (refine any_pure (i := 3) rfl (by kernel_rfl) S ?_; (refine loadE_i_x rfl (by first | omega | decide | (simp; done) | (simp; omega)) rfl rfl rfl ?_))
    all_goals (refine any_pure (i := 4) rfl (by kernel_rfl) S ?_; (refine eql_x rfl rfl rfl ?_ ?_ <;> intro hcmp <;> try (exfalso; omega)))
    all_goals (refine any_pure (i := 5) rfl (by kernel_rfl) S ?_; refine move_b_x rfl rfl ?_)
    all_goals (refine any_pure (i := 6) rfl (by kernel_rfl) S ?_; refine offX rfl rfl rfl rfl ?_)
    all_goals (refine any_pure (i := 7) rfl (by kernel_rfl) S ?_; refine offX rfl rfl rfl rfl ?_)
    all_goals (refine any_pure (i := 8) rfl (by kernel_rfl) S ?_; refine offX rfl rfl rfl rfl ?_)
    all_goals (refine any_pure (i := 9) rfl (by kernel_rfl) S ?_; refine offX rfl rfl rfl rfl ?_)
    all_goals (refine any_pure (i := 10) rfl (by kernel_rfl) S ?_; refine offX rfl rfl rfl rfl ?_)
    all_goals (refine any_pure (i := 11) rfl (by kernel_rfl) S ?_; (refine pick_tb_x rfl rfl rfl ?_))
    all_goals (refine any_pure (i := 12) rfl (by kernel_rfl) S ?_; refine move_b_x rfl rfl ?_)
    all_goals (refine any_pure (i := 13) rfl (by kernel_rfl) S ?_; (refine onX rfl rfl ?_; (first | refine fieldAddr_x rfl rfl rfl ?_ | refine fieldAddrE_x rfl (by first | omega | decide | (simp; done) | (simp; omega)) rfl rfl ?_)))
    all_goals (refine any_pure (i := 14) rfl (by kernel_rfl) S ?_; (refine onX rfl rfl ?_; (first | refine load_i_x rfl rfl rfl rfl ?_ | refine load_o_x rfl rfl rfl rfl ?_ | refine loadE_i_x rfl (by first | omega | decide | (simp; done) | (simp; omega)) rfl rfl rfl ?_ | refine loadE_i_x rfl (by omega) rfl (by simp only [gset_at]; rfl) rfl ?_ | refine loadE_o_x rfl (by first | omega | decide | (simp; done) | (simp; omega)) rfl rfl rfl ?_)))
    all_goals (refine any_pure (i := 15) rfl (by kernel_rfl) S ?_; (refine onX rfl rfl ?_; (first | refine move_p_x rfl rfl ?_ | refine move_e_x rfl rfl ?_ | refine move_o_x rfl rfl ?_)))
    all_goals (refine any_pure (i := 16) rfl (by kernel_rfl) S ?_; (refine onX rfl rfl ?_; (first | refine nilCheck_x rfl rfl ?_ | refine nilCheckE_x rfl (by first | omega | decide | (simp; done) | (simp; omega)) rfl ?_)))
    all_goals (refine any_pure (i := 17) rfl (by kernel_rfl) S ?_; (refine onX rfl rfl ?_; (first | refine fieldAddr_x rfl rfl rfl ?_ | refine fieldAddrE_x rfl (by first | omega | decide | (simp; done) | (simp; omega)) rfl rfl ?_)))
    all_goals (refine any_pure (i := 18) rfl (by kernel_rfl) S ?_; (refine onX rfl rfl ?_; (first | refine load_i_x rfl rfl rfl rfl ?_ | refine load_o_x rfl rfl rfl rfl ?_ | refine loadE_i_x rfl (by first | omega | decide | (simp; done) | (simp; omega)) rfl rfl rfl ?_ | refine loadE_i_x rfl (by omega) rfl (by simp only [gset_at]; rfl) rfl ?_ | refine loadE_o_x rfl (by first | omega | decide | (simp; done) | (simp; omega)) rfl rfl rfl ?_)))
    all_goals (refine any_pure (i := 19) rfl (by kernel_rfl) S ?_; (refine onX rfl rfl ?_; (refine gtr_x rfl rfl rfl ?_ ?_ <;> intro hcmp <;> try (exfalso; first | omega | exact hcmp (by decide) | exact absurd hcmp (by decide)))))
    all_goals (refine any_pure (i := 20) rfl (by kernel_rfl) S ?_; (refine pick_tb_x rfl rfl rfl ?_))
    all_goals (refine any_pure (i := 21) rfl (by kernel_rfl) S ?_; refine move_b_x rfl rfl ?_)
    all_goals (refine any_pure (i := 22) rfl (by kernel_rfl) S ?_; (refine onX rfl rfl ?_; (first | refine move_p_x rfl rfl ?_ | refine move_e_x rfl rfl ?_ | refine move_o_x rfl rfl ?_)))
    all_goals (refine any_pure (i := 23) rfl (by kernel_rfl) S ?_; (refine onX rfl rfl ?_; (first | refine fieldAddr_x rfl rfl rfl ?_ | refine fieldAddrE_x rfl (by first | omega | decide | (simp; done) | (simp; omega)) rfl rfl ?_)))
    all_goals (refine any_pure (i := 24) rfl (by kernel_rfl) S ?_; (refine onX rfl rfl ?_; (first | refine load_i_x rfl rfl rfl rfl ?_ | refine load_o_x rfl rfl rfl rfl ?_ | refine loadE_i_x rfl (by first | omega | decide | (simp; done) | (simp; omega)) rfl rfl rfl ?_ | refine loadE_i_x rfl (by omega) rfl (by simp only [gset_at]; rfl) rfl ?_ | refine loadE_o_x rfl (by first | omega | decide | (simp; done) | (simp; omega)) rfl rfl rfl ?_)))
    all_goals (refine any_pure (i := 25) rfl (by kernel_rfl) S ?_; (refine onX rfl rfl ?_; (first | refine loadN_x rfl rfl rfl ?_ | refine loadEN_x rfl (by first | omega | decide | (simp; done) | (simp; omega)) rfl rfl ?_)))
    all_goals refine any_step (i := 26) rfl (by kernel_rfl) ?_
    all_goals refine onL rfl rfl ?_
    all_goals replace S := S1
    (refine callL (others_at (sh_shut S.tl.tl) e e.at_ hs) rfl rfl ?_; rintro e w ⟨rfl, hb⟩; replace S := S.below hb; clear hb; refine ⟨_, rfl, ?_⟩)
    rw [decide_eq_true g3]
    all_goals try refine nilL ?_
    all_goals refine ⟨S.sub, ?_⟩
    all_goals (have S1 := S; replace S : Sat _ _ _ [evR b e, tabR, blk bk 5 (shC ta sa tc sc C) 76, thsR ta tc C.ths, strsR sa sc C.strs] := S1.sub)
    all_goals (refine any_pure (i := 27) rfl (by kernel_rfl) S ?_; (refine pick_tb_x rfl rfl rfl ?_))
    all_goals (refine any_pure (i := 28) rfl (by kernel_rfl) S ?_; refine assign_b_x rfl rfl ?_)
    all_goals refine any_end (by kernel_rfl) ?_
    all_goals replace S := S1
    repeat' (first | refine nilL ?_ | refine run_seq ?_ | refine run_skip ?_ | refine run_region ?_ | refine move_b_l S rfl rfl ?_ | refine not_l S rfl rfl ?_ | refine run_cond_false rfl ?_ | refine thenQ_n ?_ | refine blockQ_n ?_)
    refine run_any S (L' := [evR b e]) (f := 11) mixed rfl ?_
    clear S
    intro w S1
    have S : Sat _ _ w [evR b e] := S1.sub
    all_goals (refine any_pure (i := 0) rfl (by kernel_rfl) S ?_; (refine move_e_x rfl rfl ?_))
    all_goals (refine any_pure (i := 1) rfl (by kernel_rfl) S ?_; (refine move_e_x rfl rfl ?_))
    all_goals (refine any_pure (i := 2) rfl (by kernel_rfl) S ?_; (refine fieldAddr_x rfl rfl rfl ?_))
    all_goals (refine any_pure (i := 3) rfl (by kernel_rfl) S ?_; (refine load_i_x rfl rfl rfl rfl ?_))
    all_goals (refine any_pure (i := 4) rfl (by kernel_rfl) S ?_; (refine eql_x rfl rfl rfl ?_ ?_ <;> intro hcmp <;> try (exfalso; omega)))
    all_goals (refine any_step (i := 5) rfl (by kernel_rfl) ?_; replace S := S1; clear S1; (refine nilCheckE_l S rfl (by first | omega | decide | (simp; done) | (simp; omega)) rfl ?_); refine nilL ?_; refine ⟨S.sub, ?_⟩; have S1 := S; replace S : Sat _ _ _ [evR b e] := S1.sub)
    all_goals (refine any_step (i := 6) rfl (by kernel_rfl) ?_; replace S := S1; clear S1; (refine fieldAddrE_l S rfl (by first | omega | decide | (simp; done) | (simp; omega)) rfl rfl ?_); refine nilL ?_; refine ⟨S.sub, ?_⟩; have S1 := S; replace S : Sat _ _ _ [evR b e] := S1.sub)
    all_goals (refine any_step (i := 7) rfl (by kernel_rfl) ?_; replace S := S1; clear S1; ((refine storeE_i S rfl rfl (by omega) rfl ?_; clear S; intro w S)); refine nilL ?_; refine ⟨S.sub, ?_⟩; have S1 := S; replace S : Sat _ _ _ [evR b e] := S1.sub)
    all_goals (refine any_step (i := 8) rfl (by kernel_rfl) ?_; replace S := S1; clear S1; (refine nilCheckE_l S rfl (by first | omega | decide | (simp; done) | (simp; omega)) rfl ?_); refine nilL ?_; refine ⟨S.sub, ?_⟩; have S1 := S; replace S : Sat _ _ _ [evR b e] := S1.sub)
    all_goals (refine any_step (i := 9) rfl (by kernel_rfl) ?_; replace S := S1; clear S1; (refine fieldAddrE_l S rfl (by first | omega | decide | (simp; done) | (simp; omega)) rfl rfl ?_); refine nilL ?_; refine ⟨S.sub, ?_⟩; have S1 := S; replace S : Sat _ _ _ [evR b e] := S1.sub)
    all_goals (refine any_step (i := 10) rfl (by kernel_rfl) ?_; replace S := S1; clear S1; ((refine storeE_b S rfl rfl (by omega) rfl ?_; clear S; intro w S)); refine nilL ?_; refine ⟨S.sub, ?_⟩; have S1 := S; replace S : Sat _ _ _ [evR b e] := S1.sub)
    all_goals refine any_end (by kernel_rfl) ?_
    all_goals replace S := S1
    repeat' (first | refine assign_b_l S rfl rfl ?_ | (refine eql_l S rfl rfl rfl ?_ ?_ <;> intro hcmp <;> try (exfalso; first | omega | exact hcmp (by decide) | exact absurd hcmp (by decide))) | refine nilL ?_ | refine run_seq ?_ | refine run_skip ?_ | refine run_region ?_ | refine fieldAddrE_l S rfl (by first | omega | decide | (simp; done) | (simp; omega)) rfl rfl ?_ | refine move_e_l S rfl rfl ?_ | refine loadE_i_l S rfl (by omega) rfl (by simp only [gset_at]; rfl) rfl ?_ | refine nilCheckE_l S rfl (by first | omega | decide | (simp; done) | (simp; omega)) rfl ?_ | (refine storeE_i S rfl rfl (by omega) rfl ?_; clear S; intro w S) | refine run_ret ?_ | refine run_cond_true rfl ?_ | refine run_cond_false rfl ?_ | refine thenQ_n ?_ | refine ret1_b rfl ?_)
    · have ef : abortT (C.ths.getD i thD) e.why = { (C.ths.getD i thD) with at_ := 0, full := decide (e.why = 6) } := by unfold abortT; rw [if_pos hcmp]
      rw [ef, hw]
      exact ⟨rfl, fin_t hi h0 (thirteen (by (simp only [gset_at]; rfl)) (by (simp only [gset_at]; rfl)) (by (simp only [gset_at]; rfl)) (by (simp only [gset_at]; rfl)) (by (simp only [gset_at]; rfl)) (by (simp only [gset_at]; rfl)) (by (simp only [gset_at]; rfl)) (by (simp only [gset_at]; rfl)) (by (simp only [gset_at]; rfl)) (by (simp only [gset_at]; rfl)) (by (simp only [gset_at]; rfl)) (by (simp only [gset_at]; rfl)) (by (simp only [gset_at]; rfl))) (fun k hk j => by simp only [gset_ne hk]) S.tl.tl, S.chg⟩
    · have ef : abortT (C.ths.getD i thD) e.why = { (C.ths.getD i thD) with at_ := 7, full := decide (e.why = 6) } := by unfold abortT; rw [if_neg hcmp]
      rw [ef, hw]
      exact ⟨rfl, fin_t hi h0 (thirteen (by (simp only [gset_at]; rfl)) (by (simp only [gset_at]; rfl)) (by (simp only [gset_at]; rfl)) (by (simp only [gset_at]; rfl)) (by (simp only [gset_at]; rfl)) (by (simp only [gset_at]; rfl)) (by (simp only [gset_at]; rfl)) (by (simp only [gset_at]; rfl)) (by (simp only [gset_at]; rfl)) (by (simp only [gset_at]; rfl)) (by (simp only [gset_at]; rfl)) (by (simp only [gset_at]; rfl)) (by (simp only [gset_at]; rfl))) (fun k hk j => by simp only [gset_ne hk]) S.tl.tl, S.chg⟩
  · skip
    repeat' (first | refine assign_b_l S rfl rfl ?_ | (refine eql_l S rfl rfl rfl ?_ ?_ <;> intro hcmp <;> try (exfalso; first | omega | exact hcmp (by decide) | exact absurd hcmp (by decide))) | refine fieldAddr_l S rfl rfl rfl ?_ | refine nilL ?_ | refine run_seq ?_ | refine run_region ?_ | refine load_i_l S rfl rfl rfl rfl ?_ | (refine box_a S rfl rfl rfl ?_; clear S; intro b w S) | refine run_block ?_ | refine run_cond_true rfl ?_ | refine run_cond_false rfl ?_ | refine thenQ_n ?_)
    refine run_any S (L' := [evR b e, tabR, blk bk 5 (shC ta sa tc sc C) 76, thsR ta tc C.ths, strsR sa sc C.strs]) (f := 29) mixed rfl ?_
    clear S
    intro w S1
    have S : Sat _ _ w [evR b e, tabR, blk bk 5 (shC ta sa tc sc C) 76, thsR ta tc C.ths, strsR sa sc C.strs] := S1.sub
    all_goals (refine any_pure (i := 0) rfl (by kernel_rfl) S ?_; (refine move_e_x rfl rfl ?_))
    all_goals (refine any_pure (i := 1) rfl (by kernel_rfl) S ?_; (refine nilCheckE_x rfl (by first | omega | decide | (simp; done) | (simp; omega)) rfl ?_))
    all_goals (refine any_pure (i := 2) rfl (by kernel_rfl) S ?_; (refine fieldAddrE_x rfl (by first | omega | decide | (simp; done) | (simp; omega)) rfl rfl ?_))
    all_goals (refine any_pure (i := 3) rfl (by kernel_rfl) S ?_; (refine loadE_i_x rfl (by first | omega | decide | (simp; done) | (simp; omega)) rfl rfl rfl ?_))
    all_goals (refine any_pure (i := 4) rfl (by kernel_rfl) S ?_; (refine eql_x rfl rfl rfl ?_ ?_ <;> intro hcmp <;> try (exfalso; omega)))
    all_goals (refine any_pure (i := 5) rfl (by kernel_rfl) S ?_; refine move_b_x rfl rfl ?_)
    all_goals (refine any_pure (i := 6) rfl (by kernel_rfl) S ?_; (refine onX rfl rfl ?_; (first | refine move_p_x rfl rfl ?_ | refine move_e_x rfl rfl ?_ | refine move_o_x rfl rfl ?_)))
    all_goals (refine any_pure (i := 7) rfl (by kernel_rfl) S ?_; (refine onX rfl rfl ?_; (first | refine nilCheck_x rfl rfl ?_ | refine nilCheckE_x rfl (by first | omega | decide | (simp; done) | (simp; omega)) rfl ?_)))
    all_goals (refine any_pure (i := 8) rfl (by kernel_rfl) S ?_; (refine onX rfl rfl ?_; (first | refine fieldAddr_x rfl rfl rfl ?_ | refine fieldAddrE_x rfl (by first | omega | decide | (simp; done) | (simp; omega)) rfl rfl ?_)))
    all_goals (refine any_pure (i := 9) rfl (by kernel_rfl) S ?_; (refine onX rfl rfl ?_; (first | refine load_i_x rfl rfl rfl rfl ?_ | refine load_o_x rfl rfl rfl rfl ?_ | refine loadE_i_x rfl (by first | omega | decide | (simp; done) | (simp; omega)) rfl rfl rfl ?_ | refine loadE_i_x rfl (by omega) rfl (by simp only [gset_at]; rfl) rfl ?_ | refine loadE_o_x rfl (by first | omega | decide | (simp; done) | (simp; omega)) rfl rfl rfl ?_)))
    all_goals (refine any_pure (i := 10) rfl (by kernel_rfl) S ?_; (refine onX rfl rfl ?_; (refine eql_x rfl rfl rfl ?_ ?_ <;> intro hcmp <;> try (exfalso; first | omega | exact hcmp (by decide) | exact absurd hcmp (by decide)))))
    all_goals (refine any_pure (i := 11) rfl (by kernel_rfl) S ?_; (refine pick_fb_x rfl rfl rfl ?_))
    all_goals (refine any_pure (i := 12) rfl (by kernel_rfl) S ?_; refine move_b_x rfl rfl ?_)
    all_goals (refine any_pure (i := 13) rfl (by kernel_rfl) S ?_; (refine onX rfl rfl ?_; (first | refine fieldAddr_x rfl rfl rfl ?_ | refine fieldAddrE_x rfl (by first | omega | decide | (simp; done) | (simp; omega)) rfl rfl ?_)))
    all_goals (refine any_pure (i := 14) rfl (by kernel_rfl) S ?_; (refine onX rfl rfl ?_; (first | refine load_i_x rfl rfl rfl rfl ?_ | refine load_o_x rfl rfl rfl rfl ?_ | refine loadE_i_x rfl (by first | omega | decide | (simp; done) | (simp; omega)) rfl rfl rfl ?_ | refine loadE_i_x rfl (by omega) rfl (by simp only [gset_at]; rfl) rfl ?_ | refine loadE_o_x rfl (by first | omega | decide | (simp; done) | (simp; omega)) rfl rfl rfl ?_)))
    all_goals (refine any_pure (i := 15) rfl (by kernel_rfl) S ?_; (refine onX rfl rfl ?_; (first | refine move_p_x rfl rfl ?_ | refine move_e_x rfl rfl ?_ | refine move_o_x rfl rfl ?_)))
    all_goals (refine any_pure (i := 16) rfl (by kernel_rfl) S ?_; (refine onX rfl rfl ?_; (first | refine nilCheck_x rfl rfl ?_ | refine nilCheckE_x rfl (by first | omega | decide | (simp; done) | (simp; omega)) rfl ?_)))
    all_goals (refine any_pure (i := 17) rfl (by kernel_rfl) S ?_; (refine onX rfl rfl ?_; (first | refine fieldAddr_x rfl rfl rfl ?_ | refine fieldAddrE_x rfl (by first | omega | decide | (simp; done) | (simp; omega)) rfl rfl ?_)))
    all_goals (refine any_pure (i := 18) rfl (by kernel_rfl) S ?_; (refine onX rfl rfl ?_; (first | refine load_i_x rfl rfl rfl rfl ?_ | refine load_o_x rfl rfl rfl rfl ?_ | refine loadE_i_x rfl (by first | omega | decide | (simp; done) | (simp; omega)) rfl rfl rfl ?_ | refine loadE_i_x rfl (by omega) rfl (by simp only [gset_at]; rfl) rfl ?_ | refine loadE_o_x rfl (by first | omega | decide | (simp; done) | (simp; omega)) rfl rfl rfl ?_)))
    all_goals (refine any_pure (i := 19) rfl (by kernel_rfl) S ?_; (refine onX rfl rfl ?_; (refine gtr_x rfl rfl rfl ?_ ?_ <;> intro hcmp <;> try (exfalso; first | omega | exact hcmp (by decide) | exact absurd hcmp (by decide)))))
    all_goals (refine any_pure (i := 20) rfl (by kernel_rfl) S ?_; (refine pick_tb_x rfl rfl rfl ?_))
    all_goals (refine any_pure (i := 21) rfl (by kernel_rfl) S ?_; refine move_b_x rfl rfl ?_)
    all_goals (refine any_pure (i := 22) rfl (by kernel_rfl) S ?_; (refine onX rfl rfl ?_; (first | refine move_p_x rfl rfl ?_ | refine move_e_x rfl rfl ?_ | refine move_o_x rfl rfl ?_)))
    all_goals (refine any_pure (i := 23) rfl (by kernel_rfl) S ?_; (refine onX rfl rfl ?_; (first | refine fieldAddr_x rfl rfl rfl ?_ | refine fieldAddrE_x rfl (by first | omega | decide | (simp; done) | (simp; omega)) rfl rfl ?_)))
    all_goals (refine any_pure (i := 24) rfl (by kernel_rfl) S ?_; (refine onX rfl rfl ?_; (first | refine load_i_x rfl rfl rfl rfl ?_ | refine load_o_x rfl rfl rfl rfl ?_ | refine loadE_i_x rfl (by first | omega | decide | (simp; done) | (simp; omega)) rfl rfl rfl ?_ | refine loadE_i_x rfl (by omega) rfl (by simp only [gset_at]; rfl) rfl ?_ | refine loadE_o_x rfl (by first | omega | decide | (simp; done) | (simp; omega)) rfl rfl rfl ?_)))
    all_goals (refine any_pure (i := 25) rfl (by kernel_rfl) S ?_; (refine onX rfl rfl ?_; (first | refine loadN_x rfl rfl rfl ?_ | refine loadEN_x rfl (by first | omega | decide | (simp; done) | (simp; omega)) rfl rfl ?_)))
    all_goals refine any_step (i := 26) rfl (by kernel_rfl) ?_
    all_goals refine onL rfl rfl ?_
    all_goals replace S := S1
    (refine callL (others_at (sh_shut S.tl.tl) e e.at_ hs) rfl rfl ?_; rintro e w ⟨rfl, hb⟩; replace S := S.below hb; clear hb; refine ⟨_, rfl, ?_⟩)
    rw [decide_eq_true g3]
    all_goals try refine nilL ?_
    all_goals refine ⟨S.sub, ?_⟩
    all_goals (have S1 := S; replace S : Sat _ _ _ [evR b e, tabR, blk bk 5 (shC ta sa tc sc C) 76, thsR ta tc C.ths, strsR sa sc C.strs] := S1.sub)
    all_goals (refine any_pure (i := 27) rfl (by kernel_rfl) S ?_; (refine pick_tb_x rfl rfl rfl ?_))
    all_goals (refine any_pure (i := 28) rfl (by kernel_rfl) S ?_; refine assign_b_x rfl rfl ?_)
    all_goals refine any_end (by kernel_rfl) ?_
    all_goals replace S := S1
    repeat' (first | refine nilL ?_ | refine run_seq ?_ | refine run_skip ?_ | refine run_region ?_ | refine move_b_l S rfl rfl ?_ | refine not_l S rfl rfl ?_ | refine run_cond_false rfl ?_ | refine thenQ_n ?_ | refine blockQ_n ?_)
    refine run_any S (L' := [evR b e]) (f := 11) mixed rfl ?_
    clear S
    intro w S1
    have S : Sat _ _ w [evR b e] := S1.sub
    all_goals (refine any_pure (i := 0) rfl (by kernel_rfl) S ?_; (refine move_e_x rfl rfl ?_))
    all_goals (refine any_pure (i := 1) rfl (by kernel_rfl) S ?_; (refine move_e_x rfl rfl ?_))
    all_goals (refine any_pure (i := 2) rfl (by kernel_rfl) S ?_; (refine fieldAddr_x rfl rfl rfl ?_))
    all_goals (refine any_pure (i := 3) rfl (by kernel_rfl) S ?_; (refine load_i_x rfl rfl rfl rfl ?_))
    all_goals (refine any_pure (i := 4) rfl (by kernel_rfl) S ?_; (refine eql_x rfl rfl rfl ?_ ?_ <;> intro hcmp <;> try (exfalso; omega)))
    all_goals (refine any_step (i := 5) rfl (by kernel_rfl) ?_; replace S := S1; clear S1; (refine nilCheckE_l S rfl (by first | omega | decide | (simp; done) | (simp; omega)) rfl ?_); refine nilL ?_; refine ⟨S.sub, ?_⟩; have S1 := S; replace S : Sat _ _ _ [evR b e] := S1.sub)
    all_goals (refine any_step (i := 6) rfl (by kernel_rfl) ?_; replace S := S1; clear S1; (refine fieldAddrE_l S rfl (by first | omega | decide | (simp; done) | (simp; omega)) rfl rfl ?_); refine nilL ?_; refine ⟨S.sub, ?_⟩; have S1 := S; replace S : Sat _ _ _ [evR b e] := S1.sub)
    all_goals (refine any_step (i := 7) rfl (by kernel_rfl) ?_; replace S := S1; clear S1; ((refine storeE_i S rfl rfl (by omega) rfl ?_; clear S; intro w S)); refine nilL ?_; refine ⟨S.sub, ?_⟩; have S1 := S; replace S : Sat _ _ _ [evR b e] := S1.sub)
    all_goals (refine any_step (i := 8) rfl (by kernel_rfl) ?_; replace S := S1; clear S1; (refine nilCheckE_l S rfl (by first | omega | decide | (simp; done) | (simp; omega)) rfl ?_); refine nilL ?_; refine ⟨S.sub, ?_⟩; have S1 := S; replace S : Sat _ _ _ [evR b e] := S1.sub)
    all_goals (refine any_step (i := 9) rfl (by kernel_rfl) ?_; replace S := S1; clear S1; (refine fieldAddrE_l S rfl (by first | omega | decide | (simp; done) | (simp; omega)) rfl rfl ?_); refine nilL ?_; refine ⟨S.sub, ?_⟩; have S1 := S; replace S : Sat _ _ _ [evR b e] := S1.sub)
    all_goals (refine any_step (i := 10) rfl (by kernel_rfl) ?_; replace S := S1; clear S1; ((refine storeE_b S rfl rfl (by omega) rfl ?_; clear S; intro w S)); refine nilL ?_; refine ⟨S.sub, ?_⟩; have S1 := S; replace S : Sat _ _ _ [evR b e] := S1.sub)
    all_goals refine any_end (by kernel_rfl) ?_
    all_goals replace S := S1
    repeat' (first | refine assign_b_l S rfl rfl ?_ | (refine eql_l S rfl rfl rfl ?_ ?_ <;> intro hcmp <;> try (exfalso; first | omega | exact hcmp (by decide) | exact absurd hcmp (by decide))) | refine nilL ?_ | refine run_seq ?_ | refine run_skip ?_ | refine run_region ?_ | refine fieldAddrE_l S rfl (by first | omega | decide | (simp; done) | (simp; omega)) rfl rfl ?_ | refine move_e_l S rfl rfl ?_ | refine loadE_i_l S rfl (by omega) rfl (by simp only [gset_at]; rfl) rfl ?_ | refine nilCheckE_l S rfl (by first | omega | decide | (simp; done) | (simp; omega)) rfl ?_ | (refine storeE_i S rfl rfl (by omega) rfl ?_; clear S; intro w S) | refine run_ret ?_ | refine run_cond_true rfl ?_ | refine run_cond_false rfl ?_ | refine thenQ_n ?_ | refine ret1_b rfl ?_)
    · have ef : abortT (C.ths.getD i thD) e.why = { (C.ths.getD i thD) with at_ := 0, full := decide (e.why = 6) } := by unfold abortT; rw [if_pos hcmp]
      rw [ef, hw]
      exact ⟨rfl, fin_t hi h0 (thirteen (by (simp only [gset_at]; rfl)) (by (simp only [gset_at]; rfl)) (by (simp only [gset_at]; rfl)) (by (simp only [gset_at]; rfl)) (by (simp only [gset_at]; rfl)) (by (simp only [gset_at]; rfl)) (by (simp only [gset_at]; rfl)) (by (simp only [gset_at]; rfl)) (by (simp only [gset_at]; rfl)) (by (simp only [gset_at]; rfl)) (by (simp only [gset_at]; rfl)) (by (simp only [gset_at]; rfl)) (by (simp only [gset_at]; rfl))) (fun k hk j => by simp only [gset_ne hk]) S.tl.tl, S.chg⟩
    · have ef : abortT (C.ths.getD i thD) e.why = { (C.ths.getD i thD) with at_ := 7, full := decide (e.why = 6) } := by unfold abortT; rw [if_neg hcmp]
      rw [ef, hw]
      exact ⟨rfl, fin_t hi h0 (thirteen (by (simp only [gset_at]; rfl)) (by (simp only [gset_at]; rfl)) (by (simp only [gset_at]; rfl)) (by (simp only [gset_at]; rfl)) (by (simp only [gset_at]; rfl)) (by (simp only [gset_at]; rfl)) (by (simp only [gset_at]; rfl)) (by (simp only [gset_at]; rfl)) (by (simp only [gset_at]; rfl)) (by (simp only [gset_at]; rfl)) (by (simp only [gset_at]; rfl)) (by (simp only [gset_at]; rfl)) (by (simp only [gset_at]; rfl))) (fun k hk j => by simp only [gset_ne hk]) S.tl.tl, S.chg⟩
theorem pstale_at (hw : e.why = 5) (hs : 0 ≤ e.at_ ∧ e.at_ < C.strs.length) (g1 : (C.ths.getD i thD).at_ = 4) (g2 : e.at_ = leastW (C.ths.getD i thD).check) (g3 : (¬ (C.strs.getD e.at_.toNat (0, 0)).1 = -1 ∧ ¬ (C.strs.getD e.at_.toNat (0, 0)).1 = e.thread) ∨ (C.ths.getD i thD).rv < (C.strs.getD e.at_.toNat (0, 0)).2) : Calls Tryz.prog 35 #[.pointer (some ⟨bk, 0, none⟩), ePtr ta i 13 0, evA e] w0 fun r w' => r = .returned (.bool true) ∧ ShTo bk ta sa tc sc C (putTh C i (abortT (C.ths.getD i thD) e.why)) w0 w' := by
  have S := sh_openT h hT hap
  have hm := sh_small h
  refine enter1 Tryz.func35 rfl Tryz.ntmps35 rfl Tryz.results35 ?_
  rcases g3 with g3 | g3
  · skip
    repeat' (first | refine assign_b_l S rfl rfl ?_ | (refine eql_l S rfl rfl rfl ?_ ?_ <;> intro hcmp <;> try (exfalso; first | omega | exact hcmp (by decide) | exact absurd hcmp (by decide))) | refine fieldAddr_l S rfl rfl rfl ?_ | refine nilL ?_ | refine run_seq ?_ | refine run_region ?_ | refine load_i_l S rfl rfl rfl rfl ?_ | (refine box_a S rfl rfl rfl ?_; clear S; intro b w S) | refine run_block ?_ | refine run_cond_true rfl ?_ | refine run_cond_false rfl ?_ | refine thenQ_n ?_)
    refine run_any S (L' := [evR b e, tabR, blk bk 5 (shC ta sa tc sc C) 76, thsR ta tc C.ths, strsR sa sc C.strs]) (f := 30) mixed rfl ?_
    clear S
    intro w S1
    have S : Sat _ _ w [evR b e, tabR, blk bk 5 (shC ta sa tc sc C) 76, thsR ta tc C.ths, strsR sa sc C.strs] := S1.sub
    all_goals (refine any_pure (i := 0) rfl (by kernel_rfl) S ?_; (refine move_e_x rfl rfl ?_))
    all_goals (refine any_pure (i := 1) rfl (by kernel_rfl) S ?_; (refine nilCheckE_x rfl (by first | omega | decide | (simp; done) | (simp; omega)) rfl ?_))
    all_goals (refine any_pure (i := 2) rfl (by kernel_rfl) S ?_; (refine fieldAddrE_x rfl (by first | omega | decide | (simp; done) | (simp; omega)) rfl rfl ?_))
    all_goals (refine any_pure (i := 3) rfl (by kernel_rfl) S ?_; (refine loadE_i_x rfl (by first | omega | decide | (simp; done) | (simp; omega)) rfl rfl rfl ?_))
    all_goals (refine any_pure (i := 4) rfl (by kernel_rfl) S ?_; (refine eql_x rfl rfl rfl ?_ ?_ <;> intro hcmp <;> try (exfalso; omega)))
    all_goals (refine any_pure (i := 5) rfl (by kernel_rfl) S ?_; refine move_b_x rfl rfl ?_)
    all_goals (refine any_pure (i := 6) rfl (by kernel_rfl) S ?_; (refine onX rfl rfl ?_; (first | refine fieldAddr_x rfl rfl rfl ?_ | refine fieldAddrE_x rfl (by first | omega | decide | (simp; done) | (simp; omega)) rfl rfl ?_)))
    all_goals (refine any_pure (i := 7) rfl (by kernel_rfl) S ?_; (refine onX rfl rfl ?_; (first | refine load_i_x rfl rfl rfl rfl ?_ | refine load_o_x rfl rfl rfl rfl ?_ | refine loadE_i_x rfl (by first | omega | decide | (simp; done) | (simp; omega)) rfl rfl rfl ?_ | refine loadE_i_x rfl (by omega) rfl (by simp only [gset_at]; rfl) rfl ?_ | refine loadE_o_x rfl (by first | omega | decide | (simp; done) | (simp; omega)) rfl rfl rfl ?_)))
    all_goals (refine any_pure (i := 8) rfl (by kernel_rfl) S ?_; (refine onX rfl rfl ?_; (first | refine move_p_x rfl rfl ?_ | refine move_e_x rfl rfl ?_ | refine move_o_x rfl rfl ?_)))
    all_goals (refine any_pure (i := 9) rfl (by kernel_rfl) S ?_; (refine onX rfl rfl ?_; (first | refine nilCheck_x rfl rfl ?_ | refine nilCheckE_x rfl (by first | omega | decide | (simp; done) | (simp; omega)) rfl ?_)))
    all_goals (refine any_pure (i := 10) rfl (by kernel_rfl) S ?_; (refine onX rfl rfl ?_; (first | refine fieldAddr_x rfl rfl rfl ?_ | refine fieldAddrE_x rfl (by first | omega | decide | (simp; done) | (simp; omega)) rfl rfl ?_)))
    all_goals (refine any_pure (i := 11) rfl (by kernel_rfl) S ?_; (refine onX rfl rfl ?_; (first | refine load_i_x rfl rfl rfl rfl ?_ | refine load_o_x rfl rfl rfl rfl ?_ | refine loadE_i_x rfl (by first | omega | decide | (simp; done) | (simp; omega)) rfl rfl rfl ?_ | refine loadE_i_x rfl (by omega) rfl (by simp only [gset_at]; rfl) rfl ?_ | refine loadE_o_x rfl (by first | omega | decide | (simp; done) | (simp; omega)) rfl rfl rfl ?_)))
    all_goals refine any_step (i := 12) rfl (by kernel_rfl) ?_
    all_goals refine onL rfl rfl ?_
    all_goals replace S := S1
    (refine callL (least_w S.second (C.ths.getD i thD).check) rfl rfl ?_; rintro e w ⟨rfl, hb⟩; replace S := S.below hb; clear hb; refine ⟨_, rfl, ?_⟩)
    all_goals try refine nilL ?_
    all_goals refine ⟨S.sub, ?_⟩
    all_goals (have S1 := S; replace S : Sat _ _ _ [evR b e, tabR, blk bk 5 (shC ta sa tc sc C) 76, thsR ta tc C.ths, strsR sa sc C.strs] := S1.sub)
    all_goals (refine any_pure (i := 13) rfl (by kernel_rfl) S ?_; (refine onX rfl rfl ?_; (refine eql_x rfl rfl rfl ?_ ?_ <;> intro hcmp <;> try (exfalso; first | omega | exact hcmp (by decide) | exact absurd hcmp (by decide)))))
    all_goals (refine any_pure (i := 14) rfl (by kernel_rfl) S ?_; (refine pick_tb_x rfl rfl rfl ?_))
    all_goals (refine any_pure (i := 15) rfl (by kernel_rfl) S ?_; refine move_b_x rfl rfl ?_)
    all_goals (refine any_pure (i := 16) rfl (by kernel_rfl) S ?_; (refine onX rfl rfl ?_; (first | refine move_p_x rfl rfl ?_ | refine move_e_x rfl rfl ?_ | refine move_o_x rfl rfl ?_)))
    all_goals (refine any_pure (i := 17) rfl (by kernel_rfl) S ?_; (refine onX rfl rfl ?_; (first | refine fieldAddr_x rfl rfl rfl ?_ | refine fieldAddrE_x rfl (by first | omega | decide | (simp; done) | (simp; omega)) rfl rfl ?_)))
    all_goals (refine any_pure (i := 18) rfl (by kernel_rfl) S ?_; (refine onX rfl rfl ?_; (first | refine load_i_x rfl rfl rfl rfl ?_ | refine load_o_x rfl rfl rfl rfl ?_ | refine loadE_i_x rfl (by first | omega | decide | (simp; done) | (simp; omega)) rfl rfl rfl ?_ | refine loadE_i_x rfl (by omega) rfl (by simp only [gset_at]; rfl) rfl ?_ | refine loadE_o_x rfl (by first | omega | decide | (simp; done) | (simp; omega)) rfl rfl rfl ?_)))
    all_goals (refine any_pure (i := 19) rfl (by kernel_rfl) S ?_; (refine onX rfl rfl ?_; (first | refine loadN_x rfl rfl rfl ?_ | refine loadEN_x rfl (by first | omega | decide | (simp; done) | (simp; omega)) rfl rfl ?_)))
    all_goals refine any_step (i := 20) rfl (by kernel_rfl) ?_
    all_goals refine onL rfl rfl ?_
    all_goals replace S := S1
    (refine callL (others_at (sh_shut S.tl.tl) e e.at_ hs) rfl rfl ?_; rintro e w ⟨rfl, hb⟩; replace S := S.below hb; clear hb; refine ⟨_, rfl, ?_⟩)
    rw [decide_eq_true g3]
    all_goals try refine nilL ?_
    all_goals refine ⟨S.sub, ?_⟩
    all_goals (have S1 := S; replace S : Sat _ _ _ [evR b e, tabR, blk bk 5 (shC ta sa tc sc C) 76, thsR ta tc C.ths, strsR sa sc C.strs] := S1.sub)
    all_goals (refine any_pure (i := 21) rfl (by kernel_rfl) S ?_; (refine onX rfl rfl ?_; refine move_b_x rfl rfl ?_))
    all_goals (refine any_pure (i := 22) rfl (by kernel_rfl) S ?_; refine offX rfl rfl rfl rfl ?_)
    all_goals (refine any_pure (i := 23) rfl (by kernel_rfl) S ?_; refine offX rfl rfl rfl rfl ?_)
    all_goals (refine any_pure (i := 24) rfl (by kernel_rfl) S ?_; refine offX rfl rfl rfl rfl ?_)
    all_goals (refine any_pure (i := 25) rfl (by kernel_rfl) S ?_; refine offX rfl rfl rfl rfl ?_)
    all_goals refine any_step (i := 26) rfl (by kernel_rfl) ?_
    all_goals (first | (refine offL rfl rfl rfl rfl ?_; refine nilL ?_) | (refine offLU rfl rfl rfl ?_; refine nilL ?_) | (refine offL0 rfl rfl rfl ?_; refine nilL ?_); refine ⟨S.sub, ?_⟩)
    all_goals replace S := S1
    all_goals try refine nilL ?_
    all_goals refine ⟨S.sub, ?_⟩
    all_goals (have S1 := S; replace S : Sat _ _ _ [evR b e, tabR, blk bk 5 (shC ta sa tc sc C) 76, thsR ta tc C.ths, strsR sa sc C.strs] := S1.sub)
    all_goals (refine any_pure (i := 27) rfl (by kernel_rfl) S ?_; (refine onX rfl rfl ?_; (first | refine pick_tb_x rfl rfl rfl ?_ | refine pick_fb_x rfl rfl rfl ?_)))
    all_goals (refine any_pure (i := 28) rfl (by kernel_rfl) S ?_; (refine pick_tb_x rfl rfl rfl ?_))
    all_goals (refine any_pure (i := 29) rfl (by kernel_rfl) S ?_; refine assign_b_x rfl rfl ?_)
    all_goals refine any_end (by kernel_rfl) ?_
    all_goals replace S := S1
    repeat' (first | refine nilL ?_ | refine run_seq ?_ | refine run_skip ?_ | refine run_region ?_ | refine move_b_l S rfl rfl ?_ | refine not_l S rfl rfl ?_ | refine run_cond_false rfl ?_ | refine thenQ_n ?_ | refine blockQ_n ?_)
    refine run_any S (L' := [evR b e]) (f := 11) mixed rfl ?_
    clear S
    intro w S1
    have S : Sat _ _ w [evR b e] := S1.sub
    all_goals (refine any_pure (i := 0) rfl (by kernel_rfl) S ?_; (refine move_e_x rfl rfl ?_))
    all_goals (refine any_pure (i := 1) rfl (by kernel_rfl) S ?_; (refine move_e_x rfl rfl ?_))
    all_goals (refine any_pure (i := 2) rfl (by kernel_rfl) S ?_; (refine fieldAddr_x rfl rfl rfl ?_))
    all_goals (refine any_pure (i := 3) rfl (by kernel_rfl) S ?_; (refine load_i_x rfl rfl rfl rfl ?_))
    all_goals (refine any_pure (i := 4) rfl (by kernel_rfl) S ?_; (refine eql_x rfl rfl rfl ?_ ?_ <;> intro hcmp <;> try (exfalso; omega)))
    all_goals (refine any_step (i := 5) rfl (by kernel_rfl) ?_; replace S := S1; clear S1; (refine nilCheckE_l S rfl (by first | omega | decide | (simp; done) | (simp; omega)) rfl ?_); refine nilL ?_; refine ⟨S.sub, ?_⟩; have S1 := S; replace S : Sat _ _ _ [evR b e] := S1.sub)
    all_goals (refine any_step (i := 6) rfl (by kernel_rfl) ?_; replace S := S1; clear S1; (refine fieldAddrE_l S rfl (by first | omega | decide | (simp; done) | (simp; omega)) rfl rfl ?_); refine nilL ?_; refine ⟨S.sub, ?_⟩; have S1 := S; replace S : Sat _ _ _ [evR b e] := S1.sub)
    all_goals (refine any_step (i := 7) rfl (by kernel_rfl) ?_; replace S := S1; clear S1; ((refine storeE_i S rfl rfl (by omega) rfl ?_; clear S; intro w S)); refine nilL ?_; refine ⟨S.sub, ?_⟩; have S1 := S; replace S : Sat _ _ _ [evR b e] := S1.sub)
    all_goals (refine any_step (i := 8) rfl (by kernel_rfl) ?_; replace S := S1; clear S1; (refine nilCheckE_l S rfl (by first | omega | decide | (simp; done) | (simp; omega)) rfl ?_); refine nilL ?_; refine ⟨S.sub, ?_⟩; have S1 := S; replace S : Sat _ _ _ [evR b e] := S1.sub)
    all_goals (refine any_step (i := 9) rfl (by kernel_rfl) ?_; replace S := S1; clear S1; (refine fieldAddrE_l S rfl (by first | omega | decide | (simp; done) | (simp; omega)) rfl rfl ?_); refine nilL ?_; refine ⟨S.sub, ?_⟩; have S1 := S; replace S : Sat _ _ _ [evR b e] := S1.sub)
    all_goals (refine any_step (i := 10) rfl (by kernel_rfl) ?_; replace S := S1; clear S1; ((refine storeE_b S rfl rfl (by omega) rfl ?_; clear S; intro w S)); refine nilL ?_; refine ⟨S.sub, ?_⟩; have S1 := S; replace S : Sat _ _ _ [evR b e] := S1.sub)
    all_goals refine any_end (by kernel_rfl) ?_
    all_goals replace S := S1
    repeat' (first | refine assign_b_l S rfl rfl ?_ | (refine eql_l S rfl rfl rfl ?_ ?_ <;> intro hcmp <;> try (exfalso; first | omega | exact hcmp (by decide) | exact absurd hcmp (by decide))) | refine nilL ?_ | refine run_seq ?_ | refine run_skip ?_ | refine run_region ?_ | refine fieldAddrE_l S rfl (by first | omega | decide | (simp; done) | (simp; omega)) rfl rfl ?_ | refine move_e_l S rfl rfl ?_ | refine loadE_i_l S rfl (by omega) rfl (by simp only [gset_at]; rfl) rfl ?_ | refine nilCheckE_l S rfl (by first | omega | decide | (simp; done) | (simp; omega)) rfl ?_ | (refine storeE_i S rfl rfl (by omega) rfl ?_; clear S; intro w S) | refine run_ret ?_ | refine run_cond_true rfl ?_ | refine run_cond_false rfl ?_ | refine thenQ_n ?_ | refine ret1_b rfl ?_)
    · have ef : abortT (C.ths.getD i thD) e.why = { (C.ths.getD i thD) with at_ := 0, full := decide (e.why = 6) } := by unfold abortT; rw [if_pos hcmp]
      rw [ef, hw]
      exact ⟨rfl, fin_t hi h0 (thirteen (by (simp only [gset_at]; rfl)) (by (simp only [gset_at]; rfl)) (by (simp only [gset_at]; rfl)) (by (simp only [gset_at]; rfl)) (by (simp only [gset_at]; rfl)) (by (simp only [gset_at]; rfl)) (by (simp only [gset_at]; rfl)) (by (simp only [gset_at]; rfl)) (by (simp only [gset_at]; rfl)) (by (simp only [gset_at]; rfl)) (by (simp only [gset_at]; rfl)) (by (simp only [gset_at]; rfl)) (by (simp only [gset_at]; rfl))) (fun k hk j => by simp only [gset_ne hk]) S.tl.tl, S.chg⟩
    · have ef : abortT (C.ths.getD i thD) e.why = { (C.ths.getD i thD) with at_ := 7, full := decide (e.why = 6) } := by unfold abortT; rw [if_neg hcmp]
      rw [ef, hw]
      exact ⟨rfl, fin_t hi h0 (thirteen (by (simp only [gset_at]; rfl)) (by (simp only [gset_at]; rfl)) (by (simp only [gset_at]; rfl)) (by (simp only [gset_at]; rfl)) (by (simp only [gset_at]; rfl)) (by (simp only [gset_at]; rfl)) (by (simp only [gset_at]; rfl)) (by (simp only [gset_at]; rfl)) (by (simp only [gset_at]; rfl)) (by (simp only [gset_at]; rfl)) (by (simp only [gset_at]; rfl)) (by (simp only [gset_at]; rfl)) (by (simp only [gset_at]; rfl))) (fun k hk j => by simp only [gset_ne hk]) S.tl.tl, S.chg⟩
  · skip
    repeat' (first | refine assign_b_l S rfl rfl ?_ | (refine eql_l S rfl rfl rfl ?_ ?_ <;> intro hcmp <;> try (exfalso; first | omega | exact hcmp (by decide) | exact absurd hcmp (by decide))) | refine fieldAddr_l S rfl rfl rfl ?_ | refine nilL ?_ | refine run_seq ?_ | refine run_region ?_ | refine load_i_l S rfl rfl rfl rfl ?_ | (refine box_a S rfl rfl rfl ?_; clear S; intro b w S) | refine run_block ?_ | refine run_cond_true rfl ?_ | refine run_cond_false rfl ?_ | refine thenQ_n ?_)
    refine run_any S (L' := [evR b e, tabR, blk bk 5 (shC ta sa tc sc C) 76, thsR ta tc C.ths, strsR sa sc C.strs]) (f := 30) mixed rfl ?_
    clear S
    intro w S1
    have S : Sat _ _ w [evR b e, tabR, blk bk 5 (shC ta sa tc sc C) 76, thsR ta tc C.ths, strsR sa sc C.strs] := S1.sub
    all_goals (refine any_pure (i := 0) rfl (by kernel_rfl) S ?_; (refine move_e_x rfl rfl ?_))
    all_goals (refine any_pure (i := 1) rfl (by kernel_rfl) S ?_; (refine nilCheckE_x rfl (by first | omega | decide | (simp; done) | (simp; omega)) rfl ?_))
    all_goals (refine any_pure (i := 2) rfl (by kernel_rfl) S ?_; (refine fieldAddrE_x rfl (by first | omega | decide | (simp; done) | (simp; omega)) rfl rfl ?_))
    all_goals (refine any_pure (i := 3) rfl (by kernel_rfl) S ?_; (refine loadE_i_x rfl (by first | omega | decide | (simp; done) | (simp; omega)) rfl rfl rfl ?_))
    all_goals (refine any_pure (i := 4) rfl (by kernel_rfl) S ?_; (refine eql_x rfl rfl rfl ?_ ?_ <;> intro hcmp <;> try (exfalso; omega)))
    all_goals (refine any_pure (i := 5) rfl (by kernel_rfl) S ?_; refine move_b_x rfl rfl ?_)
    all_goals (refine any_pure (i := 6) rfl (by kernel_rfl) S ?_; (refine onX rfl rfl ?_; (first | refine fieldAddr_x rfl rfl rfl ?_ | refine fieldAddrE_x rfl (by first | omega | decide | (simp; done) | (simp; omega)) rfl rfl ?_)))
    all_goals (refine any_pure (i := 7) rfl (by kernel_rfl) S ?_; (refine onX rfl rfl ?_; (first | refine load_i_x rfl rfl rfl rfl ?_ | refine load_o_x rfl rfl rfl rfl ?_ | refine loadE_i_x rfl (by first | omega | decide | (simp; done) | (simp; omega)) rfl rfl rfl ?_ | refine loadE_i_x rfl (by omega) rfl (by simp only [gset_at]; rfl) rfl ?_ | refine loadE_o_x rfl (by first | omega | decide | (simp; done) | (simp; omega)) rfl rfl rfl ?_)))
    all_goals (refine any_pure (i := 8) rfl (by kernel_rfl) S ?_; (refine onX rfl rfl ?_; (first | refine move_p_x rfl rfl ?_ | refine move_e_x rfl rfl ?_ | refine move_o_x rfl rfl ?_)))
    all_goals (refine any_pure (i := 9) rfl (by kernel_rfl) S ?_; (refine onX rfl rfl ?_; (first | refine nilCheck_x rfl rfl ?_ | refine nilCheckE_x rfl (by first | omega | decide | (simp; done) | (simp; omega)) rfl ?_)))
    all_goals (refine any_pure (i := 10) rfl (by kernel_rfl) S ?_; (refine onX rfl rfl ?_; (first | refine fieldAddr_x rfl rfl rfl ?_ | refine fieldAddrE_x rfl (by first | omega | decide | (simp; done) | (simp; omega)) rfl rfl ?_)))
    all_goals (refine any_pure (i := 11) rfl (by kernel_rfl) S ?_; (refine onX rfl rfl ?_; (first | refine load_i_x rfl rfl rfl rfl ?_ | refine load_o_x rfl rfl rfl rfl ?_ | refine loadE_i_x rfl (by first | omega | decide | (simp; done) | (simp; omega)) rfl rfl rfl ?_ | refine loadE_i_x rfl (by omega) rfl (by simp only [gset_at]; rfl) rfl ?_ | refine loadE_o_x rfl (by first | omega | decide | (simp; done) | (simp; omega)) rfl rfl rfl ?_)))
    all_goals refine any_step (i := 12) rfl (by kernel_rfl) ?_
    all_goals refine onL rfl rfl ?_
    all_goals replace S := S1
    (refine callL (least_w S.second (C.ths.getD i thD).check) rfl rfl ?_; rintro e w ⟨rfl, hb⟩; replace S := S.below hb; clear hb; refine ⟨_, rfl, ?_⟩)
    all_goals try refine nilL ?_
    all_goals refine ⟨S.sub, ?_⟩
    all_goals (have S1 := S; replace S : Sat _ _ _ [evR b e, tabR, blk bk 5 (shC ta sa tc sc C) 76, thsR ta tc C.ths, strsR sa sc C.strs] := S1.sub)
    all_goals (refine any_pure (i := 13) rfl (by kernel_rfl) S ?_; (refine onX rfl rfl ?_; (refine eql_x rfl rfl rfl ?_ ?_ <;> intro hcmp <;> try (exfalso; first | omega | exact hcmp (by decide) | exact absurd hcmp (by decide)))))
    all_goals (refine any_pure (i := 14) rfl (by kernel_rfl) S ?_; (refine pick_tb_x rfl rfl rfl ?_))
    all_goals (refine any_pure (i := 15) rfl (by kernel_rfl) S ?_; refine move_b_x rfl rfl ?_)
    all_goals (refine any_pure (i := 16) rfl (by kernel_rfl) S ?_; (refine onX rfl rfl ?_; (first | refine move_p_x rfl rfl ?_ | refine move_e_x rfl rfl ?_ | refine move_o_x rfl rfl ?_)))
    all_goals (refine any_pure (i := 17) rfl (by kernel_rfl) S ?_; (refine onX rfl rfl ?_; (first | refine fieldAddr_x rfl rfl rfl ?_ | refine fieldAddrE_x rfl (by first | omega | decide | (simp; done) | (simp; omega)) rfl rfl ?_)))
    all_goals (refine any_pure (i := 18) rfl (by kernel_rfl) S ?_; (refine onX rfl rfl ?_; (first | refine load_i_x rfl rfl rfl rfl ?_ | refine load_o_x rfl rfl rfl rfl ?_ | refine loadE_i_x rfl (by first | omega | decide | (simp; done) | (simp; omega)) rfl rfl rfl ?_ | refine loadE_i_x rfl (by omega) rfl (by simp only [gset_at]; rfl) rfl ?_ | refine loadE_o_x rfl (by first | omega | decide | (simp; done) | (simp; omega)) rfl rfl rfl ?_)))
    all_goals (refine any_pure (i := 19) rfl (by kernel_rfl) S ?_; (refine onX rfl rfl ?_; (first | refine loadN_x rfl rfl rfl ?_ | refine loadEN_x rfl (by first | omega | decide | (simp; done) | (simp; omega)) rfl rfl ?_)))
    all_goals refine any_step (i := 20) rfl (by kernel_rfl) ?_
    all_goals refine onL rfl rfl ?_
    all_goals replace S := S1
    (refine callL (others_at (sh_shut S.tl.tl) e e.at_ hs) rfl rfl ?_; rintro e w ⟨rfl, hb⟩; replace S := S.below hb; clear hb; refine ⟨_, rfl, ?_⟩)
    by_cases g4 : ¬ (C.strs.getD e.at_.toNat (0, 0)).1 = -1 ∧ ¬ (C.strs.getD e.at_.toNat (0, 0)).1 = e.thread
    · rw [decide_eq_true g4]
      all_goals try refine nilL ?_
      all_goals refine ⟨S.sub, ?_⟩
      all_goals (have S1 := S; replace S : Sat _ _ _ [evR b e, tabR, blk bk 5 (shC ta sa tc sc C) 76, thsR ta tc C.ths, strsR sa sc C.strs] := S1.sub)
      all_goals (refine any_pure (i := 21) rfl (by kernel_rfl) S ?_; (refine onX rfl rfl ?_; refine move_b_x rfl rfl ?_))
      all_goals (refine any_pure (i := 22) rfl (by kernel_rfl) S ?_; refine offX rfl rfl rfl rfl ?_)
      all_goals (refine any_pure (i := 23) rfl (by kernel_rfl) S ?_; refine offX rfl rfl rfl rfl ?_)
      all_goals (refine any_pure (i := 24) rfl (by kernel_rfl) S ?_; refine offX rfl rfl rfl rfl ?_)
      all_goals (refine any_pure (i := 25) rfl (by kernel_rfl) S ?_; refine offX rfl rfl rfl rfl ?_)
      all_goals refine any_step (i := 26) rfl (by kernel_rfl) ?_
      all_goals (first | (refine offL rfl rfl rfl rfl ?_; refine nilL ?_) | (refine offLU rfl rfl rfl ?_; refine nilL ?_) | (refine offL0 rfl rfl rfl ?_; refine nilL ?_); refine ⟨S.sub, ?_⟩)
      all_goals replace S := S1
      all_goals try refine nilL ?_
      all_goals refine ⟨S.sub, ?_⟩
      all_goals (have S1 := S; replace S : Sat _ _ _ [evR b e, tabR, blk bk 5 (shC ta sa tc sc C) 76, thsR ta tc C.ths, strsR sa sc C.strs] := S1.sub)
      all_goals (refine any_pure (i := 27) rfl (by kernel_rfl) S ?_; (refine onX rfl rfl ?_; (first | refine pick_tb_x rfl rfl rfl ?_ | refine pick_fb_x rfl rfl rfl ?_)))
      all_goals (refine any_pure (i := 28) rfl (by kernel_rfl) S ?_; (refine pick_tb_x rfl rfl rfl ?_))
      all_goals (refine any_pure (i := 29) rfl (by kernel_rfl) S ?_; refine assign_b_x rfl rfl ?_)
      all_goals refine any_end (by kernel_rfl) ?_
      all_goals replace S := S1
      repeat' (first | refine nilL ?_ | refine run_seq ?_ | refine run_skip ?_ | refine run_region ?_ | refine move_b_l S rfl rfl ?_ | refine not_l S rfl rfl ?_ | refine run_cond_false rfl ?_ | refine thenQ_n ?_ | refine blockQ_n ?_)
      refine run_any S (L' := [evR b e]) (f := 11) mixed rfl ?_
      clear S
      intro w S1
      have S : Sat _ _ w [evR b e] := S1.sub
      all_goals (refine any_pure (i := 0) rfl (by kernel_rfl) S ?_; (refine move_e_x rfl rfl ?_))
      all_goals (refine any_pure (i := 1) rfl (by kernel_rfl) S ?_; (refine move_e_x rfl rfl ?_))
      all_goals (refine any_pure (i := 2) rfl (by kernel_rfl) S ?_; (refine fieldAddr_x rfl rfl rfl ?_))
      all_goals (refine any_pure (i := 3) rfl (by kernel_rfl) S ?_; (refine load_i_x rfl rfl rfl rfl ?_))
      all_goals (refine any_pure (i := 4) rfl (by kernel_rfl) S ?_; (refine eql_x rfl rfl rfl ?_ ?_ <;> intro hcmp <;> try (exfalso; omega)))
      all_goals (refine any_step (i := 5) rfl (by kernel_rfl) ?_; replace S := S1; clear S1; (refine nilCheckE_l S rfl (by first | omega | decide | (simp; done) | (simp; omega)) rfl ?_); refine nilL ?_; refine ⟨S.sub, ?_⟩; have S1 := S; replace S : Sat _ _ _ [evR b e] := S1.sub)
      all_goals (refine any_step (i := 6) rfl (by kernel_rfl) ?_; replace S := S1; clear S1; (refine fieldAddrE_l S rfl (by first | omega | decide | (simp; done) | (simp; omega)) rfl rfl ?_); refine nilL ?_; refine ⟨S.sub, ?_⟩; have S1 := S; replace S : Sat _ _ _ [evR b e] := S1.sub)
      all_goals (refine any_step (i := 7) rfl (by kernel_rfl) ?_; replace S := S1; clear S1; ((refine storeE_i S rfl rfl (by omega) rfl ?_; clear S; intro w S)); refine nilL ?_; refine ⟨S.sub, ?_⟩; have S1 := S; replace S : Sat _ _ _ [evR b e] := S1.sub)
      all_goals (refine any_step (i := 8) rfl (by kernel_rfl) ?_; replace S := S1; clear S1; (refine nilCheckE_l S rfl (by first | omega | decide | (simp; done) | (simp; omega)) rfl ?_); refine nilL ?_; refine ⟨S.sub, ?_⟩; have S1 := S; replace S : Sat _ _ _ [evR b e] := S1.sub)
      all_goals (refine any_step (i := 9) rfl (by kernel_rfl) ?_; replace S := S1; clear S1; (refine fieldAddrE_l S rfl (by first | omega | decide | (simp; done) | (simp; omega)) rfl rfl ?_); refine nilL ?_; refine ⟨S.sub, ?_⟩; have S1 := S; replace S : Sat _ _ _ [evR b e] := S1.sub)
      all_goals (refine any_step (i := 10) rfl (by kernel_rfl) ?_; replace S := S1; clear S1; ((refine storeE_b S rfl rfl (by omega) rfl ?_; clear S; intro w S)); refine nilL ?_; refine ⟨S.sub, ?_⟩; have S1 := S; replace S : Sat _ _ _ [evR b e] := S1.sub)
      all_goals refine any_end (by kernel_rfl) ?_
      all_goals replace S := S1
      repeat' (first | refine assign_b_l S rfl rfl ?_ | (refine eql_l S rfl rfl rfl ?_ ?_ <;> intro hcmp <;> try (exfalso; first | omega | exact hcmp (by decide) | exact absurd hcmp (by decide))) | refine nilL ?_ | refine run_seq ?_ | refine run_skip ?_ | refine run_region ?_ | refine fieldAddrE_l S rfl (by first | omega | decide | (simp; done) | (simp; omega)) rfl rfl ?_ | refine move_e_l S rfl rfl ?_ | refine loadE_i_l S rfl (by omega) rfl (by simp only [gset_at]; rfl) rfl ?_ | refine nilCheckE_l S rfl (by first | omega | decide | (simp; done) | (simp; omega)) rfl ?_ | (refine storeE_i S rfl rfl (by omega) rfl ?_; clear S; intro w S) | refine run_ret ?_ | refine run_cond_true rfl ?_ | refine run_cond_false rfl ?_ | refine thenQ_n ?_ | refine ret1_b rfl ?_)
      · have ef : abortT (C.ths.getD i thD) e.why = { (C.ths.getD i thD) with at_ := 0, full := decide (e.why = 6) } := by unfold abortT; rw [if_pos hcmp]
        rw [ef, hw]
        exact ⟨rfl, fin_t hi h0 (thirteen (by (simp only [gset_at]; rfl)) (by (simp only [gset_at]; rfl)) (by (simp only [gset_at]; rfl)) (by (simp only [gset_at]; rfl)) (by (simp only [gset_at]; rfl)) (by (simp only [gset_at]; rfl)) (by (simp only [gset_at]; rfl)) (by (simp only [gset_at]; rfl)) (by (simp only [gset_at]; rfl)) (by (simp only [gset_at]; rfl)) (by (simp only [gset_at]; rfl)) (by (simp only [gset_at]; rfl)) (by (simp only [gset_at]; rfl))) (fun k hk j => by simp only [gset_ne hk]) S.tl.tl, S.chg⟩
      · have ef : abortT (C.ths.getD i thD) e.why = { (C.ths.getD i thD) with at_ := 7, full := decide (e.why = 6) } := by unfold abortT; rw [if_neg hcmp]
        rw [ef, hw]
        exact ⟨rfl, fin_t hi h0 (thirteen (by (simp only [gset_at]; rfl)) (by (simp only [gset_at]; rfl)) (by (simp only [gset_at]; rfl)) (by (simp only [gset_at]; rfl)) (by (simp only [gset_at]; rfl)) (by (simp only [gset_at]; rfl)) (by (simp only [gset_at]; rfl)) (by (simp only [gset_at]; rfl)) (by (simp only [gset_at]; rfl)) (by (simp only [gset_at]; rfl)) (by (simp only [gset_at]; rfl)) (by (simp only [gset_at]; rfl)) (by (simp only [gset_at]; rfl))) (fun k hk j => by simp only [gset_ne hk]) S.tl.tl, S.chg⟩
    · rw [decide_eq_false g4]
      all_goals try refine nilL ?_
      all_goals refine ⟨S.sub, ?_⟩
      all_goals (have S1 := S; replace S : Sat _ _ _ [evR b e, tabR, blk bk 5 (shC ta sa tc sc C) 76, thsR ta tc C.ths, strsR sa sc C.strs] := S1.sub)
      all_goals (refine any_pure (i := 21) rfl (by kernel_rfl) S ?_; (refine onX rfl rfl ?_; refine move_b_x rfl rfl ?_))
      all_goals (refine any_pure (i := 22) rfl (by kernel_rfl) S ?_; (refine onX rfl rfl ?_; (first | refine move_p_x rfl rfl ?_ | refine move_e_x rfl rfl ?_ | refine move_o_x rfl rfl ?_)))
      all_goals (refine any_pure (i := 23) rfl (by kernel_rfl) S ?_; (refine onX rfl rfl ?_; (first | refine fieldAddr_x rfl rfl rfl ?_ | refine fieldAddrE_x rfl (by first | omega | decide | (simp; done) | (simp; omega)) rfl rfl ?_)))
      all_goals (refine any_pure (i := 24) rfl (by kernel_rfl) S ?_; (refine onX rfl rfl ?_; (first | refine load_i_x rfl rfl rfl rfl ?_ | refine load_o_x rfl rfl rfl rfl ?_ | refine loadE_i_x rfl (by first | omega | decide | (simp; done) | (simp; omega)) rfl rfl rfl ?_ | refine loadE_i_x rfl (by omega) rfl (by simp only [gset_at]; rfl) rfl ?_ | refine loadE_o_x rfl (by first | omega | decide | (simp; done) | (simp; omega)) rfl rfl rfl ?_)))
      all_goals (refine any_pure (i := 25) rfl (by kernel_rfl) S ?_; (refine onX rfl rfl ?_; (first | refine move_p_x rfl rfl ?_ | refine move_e_x rfl rfl ?_ | refine move_o_x rfl rfl ?_)))
      all_goals refine any_step (i := 26) rfl (by kernel_rfl) ?_
      all_goals refine onL rfl rfl ?_
      all_goals replace S := S1
      (refine callL (snewer_at (sh_shut S.tl.tl) e.at_ hs i hi) rfl rfl ?_; rintro e w ⟨rfl, hb⟩; replace S := S.below hb; clear hb; refine ⟨_, rfl, ?_⟩)
      rw [decide_eq_true g3]
      all_goals try refine nilL ?_
      all_goals refine ⟨S.sub, ?_⟩
      all_goals (have S1 := S; replace S : Sat _ _ _ [evR b e, tabR, blk bk 5 (shC ta sa tc sc C) 76, thsR ta tc C.ths, strsR sa sc C.strs] := S1.sub)
      all_goals (refine any_pure (i := 27) rfl (by kernel_rfl) S ?_; (refine onX rfl rfl ?_; (first | refine pick_tb_x rfl rfl rfl ?_ | refine pick_fb_x rfl rfl rfl ?_)))
      all_goals (refine any_pure (i := 28) rfl (by kernel_rfl) S ?_; (refine pick_tb_x rfl rfl rfl ?_))
      all_goals (refine any_pure (i := 29) rfl (by kernel_rfl) S ?_; refine assign_b_x rfl rfl ?_)
      all_goals refine any_end (by kernel_rfl) ?_
      all_goals replace S := S1
      repeat' (first | refine nilL ?_ | refine run_seq ?_ | refine run_skip ?_ | refine run_region ?_ | refine move_b_l S rfl rfl ?_ | refine not_l S rfl rfl ?_ | refine run_cond_false rfl ?_ | refine thenQ_n ?_ | refine blockQ_n ?_)
      refine run_any S (L' := [evR b e]) (f := 11) mixed rfl ?_
      clear S
      intro w S1
      have S : Sat _ _ w [evR b e] := S1.sub
      all_goals (refine any_pure (i := 0) rfl (by kernel_rfl) S ?_; (refine move_e_x rfl rfl ?_))
      all_goals (refine any_pure (i := 1) rfl (by kernel_rfl) S ?_; (refine move_e_x rfl rfl ?_))
      all_goals (refine any_pure (i := 2) rfl (by kernel_rfl) S ?_; (refine fieldAddr_x rfl rfl rfl ?_))
      all_goals (refine any_pure (i := 3) rfl (by kernel_rfl) S ?_; (refine load_i_x rfl rfl rfl rfl ?_))
      all_goals (refine any_pure (i := 4) rfl (by kernel_rfl) S ?_; (refine eql_x rfl rfl rfl ?_ ?_ <;> intro hcmp <;> try (exfalso; omega)))
      all_goals (refine any_step (i := 5) rfl (by kernel_rfl) ?_; replace S := S1; clear S1; (refine nilCheckE_l S rfl (by first | omega | decide | (simp; done) | (simp; omega)) rfl ?_); refine nilL ?_; refine ⟨S.sub, ?_⟩; have S1 := S; replace S : Sat _ _ _ [evR b e] := S1.sub)
      all_goals (refine any_step (i := 6) rfl (by kernel_rfl) ?_; replace S := S1; clear S1; (refine fieldAddrE_l S rfl (by first | omega | decide | (simp; done) | (simp; omega)) rfl rfl ?_); refine nilL ?_; refine ⟨S.sub, ?_⟩; have S1 := S; replace S : Sat _ _ _ [evR b e] := S1.sub)
      all_goals (refine any_step (i := 7) rfl (by kernel_rfl) ?_; replace S := S1; clear S1; ((refine storeE_i S rfl rfl (by omega) rfl ?_; clear S; intro w S)); refine nilL ?_; refine ⟨S.sub, ?_⟩; have S1 := S; replace S : Sat _ _ _ [evR b e] := S1.sub)
      all_goals (refine any_step (i := 8) rfl (by kernel_rfl) ?_; replace S := S1; clear S1; (refine nilCheckE_l S rfl (by first | omega | decide | (simp; done) | (simp; omega)) rfl ?_); refine nilL ?_; refine ⟨S.sub, ?_⟩; have S1 := S; replace S : Sat _ _ _ [evR b e] := S1.sub)
      all_goals (refine any_step (i := 9) rfl (by kernel_rfl) ?_; replace S := S1; clear S1; (refine fieldAddrE_l S rfl (by first | omega | decide | (simp; done) | (simp; omega)) rfl rfl ?_); refine nilL ?_; refine ⟨S.sub, ?_⟩; have S1 := S; replace S : Sat _ _ _ [evR b e] := S1.sub)
      all_goals (refine any_step (i := 10) rfl (by kernel_rfl) ?_; replace S := S1; clear S1; ((refine storeE_b S rfl rfl (by omega) rfl ?_; clear S; intro w S)); refine nilL ?_; refine ⟨S.sub, ?_⟩; have S1 := S; replace S : Sat _ _ _ [evR b e] := S1.sub)
      all_goals refine any_end (by kernel_rfl) ?_
      all_goals replace S := S1
      repeat' (first | refine assign_b_l S rfl rfl ?_ | (refine eql_l S rfl rfl rfl ?_ ?_ <;> intro hcmp <;> try (exfalso; first | omega | exact hcmp (by decide) | exact absurd hcmp (by decide))) | refine nilL ?_ | refine run_seq ?_ | refine run_skip ?_ | refine run_region ?_ | refine fieldAddrE_l S rfl (by first | omega | decide | (simp; done) | (simp; omega)) rfl rfl ?_ | refine move_e_l S rfl rfl ?_ | refine loadE_i_l S rfl (by omega) rfl (by simp only [gset_at]; rfl) rfl ?_ | refine nilCheckE_l S rfl (by first | omega | decide | (simp; done) | (simp; omega)) rfl ?_ | (refine storeE_i S rfl rfl (by omega) rfl ?_; clear S; intro w S) | refine run_ret ?_ | refine run_cond_true rfl ?_ | refine run_cond_false rfl ?_ | refine thenQ_n ?_ | refine ret1_b rfl ?_)
      · have ef : abortT (C.ths.getD i thD) e.why = { (C.ths.getD i thD) with at_ := 0, full := decide (e.why = 6) } := by unfold abortT; rw [if_pos hcmp]
        rw [ef, hw]
        exact ⟨rfl, fin_t hi h0 (thirteen (by (simp only [gset_at]; rfl)) (by (simp only [gset_at]; rfl)) (by (simp only [gset_at]; rfl)) (by (simp only [gset_at]; rfl)) (by (simp only [gset_at]; rfl)) (by (simp only [gset_at]; rfl)) (by (simp only [gset_at]; rfl)) (by (simp only [gset_at]; rfl)) (by (simp only [gset_at]; rfl)) (by (simp only [gset_at]; rfl)) (by (simp only [gset_at]; rfl)) (by (simp only [gset_at]; rfl)) (by (simp only [gset_at]; rfl))) (fun k hk j => by simp only [gset_ne hk]) S.tl.tl, S.chg⟩
      · have ef : abortT (C.ths.getD i thD) e.why = { (C.ths.getD i thD) with at_ := 7, full := decide (e.why = 6) } := by unfold abortT; rw [if_neg hcmp]
        rw [ef, hw]
        exact ⟨rfl, fin_t hi h0 (thirteen (by (simp only [gset_at]; rfl)) (by (simp only [gset_at]; rfl)) (by (simp only [gset_at]; rfl)) (by (simp only [gset_at]; rfl)) (by (simp only [gset_at]; rfl)) (by (simp only [gset_at]; rfl)) (by (simp only [gset_at]; rfl)) (by (simp only [gset_at]; rfl)) (by (simp only [gset_at]; rfl)) (by (simp only [gset_at]; rfl)) (by (simp only [gset_at]; rfl)) (by (simp only [gset_at]; rfl)) (by (simp only [gset_at]; rfl))) (fun k hk j => by simp only [gset_ne hk]) S.tl.tl, S.chg⟩
theorem pfull_at (hw : e.why = 6) (g1 : (C.ths.getD i thD).at_ = 3) : Calls Tryz.prog 35 #[.pointer (some ⟨bk, 0, none⟩), ePtr ta i 13 0, evA e] w0 fun r w' => r = .returned (.bool true) ∧ ShTo bk ta sa tc sc C (putTh C i (abortT (C.ths.getD i thD) e.why)) w0 w' := by
  have S := sh_openT h hT hap
  have hm := sh_small h
  refine enter1 Tryz.func35 rfl Tryz.ntmps35 rfl Tryz.results35 ?_
  repeat' (first | refine assign_b_l S rfl rfl ?_ | (refine eql_l S rfl rfl rfl ?_ ?_ <;> intro hcmp <;> try (exfalso; first | omega | exact hcmp (by decide) | exact absurd hcmp (by decide))) | refine fieldAddr_l S rfl rfl rfl ?_ | refine nilL ?_ | refine run_seq ?_ | refine run_skip ?_ | refine run_region ?_ | refine fieldAddrE_l S rfl (by first | omega | decide | (simp; done) | (simp; omega)) rfl rfl ?_ | refine move_e_l S rfl rfl ?_ | refine load_i_l S rfl rfl rfl rfl ?_ | refine loadE_i_l S rfl (by first | omega | decide | (simp; done) | (simp; omega)) rfl rfl rfl ?_ | refine nilCheckE_l S rfl (by first | omega | decide | (simp; done) | (simp; omega)) rfl ?_ | refine move_b_l S rfl rfl ?_ | (refine box_a S rfl rfl rfl ?_; clear S; intro b w S) | refine not_l S rfl rfl ?_ | refine run_block ?_ | refine run_cond_true rfl ?_ | refine run_cond_false rfl ?_ | refine thenQ_n ?_ | refine blockQ_n ?_)
  refine run_any S (L' := [evR b e]) (f := 11) mixed rfl ?_
  clear S
  intro w S1
  have S : Sat _ _ w [evR b e] := S1.sub
  all_goals (refine any_pure (i := 0) rfl (by kernel_rfl) S ?_; (refine move_e_x rfl rfl ?_))
  all_goals (refine any_pure (i := 1) rfl (by kernel_rfl) S ?_; (refine move_e_x rfl rfl ?_))
  all_goals (refine any_pure (i := 2) rfl (by kernel_rfl) S ?_; (refine fieldAddr_x rfl rfl rfl ?_))
  all_goals (refine any_pure (i := 3) rfl (by kernel_rfl) S ?_; (refine load_i_x rfl rfl rfl rfl ?_))
  all_goals (refine any_pure (i := 4) rfl (by kernel_rfl) S ?_; (refine eql_x rfl rfl rfl ?_ ?_ <;> intro hcmp <;> try (exfalso; omega)))
  all_goals (refine any_step (i := 5) rfl (by kernel_rfl) ?_; replace S := S1; clear S1; (refine nilCheckE_l S rfl (by first | omega | decide | (simp; done) | (simp; omega)) rfl ?_); refine nilL ?_; refine ⟨S.sub, ?_⟩; have S1 := S; replace S : Sat _ _ _ [evR b e] := S1.sub)
  all_goals (refine any_step (i := 6) rfl (by kernel_rfl) ?_; replace S := S1; clear S1; (refine fieldAddrE_l S rfl (by first | omega | decide | (simp; done) | (simp; omega)) rfl rfl ?_); refine nilL ?_; refine ⟨S.sub, ?_⟩; have S1 := S; replace S : Sat _ _ _ [evR b e] := S1.sub)
  all_goals (refine any_step (i := 7) rfl (by kernel_rfl) ?_; replace S := S1; clear S1; ((refine storeE_i S rfl rfl (by omega) rfl ?_; clear S; intro w S)); refine nilL ?_; refine ⟨S.sub, ?_⟩; have S1 := S; replace S : Sat _ _ _ [evR b e] := S1.sub)
  all_goals (refine any_step (i := 8) rfl (by kernel_rfl) ?_; replace S := S1; clear S1; (refine nilCheckE_l S rfl (by first | omega | decide | (simp; done) | (simp; omega)) rfl ?_); refine nilL ?_; refine ⟨S.sub, ?_⟩; have S1 := S; replace S : Sat _ _ _ [evR b e] := S1.sub)
  all_goals (refine any_step (i := 9) rfl (by kernel_rfl) ?_; replace S := S1; clear S1; (refine fieldAddrE_l S rfl (by first | omega | decide | (simp; done) | (simp; omega)) rfl rfl ?_); refine nilL ?_; refine ⟨S.sub, ?_⟩; have S1 := S; replace S : Sat _ _ _ [evR b e] := S1.sub)
  all_goals (refine any_step (i := 10) rfl (by kernel_rfl) ?_; replace S := S1; clear S1; ((refine storeE_b S rfl rfl (by omega) rfl ?_; clear S; intro w S)); refine nilL ?_; refine ⟨S.sub, ?_⟩; have S1 := S; replace S : Sat _ _ _ [evR b e] := S1.sub)
  all_goals refine any_end (by kernel_rfl) ?_
  all_goals replace S := S1
  repeat' (first | refine assign_b_l S rfl rfl ?_ | (refine eql_l S rfl rfl rfl ?_ ?_ <;> intro hcmp <;> try (exfalso; first | omega | exact hcmp (by decide) | exact absurd hcmp (by decide))) | refine nilL ?_ | refine run_seq ?_ | refine run_skip ?_ | refine run_region ?_ | refine fieldAddrE_l S rfl (by first | omega | decide | (simp; done) | (simp; omega)) rfl rfl ?_ | refine move_e_l S rfl rfl ?_ | refine loadE_i_l S rfl (by omega) rfl (by simp only [gset_at]; rfl) rfl ?_ | refine nilCheckE_l S rfl (by first | omega | decide | (simp; done) | (simp; omega)) rfl ?_ | (refine storeE_i S rfl rfl (by omega) rfl ?_; clear S; intro w S) | refine run_ret ?_ | refine run_cond_true rfl ?_ | refine run_cond_false rfl ?_ | refine thenQ_n ?_ | refine ret1_b rfl ?_)
  · have ef : abortT (C.ths.getD i thD) e.why = { (C.ths.getD i thD) with at_ := 0, full := decide (e.why = 6) } := by unfold abortT; rw [if_pos hcmp]
    rw [ef, hw]
    exact ⟨rfl, fin_t hi h0 (thirteen (by (simp only [gset_at]; rfl)) (by (simp only [gset_at]; rfl)) (by (simp only [gset_at]; rfl)) (by (simp only [gset_at]; rfl)) (by (simp only [gset_at]; rfl)) (by (simp only [gset_at]; rfl)) (by (simp only [gset_at]; rfl)) (by (simp only [gset_at]; rfl)) (by (simp only [gset_at]; rfl)) (by (simp only [gset_at]; rfl)) (by (simp only [gset_at]; rfl)) (by (simp only [gset_at]; rfl)) (by (simp only [gset_at]; rfl))) (fun k hk j => by simp only [gset_ne hk]) S.tl.tl, S.chg⟩
  · have ef : abortT (C.ths.getD i thD) e.why = { (C.ths.getD i thD) with at_ := 7, full := decide (e.why = 6) } := by unfold abortT; rw [if_neg hcmp]
    rw [ef, hw]
    exact ⟨rfl, fin_t hi h0 (thirteen (by (simp only [gset_at]; rfl)) (by (simp only [gset_at]; rfl)) (by (simp only [gset_at]; rfl)) (by (simp only [gset_at]; rfl)) (by (simp only [gset_at]; rfl)) (by (simp only [gset_at]; rfl)) (by (simp only [gset_at]; rfl)) (by (simp only [gset_at]; rfl)) (by (simp only [gset_at]; rfl)) (by (simp only [gset_at]; rfl)) (by (simp only [gset_at]; rfl)) (by (simp only [gset_at]; rfl)) (by (simp only [gset_at]; rfl))) (fun k hk j => by simp only [gset_ne hk]) S.tl.tl, S.chg⟩
omit h0 in
theorem undo_at (hs : 0 ≤ e.at_ ∧ e.at_ < C.strs.length) (hs32 : C.strs.length ≤ 32) (g1 : (C.ths.getD i thD).at_ = 7) (g2 : e.at_ = leastW (C.ths.getD i thD).owned) : Calls Tryz.prog 36 #[.pointer (some ⟨bk, 0, none⟩), ePtr ta i 13 0, evA e] w0 fun r w' => r = .returned (.bool true) ∧ ShTo bk ta sa tc sc C (putTh (putSt C e.at_.toNat (-1, (C.strs.getD e.at_.toNat (0, 0)).2)) i (undoT (C.ths.getD i thD) e.at_)) w0 w' := by
  have S := sh_openT h hT hap
  have hm := sh_small h
  have hs' : e.at_.toNat < C.strs.length := by omega
  refine enter1 Tryz.func36 rfl Tryz.ntmps36 rfl Tryz.results36 ?_
  repeat' (first | refine nilL ?_ | refine run_seq ?_ | refine run_region ?_ | refine assign_b_l S rfl rfl ?_ | (refine box_a S rfl rfl rfl ?_; clear S; intro b w S) | refine thenQ_n ?_)
  refine run_any S (L' := [evR b e, tabR, blk bk 5 (shC ta sa tc sc C) 76, thsR ta tc C.ths, strsR sa sc C.strs]) (f := 15) mixed rfl ?_
  clear S
  intro w S1
  have S : Sat _ _ w [evR b e, tabR, blk bk 5 (shC ta sa tc sc C) 76, thsR ta tc C.ths, strsR sa sc C.strs] := S1.sub
  all_goals (refine any_pure (i := 0) rfl (by kernel_rfl) S ?_; (refine move_e_x rfl rfl ?_))
  all_goals (refine any_pure (i := 1) rfl (by kernel_rfl) S ?_; (refine nilCheckE_x rfl (by first | omega | decide | (simp; done) | (simp; omega)) rfl ?_))
  all_goals (refine any_pure (i := 2) rfl (by kernel_rfl) S ?_; (refine fieldAddrE_x rfl (by first | omega | decide | (simp; done) | (simp; omega)) rfl rfl ?_))
  all_goals (refine any_pure (i := 3) rfl (by kernel_rfl) S ?_; (refine loadE_i_x rfl (by first | omega | decide | (simp; done) | (simp; omega)) rfl rfl rfl ?_))
  all_goals (refine any_pure (i := 4) rfl (by kernel_rfl) S ?_; (refine neq_x rfl rfl rfl ?_ ?_ <;> intro hcmp <;> try (exfalso; omega)))
  all_goals (refine any_pure (i := 5) rfl (by kernel_rfl) S ?_; refine move_b_x rfl rfl ?_)
  all_goals (refine any_pure (i := 6) rfl (by kernel_rfl) S ?_; (refine onX rfl rfl ?_; (first | refine fieldAddr_x rfl rfl rfl ?_ | refine fieldAddrE_x rfl (by first | omega | decide | (simp; done) | (simp; omega)) rfl rfl ?_)))
  all_goals (refine any_pure (i := 7) rfl (by kernel_rfl) S ?_; (refine onX rfl rfl ?_; (first | refine load_i_x rfl rfl rfl rfl ?_ | refine load_o_x rfl rfl rfl rfl ?_ | refine loadE_i_x rfl (by first | omega | decide | (simp; done) | (simp; omega)) rfl rfl rfl ?_ | refine loadE_i_x rfl (by omega) rfl (by simp only [gset_at]; rfl) rfl ?_ | refine loadE_o_x rfl (by first | omega | decide | (simp; done) | (simp; omega)) rfl rfl rfl ?_)))
  all_goals (refine any_pure (i := 8) rfl (by kernel_rfl) S ?_; (refine onX rfl rfl ?_; (first | refine move_p_x rfl rfl ?_ | refine move_e_x rfl rfl ?_ | refine move_o_x rfl rfl ?_)))
  all_goals (refine any_pure (i := 9) rfl (by kernel_rfl) S ?_; (refine onX rfl rfl ?_; (first | refine nilCheck_x rfl rfl ?_ | refine nilCheckE_x rfl (by first | omega | decide | (simp; done) | (simp; omega)) rfl ?_)))
  all_goals (refine any_pure (i := 10) rfl (by kernel_rfl) S ?_; (refine onX rfl rfl ?_; (first | refine fieldAddr_x rfl rfl rfl ?_ | refine fieldAddrE_x rfl (by first | omega | decide | (simp; done) | (simp; omega)) rfl rfl ?_)))
  all_goals (refine any_pure (i := 11) rfl (by kernel_rfl) S ?_; (refine onX rfl rfl ?_; (first | refine load_i_x rfl rfl rfl rfl ?_ | refine load_o_x rfl rfl rfl rfl ?_ | refine loadE_i_x rfl (by first | omega | decide | (simp; done) | (simp; omega)) rfl rfl rfl ?_ | refine loadE_i_x rfl (by omega) rfl (by simp only [gset_at]; rfl) rfl ?_ | refine loadE_o_x rfl (by first | omega | decide | (simp; done) | (simp; omega)) rfl rfl rfl ?_)))
  all_goals refine any_step (i := 12) rfl (by kernel_rfl) ?_
  all_goals refine onL rfl rfl ?_
  all_goals replace S := S1
  (refine callL (least_w S.second (C.ths.getD i thD).owned) rfl rfl ?_; rintro e w ⟨rfl, hb⟩; replace S := S.below hb; clear hb; refine ⟨_, rfl, ?_⟩)
  all_goals try refine nilL ?_
  all_goals refine ⟨S.sub, ?_⟩
  all_goals (have S1 := S; replace S : Sat _ _ _ [evR b e, tabR, blk bk 5 (shC ta sa tc sc C) 76, thsR ta tc C.ths, strsR sa sc C.strs] := S1.sub)
  all_goals (refine any_pure (i := 13) rfl (by kernel_rfl) S ?_; (refine onX rfl rfl ?_; (refine neq_x rfl rfl rfl ?_ ?_ <;> intro hcmp <;> try (exfalso; first | omega | exact hcmp (by decide) | exact absurd hcmp (by decide)))))
  all_goals (refine any_pure (i := 14) rfl (by kernel_rfl) S ?_; (refine pick_fb_x rfl rfl rfl ?_))
  all_goals refine any_end (by kernel_rfl) ?_
  all_goals replace S := S1
  repeat' (first | refine move_p_l S rfl rfl ?_ | refine move_e_l S rfl rfl ?_ | refine fieldAddr_l S rfl rfl rfl ?_ | refine run_seq ?_ | refine run_skip ?_ | refine run_region ?_ | refine load_i_l S rfl rfl rfl rfl ?_ | refine run_cond_false rfl ?_ | refine thenQ_n ?_)
  replace S := S.perm (L' := [thsR ta tc C.ths, strsR sa sc C.strs, blk bk 5 (shC ta sa tc sc C) 76, evR b e, tabR]) (List.Perm.symm (perm5 (evR b e) tabR (blk bk 5 (shC ta sa tc sc C) 76) (thsR ta tc C.ths) (strsR sa sc C.strs)))
  refine callL (leave_at S hi hs hs32) rfl rfl ?_
  clear S
  rintro r w ⟨rfl, S⟩
  refine ⟨_, rfl, ?_⟩
  replace S := S.perm (perm5 (evR b e) tabR (blk bk 5 (shC ta sa tc sc C) 76) _ _)
  by_cases hz : ((lessW (C.ths.getD i thD).owned e.at_).toNat : Int) = 0
  · have ef : undoT (C.ths.getD i thD) e.at_ = { (C.ths.getD i thD) with owned := lessW (C.ths.getD i thD).owned e.at_, at_ := if (C.ths.getD i thD).full = true then 9 else 0 } := by unfold undoT; rw [if_pos hz]
    rw [ef]
    cases hfull : (C.ths.getD i thD).full with
    | true =>
      repeat' (first | refine move_e_l S rfl rfl ?_ | refine nilL ?_ | refine run_seq ?_ | refine run_region ?_ | refine onL rfl rfl ?_ | refine fieldAddrE_l S rfl (by first | omega | decide | (simp; done) | (simp; omega)) rfl rfl ?_ | refine assign_b_l S rfl rfl ?_ | refine nilCheckE_l S rfl (by first | omega | decide | (simp; done) | (simp; omega)) rfl ?_ | refine loadE_i_l S rfl (by omega) rfl (by simp only [gset_at]; rfl) rfl ?_ | (refine eql_l S rfl rfl rfl ?_ ?_ <;> intro hcmp <;> try (exfalso; first | omega | exact hcmp (by decide) | exact absurd hcmp (by decide))) | refine move_b_l S rfl rfl ?_ | refine loadE_b_l S rfl (by omega) rfl (by simp only [gset_at]; rfl) rfl ?_ | refine pick_tb_l S rfl rfl rfl ?_ | refine run_block ?_ | refine thenQ_n ?_)
      refine run_cond_true (by show Value.bool (C.ths.getD i thD).full = _; rw [hfull]) ?_
      repeat' (first | refine move_e_l S rfl rfl ?_ | refine nilL ?_ | refine run_seq ?_ | refine run_region ?_ | refine fieldAddrE_l S rfl (by first | omega | decide | (simp; done) | (simp; omega)) rfl rfl ?_ | refine assign_b_l S rfl rfl ?_ | refine nilCheckE_l S rfl (by first | omega | decide | (simp; done) | (simp; omega)) rfl ?_ | (refine storeE_i S rfl rfl (by omega) rfl ?_; clear S; intro w S) | refine run_ret ?_ | refine thenQ_n ?_ | refine blockQ_n ?_ | refine ret1_b rfl ?_)
      exact ⟨rfl, fin_ts hi hs' (thirteen (by (simp only [gset_at]; rfl)) (by (simp only [gset_at]; rfl)) (by (simp only [gset_at]; rfl)) (by (simp only [gset_at]; rfl)) (by (simp only [gset_at]; rfl)) (by (simp only [gset_at]; rfl)) (by (simp only [gset_at]; rfl)) (by (simp only [gset_at]; rfl)) (by (simp only [gset_at]; rfl)) (by (simp only [gset_at]; rfl)) (by (simp only [gset_at]; rfl)) (by (simp only [gset_at]; rfl)) (by (simp only [gset_at]; show Value.bool (C.ths.getD i thD).full = _; rw [hfull]; rfl))) (fun k hk j => by simp only [gset_ne hk]) (by simp [gset]) (by simp [gset]; rfl) (fun k hk j => by simp only [gset_ne hk]) S.tl.tl, S.chg⟩
    | false =>
      repeat' (first | refine move_e_l S rfl rfl ?_ | refine nilL ?_ | refine run_seq ?_ | refine run_region ?_ | refine onL rfl rfl ?_ | refine fieldAddrE_l S rfl (by first | omega | decide | (simp; done) | (simp; omega)) rfl rfl ?_ | refine assign_b_l S rfl rfl ?_ | refine nilCheckE_l S rfl (by first | omega | decide | (simp; done) | (simp; omega)) rfl ?_ | refine loadE_i_l S rfl (by omega) rfl (by simp only [gset_at]; rfl) rfl ?_ | (refine eql_l S rfl rfl rfl ?_ ?_ <;> intro hcmp <;> try (exfalso; first | omega | exact hcmp (by decide) | exact absurd hcmp (by decide))) | refine move_b_l S rfl rfl ?_ | refine loadE_b_l S rfl (by omega) rfl (by simp only [gset_at]; rfl) rfl ?_ | refine pick_tb_l S rfl rfl rfl ?_ | refine run_block ?_ | refine thenQ_n ?_)
      refine run_cond_false (by show Value.bool (C.ths.getD i thD).full = _; rw [hfull]) ?_
      repeat' (first | refine move_e_l S rfl rfl ?_ | refine nilL ?_ | refine run_seq ?_ | refine run_region ?_ | refine fieldAddrE_l S rfl (by first | omega | decide | (simp; done) | (simp; omega)) rfl rfl ?_ | refine assign_b_l S rfl rfl ?_ | refine nilCheckE_l S rfl (by first | omega | decide | (simp; done) | (simp; omega)) rfl ?_ | refine loadE_i_l S rfl (by omega) rfl (by simp only [gset_at]; rfl) rfl ?_ | (refine eql_l S rfl rfl rfl ?_ ?_ <;> intro hcmp <;> try (exfalso; first | omega | exact hcmp (by decide) | exact absurd hcmp (by decide))) | (refine storeE_i S rfl rfl (by omega) rfl ?_; clear S; intro w S) | refine run_ret ?_ | refine run_cond_true rfl ?_ | refine thenQ_n ?_ | refine blockQ_n ?_ | refine ret1_b rfl ?_)
      exact ⟨rfl, fin_ts hi hs' (thirteen (by (simp only [gset_at]; rfl)) (by (simp only [gset_at]; rfl)) (by (simp only [gset_at]; rfl)) (by (simp only [gset_at]; rfl)) (by (simp only [gset_at]; rfl)) (by (simp only [gset_at]; rfl)) (by (simp only [gset_at]; rfl)) (by (simp only [gset_at]; rfl)) (by (simp only [gset_at]; rfl)) (by (simp only [gset_at]; rfl)) (by (simp only [gset_at]; rfl)) (by (simp only [gset_at]; rfl)) (by (simp only [gset_at]; show Value.bool (C.ths.getD i thD).full = _; rw [hfull]; rfl))) (fun k hk j => by simp only [gset_ne hk]) (by simp [gset]) (by simp [gset]; rfl) (fun k hk j => by simp only [gset_ne hk]) S.tl.tl, S.chg⟩
  · have ef : undoT (C.ths.getD i thD) e.at_ = { (C.ths.getD i thD) with owned := lessW (C.ths.getD i thD).owned e.at_ } := by unfold undoT; rw [if_neg hz]
    rw [ef]
    repeat' (first | refine move_e_l S rfl rfl ?_ | refine nilL ?_ | refine run_seq ?_ | refine run_skip ?_ | refine run_region ?_ | refine offL rfl rfl rfl rfl ?_ | refine fieldAddrE_l S rfl (by first | omega | decide | (simp; done) | (simp; omega)) rfl rfl ?_ | refine assign_b_l S rfl rfl ?_ | refine nilCheckE_l S rfl (by first | omega | decide | (simp; done) | (simp; omega)) rfl ?_ | refine loadE_i_l S rfl (by omega) rfl (by simp only [gset_at]; rfl) rfl ?_ | (refine eql_l S rfl rfl rfl ?_ ?_ <;> intro hcmp <;> try (exfalso; first | omega | exact hcmp (by decide) | exact absurd hcmp (by decide))) | refine move_b_l S rfl rfl ?_ | refine pick_fb_l S rfl rfl rfl ?_ | refine run_block ?_ | refine run_ret ?_ | refine run_cond_false rfl ?_ | refine thenQ_n ?_ | refine blockQ_n ?_ | refine ret1_b rfl ?_)
    exact ⟨rfl, fin_ts hi hs' (thirteen (by (simp only [gset_at]; rfl)) (by (simp only [gset_at]; rfl)) (by (simp only [gset_at]; rfl)) (by (simp only [gset_at]; rfl)) (by (simp only [gset_at]; rfl)) (by (simp only [gset_at]; rfl)) (by (simp only [gset_at]; rfl)) (by (simp only [gset_at]; rfl)) (by (simp only [gset_at]; rfl)) (by (simp only [gset_at]; rfl)) (by (simp only [gset_at]; rfl)) (by (simp only [gset_at]; rfl)) (by (simp only [gset_at]; rfl))) (fun k hk j => by simp only [gset_ne hk]) (by simp [gset]) (by simp [gset]; rfl) (fun k hk j => by simp only [gset_ne hk]) S.tl.tl, S.chg⟩
end
end Go.Proofs.YtpiodhdbdlfnhaaGreatDoor
