/- shape: Next. shape: which events come (Acc), and that Next takes them. Sets of stripes as words of 32 bits: plain facts. A commit's events come: the checker beside the commit and the heap. Each step of a commit, beside the checker. -/
import Derived.Test.YtpiodhdbdlfnhaaGreatDoorShE
import Derived.Test.YtpiodhdbdlfnhaaGreatDoorShC
import Derived.Test.YtpiodhdbdlfnhaaGreatDoorCmF
import Derived.Test.YtpiodhdbdlfnhaaGreatDoorCmWP
namespace Go.Proofs.YtpiodhdbdlfnhaaGreatDoor
open Go.RowKit Go.Lib
set_option linter.unusedVariables false
set_option linter.unusedSimpArgs false
set_option maxHeartbeats 4000000
theorem sh_openL {S : Nat → Prop} {w₀ w : World} {L : List Res} {b : Nat} {ta sa : Option Addr} {tc sc : Nat} {C : ShS} (h : Sat S w₀ w (shR b ta sa tc sc C :: L)) : Sat S w₀ w (shL b ta sa tc sc C ++ L) := by
  have hc : (shR b ta sa tc sc C).holds w := h.all _ (by simp)
  obtain ⟨⟨h1, h2, h3⟩, g1, g2, g3⟩ := hc
  have hs := List.pairwise_cons.1 h.sep
  have ap : ∀ x ∈ L, ∀ k, (shR b ta sa tc sc C).foot k → ¬ x.foot k := fun x hx k e1 e2 => by
    rcases hs.1 x hx with e | e
    · cases e.1
    · exact e k e1 e2
  have base : Sat S w₀ w L := ⟨h.chg, fun x hx => h.all x (by simp [hx]), hs.2, fun x hx => h.own x (by simp [hx])⟩
  have s3 : Sat S w₀ w (strsR sa sc C.strs :: L) := base.push h3 (fun x hx => .inr fun k e1 e2 => ap x hx k (.inr (.inr e1)) e2) (fun _ k hk hlt => h.own (shR b ta sa tc sc C) (by simp) rfl k (.inr (.inr hk)) hlt)
  have s2 : Sat S w₀ w (thsR ta tc C.ths :: strsR sa sc C.strs :: L) := s3.push h2 (fun x hx => by
    rcases List.mem_cons.1 hx with rfl | hx
    · exact .inr fun k ⟨y, hy, e⟩ ⟨z, hz, e'⟩ => g3 y z hy hz (e.trans e'.symm)
    · exact .inr fun k e1 e2 => ap x hx k (.inr (.inl e1)) e2) (fun _ k hk hlt => h.own (shR b ta sa tc sc C) (by simp) rfl k (.inr (.inl hk)) hlt)
  refine s2.push h1 (fun x hx => ?_) (fun _ k hk hlt => h.own (shR b ta sa tc sc C) (by simp) rfl k (.inl hk) hlt)
  rcases List.mem_cons.1 hx with rfl | hx
  · exact .inr fun k e ⟨y, hy, e'⟩ => g1 y hy (e'.trans e)
  rcases List.mem_cons.1 hx with rfl | hx
  · exact .inr fun k e ⟨y, hy, e'⟩ => g2 y hy (e'.trans e)
  · exact .inr fun k e1 e2 => ap x hx k (.inl e1) e2
theorem shC_events (ta sa : Option Addr) (tc sc : Nat) (C : ShS) (z : Int) : upd (shC ta sa tc sc C) (0 + 2) (.int .i64 z) = shC ta sa tc sc { C with events := z } := by
  funext k
  match k with
  | 0 => rfl
  | 1 => rfl
  | 2 => rfl
  | 3 => rfl
  | _ + 4 => rfl
/-- The table of what comes. -/
def tblF : List Value := [.nilFunc, .func (.func 26) #[] #[], .func (.func 27) #[] #[], .func (.func 28) #[] #[], .func (.func 29) #[] #[], .func (.func 30) #[] #[], .func (.func 31) #[] #[], .func (.func 32) #[] #[], .func (.func 33) #[] #[], .func (.func 34) #[] #[], .func (.func 35) #[] #[], .func (.func 36) #[] #[], .func (.func 37) #[] #[], .func (.func 38) #[] #[]]
theorem indexG_x {S : Nat → Prop} {w₀ : World} {L : List Res} {P : Program} {ops : Array Oper} {n : Nat} {t : Tm} {KQ : Tm → Prop} {d : Nat} {ty : TypeId} {pos : String} {af : Array Edge} {T : TypeId} {e sz len : Nat} [hT : TyAr P T e sz len] {x y : Operand} {g : Nat} {ik : IntKind} {i : Int} {k : Nat} (hx : ev t x = .pointer (some ⟨g, 0, none⟩)) (hy : ev t y = .int ik i) (hk : idx i = k) (hb : 0 ≤ i ∧ i < (len : Nat)) (hd : Nat.blt d n = true) (kk : KQ (upd t d (ePtr (some ⟨g, 0, none⟩) k sz 0))) : QX P ops n S w₀ L ⟨some d, .indexAddr T x y, ty, pos, af, none⟩ t KQ :=
  indexArr_x hx hy hb rfl hd (by rw [idx_eq] at hk; rw [ePtr_eq] at kk; subst hk; exact kk)
theorem tbl_row {w : World} {b : Nat} {T : TypeId} (h : (blk b 14 (fun i => tblF.getD i undef) T).holds w) : SlOk w (some ⟨b, 0, none⟩) 14 14 1 (fun i _ => tblF.getD i undef) :=
  ⟨Nat.one_pos, Nat.le_refl _, by unfold maxLen; omega, (fun e => by cases e), .inr ⟨b, 0, rfl, fun i hi j hj => by
    obtain rfl : j = 0 := by omega
    rw [show 0 + (i * 1 + 0) = i by omega]
    exact blk_cell h i hi⟩⟩
section
variable {bk : Nat} {ta sa : Option Addr} {tc sc : Nat} {C C' : ShS} {w0 : World} {nm : Nat → Value} {aF : Nat → Option Addr} {cF : Nat → Nat}
theorem next_start (h : (shR bk ta sa tc sc C).holds w0) (hG : (gR nm aF cF).holds w0) (hT : tabR.holds w0) (hap : (shR bk ta sa tc sc C).apart tabR) (hap2 : (shR bk ta sa tc sc C).apart (gR nm aF cF)) : Sat (shR bk ta sa tc sc C).foot w0 w0 [shR bk ta sa tc sc C, gR nm aF cF, tabR] := by
  refine ((((Sat.start _ w0).push (r := tabR) hT (by simp) (fun e => by cases e)).push (r := gR nm aF cF) hG (fun x hx => ?_) (fun e => by cases e)).push (r := shR bk ta sa tc sc C) h (fun x hx => ?_) (fun _ k hk _ => hk))
  · obtain rfl : x = tabR := by simpa using hx
    exact .inl ⟨rfl, rfl⟩
  · simp only [List.mem_cons, List.not_mem_nil, or_false] at hx
    rcases hx with rfl | rfl
    · exact hap2
    · exact hap
variable (h : (shR bk ta sa tc sc C).holds w0) (hG : (gR nm aF cF).holds w0) (hT : tabR.holds w0) (hap : (shR bk ta sa tc sc C).apart tabR) (hap2 : (shR bk ta sa tc sc C).apart (gR nm aF cF)) (e : EvS) (hl : C.ths.length = 6) (hM : MayP e C.vars C.strs.length) (hev : 0 ≤ C.events ∧ C.events < 1000000) (hce : C'.events = C.events)
include h hG hT hap hap2 hl hM hev

include hce in
theorem next_gen (k f : Nat) [FnOk Tryz.prog f] (hk : e.kind = k) (hk1 : k < 14) (hf : tblF.getD k undef = .func (.func f) #[] #[]) (hmeth : ∀ w, (shR bk ta sa tc sc C).holds w → tabR.holds w → Calls Tryz.prog f #[.pointer (some ⟨bk, 0, none⟩), ePtr ta e.thread.toNat 13 0, evA e] w fun r w' => r = .returned (.bool true) ∧ ShTo bk ta sa tc sc C C' w w') :
    Calls Tryz.prog 9 #[.pointer (some ⟨bk, 0, none⟩), evA e] w0 fun r w' => r = .returned (.int .i64 0) ∧ ShTo bk ta sa tc sc C { C' with events := C.events + 1 } w0 w' := by
  have S := next_start h hG hT hap hap2
  have ht := hM.thread
  have hsm := sh_small h
  have hix : idx e.kind = k := by rw [idx_eq, hk]; rfl
  refine enter1 Tryz.func9 rfl Tryz.ntmps9 rfl Tryz.results9 ?_
  repeat' (first | refine assign_i_l S rfl rfl ?_ | refine move_p_l S rfl rfl ?_ | refine nilL ?_ | refine run_seq ?_ | refine run_region ?_ | refine nilCheck_l S rfl rfl ?_ | refine fieldAddr_l S rfl rfl rfl ?_ | refine assign_b_l S rfl rfl ?_ | refine load_i_l S rfl rfl rfl rfl ?_ | (refine box_a S rfl rfl rfl ?_; clear S; intro b w S) | refine eqlP_l S rfl rfl rfl ?_ | (refine geq_l S rfl rfl rfl ?_ ?_ <;> intro hcmp <;> try (exfalso; first | omega | exact hcmp (by decide) | exact absurd hcmp (by decide))) | refine run_block ?_ | refine run_cond_false rfl ?_ | refine thenQ_n ?_)
  have hkk := hM.kind
  obtain ⟨be, rfl⟩ : ∃ x, x = b := ⟨b, rfl⟩
  replace S : Sat (shR bk ta sa tc sc C).foot w0 _ [evR be e, shR bk ta sa tc sc C, gR nm aF cF, tabR] := S
  refine run_any S (L' := [evR be e, shR bk ta sa tc sc C]) (f := 18) mixed rfl ?_
  clear S
  intro w S1
  have S : Sat _ _ w [evR be e, shR bk ta sa tc sc C] := S1.sub
  all_goals (refine any_pure (i := 0) rfl (by kernel_rfl) S ?_; (refine loadN_x rfl rfl rfl ?_))
  all_goals (refine any_pure (i := 1) rfl (by kernel_rfl) S ?_; (refine move_p_x rfl rfl ?_))
  all_goals (refine any_pure (i := 2) rfl (by kernel_rfl) S ?_; (refine nilCheck_x rfl rfl ?_))
  all_goals (refine any_pure (i := 3) rfl (by kernel_rfl) S ?_; (refine fieldAddr_x rfl rfl rfl ?_))
  all_goals (refine any_pure (i := 4) rfl (by kernel_rfl) S ?_; (refine load_o_x rfl rfl rfl rfl ?_))
  all_goals (refine any_pure (i := 5) rfl (by kernel_rfl) S ?_; refine len_x rfl rfl ?_)
  all_goals (refine any_pure (i := 6) rfl (by kernel_rfl) S ?_; (refine move_p_x rfl rfl ?_))
  all_goals (refine any_pure (i := 7) rfl (by kernel_rfl) S ?_; (refine nilCheck_x rfl rfl ?_))
  all_goals (refine any_pure (i := 8) rfl (by kernel_rfl) S ?_; (refine fieldAddr_x rfl rfl rfl ?_))
  all_goals (refine any_pure (i := 9) rfl (by kernel_rfl) S ?_; (refine load_i_x rfl rfl rfl rfl ?_))
  all_goals (refine any_pure (i := 10) rfl (by kernel_rfl) S ?_; (refine move_p_x rfl rfl ?_))
  all_goals (refine any_pure (i := 11) rfl (by kernel_rfl) S ?_; (refine nilCheck_x rfl rfl ?_))
  all_goals (refine any_pure (i := 12) rfl (by kernel_rfl) S ?_; (refine fieldAddr_x rfl rfl rfl ?_))
  all_goals (refine any_pure (i := 13) rfl (by kernel_rfl) S ?_; (refine load_o_x rfl rfl rfl rfl ?_))
  all_goals (refine any_pure (i := 14) rfl (by kernel_rfl) S ?_; refine len_x rfl rfl ?_)
  all_goals refine any_step (i := 15) rfl (by kernel_rfl) ?_
  all_goals replace S := S1
  (refine callL (may_at (show (gR nm aF cF).holds _ from S.all (gR nm aF cF) (by simp)) e C.ths.length C.vars C.strs.length (by rw [hl]; rfl) hM) rfl rfl ?_; rintro e w ⟨rfl, hb⟩; replace S := S.below hb; clear hb; refine ⟨_, rfl, ?_⟩)
  all_goals try refine nilL ?_
  all_goals refine ⟨S.sub, ?_⟩
  all_goals (have S1 := S; replace S : Sat _ _ _ [evR be e, shR bk ta sa tc sc C] := S1.sub)
  all_goals (refine any_pure (i := 16) rfl (by kernel_rfl) S ?_; refine not_x rfl rfl ?_)
  all_goals (refine any_pure (i := 17) rfl (by kernel_rfl) S ?_; refine assign_b_x rfl rfl ?_)
  all_goals refine any_end (by kernel_rfl) ?_
  all_goals replace S := S1
  repeat' (first | refine run_seq ?_ | refine run_skip ?_ | refine run_region ?_ | refine run_cond_false rfl ?_ | refine thenQ_n ?_ | refine blockQ_n ?_)
  refine buildArr_l S (ps := [(1, .func (.func 26) #[] #[]), (2, .func (.func 27) #[] #[]), (3, .func (.func 28) #[] #[]), (4, .func (.func 29) #[] #[]), (5, .func (.func 30) #[] #[]), (6, .func (.func 31) #[] #[]), (7, .func (.func 32) #[] #[]), (8, .func (.func 33) #[] #[]), (9, .func (.func 34) #[] #[]), (10, .func (.func 35) #[] #[]), (11, .func (.func 36) #[] #[]), (12, .func (.func 37) #[] #[]), (13, .func (.func 38) #[] #[])]) (l := tblF) rfl (by kernel_rfl) rfl ?_
  repeat' (first | refine nilL ?_ | refine run_seq ?_ | (refine allocZ_l S rfl rfl ?_; clear S; intro b w S) | (refine storeN_l S rfl rfl ⟨rfl, rfl⟩ rfl ?_; clear S; intro w S) | refine thenQ_n ?_)
  replace S := S.turn1 (r' := blk b 14 (fun i => tblF.getD i undef) 83) S.got1 rfl (fun k e => e)
  replace S := S.weak (r' := slR (some ⟨b, 0, none⟩) 14 14 1 (fun i _ => tblF.getD i undef)) (tbl_row S.got1) (fun k hk => by obtain ⟨_, x, hx, hk⟩ := hk; cases hx; exact hk.symm) rfl rfl
  refine run_any S (L' := [slR (some ⟨b, 0, none⟩) 14 14 1 (fun i _ => tblF.getD i undef), evR be e]) (f := 15) mixed rfl ?_
  clear S
  intro w S1
  have S : Sat _ _ w [slR (some ⟨b, 0, none⟩) 14 14 1 (fun i _ => tblF.getD i undef), evR be e] := S1.sub
  all_goals (refine any_pure (i := 0) rfl (by kernel_rfl) S ?_; (refine fieldAddr_x rfl rfl rfl ?_))
  all_goals (refine any_pure (i := 1) rfl (by kernel_rfl) S ?_; (refine load_i_x rfl rfl rfl rfl ?_))
  all_goals (refine any_pure (i := 2) rfl (by kernel_rfl) S ?_; refine indexG_x rfl rfl hix (by omega) rfl ?_)
  all_goals (refine any_pure (i := 3) rfl (by kernel_rfl) S ?_; refine loadE_o_x rfl hk1 rfl rfl rfl ?_)
  all_goals (refine any_pure (i := 4) rfl (by kernel_rfl) S ?_; (refine move_p_x rfl rfl ?_))
  all_goals (refine any_pure (i := 5) rfl (by kernel_rfl) S ?_; (refine move_p_x rfl rfl ?_))
  all_goals (refine any_pure (i := 6) rfl (by kernel_rfl) S ?_; (refine nilCheck_x rfl rfl ?_))
  all_goals (refine any_pure (i := 7) rfl (by kernel_rfl) S ?_; (refine fieldAddr_x rfl rfl rfl ?_))
  all_goals (refine any_pure (i := 9) rfl (by kernel_rfl) S ?_; (refine fieldAddr_x rfl rfl rfl ?_))
  all_goals (refine any_pure (i := 10) rfl (by kernel_rfl) S ?_; (refine load_i_x rfl rfl rfl rfl ?_))
  all_goals (refine any_pure (i := 12) rfl (by kernel_rfl) S ?_; (refine loadN_x rfl rfl rfl ?_))
  all_goals (refine any_step (i := 8) rfl (by kernel_rfl) ?_; replace S := S1; clear S1; (refine load_o_l S rfl rfl rfl rfl ?_); refine nilL ?_; refine ⟨S.sub, ?_⟩; have S1 := S; replace S : Sat _ _ _ [slR (some ⟨b, 0, none⟩) 14 14 1 (fun i _ => tblF.getD i undef), evR be e] := S1.sub)
  all_goals (refine any_step (i := 11) rfl (by kernel_rfl) ?_; replace S := S1; clear S1; (refine indexAddr_l S rfl rfl (idx_eq _) (by omega) rfl ?_); refine nilL ?_; refine ⟨S.sub, ?_⟩; have S1 := S; replace S : Sat _ _ _ [slR (some ⟨b, 0, none⟩) 14 14 1 (fun i _ => tblF.getD i undef), evR be e] := S1.sub)
  all_goals refine any_step (i := 13) rfl (by kernel_rfl) ?_
  all_goals replace S := S1
  refine callV (f := f) (l1 := []) (l2 := []) (l := [.pointer (some ⟨bk, 0, none⟩), ePtr ta e.thread.toNat 13 0, evA e]) hf (hmeth _ (S.all (shR bk ta sa tc sc C) (by simp)) (S.all tabR (by simp))) rfl rfl ?_
  rintro r w ⟨rfl, hm1, hm2⟩
  replace S := S.swap (r := shR bk ta sa tc sc C) (r' := shR bk ta sa tc sc C') rfl hm2 hm1 rfl (fun k hk => .inl hk)
  clear hm1 hm2
  refine ⟨_, rfl, ?_⟩
  all_goals try refine nilL ?_
  all_goals refine ⟨S.sub, ?_⟩
  all_goals (have S1 := S; replace S : Sat _ _ _ [slR (some ⟨b, 0, none⟩) 14 14 1 (fun i _ => tblF.getD i undef), evR be e] := S1.sub)
  all_goals (refine any_pure (i := 14) rfl (by kernel_rfl) S ?_; refine not_x rfl rfl ?_)
  all_goals refine any_end (by kernel_rfl) ?_
  all_goals replace S := S1
  repeat' (first | refine move_p_l S rfl rfl ?_ | refine run_seq ?_ | refine run_skip ?_ | refine run_region ?_ | refine nilCheck_l S rfl rfl ?_ | refine fieldAddr_l S rfl rfl rfl ?_ | refine load_i_l S rfl rfl rfl rfl ?_ | refine add_l S rfl rfl (wrap_in (by omega)) rfl ?_ | refine run_cond_false rfl ?_ | refine thenQ_n ?_)
  have S2 := sh_openL (S.perm (List.Perm.symm (List.perm_middle (a := shR bk ta sa tc sc C') (l₁ := [slR (some ⟨b, 0, none⟩) 14 14 1 (fun i _ => tblF.getD i undef), evR be e]) (l₂ := [gR nm aF cF, tabR]))))
  clear S S1
  have S : Sat (shR bk ta sa tc sc C).foot w0 w [blk bk 5 (shC ta sa tc sc C') 76, thsR ta tc C'.ths, strsR sa sc C'.strs, slR (some ⟨b, 0, none⟩) 14 14 1 (fun i _ => tblF.getD i undef), evR be e, gR nm aF cF, tabR] := S2
  clear S2
  have hev' : 0 ≤ C'.events ∧ C'.events < 1000000 := by rw [hce]; exact hev
  repeat' (first | refine assign_i_l S rfl rfl ?_ | refine nilL ?_ | refine run_seq ?_ | refine run_region ?_ | (refine store_i S rfl rfl rfl ?_; clear S; intro w S) | refine run_ret ?_ | refine thenQ_n ?_ | refine ret1_i rfl ?_)
  have e3 : C.events + 1 = C'.events + 1 := by rw [hce]
  rw [e3]
  have S3 := S.sub (L' := [blk bk 5 (upd (shC ta sa tc sc C') (0 + 2) (.int .i64 (C'.events + 1))) 76, thsR ta tc C'.ths, strsR sa sc C'.strs])
  rw [shC_events] at S3
  exact ⟨rfl, sh_shut (C := { C' with events := C'.events + 1 }) S3, S.chg⟩

theorem next_nogen (k f : Nat) [FnOk Tryz.prog f] (hk : e.kind = k) (hk1 : k < 14) (hf : tblF.getD k undef = .func (.func f) #[] #[]) (hmeth : ∀ w, (shR bk ta sa tc sc C).holds w → tabR.holds w → Calls Tryz.prog f #[.pointer (some ⟨bk, 0, none⟩), ePtr ta e.thread.toNat 13 0, evA e] w fun r w' => r = .returned (.bool false) ∧ ShTo bk ta sa tc sc C C' w w') :
    Calls Tryz.prog 9 #[.pointer (some ⟨bk, 0, none⟩), evA e] w0 fun r w' => r = .returned (.int .i64 4) ∧ ShTo bk ta sa tc sc C C' w0 w' := by
  have S := next_start h hG hT hap hap2
  have ht := hM.thread
  have hsm := sh_small h
  have hix : idx e.kind = k := by rw [idx_eq, hk]; rfl
  refine enter1 Tryz.func9 rfl Tryz.ntmps9 rfl Tryz.results9 ?_
  repeat' (first | refine assign_i_l S rfl rfl ?_ | refine move_p_l S rfl rfl ?_ | refine nilL ?_ | refine run_seq ?_ | refine run_region ?_ | refine nilCheck_l S rfl rfl ?_ | refine fieldAddr_l S rfl rfl rfl ?_ | refine assign_b_l S rfl rfl ?_ | refine load_i_l S rfl rfl rfl rfl ?_ | (refine box_a S rfl rfl rfl ?_; clear S; intro b w S) | refine eqlP_l S rfl rfl rfl ?_ | (refine geq_l S rfl rfl rfl ?_ ?_ <;> intro hcmp <;> try (exfalso; first | omega | exact hcmp (by decide) | exact absurd hcmp (by decide))) | refine run_block ?_ | refine run_cond_false rfl ?_ | refine thenQ_n ?_)
  have hkk := hM.kind
  obtain ⟨be, rfl⟩ : ∃ x, x = b := ⟨b, rfl⟩
  replace S : Sat (shR bk ta sa tc sc C).foot w0 _ [evR be e, shR bk ta sa tc sc C, gR nm aF cF, tabR] := S
  refine run_any S (L' := [evR be e, shR bk ta sa tc sc C]) (f := 18) mixed rfl ?_
  clear S
  intro w S1
  have S : Sat _ _ w [evR be e, shR bk ta sa tc sc C] := S1.sub
  all_goals (refine any_pure (i := 0) rfl (by kernel_rfl) S ?_; (refine loadN_x rfl rfl rfl ?_))
  all_goals (refine any_pure (i := 1) rfl (by kernel_rfl) S ?_; (refine move_p_x rfl rfl ?_))
  all_goals (refine any_pure (i := 2) rfl (by kernel_rfl) S ?_; (refine nilCheck_x rfl rfl ?_))
  all_goals (refine any_pure (i := 3) rfl (by kernel_rfl) S ?_; (refine fieldAddr_x rfl rfl rfl ?_))
  all_goals (refine any_pure (i := 4) rfl (by kernel_rfl) S ?_; (refine load_o_x rfl rfl rfl rfl ?_))
  all_goals (refine any_pure (i := 5) rfl (by kernel_rfl) S ?_; refine len_x rfl rfl ?_)
  all_goals (refine any_pure (i := 6) rfl (by kernel_rfl) S ?_; (refine move_p_x rfl rfl ?_))
  all_goals (refine any_pure (i := 7) rfl (by kernel_rfl) S ?_; (refine nilCheck_x rfl rfl ?_))
  all_goals (refine any_pure (i := 8) rfl (by kernel_rfl) S ?_; (refine fieldAddr_x rfl rfl rfl ?_))
  all_goals (refine any_pure (i := 9) rfl (by kernel_rfl) S ?_; (refine load_i_x rfl rfl rfl rfl ?_))
  all_goals (refine any_pure (i := 10) rfl (by kernel_rfl) S ?_; (refine move_p_x rfl rfl ?_))
  all_goals (refine any_pure (i := 11) rfl (by kernel_rfl) S ?_; (refine nilCheck_x rfl rfl ?_))
  all_goals (refine any_pure (i := 12) rfl (by kernel_rfl) S ?_; (refine fieldAddr_x rfl rfl rfl ?_))
  all_goals (refine any_pure (i := 13) rfl (by kernel_rfl) S ?_; (refine load_o_x rfl rfl rfl rfl ?_))
  all_goals (refine any_pure (i := 14) rfl (by kernel_rfl) S ?_; refine len_x rfl rfl ?_)
  all_goals refine any_step (i := 15) rfl (by kernel_rfl) ?_
  all_goals replace S := S1
  (refine callL (may_at (show (gR nm aF cF).holds _ from S.all (gR nm aF cF) (by simp)) e C.ths.length C.vars C.strs.length (by rw [hl]; rfl) hM) rfl rfl ?_; rintro e w ⟨rfl, hb⟩; replace S := S.below hb; clear hb; refine ⟨_, rfl, ?_⟩)
  all_goals try refine nilL ?_
  all_goals refine ⟨S.sub, ?_⟩
  all_goals (have S1 := S; replace S : Sat _ _ _ [evR be e, shR bk ta sa tc sc C] := S1.sub)
  all_goals (refine any_pure (i := 16) rfl (by kernel_rfl) S ?_; refine not_x rfl rfl ?_)
  all_goals (refine any_pure (i := 17) rfl (by kernel_rfl) S ?_; refine assign_b_x rfl rfl ?_)
  all_goals refine any_end (by kernel_rfl) ?_
  all_goals replace S := S1
  repeat' (first | refine run_seq ?_ | refine run_skip ?_ | refine run_region ?_ | refine run_cond_false rfl ?_ | refine thenQ_n ?_ | refine blockQ_n ?_)
  refine buildArr_l S (ps := [(1, .func (.func 26) #[] #[]), (2, .func (.func 27) #[] #[]), (3, .func (.func 28) #[] #[]), (4, .func (.func 29) #[] #[]), (5, .func (.func 30) #[] #[]), (6, .func (.func 31) #[] #[]), (7, .func (.func 32) #[] #[]), (8, .func (.func 33) #[] #[]), (9, .func (.func 34) #[] #[]), (10, .func (.func 35) #[] #[]), (11, .func (.func 36) #[] #[]), (12, .func (.func 37) #[] #[]), (13, .func (.func 38) #[] #[])]) (l := tblF) rfl (by kernel_rfl) rfl ?_
  repeat' (first | refine nilL ?_ | refine run_seq ?_ | (refine allocZ_l S rfl rfl ?_; clear S; intro b w S) | (refine storeN_l S rfl rfl ⟨rfl, rfl⟩ rfl ?_; clear S; intro w S) | refine thenQ_n ?_)
  replace S := S.turn1 (r' := blk b 14 (fun i => tblF.getD i undef) 83) S.got1 rfl (fun k e => e)
  replace S := S.weak (r' := slR (some ⟨b, 0, none⟩) 14 14 1 (fun i _ => tblF.getD i undef)) (tbl_row S.got1) (fun k hk => by obtain ⟨_, x, hx, hk⟩ := hk; cases hx; exact hk.symm) rfl rfl
  refine run_any S (L' := [slR (some ⟨b, 0, none⟩) 14 14 1 (fun i _ => tblF.getD i undef), evR be e]) (f := 15) mixed rfl ?_
  clear S
  intro w S1
  have S : Sat _ _ w [slR (some ⟨b, 0, none⟩) 14 14 1 (fun i _ => tblF.getD i undef), evR be e] := S1.sub
  all_goals (refine any_pure (i := 0) rfl (by kernel_rfl) S ?_; (refine fieldAddr_x rfl rfl rfl ?_))
  all_goals (refine any_pure (i := 1) rfl (by kernel_rfl) S ?_; (refine load_i_x rfl rfl rfl rfl ?_))
  all_goals (refine any_pure (i := 2) rfl (by kernel_rfl) S ?_; refine indexG_x rfl rfl hix (by omega) rfl ?_)
  all_goals (refine any_pure (i := 3) rfl (by kernel_rfl) S ?_; refine loadE_o_x rfl hk1 rfl rfl rfl ?_)
  all_goals (refine any_pure (i := 4) rfl (by kernel_rfl) S ?_; (refine move_p_x rfl rfl ?_))
  all_goals (refine any_pure (i := 5) rfl (by kernel_rfl) S ?_; (refine move_p_x rfl rfl ?_))
  all_goals (refine any_pure (i := 6) rfl (by kernel_rfl) S ?_; (refine nilCheck_x rfl rfl ?_))
  all_goals (refine any_pure (i := 7) rfl (by kernel_rfl) S ?_; (refine fieldAddr_x rfl rfl rfl ?_))
  all_goals (refine any_pure (i := 9) rfl (by kernel_rfl) S ?_; (refine fieldAddr_x rfl rfl rfl ?_))
  all_goals (refine any_pure (i := 10) rfl (by kernel_rfl) S ?_; (refine load_i_x rfl rfl rfl rfl ?_))
  all_goals (refine any_pure (i := 12) rfl (by kernel_rfl) S ?_; (refine loadN_x rfl rfl rfl ?_))
  all_goals (refine any_step (i := 8) rfl (by kernel_rfl) ?_; replace S := S1; clear S1; (refine load_o_l S rfl rfl rfl rfl ?_); refine nilL ?_; refine ⟨S.sub, ?_⟩; have S1 := S; replace S : Sat _ _ _ [slR (some ⟨b, 0, none⟩) 14 14 1 (fun i _ => tblF.getD i undef), evR be e] := S1.sub)
  all_goals (refine any_step (i := 11) rfl (by kernel_rfl) ?_; replace S := S1; clear S1; (refine indexAddr_l S rfl rfl (idx_eq _) (by omega) rfl ?_); refine nilL ?_; refine ⟨S.sub, ?_⟩; have S1 := S; replace S : Sat _ _ _ [slR (some ⟨b, 0, none⟩) 14 14 1 (fun i _ => tblF.getD i undef), evR be e] := S1.sub)
  all_goals refine any_step (i := 13) rfl (by kernel_rfl) ?_
  all_goals replace S := S1
  refine callV (f := f) (l1 := []) (l2 := []) (l := [.pointer (some ⟨bk, 0, none⟩), ePtr ta e.thread.toNat 13 0, evA e]) hf (hmeth _ (S.all (shR bk ta sa tc sc C) (by simp)) (S.all tabR (by simp))) rfl rfl ?_
  rintro r w ⟨rfl, hm1, hm2⟩
  replace S := S.swap (r := shR bk ta sa tc sc C) (r' := shR bk ta sa tc sc C') rfl hm2 hm1 rfl (fun k hk => .inl hk)
  clear hm1 hm2
  refine ⟨_, rfl, ?_⟩
  all_goals try refine nilL ?_
  all_goals refine ⟨S.sub, ?_⟩
  all_goals (have S1 := S; replace S : Sat _ _ _ [slR (some ⟨b, 0, none⟩) 14 14 1 (fun i _ => tblF.getD i undef), evR be e] := S1.sub)
  all_goals (refine any_pure (i := 14) rfl (by kernel_rfl) S ?_; refine not_x rfl rfl ?_)
  all_goals refine any_end (by kernel_rfl) ?_
  all_goals replace S := S1
  repeat' (first | refine assign_i_l S rfl rfl ?_ | refine nilL ?_ | refine run_seq ?_ | refine run_region ?_ | refine run_ret ?_ | refine run_cond_true rfl ?_ | refine thenQ_n ?_ | refine thenQ_r ?_ | refine ret1_i rfl ?_)
  exact ⟨rfl, S.all (shR bk ta sa tc sc C') (by simp), S.chg⟩
include hce in
theorem next_1 (hk : e.kind = 1) (hmeth : ∀ w, (shR bk ta sa tc sc C).holds w → tabR.holds w → Calls Tryz.prog 26 #[.pointer (some ⟨bk, 0, none⟩), ePtr ta e.thread.toNat 13 0, evA e] w fun r w' => r = .returned (.bool true) ∧ ShTo bk ta sa tc sc C C' w w') :
    Calls Tryz.prog 9 #[.pointer (some ⟨bk, 0, none⟩), evA e] w0 fun r w' => r = .returned (.int .i64 0) ∧ ShTo bk ta sa tc sc C { C' with events := C.events + 1 } w0 w' :=
  next_gen h hG hT hap hap2 e hl hM hev hce 1 26 hk (by decide) rfl hmeth
include hce in
theorem next_2 (hk : e.kind = 2) (hmeth : ∀ w, (shR bk ta sa tc sc C).holds w → tabR.holds w → Calls Tryz.prog 27 #[.pointer (some ⟨bk, 0, none⟩), ePtr ta e.thread.toNat 13 0, evA e] w fun r w' => r = .returned (.bool true) ∧ ShTo bk ta sa tc sc C C' w w') :
    Calls Tryz.prog 9 #[.pointer (some ⟨bk, 0, none⟩), evA e] w0 fun r w' => r = .returned (.int .i64 0) ∧ ShTo bk ta sa tc sc C { C' with events := C.events + 1 } w0 w' :=
  next_gen h hG hT hap hap2 e hl hM hev hce 2 27 hk (by decide) rfl hmeth
include hce in
theorem next_3 (hk : e.kind = 3) (hmeth : ∀ w, (shR bk ta sa tc sc C).holds w → tabR.holds w → Calls Tryz.prog 28 #[.pointer (some ⟨bk, 0, none⟩), ePtr ta e.thread.toNat 13 0, evA e] w fun r w' => r = .returned (.bool true) ∧ ShTo bk ta sa tc sc C C' w w') :
    Calls Tryz.prog 9 #[.pointer (some ⟨bk, 0, none⟩), evA e] w0 fun r w' => r = .returned (.int .i64 0) ∧ ShTo bk ta sa tc sc C { C' with events := C.events + 1 } w0 w' :=
  next_gen h hG hT hap hap2 e hl hM hev hce 3 28 hk (by decide) rfl hmeth
include hce in
theorem next_4 (hk : e.kind = 4) (hmeth : ∀ w, (shR bk ta sa tc sc C).holds w → tabR.holds w → Calls Tryz.prog 29 #[.pointer (some ⟨bk, 0, none⟩), ePtr ta e.thread.toNat 13 0, evA e] w fun r w' => r = .returned (.bool true) ∧ ShTo bk ta sa tc sc C C' w w') :
    Calls Tryz.prog 9 #[.pointer (some ⟨bk, 0, none⟩), evA e] w0 fun r w' => r = .returned (.int .i64 0) ∧ ShTo bk ta sa tc sc C { C' with events := C.events + 1 } w0 w' :=
  next_gen h hG hT hap hap2 e hl hM hev hce 4 29 hk (by decide) rfl hmeth
include hce in
theorem next_5 (hk : e.kind = 5) (hmeth : ∀ w, (shR bk ta sa tc sc C).holds w → tabR.holds w → Calls Tryz.prog 30 #[.pointer (some ⟨bk, 0, none⟩), ePtr ta e.thread.toNat 13 0, evA e] w fun r w' => r = .returned (.bool true) ∧ ShTo bk ta sa tc sc C C' w w') :
    Calls Tryz.prog 9 #[.pointer (some ⟨bk, 0, none⟩), evA e] w0 fun r w' => r = .returned (.int .i64 0) ∧ ShTo bk ta sa tc sc C { C' with events := C.events + 1 } w0 w' :=
  next_gen h hG hT hap hap2 e hl hM hev hce 5 30 hk (by decide) rfl hmeth
include hce in
theorem next_6 (hk : e.kind = 6) (hmeth : ∀ w, (shR bk ta sa tc sc C).holds w → tabR.holds w → Calls Tryz.prog 31 #[.pointer (some ⟨bk, 0, none⟩), ePtr ta e.thread.toNat 13 0, evA e] w fun r w' => r = .returned (.bool true) ∧ ShTo bk ta sa tc sc C C' w w') :
    Calls Tryz.prog 9 #[.pointer (some ⟨bk, 0, none⟩), evA e] w0 fun r w' => r = .returned (.int .i64 0) ∧ ShTo bk ta sa tc sc C { C' with events := C.events + 1 } w0 w' :=
  next_gen h hG hT hap hap2 e hl hM hev hce 6 31 hk (by decide) rfl hmeth
include hce in
theorem next_7 (hk : e.kind = 7) (hmeth : ∀ w, (shR bk ta sa tc sc C).holds w → tabR.holds w → Calls Tryz.prog 32 #[.pointer (some ⟨bk, 0, none⟩), ePtr ta e.thread.toNat 13 0, evA e] w fun r w' => r = .returned (.bool true) ∧ ShTo bk ta sa tc sc C C' w w') :
    Calls Tryz.prog 9 #[.pointer (some ⟨bk, 0, none⟩), evA e] w0 fun r w' => r = .returned (.int .i64 0) ∧ ShTo bk ta sa tc sc C { C' with events := C.events + 1 } w0 w' :=
  next_gen h hG hT hap hap2 e hl hM hev hce 7 32 hk (by decide) rfl hmeth
include hce in
theorem next_8 (hk : e.kind = 8) (hmeth : ∀ w, (shR bk ta sa tc sc C).holds w → tabR.holds w → Calls Tryz.prog 33 #[.pointer (some ⟨bk, 0, none⟩), ePtr ta e.thread.toNat 13 0, evA e] w fun r w' => r = .returned (.bool true) ∧ ShTo bk ta sa tc sc C C' w w') :
    Calls Tryz.prog 9 #[.pointer (some ⟨bk, 0, none⟩), evA e] w0 fun r w' => r = .returned (.int .i64 0) ∧ ShTo bk ta sa tc sc C { C' with events := C.events + 1 } w0 w' :=
  next_gen h hG hT hap hap2 e hl hM hev hce 8 33 hk (by decide) rfl hmeth
include hce in
theorem next_9 (hk : e.kind = 9) (hmeth : ∀ w, (shR bk ta sa tc sc C).holds w → tabR.holds w → Calls Tryz.prog 34 #[.pointer (some ⟨bk, 0, none⟩), ePtr ta e.thread.toNat 13 0, evA e] w fun r w' => r = .returned (.bool true) ∧ ShTo bk ta sa tc sc C C' w w') :
    Calls Tryz.prog 9 #[.pointer (some ⟨bk, 0, none⟩), evA e] w0 fun r w' => r = .returned (.int .i64 0) ∧ ShTo bk ta sa tc sc C { C' with events := C.events + 1 } w0 w' :=
  next_gen h hG hT hap hap2 e hl hM hev hce 9 34 hk (by decide) rfl hmeth
include hce in
theorem next_10 (hk : e.kind = 10) (hmeth : ∀ w, (shR bk ta sa tc sc C).holds w → tabR.holds w → Calls Tryz.prog 35 #[.pointer (some ⟨bk, 0, none⟩), ePtr ta e.thread.toNat 13 0, evA e] w fun r w' => r = .returned (.bool true) ∧ ShTo bk ta sa tc sc C C' w w') :
    Calls Tryz.prog 9 #[.pointer (some ⟨bk, 0, none⟩), evA e] w0 fun r w' => r = .returned (.int .i64 0) ∧ ShTo bk ta sa tc sc C { C' with events := C.events + 1 } w0 w' :=
  next_gen h hG hT hap hap2 e hl hM hev hce 10 35 hk (by decide) rfl hmeth
include hce in
theorem next_11 (hk : e.kind = 11) (hmeth : ∀ w, (shR bk ta sa tc sc C).holds w → tabR.holds w → Calls Tryz.prog 36 #[.pointer (some ⟨bk, 0, none⟩), ePtr ta e.thread.toNat 13 0, evA e] w fun r w' => r = .returned (.bool true) ∧ ShTo bk ta sa tc sc C C' w w') :
    Calls Tryz.prog 9 #[.pointer (some ⟨bk, 0, none⟩), evA e] w0 fun r w' => r = .returned (.int .i64 0) ∧ ShTo bk ta sa tc sc C { C' with events := C.events + 1 } w0 w' :=
  next_gen h hG hT hap hap2 e hl hM hev hce 11 36 hk (by decide) rfl hmeth
theorem next_no5 (hk : e.kind = 5) (hmeth : ∀ w, (shR bk ta sa tc sc C).holds w → tabR.holds w → Calls Tryz.prog 30 #[.pointer (some ⟨bk, 0, none⟩), ePtr ta e.thread.toNat 13 0, evA e] w fun r w' => r = .returned (.bool false) ∧ ShTo bk ta sa tc sc C C' w w') :
    Calls Tryz.prog 9 #[.pointer (some ⟨bk, 0, none⟩), evA e] w0 fun r w' => r = .returned (.int .i64 4) ∧ ShTo bk ta sa tc sc C C' w0 w' :=
  next_nogen h hG hT hap hap2 e hl hM hev 5 30 hk (by decide) rfl hmeth
end
end Go.Proofs.YtpiodhdbdlfnhaaGreatDoor
namespace Go.Proofs.YtpiodhdbdlfnhaaGreatDoor
open Go.RowKit Go.Lib
set_option linter.unusedVariables false
set_option linter.unusedSimpArgs false
set_option maxHeartbeats 2000000
/-- An event comes, and leaves a checker so. -/
inductive Acc (C : ShS) (e : EvS) : ShS → Prop
  | begin (hk : e.kind = 1) (g1 : (C.ths.getD e.thread.toNat thD).at_ = 0) (g2 : (C.ths.getD e.thread.toNat thD).commits = 0) (g3 : C.clock ≤ e.v) : Acc C e (putTh { C with clock := e.v } e.thread.toNat ⟨1, (C.ths.getD e.thread.toNat thD).commits, e.v, 0, 0, 0, 0#32, 0#32, 0#32, 0#32, -1, -1, false⟩)
  | look (hk : e.kind = 2) (g1 : (C.ths.getD e.thread.toNat thD).at_ = 1) (g2 : (C.strs.getD e.at_.toNat (0, 0)).1 = -1) (g3 : (C.strs.getD e.at_.toNat (0, 0)).2 ≤ e.v) (g4 : e.v ≤ (C.ths.getD e.thread.toNat thD).rv) : Acc C e (putTh (putSt C e.at_.toNat ((C.strs.getD e.at_.toNat (0, 0)).1, e.v)) e.thread.toNat { (C.ths.getD e.thread.toNat thD) with at_ := 2, stripe := e.at_, v := e.v })
  | load (hk : e.kind = 3) (g1 : (C.ths.getD e.thread.toNat thD).at_ = 2) (g2 : 0 ≤ (C.ths.getD e.thread.toNat thD).stripe ∧ (C.ths.getD e.thread.toNat thD).stripe < C.strs.length) (g3 : e.at_.tmod C.strs.length = (C.ths.getD e.thread.toNat thD).stripe) (g4 : (C.strs.getD (C.ths.getD e.thread.toNat thD).stripe.toNat (0, 0)).1 = -1 ∧ (C.strs.getD (C.ths.getD e.thread.toNat thD).stripe.toNat (0, 0)).2 = (C.ths.getD e.thread.toNat thD).v) : Acc C e (putTh C e.thread.toNat { (C.ths.getD e.thread.toNat thD) with at_ := 1, read := (C.ths.getD e.thread.toNat thD).read ||| BitVec.twoPow 32 (C.ths.getD e.thread.toNat thD).stripe.toNat })
  | lock (hk : e.kind = 4) (g1 : (C.ths.getD e.thread.toNat thD).at_ = 1 ∨ (C.ths.getD e.thread.toNat thD).at_ = 3) (g2 : (C.ths.getD e.thread.toNat thD).locked < e.at_) (g3 : (C.strs.getD e.at_.toNat (0, 0)).1 = -1) : Acc C e (putTh (putSt C e.at_.toNat (e.thread, (C.strs.getD e.at_.toNat (0, 0)).2)) e.thread.toNat { (C.ths.getD e.thread.toNat thD) with at_ := 3, locked := e.at_, owned := (C.ths.getD e.thread.toNat thD).owned ||| BitVec.twoPow 32 e.at_.toNat })
  | bump (hk : e.kind = 5) (g1 : 0 ≤ (C.ths.getD e.thread.toNat thD).rv ∧ (C.ths.getD e.thread.toNat thD).rv ≤ 1099511627776) (g2 : (C.ths.getD e.thread.toNat thD).at_ = 3) (g3 : C.clock < e.v) : Acc C e (putTh { C with clock := e.v } e.thread.toNat { (C.ths.getD e.thread.toNat thD) with at_ := 4, wv_ := e.v, check := if e.v = (C.ths.getD e.thread.toNat thD).rv + 1 then (C.ths.getD e.thread.toNat thD).check else (C.ths.getD e.thread.toNat thD).read })
  | check (hk : e.kind = 6) (g1 : (C.ths.getD e.thread.toNat thD).at_ = 4) (g2 : e.at_ = leastW (C.ths.getD e.thread.toNat thD).check) (g3 : ¬ (¬ (C.strs.getD e.at_.toNat (0, 0)).1 = -1 ∧ ¬ (C.strs.getD e.at_.toNat (0, 0)).1 = e.thread)) (g4 : ¬ (C.ths.getD e.thread.toNat thD).rv < (C.strs.getD e.at_.toNat (0, 0)).2) : Acc C e (putTh C e.thread.toNat { (C.ths.getD e.thread.toNat thD) with check := lessW (C.ths.getD e.thread.toNat thD).check e.at_ })
  | commit0 (hk : e.kind = 7) (g1 : 0 ≤ (C.ths.getD e.thread.toNat thD).commits ∧ (C.ths.getD e.thread.toNat thD).commits ≤ 1000000) (g2 : e.v = 0) (g3 : (C.ths.getD e.thread.toNat thD).at_ = 1) : Acc C e (putTh C e.thread.toNat { (C.ths.getD e.thread.toNat thD) with at_ := 0, commits := (C.ths.getD e.thread.toNat thD).commits + 1 })
  | commit1 (hk : e.kind = 7) (g1 : ¬ e.v = 0) (g2 : (C.ths.getD e.thread.toNat thD).at_ = 4) (g3 : ((C.ths.getD e.thread.toNat thD).check.toNat : Int) = 0) (g4 : e.v = (C.ths.getD e.thread.toNat thD).wv_) : Acc C e (putTh C e.thread.toNat { (C.ths.getD e.thread.toNat thD) with at_ := 5 })
  | store (hk : e.kind = 8) (g1 : (C.ths.getD e.thread.toNat thD).at_ = 5) (g2 : (C.ths.getD e.thread.toNat thD).var_ < e.at_) (g3 : ¬ (((C.ths.getD e.thread.toNat thD).owned >>> (e.at_.tmod C.strs.length).toNat &&& 1#32).toNat : Int) = 0) : Acc C e (putTh C e.thread.toNat { (C.ths.getD e.thread.toNat thD) with var_ := e.at_, stored := (C.ths.getD e.thread.toNat thD).stored ||| BitVec.twoPow 32 (e.at_.tmod C.strs.length).toNat })
  | free (hk : e.kind = 9) (g1 : 0 ≤ (C.ths.getD e.thread.toNat thD).commits ∧ (C.ths.getD e.thread.toNat thD).commits ≤ 1000000) (g2 : (C.ths.getD e.thread.toNat thD).at_ = 6 ∨ (C.ths.getD e.thread.toNat thD).at_ = 5 ∧ ((C.ths.getD e.thread.toNat thD).stored.toNat : Int) = (C.ths.getD e.thread.toNat thD).owned.toNat) (g3 : e.at_ = leastW (C.ths.getD e.thread.toNat thD).owned) : Acc C e (putTh (putSt C e.at_.toNat (-1, (C.ths.getD e.thread.toNat thD).wv_)) e.thread.toNat (freedT (C.ths.getD e.thread.toNat thD) e.at_))
  | busy (hk : e.kind = 10) (g1 : e.why = 4) (g2 : (C.ths.getD e.thread.toNat thD).at_ = 1 ∨ (C.ths.getD e.thread.toNat thD).at_ = 3) (g3 : (C.ths.getD e.thread.toNat thD).locked < e.at_) (g4 : ¬ (C.strs.getD e.at_.toNat (0, 0)).1 = -1 ∧ ¬ (C.strs.getD e.at_.toNat (0, 0)).1 = e.thread) : Acc C e (putTh C e.thread.toNat (abortT (C.ths.getD e.thread.toNat thD) e.why))
  | stale (hk : e.kind = 10) (g1 : e.why = 5) (g2 : (C.ths.getD e.thread.toNat thD).at_ = 4) (g3 : e.at_ = leastW (C.ths.getD e.thread.toNat thD).check) (g4 : (¬ (C.strs.getD e.at_.toNat (0, 0)).1 = -1 ∧ ¬ (C.strs.getD e.at_.toNat (0, 0)).1 = e.thread) ∨ (C.ths.getD e.thread.toNat thD).rv < (C.strs.getD e.at_.toNat (0, 0)).2) : Acc C e (putTh C e.thread.toNat (abortT (C.ths.getD e.thread.toNat thD) e.why))
  | full (hk : e.kind = 10) (g1 : e.why = 6) (g2 : (C.ths.getD e.thread.toNat thD).at_ = 3) : Acc C e (putTh C e.thread.toNat (abortT (C.ths.getD e.thread.toNat thD) e.why))
  | undo (hk : e.kind = 11) (g1 : (C.ths.getD e.thread.toNat thD).at_ = 7) (g2 : e.at_ = leastW (C.ths.getD e.thread.toNat thD).owned) : Acc C e (putTh (putSt C e.at_.toNat (-1, (C.strs.getD e.at_.toNat (0, 0)).2)) e.thread.toNat (undoT (C.ths.getD e.thread.toNat thD) e.at_))
structure AccOk (C : ShS) (e : EvS) (C' : ShS) : Prop where
  may : MayP e C.vars C.strs.length
  len : C.ths.length = 6
  st : 0 < C.strs.length ∧ C.strs.length ≤ 32
  acc : Acc C e C'
theorem at_str {e : EvS} {nv ns : Int} (hM : MayP e nv ns) (h3 : ¬ (e.kind = 3 ∨ e.kind = 8)) (h6 : ¬ (e.kind = 10 ∧ e.why = 6)) : 0 ≤ e.at_ ∧ e.at_ < ns := by
  have h := hM.at_
  rw [if_neg h3, if_neg h6] at h
  omega
theorem next_acc {bk : Nat} {ta sa : Option Addr} {tc sc : Nat} {C C' : ShS} {w0 : World} {nm : Nat → Value} {aF : Nat → Option Addr} {cF : Nat → Nat}
    (h : (shR bk ta sa tc sc C).holds w0) (hG : (gR nm aF cF).holds w0) (hT : tabR.holds w0) (hap : (shR bk ta sa tc sc C).apart tabR) (hap2 : (shR bk ta sa tc sc C).apart (gR nm aF cF)) (e : EvS) (hev : 0 ≤ C.events ∧ C.events < 1000000) (hA : AccOk C e C') :
    Calls Tryz.prog 9 #[.pointer (some ⟨bk, 0, none⟩), evA e] w0 fun r w' => r = .returned (.int .i64 0) ∧ ShTo bk ta sa tc sc C { C' with events := C.events + 1 } w0 w' := by
  obtain ⟨hM, hl, ⟨h0, h32⟩, hacc⟩ := hA
  have ht := hM.thread
  have hi : e.thread.toNat < C.ths.length := by omega
  cases hacc with
  | begin hk g1 g2 g3 =>
    exact next_1 h hG hT hap hap2 e hl hM hev rfl hk (fun w hw hT => begin_at hw hi e h0 g1 g2 g3)
  | look hk g1 g2 g3 g4 =>
    have hs := at_str hM (by omega) (by omega)
    exact next_2 h hG hT hap hap2 e hl hM hev rfl hk (fun w hw hT => plook_at hw hi e hs g1 g2 g3 g4)
  | load hk g1 g2 g3 g4 =>
    exact next_3 h hG hT hap hap2 e hl hM hev rfl hk (fun w hw hT => load_at hw hi e h0 h32 g1 g2 g3 g4)
  | lock hk g1 g2 g3 =>
    have hs := at_str hM (by omega) (by omega)
    exact next_4 h hG hT hap hap2 e hl hM hev rfl hk (fun w hw hT => lock_at hw hi e h0 hs h32 g1 g2 g3)
  | bump hk g1 g2 g3 =>
    exact next_5 h hG hT hap hap2 e hl hM hev rfl hk (fun w hw hT => bump_at' hw hi e h0 g1 g2 g3)
  | check hk g1 g2 g3 g4 =>
    have hs := at_str hM (by omega) (by omega)
    exact next_6 h hG hT hap hap2 e hl hM hev rfl hk (fun w hw hT => checked_at hw hT hap hi e h0 hs h32 g1 g2 g3 g4)
  | commit0 hk g1 g2 g3 =>
    exact next_7 h hG hT hap hap2 e hl hM hev rfl hk (fun w hw hT => commit0_at hw hT hap hi e h0 g1 g2 g3)
  | commit1 hk g1 g2 g3 g4 =>
    exact next_7 h hG hT hap hap2 e hl hM hev rfl hk (fun w hw hT => commit1_at hw hT hap hi e h0 g1 g2 g3 g4)
  | store hk g1 g2 g3 =>
    exact next_8 h hG hT hap hap2 e hl hM hev rfl hk (fun w hw hT => store_at hw hT hap hi e h0 h32 hM.at_.1 g1 g2 g3)
  | free hk g1 g2 g3 =>
    have hs := at_str hM (by omega) (by omega)
    exact next_9 h hG hT hap hap2 e hl hM hev rfl hk (fun w hw hT => freed_at hw hT hap hi e hs h32 g1 g2 g3)
  | busy hk g1 g2 g3 g4 =>
    have hs := at_str hM (by omega) (by omega)
    exact next_10 h hG hT hap hap2 e hl hM hev rfl hk (fun w hw hT => busy_at hw hT hap hi e h0 g1 hs g2 g3 g4)
  | stale hk g1 g2 g3 g4 =>
    have hs := at_str hM (by omega) (by omega)
    exact next_10 h hG hT hap hap2 e hl hM hev rfl hk (fun w hw hT => pstale_at hw hT hap hi e h0 g1 hs g2 g3 g4)
  | full hk g1 g2 =>
    exact next_10 h hG hT hap hap2 e hl hM hev rfl hk (fun w hw hT => pfull_at hw hT hap hi e h0 g1 g2)
  | undo hk g1 g2 =>
    have hs := at_str hM (by omega) (by omega)
    exact next_11 h hG hT hap hap2 e hl hM hev rfl hk (fun w hw hT => undo_at hw hT hap hi e hs h32 g1 g2)
end Go.Proofs.YtpiodhdbdlfnhaaGreatDoor
namespace Go.Proofs.YtpiodhdbdlfnhaaGreatDoor
open Go.RowKit Go.Lib
set_option linter.unusedVariables false
set_option linter.unusedSimpArgs false
set_option maxHeartbeats 2000000
/-- A word has just the bits of a list. -/
def IsSet (x : BitVec 32) (l : List Int) : Prop := ∀ i : Nat, i < 32 → (x.getLsbD i = true ↔ (i : Int) ∈ l)
theorem IsSet.nil : IsSet 0#32 [] := fun i _ => by simp
theorem IsSet.congr {x : BitVec 32} {l l' : List Int} (h : IsSet x l) (e : ∀ s, s ∈ l ↔ s ∈ l') : IsSet x l' := fun i hi => (h i hi).trans (e i)
theorem IsSet.add {x : BitVec 32} {l : List Int} (h : IsSet x l) {s : Int} (hs : 0 ≤ s ∧ s < 32) : IsSet (x ||| BitVec.twoPow 32 s.toNat) (l ++ [s]) := fun i hi => by
  rw [BitVec.getLsbD_or, BitVec.getLsbD_twoPow, Bool.or_eq_true, h i hi, List.mem_append, List.mem_singleton]
  refine or_congr_right ?_
  simp only [Bool.and_eq_true, decide_eq_true_eq]
  omega
theorem IsSet.less {x : BitVec 32} {l : List Int} {s : Int} (h : IsSet x (s :: l)) (hn : s ∉ l) (h0 : 0 ≤ s) : IsSet (lessW x s) l := fun i hi => by
  rw [BitVec.getLsbD_and, BitVec.getLsbD_not, BitVec.getLsbD_twoPow, Bool.and_eq_true, h i hi, List.mem_cons]
  simp only [hi, decide_true, Bool.true_and, Bool.not_eq_true', Bool.and_eq_false_iff, decide_eq_false_iff_not]
  constructor
  · rintro ⟨e | e, g⟩
    · exfalso; omega
    · exact e
  · intro e
    refine ⟨.inr e, ?_⟩
    have : (i : Int) ≠ s := fun x => hn (x ▸ e)
    omega
theorem IsSet.zero {x : BitVec 32} {l : List Int} (h : IsSet x l) (hl : ∀ s ∈ l, 0 ≤ s ∧ s < 32) : (x.toNat : Int) = 0 ↔ l = [] := by
  constructor
  · intro e
    have e0 : x = 0#32 := BitVec.eq_of_toNat_eq (by rw [BitVec.toNat_zero]; omega)
    subst e0
    cases l with
    | nil => rfl
    | cons s r =>
      exfalso
      have hs := hl s (List.mem_cons_self ..)
      have := (h s.toNat (by omega)).2 (by rw [Int.toNat_of_nonneg hs.1]; exact List.mem_cons_self ..)
      simp at this
  · intro e
    subst e
    have e0 : x = 0#32 := BitVec.eq_of_getLsbD_eq fun i hi => by
      cases hx : x.getLsbD i with
      | false => simp
      | true => exact absurd ((h i hi).1 hx) (by simp)
    rw [e0]; rfl
theorem IsSet.eq {x y : BitVec 32} {l : List Int} (h : IsSet x l) (h' : IsSet y l) : x = y := BitVec.eq_of_getLsbD_eq fun i hi => by
  rw [Bool.eq_iff_iff, h i hi, h' i hi]
theorem IsSet.bit {x : BitVec 32} {l : List Int} (h : IsSet x l) {s : Int} (hs : 0 ≤ s ∧ s < 32) (hm : s ∈ l) : ¬ ((x >>> s.toNat &&& 1#32).toNat : Int) = 0 := by
  intro e
  have e0 : x >>> s.toNat &&& 1#32 = 0#32 := BitVec.eq_of_toNat_eq (by rw [BitVec.toNat_zero]; omega)
  have e1 : (x >>> s.toNat &&& 1#32).getLsbD 0 = false := by rw [e0]; simp
  rw [BitVec.getLsbD_and, BitVec.getLsbD_ushiftRight] at e1
  have e3 : ((s.toNat + 0 : Nat) : Int) = s := by omega
  have e2 : x.getLsbD (s.toNat + 0) = true := (h (s.toNat + 0) (by omega)).2 (e3.symm ▸ hm)
  rw [e2] at e1
  simp at e1
theorem neg_low {x : BitVec 32} {n : Nat} (hn : n < 32) (h1 : x.getLsbD n = true) (h2 : ∀ m, m < n → x.getLsbD m = false) : x &&& -x = BitVec.twoPow 32 n := by
  refine BitVec.eq_of_getLsbD_eq fun i hi => ?_
  rw [BitVec.getLsbD_and, BitVec.getLsbD_neg, BitVec.getLsbD_twoPow]
  rcases Nat.lt_trichotomy i n with h | h | h
  · rw [h2 i h]
    simp [show ¬ n = i by omega]
  · subst h
    have : ¬ ∃ j, j < i ∧ x.getLsbD j = true := fun ⟨j, a, b⟩ => by rw [h2 j a] at b; cases b
    simp [h1, hi, this]
  · have : ∃ j, j < i ∧ x.getLsbD j = true := ⟨n, h, h1⟩
    simp [hi, this, show ¬ n = i by omega]
theorem deB_at (n : Nat) (hn : n < 32) : deB.getD ((BitVec.twoPow 32 n * BitVec.ofInt 32 125613361) >>> (27 : Int).toNat).toNat 0 = n := by
  have : ∀ m : Fin 32, deB.getD ((BitVec.twoPow 32 m.1 * BitVec.ofInt 32 125613361) >>> (27 : Int).toNat).toNat 0 = m.1 := by decide
  exact this ⟨n, hn⟩
theorem IsSet.least {x : BitVec 32} {l : List Int} {s : Int} (h : IsSet x (s :: l)) (hs : 0 ≤ s ∧ s < 32) (hl : ∀ r ∈ l, s < r) : leastW x = s := by
  have h1 : x.getLsbD s.toNat = true := (h s.toNat (by omega)).2 (by rw [Int.toNat_of_nonneg hs.1]; exact List.mem_cons_self ..)
  have h2 : ∀ m, m < s.toNat → x.getLsbD m = false := fun m hm => by
    cases hx : x.getLsbD m with
    | false => rfl
    | true =>
      have := (h m (by omega)).1 hx
      rcases List.mem_cons.1 this with e | e
      · omega
      · have := hl _ e; omega
  have h0 : ¬ (x.toNat : Int) = 0 := fun e => by
    have e0 : x = 0#32 := BitVec.eq_of_toNat_eq (by rw [BitVec.toNat_zero]; omega)
    rw [e0] at h1
    simp at h1
  unfold leastW
  rw [if_neg h0, neg_low (by omega) h1 h2, deB_at _ (by omega)]
  omega
end Go.Proofs.YtpiodhdbdlfnhaaGreatDoor
namespace Go.Proofs.YtpiodhdbdlfnhaaGreatDoor
open Go.RowKit Go.Lib
set_option linter.unusedVariables false
set_option linter.unusedSimpArgs false
set_option maxHeartbeats 2000000
section
variable {nv ns th : Int} (hv : 1 ≤ nv ∧ nv ≤ 32) (hs : 1 ≤ ns ∧ ns ≤ nv) (ht : 0 ≤ th ∧ th ≤ 5)
include hv hs ht
theorem may_begin : MayP ⟨1, th, 0, 0, 0, 0⟩ nv ns := ⟨hv, hs, ⟨by simp, by simp⟩, ht, ⟨by simp, by simp⟩, ⟨by simp, by simp; omega⟩, (fun h => by cases h), ⟨by simp, by simp⟩, rfl⟩
theorem may_str {k s : Int} (h : 0 ≤ s ∧ s < ns) (hk : k = 2 ∨ k = 4 ∨ k = 6 ∨ k = 9 ∨ k = 11) : MayP ⟨k, th, s, 0, 0, 0⟩ nv ns := by
  rcases hk with rfl | rfl | rfl | rfl | rfl <;> exact ⟨hv, hs, ⟨by simp, by simp⟩, ht, ⟨by simp, by simp⟩, ⟨by simp; omega, by simp; omega⟩, (fun h => by cases h), ⟨by simp, by simp⟩, rfl⟩
theorem may_load {s : Int} (h : 0 ≤ s ∧ s < ns) : MayP ⟨3, th, s, 0, 0, 0⟩ nv ns := ⟨hv, hs, ⟨by simp, by simp⟩, ht, ⟨by simp, by simp⟩, ⟨by simp; omega, by simp; omega⟩, (fun h => by cases h), ⟨by simp, by simp⟩, rfl⟩
theorem may_store {a x : Int} (h : 0 ≤ a ∧ a < nv) : MayP ⟨8, th, a, 0, x, 0⟩ nv ns := ⟨hv, hs, ⟨by simp, by simp⟩, ht, ⟨by simp, by simp⟩, ⟨by simp; omega, by simp; omega⟩, (fun h => by cases h), ⟨by simp, by simp⟩, rfl⟩
theorem may_bump {v : Int} (h : 1 ≤ v ∧ v ≤ 1099511627776) : MayP ⟨5, th, 0, v, 0, 0⟩ nv ns := ⟨hv, hs, ⟨by simp, by simp⟩, ht, ⟨by simp; omega, by simp; omega⟩, ⟨by simp, by simp; omega⟩, (fun h => by cases h), ⟨by simp, by simp⟩, rfl⟩
theorem may_commit {v : Int} (h : 0 ≤ v ∧ v ≤ 1099511627776) : MayP ⟨7, th, 0, v, 0, 0⟩ nv ns := ⟨hv, hs, ⟨by simp, by simp⟩, ht, ⟨by simp; omega, by simp; omega⟩, ⟨by simp, by simp; omega⟩, (fun h => by cases h), ⟨by simp, by simp⟩, rfl⟩
theorem may_abort {s w : Int} (h : 0 ≤ s ∧ s < ns) (hw : w = 4 ∨ w = 5) : MayP ⟨10, th, s, 0, 0, w⟩ nv ns := by
  rcases hw with rfl | rfl <;> exact ⟨hv, hs, ⟨by simp, by simp⟩, ht, ⟨by simp, by simp⟩, ⟨by simp; omega, by simp; omega⟩, fun h => ⟨by simp, by simp⟩, ⟨by simp, by simp⟩, rfl⟩
theorem may_full : MayP ⟨10, th, 0, 0, 0, 6⟩ nv ns := ⟨hv, hs, ⟨by simp, by simp⟩, ht, ⟨by simp, by simp⟩, ⟨by simp, by simp⟩, fun h => ⟨by simp, by simp⟩, ⟨by simp, by simp⟩, rfl⟩
end
abbrev tOf (S : ShS) (th : Int) : ThS := S.ths.getD th.toNat thD
theorem tOf_put {S : ShS} {th : Int} (T : ThS) (h : th.toNat < S.ths.length) : tOf (putTh S th.toNat T) th = T := by
  show (S.ths.set th.toNat T).getD th.toNat thD = T
  rw [List.getD_eq_getElem?_getD, List.getElem?_set]
  simp [h]
/-- Where the checker has the thread, by where the commit is. -/
structure Phase (C : CmS) (H : HeapS) (T : ThS) : Prop where
  rv : T.rv = 0
  com : C.at_ ≠ 8 → 0 ≤ T.commits ∧ T.commits ≤ 1000
  read : IsSet T.read (allI C.st C.hs)
  owned : IsSet T.owned C.owned
  p1 : C.at_ = 1 → (T.at_ = 1 ∨ T.at_ = 3) ∧ (∀ s ∈ (strL C H).drop C.owned.length, T.locked < s) ∧ T.check = 0#32 ∧ T.stored = 0#32 ∧ T.var_ = -1
  p2 : C.at_ = 2 → T.at_ = 3 ∧ T.check = 0#32 ∧ T.stored = 0#32 ∧ T.var_ = -1
  p3 : C.at_ = 3 → T.at_ = 4 ∧ T.wv_ = C.wv ∧ IsSet T.check ((allI C.st C.hs).drop C.done.toNat) ∧ T.stored = 0#32 ∧ T.var_ = -1 ∧ 0 < C.wv
  p4 : C.at_ = 4 → (C.writes = [] ∧ T.at_ = 1 ∧ C.wv = 0) ∨ (C.writes ≠ [] ∧ T.at_ = 4 ∧ T.wv_ = C.wv ∧ T.check = 0#32 ∧ T.stored = 0#32 ∧ T.var_ = -1 ∧ 0 < C.wv)
  p5 : C.at_ = 5 → T.at_ = 5 ∧ T.wv_ = C.wv ∧ IsSet T.stored ((C.writes.take C.done.toNat).map fun p => p.1 % (H.locks.length : Int)) ∧ ∀ p ∈ C.writes.drop C.done.toNat, T.var_ < p.1
  p6 : C.at_ = 6 → T.wv_ = C.wv ∧ (T.at_ = 6 ∨ T.at_ = 5 ∧ T.stored = T.owned)
  p7 : C.at_ = 7 → T.at_ = 7
  p8 : C.at_ = 8 → T.at_ = 0 ∨ T.at_ = 9
structure Sim (n st : Nat) (limit : Int) (H0 : HeapS) (L : List Int) (C : CmS) (H : HeapS) (S : ShS) : Prop where
  wj : WJ n st limit H0 L C H
  nv : n ≤ 32
  st1 : 1 ≤ st ∧ st ≤ n
  lim : limit ≤ 1099511627776
  ok0 : OkC n st limit H0
  rvC : C.rv = 0
  set1 : 1 ≤ C.st ∧ C.st ≤ 32
  own0 : ∀ s, ownerV H0 s ≠ C.thread
  vars : S.vars = n
  clock : S.clock = H.clock
  strs : S.strs = H.locks
  ths : S.ths.length = 6
  ph : Phase C H (tOf S C.thread)
section
variable {n st : Nat} {limit : Int} {H0 : HeapS} {L : List Int} {C : CmS} {H : HeapS} {S : ShS} (h : Sim n st limit H0 L C H S)
theorem Sim.ev {k : Int} (h : Sim n st limit H0 L C H S) : Sim n st limit H0 L C H { S with events := k } := ⟨h.wj, h.nv, h.st1, h.lim, h.ok0, h.rvC, h.set1, h.own0, h.vars, h.clock, h.strs, h.ths, h.ph⟩
/-- What of a step need not be shown anew. -/
theorem Sim.mk2 (h : Sim n st limit H0 L C H S) (h8 : C.at_ ≠ 8) {S' : ShS} (T' : ThS) (e1 : S'.vars = S.vars) (e2 : S'.clock = (goH C H).clock) (e3 : S'.strs = (goH C H).locks) (e4 : S'.ths = S.ths.set C.thread.toNat T') (ph : Phase (goC C H) (goH C H) T') : Sim n st limit H0 L (goC C H) (goH C H) S' := by
  have sm := goC_same C H
  have ht := h.wj.inv.thr
  have hx : C.thread.toNat < S.ths.length := by rw [h.ths]; omega
  refine ⟨h.wj.go h.st1.1 h.ok0 h8, h.nv, h.st1, h.lim, h.ok0, sm.2.1.trans h.rvC, by rw [sm.2.2.1]; exact h.set1, fun s => by rw [sm.1]; exact h.own0 s, e1.trans h.vars, e2, e3, by rw [e4, List.length_set]; exact h.ths, ?_⟩
  have : tOf S' (goC C H).thread = T' := by
    show S'.ths.getD _ thD = _
    rw [e4, sm.1]
    exact tOf_put (S := S) T' hx
  rw [this]
  exact ph
theorem Sim.may (h : Sim n st limit H0 L C H S) : (1 ≤ S.vars ∧ S.vars ≤ 32) ∧ (1 ≤ (S.strs.length : Int) ∧ (S.strs.length : Int) ≤ S.vars) ∧ (0 ≤ C.thread ∧ C.thread ≤ 5) ∧ (0 < S.strs.length ∧ S.strs.length ≤ 32) ∧ (S.strs.length : Int) = st := by
  have h1 := h.nv
  have h2 := h.st1
  have h3 := h.vars
  have h4 := h.wj.inv.thr
  have h5 : S.strs.length = st := by rw [h.strs]; exact h.wj.ok.locks
  refine ⟨by omega, by omega, by omega, by omega, by omega⟩
theorem Sim.strIn (h : Sim n st limit H0 L C H S) {s : Int} (hm : s ∈ strL C H) : 0 ≤ s ∧ s < (st : Int) := by
  have hl : 0 < H.locks.length := by rw [h.wj.ok.locks]; exact h.st1.1
  obtain ⟨p, hp, rfl⟩ := List.mem_map.1 ((mem_strL hl s).1 hm)
  obtain ⟨a, b, c⟩ := fitW_at h.wj.fw hl hp
  rw [c, ← h.wj.ok.locks]
  exact ⟨Int.emod_nonneg _ (by omega), Int.emod_lt_of_pos _ (by omega)⟩
theorem Sim.ownIn (h : Sim n st limit H0 L C H S) {s : Int} (hm : s ∈ C.owned) : 0 ≤ s ∧ s < (st : Int) := h.strIn (h.wj.inv.sub.subset hm)
theorem Sim.allIn (h : Sim n st limit H0 L C H S) {s : Int} (hm : s ∈ allI C.st C.hs) : 0 ≤ s ∧ s < (st : Int) := by
  have h1 := (mem_allI h.set1 C.hs s).1 hm
  unfold hasB at h1
  simp only [Bool.and_eq_true, decide_eq_true_eq] at h1
  have h2 := List.all_eq_true.1 h.wj.fr s hm
  rw [h.wj.ok.locks] at h2
  simp only [decide_eq_true_eq] at h2
  omega
/-- An attempt ends: what the checker has then. -/
theorem abort_phase {H' : HeapS} (ph : IsSet (tOf S C.thread).owned C.owned) (rd : IsSet (tOf S C.thread).read (allI C.st C.hs)) (rv : (tOf S C.thread).rv = 0) (com : 0 ≤ (tOf S C.thread).commits ∧ (tOf S C.thread).commits ≤ 1000) (hr : ∀ s ∈ C.owned, 0 ≤ s ∧ s < 32) (why : Int) : Phase (abortC C) H' (abortT (tOf S C.thread) why) := by
  unfold abortC abortT
  by_cases hz : C.owned = []
  · have hz2 := (ph.zero hr).2 hz
    rw [if_pos (by rw [hz]; rfl), if_pos hz2]
    exact ⟨rv, fun x => absurd rfl x, rd, ph, (fun x => by cases x), (fun x => by cases x), (fun x => by cases x), (fun x => by cases x), (fun x => by cases x), (fun x => by cases x), (fun x => by cases x), fun _ => .inl rfl⟩
  · have hz2 : ¬ ((tOf S C.thread).owned.toNat : Int) = 0 := fun x => hz ((ph.zero hr).1 x)
    rw [if_neg (fun x => hz (List.eq_nil_of_length_eq_zero x)), if_neg hz2]
    exact ⟨rv, fun _ => com, rd, ph, (fun x => by cases x), (fun x => by cases x), (fun x => by cases x), (fun x => by cases x), (fun x => by cases x), (fun x => by cases x), fun _ => rfl, (fun x => by cases x)⟩
end
end Go.Proofs.YtpiodhdbdlfnhaaGreatDoor
namespace Go.Proofs.YtpiodhdbdlfnhaaGreatDoor
open Go.RowKit Go.Lib
set_option linter.unusedVariables false
set_option linter.unusedSimpArgs false
set_option maxHeartbeats 2000000
theorem drop_consD {α : Type} {l : List α} {d : α} {k : Nat} (hk : k < l.length) : l.drop k = l.getD k d :: l.drop (k + 1) := by
  rw [List.drop_eq_getElem_cons hk, List.getD_eq_getElem?_getD, List.getElem?_eq_getElem hk]; rfl
theorem drop_ltD {l : List Int} {k : Nat} (hp : l.Pairwise (· < ·)) (hk : k < l.length) : ∀ r ∈ l.drop (k + 1), l.getD k 0 < r := by
  have h := hp.sublist (List.drop_sublist k l)
  rw [drop_consD (d := 0) hk] at h
  exact (List.pairwise_cons.1 h).1
theorem take_ltD {l : List Int} {k : Nat} (hp : l.Pairwise (· < ·)) (hk : k < l.length) : ∀ r ∈ l.take k, r < l.getD k 0 := by
  intro r hr
  have e : l.take k ++ l.drop k = l := List.take_append_drop k l
  have h : (l.take k ++ l.drop k).Pairwise (· < ·) := by rw [e]; exact hp
  refine (List.pairwise_append.1 h).2.2 r hr _ ?_
  rw [drop_consD (d := 0) hk]
  exact List.mem_cons_self ..
theorem getD_memD {l : List Int} {k : Nat} (hk : k < l.length) : l.getD k 0 ∈ l := by
  rw [List.getD_eq_getElem?_getD, List.getElem?_eq_getElem hk]; exact List.getElem_mem hk
theorem rise_above : ∀ (l : Int) (ws : List (Int × Int)), riseB l ws = true → (∀ p ∈ ws, l < p.1) ∧ ws.Pairwise fun a b => a.1 < b.1
  | l, [], _ => ⟨(fun p hp => by cases hp), List.Pairwise.nil⟩
  | l, q :: r, h => by
    unfold riseB at h
    simp only [Bool.and_eq_true, decide_eq_true_eq] at h
    obtain ⟨g1, g2⟩ := rise_above q.1 r h.2
    refine ⟨fun p hp => ?_, .cons g1 g2⟩
    rcases List.mem_cons.1 hp with rfl | hp
    · exact h.1.1
    · have := g1 p hp; omega
section
variable {n st : Nat} {limit : Int} {H0 : HeapS} {L : List Int} {C : CmS} {H : HeapS} {S : ShS} (h : Sim n st limit H0 L C H S)
/-- A step's event, with its thread. -/
abbrev evT (C : CmS) (H : HeapS) : EvS := { goEv C H with thread := C.thread }
theorem Sim.strEq (h : Sim n st limit H0 L C H S) (h8 : C.at_ ≠ 8) : strL (goC C H) (goH C H) = strL C H := (h.wj.go h.st1.1 h.ok0 h8).sl.trans h.wj.sl.symm
theorem Sim.ownS (h : Sim n st limit H0 L C H S) {s : Int} (hs : 0 ≤ s ∧ s < (st : Int)) : (S.strs.getD s.toNat (0, 0)).1 = ownerV H s ∧ (S.strs.getD s.toNat (0, 0)).2 = versionV H s := by
  have hl := h.wj.ok.locks
  rw [h.strs, ownerV, versionV, if_pos (by omega), if_pos (by omega)]
  exact ⟨rfl, rfl⟩
theorem Sim.r32 (h : Sim n st limit H0 L C H S) : ∀ s ∈ C.owned, 0 ≤ s ∧ s < 32 := fun s hs => by
  have h1 := h.ownIn hs
  have h2 := h.st1
  have h3 := h.nv
  omega
theorem sim1 (h : Sim n st limit H0 L C H S) (a : C.at_ = 1) : ∃ S', AccOk S (evT C H) S' ∧ Sim n st limit H0 L (goC C H) (goH C H) S' := by
  obtain ⟨m1, m2, m3, m4, m5⟩ := h.may
  have sm := goC_same C H
  have hstr := h.strEq (by omega)
  obtain ⟨q1, q2, q3, q4, q5⟩ := h.ph.p1 a
  obtain ⟨k1, k2, k3⟩ := h.wj.inv.lk a
  have hlt := strL_lt C H
  have hmem : lockS C H ∈ strL C H := getD_memD k2
  have hin := h.strIn hmem
  have hlk : (tOf S C.thread).locked < lockS C H := q2 _ (by rw [drop_consD (d := 0) k2]; exact List.mem_cons_self ..)
  have hS := h.ownS hin
  have h32 := h.nv
  have hst1 := h.st1
  have hin32 : 0 ≤ lockS C H ∧ lockS C H < 32 := by omega
  by_cases he : ownE H (lockS C H) C.thread = 0
  · have hz := ownE_zeroC he
    have eE : evT C H = ⟨4, C.thread, lockS C H, 0, 0, 0⟩ := by
      show ({ goEv C H with thread := C.thread } : EvS) = _
      rw [goEv1 a]; unfold lockEv; rw [if_pos he]
    have eC : goC C H = { C with owned := C.owned ++ [lockS C H], at_ := if C.owned.length + 1 = (strL C H).length then 2 else C.at_ } := by rw [goC1 a]; unfold lockC; rw [if_pos he]
    have eH : goH C H = { H with locks := H.locks.set (lockS C H).toNat (C.thread, (H.locks.getD (lockS C H).toNat (0, 0)).2) } := by rw [goH1 a]; unfold ownH; rw [if_pos he]
    have c_at : (goC C H).at_ = 1 ∨ (goC C H).at_ = 2 := by
      rw [eC]
      show (if _ then (2 : Int) else C.at_) = 1 ∨ (if _ then (2 : Int) else C.at_) = 2
      split <;> omega
    have c_ow : (goC C H).owned = C.owned ++ [lockS C H] := by rw [eC]
    rw [eE]
    refine ⟨_, ⟨may_str m1 m2 m3 (by omega) (by omega), h.ths, m4, Acc.lock rfl q1 hlk ?_⟩, ?_⟩
    · show (S.strs.getD (lockS C H).toNat (0, 0)).1 = -1
      rw [h.strs]; exact hz.2.2.2.2
    · refine h.mk2 (by omega) _ rfl ?_ ?_ rfl ?_
      · rw [eH]; exact h.clock
      · rw [eH]
        show S.strs.set (lockS C H).toNat (C.thread, (S.strs.getD (lockS C H).toNat (0, 0)).2) = _
        rw [h.strs]
      · refine ⟨h.ph.rv, fun _ => h.ph.com (by omega), by rw [sm.2.2.1, sm.2.2.2.1]; exact h.ph.read, by rw [c_ow]; exact h.ph.owned.add hin32, fun x => ⟨.inr rfl, fun s hs => ?_, q3, q4, q5⟩, fun x => ⟨rfl, q3, q4, q5⟩, (fun x => by omega), (fun x => by omega), (fun x => by omega), (fun x => by omega), (fun x => by omega), (fun x => by omega)⟩
        rw [hstr, c_ow, List.length_append] at hs
        exact drop_ltD hlt k2 s hs
  · have eE : evT C H = ⟨10, C.thread, lockS C H, 0, 0, 4⟩ := by
      show ({ goEv C H with thread := C.thread } : EvS) = _
      rw [goEv1 a]; unfold lockEv; rw [if_neg he]
    have eC : goC C H = abortC C := by rw [goC1 a]; unfold lockC; rw [if_neg he]
    have eH : goH C H = H := by rw [goH1 a]; unfold ownH; rw [if_neg he]
    have hl := h.wj.ok.locks
    have hne : ¬ ownerV H (lockS C H) = -1 := by
      intro e
      apply he
      unfold ownE
      rw [ownerV, if_pos (by omega)] at e
      rw [if_neg (fun x => x (by omega)), if_neg (by omega), if_neg (fun x => x e)]
    have hnt : ¬ ownerV H (lockS C H) = C.thread := by
      have hno : lockS C H ∉ C.owned := fun x => by
        rw [k1] at x
        exact Int.lt_irrefl _ (take_ltD hlt k2 _ x)
      have hc : C.committed = false := by
        cases hc : C.committed with
        | false => rfl
        | true => have := h.wj.inv.c2 hc; omega
      rw [h.wj.own, if_neg hno, hc, if_neg (fun x => by cases x.1)]
      exact h.own0 _
    rw [eE]
    refine ⟨_, ⟨may_abort m1 m2 m3 (by omega) (.inl rfl), h.ths, m4, Acc.busy rfl rfl q1 hlk ?_⟩, ?_⟩
    · show ¬ (S.strs.getD (lockS C H).toNat (0, 0)).1 = -1 ∧ ¬ (S.strs.getD (lockS C H).toNat (0, 0)).1 = C.thread
      rw [hS.1]
      exact ⟨hne, hnt⟩
    · refine h.mk2 (by omega) _ rfl ?_ ?_ rfl ?_
      · rw [eH]; exact h.clock
      · rw [eH]; exact h.strs
      · rw [eC, eH]
        exact abort_phase h.ph.owned h.ph.read h.ph.rv (h.ph.com (by omega)) h.r32 4
theorem sim2 (h : Sim n st limit H0 L C H S) (a : C.at_ = 2) : ∃ S', AccOk S (evT C H) S' ∧ Sim n st limit H0 L (goC C H) (goH C H) S' := by
  obtain ⟨m1, m2, m3, m4, m5⟩ := h.may
  have sm := goC_same C H
  obtain ⟨q1, q2, q3, q4⟩ := h.ph.p2 a
  obtain ⟨k1, k2, k3⟩ := h.wj.inv.bp a
  have hcl := h.clock
  have hc0 := h.wj.ok.c0
  have hlim := h.wj.ok.lim
  have hl40 := h.lim
  have hrv := h.ph.rv
  have hrr : 0 ≤ (tOf S C.thread).rv ∧ (tOf S C.thread).rv ≤ 1099511627776 := by omega
  by_cases he : H.limit ≤ H.clock
  · have eE : evT C H = ⟨10, C.thread, 0, 0, 0, 6⟩ := by
      show ({ goEv C H with thread := C.thread } : EvS) = _
      rw [goEv2 a]; unfold bumpEv; rw [if_pos he]
    have eC : goC C H = abortC { C with full := true } := by rw [goC2 a]; unfold bumpC; rw [if_pos he]
    have eH : goH C H = H := by rw [goH2 a]; unfold bumpH; rw [if_pos he]
    rw [eE]
    refine ⟨_, ⟨may_full m1 m2 m3, h.ths, m4, Acc.full rfl rfl q1⟩, ?_⟩
    refine h.mk2 (by omega) _ rfl ?_ ?_ rfl ?_
    · rw [eH]; exact h.clock
    · rw [eH]; exact h.strs
    · rw [eC, eH]
      exact abort_phase (C := { C with full := true }) h.ph.owned h.ph.read h.ph.rv (h.ph.com (by omega)) h.r32 6
  · have eE : evT C H = ⟨5, C.thread, 0, H.clock + 1, 0, 0⟩ := by
      show ({ goEv C H with thread := C.thread } : EvS) = _
      rw [goEv2 a]; unfold bumpEv; rw [if_neg he]
    have eC : goC C H = { C with wv := H.clock + 1, at_ := if H.clock + 1 ≠ C.rv + 1 ∧ 0 < (allI C.st C.hs).length then 3 else 4 } := by rw [goC2 a]; unfold bumpC; rw [if_neg he]
    have eH : goH C H = { H with clock := H.clock + 1 } := by rw [goH2 a]; unfold bumpH; rw [if_neg he]
    have c_at : (goC C H).at_ = if H.clock + 1 ≠ C.rv + 1 ∧ 0 < (allI C.st C.hs).length then 3 else 4 := by rw [eC]
    have c_34 : (goC C H).at_ = 3 ∨ (goC C H).at_ = 4 := by rw [c_at]; split <;> omega
    have c_ow : (goC C H).owned = C.owned := by rw [eC]
    have c_wv : (goC C H).wv = H.clock + 1 := by rw [eC]
    have c_dn : (goC C H).done = C.done := by rw [eC]
    rw [eE]
    refine ⟨_, ⟨may_bump m1 m2 m3 (by omega), h.ths, m4, Acc.bump rfl hrr q1 (by show S.clock < H.clock + 1; omega)⟩, ?_⟩
    refine h.mk2 (by omega) _ rfl ?_ ?_ rfl ?_
    · rw [eH]; rfl
    · rw [eH]; exact h.strs
    · refine ⟨h.ph.rv, fun _ => h.ph.com (by omega), by rw [sm.2.2.1, sm.2.2.2.1]; exact h.ph.read, by rw [c_ow]; exact h.ph.owned, (fun x => by omega), (fun x => by omega), fun x => ⟨rfl, c_wv.symm, ?_, q3, q4, by omega⟩, fun x => .inr ⟨by rw [sm.2.2.2.2]; exact k3, rfl, c_wv.symm, ?_, q3, q4, by omega⟩, (fun x => by omega), (fun x => by omega), (fun x => by omega), (fun x => by omega)⟩
      · have hx : H.clock + 1 ≠ C.rv + 1 ∧ 0 < (allI C.st C.hs).length := by
          rw [c_at] at x
          split at x
          · assumption
          · omega
        have hr := h.rvC
        show IsSet (if H.clock + 1 = (tOf S C.thread).rv + 1 then (tOf S C.thread).check else (tOf S C.thread).read) _
        rw [if_neg (by omega), sm.2.2.1, sm.2.2.2.1, c_dn, k2]
        exact h.ph.read
      · have hx : ¬ (H.clock + 1 ≠ C.rv + 1 ∧ 0 < (allI C.st C.hs).length) := by
          rw [c_at] at x
          split at x
          · omega
          · assumption
        have hr := h.rvC
        show (if H.clock + 1 = (tOf S C.thread).rv + 1 then (tOf S C.thread).check else (tOf S C.thread).read) = 0#32
        by_cases hy : H.clock + 1 = (tOf S C.thread).rv + 1
        · rw [if_pos hy]; exact q2
        · rw [if_neg hy]
          have he2 : allI C.st C.hs = [] := List.eq_nil_of_length_eq_zero (by omega)
          have := h.ph.read
          rw [he2] at this
          exact this.eq IsSet.nil
theorem sim3 (h : Sim n st limit H0 L C H S) (a : C.at_ = 3) : ∃ S', AccOk S (evT C H) S' ∧ Sim n st limit H0 L (goC C H) (goH C H) S' := by
  obtain ⟨m1, m2, m3, m4, m5⟩ := h.may
  have sm := goC_same C H
  obtain ⟨q1, q2, q3, q4, q5, q6⟩ := h.ph.p3 a
  obtain ⟨k1, k2, k3⟩ := h.wj.inv.ck a
  have hsorted := allI_sorted C.st C.hs
  have hk : C.done.toNat < (allI C.st C.hs).length := by omega
  have hmem : checkS C ∈ allI C.st C.hs := getD_memD hk
  have hin := h.allIn hmem
  have hS := h.ownS hin
  have h32 := h.nv
  have hst1 := h.st1
  have hlt := drop_ltD hsorted hk
  have hcons : (allI C.st C.hs).drop C.done.toNat = checkS C :: (allI C.st C.hs).drop (C.done.toNat + 1) := drop_consD hk
  rw [hcons] at q3
  have hleast : checkS C = leastW (tOf S C.thread).check := (q3.least (by omega) hlt).symm
  have hrv := h.ph.rv
  have hrc := h.rvC
  have hst : checkB C H = true ↔ (¬ ownerV H (checkS C) = -1 ∧ ¬ ownerV H (checkS C) = C.thread) ∨ 0 < versionV H (checkS C) := by
    unfold checkB staleB
    rw [hrc]
    simp
  by_cases he : checkB C H = true
  · have eE : evT C H = ⟨10, C.thread, checkS C, 0, 0, 5⟩ := by
      show ({ goEv C H with thread := C.thread } : EvS) = _
      rw [goEv3 a]; unfold checkEv; rw [if_pos he]
    have eC : goC C H = abortC C := by rw [goC3 a]; unfold checkC; rw [if_pos he]
    have eH : goH C H = H := goH3 a
    rw [eE]
    refine ⟨_, ⟨may_abort m1 m2 m3 (by omega) (.inr rfl), h.ths, m4, Acc.stale rfl rfl q1 hleast ?_⟩, ?_⟩
    · show (¬ (S.strs.getD (checkS C).toNat (0, 0)).1 = -1 ∧ ¬ (S.strs.getD (checkS C).toNat (0, 0)).1 = C.thread) ∨ (tOf S C.thread).rv < (S.strs.getD (checkS C).toNat (0, 0)).2
      rw [hS.1, hS.2, hrv]
      exact hst.1 he
    · refine h.mk2 (by omega) _ rfl ?_ ?_ rfl ?_
      · rw [eH]; exact h.clock
      · rw [eH]; exact h.strs
      · rw [eC, eH]
        exact abort_phase h.ph.owned h.ph.read h.ph.rv (h.ph.com (by omega)) h.r32 5
  · have eE : evT C H = ⟨6, C.thread, checkS C, 0, 0, 0⟩ := by
      show ({ goEv C H with thread := C.thread } : EvS) = _
      rw [goEv3 a]; unfold checkEv; rw [if_neg he]
    have eC : goC C H = { C with done := C.done + 1, at_ := if C.done + 1 = (allI C.st C.hs).length then 4 else C.at_ } := by rw [goC3 a]; unfold checkC; rw [if_neg he]
    have eH : goH C H = H := goH3 a
    have c_at : (goC C H).at_ = if C.done + 1 = (allI C.st C.hs).length then 4 else C.at_ := by rw [eC]
    have c_34 : (goC C H).at_ = 3 ∨ (goC C H).at_ = 4 := by rw [c_at]; split <;> omega
    have c_ow : (goC C H).owned = C.owned := by rw [eC]
    have c_wv : (goC C H).wv = C.wv := by rw [eC]
    have c_dn : (goC C H).done = C.done + 1 := by rw [eC]
    have hnot : checkS C ∉ (allI C.st C.hs).drop (C.done.toNat + 1) := fun x => Int.lt_irrefl _ (hlt _ x)
    have hless := q3.less hnot hin.1
    rw [eE]
    have hst2 := fun x => he (hst.2 x)
    refine ⟨_, ⟨may_str m1 m2 m3 (by omega) (by omega), h.ths, m4, Acc.check rfl q1 hleast ?_ ?_⟩, ?_⟩
    · show ¬ (¬ (S.strs.getD (checkS C).toNat (0, 0)).1 = -1 ∧ ¬ (S.strs.getD (checkS C).toNat (0, 0)).1 = C.thread)
      rw [hS.1]
      exact fun x => hst2 (.inl x)
    · show ¬ (tOf S C.thread).rv < (S.strs.getD (checkS C).toNat (0, 0)).2
      rw [hS.2, hrv]
      exact fun x => hst2 (.inr x)
    · refine h.mk2 (by omega) _ rfl ?_ ?_ rfl ?_
      · rw [eH]; exact h.clock
      · rw [eH]; exact h.strs
      · have hd : (C.done + 1).toNat = C.done.toNat + 1 := by omega
        refine ⟨h.ph.rv, fun _ => h.ph.com (by omega), by rw [sm.2.2.1, sm.2.2.2.1]; exact h.ph.read, by rw [c_ow]; exact h.ph.owned, (fun x => by omega), (fun x => by omega), fun x => ⟨q1, by rw [c_wv]; exact q2, ?_, q4, q5, by rw [c_wv]; exact q6⟩, fun x => .inr ⟨by rw [sm.2.2.2.2]; exact k3, q1, by rw [c_wv]; exact q2, ?_, q4, q5, by rw [c_wv]; exact q6⟩, (fun x => by omega), (fun x => by omega), (fun x => by omega), (fun x => by omega)⟩
        · rw [sm.2.2.1, sm.2.2.2.1, c_dn, hd]
          exact hless
        · have hx : C.done + 1 = (allI C.st C.hs).length := by
            rw [c_at] at x
            split at x
            · assumption
            · omega
          have hnil : (allI C.st C.hs).drop (C.done.toNat + 1) = [] := List.drop_of_length_le (by omega)
          rw [hnil] at hless
          exact hless.eq IsSet.nil
theorem sim4 (h : Sim n st limit H0 L C H S) (a : C.at_ = 4) : ∃ S', AccOk S (evT C H) S' ∧ Sim n st limit H0 L (goC C H) (goH C H) S' := by
  obtain ⟨m1, m2, m3, m4, m5⟩ := h.may
  have sm := goC_same C H
  have com := h.ph.com (by omega)
  have eE : evT C H = ⟨7, C.thread, 0, C.wv, 0, 0⟩ := by
    show ({ goEv C H with thread := C.thread } : EvS) = _
    rw [goEv4 a]
  have eC : goC C H = commitC C := goC4 a
  have eH : goH C H = H := goH4 a
  have c_ow : (goC C H).owned = C.owned := by rw [eC]; rfl
  have c_wv : (goC C H).wv = C.wv := by rw [eC]; rfl
  have c_dn : (goC C H).done = 0 := by rw [eC]; rfl
  have c_at : (goC C H).at_ = if C.writes.length = 0 then 8 else 5 := by rw [eC]; rfl
  have hc1 := h.wj.ok.c1
  have hc0 := h.ok0.c0
  have hl := h.lim
  rw [eE]
  rcases h.ph.p4 a with ⟨w1, w2, w3⟩ | ⟨w1, w2, w3, w4, w5, w6, w7⟩
  · have c8 : (goC C H).at_ = 8 := by rw [c_at, if_pos (by rw [w1]; rfl)]
    have hcc : 0 ≤ (tOf S C.thread).commits ∧ (tOf S C.thread).commits ≤ 1000000 := by omega
    refine ⟨_, ⟨may_commit m1 m2 m3 (by omega), h.ths, m4, Acc.commit0 rfl hcc w3 w2⟩, ?_⟩
    refine h.mk2 (by omega) _ rfl ?_ ?_ rfl ?_
    · rw [eH]; exact h.clock
    · rw [eH]; exact h.strs
    · exact ⟨h.ph.rv, fun x => absurd c8 x, by rw [sm.2.2.1, sm.2.2.2.1]; exact h.ph.read, by rw [c_ow]; exact h.ph.owned, (fun x => by omega), (fun x => by omega), (fun x => by omega), (fun x => by omega), (fun x => by omega), (fun x => by omega), (fun x => by omega), fun _ => .inl rfl⟩
  · have c5 : (goC C H).at_ = 5 := by rw [c_at, if_neg (fun x => w1 (List.eq_nil_of_length_eq_zero x))]
    have hwv : C.wv ≤ 1099511627776 := by
      rcases h.wj.wv with g | g
      · omega
      · omega
    refine ⟨_, ⟨may_commit m1 m2 m3 (by omega), h.ths, m4, Acc.commit1 rfl (by show ¬ C.wv = 0; omega) w2 (by show ((tOf S C.thread).check.toNat : Int) = 0; rw [w4]; rfl) w3.symm⟩, ?_⟩
    refine h.mk2 (by omega) _ rfl ?_ ?_ rfl ?_
    · rw [eH]; exact h.clock
    · rw [eH]; exact h.strs
    · refine ⟨h.ph.rv, fun _ => com, by rw [sm.2.2.1, sm.2.2.2.1]; exact h.ph.read, by rw [c_ow]; exact h.ph.owned, (fun x => by omega), (fun x => by omega), (fun x => by omega), (fun x => by omega), fun _ => ⟨rfl, by rw [c_wv]; exact w3, ?_, fun p hp => ?_⟩, (fun x => by omega), (fun x => by omega), (fun x => by omega)⟩
      · rw [c_dn]
        show IsSet (tOf S C.thread).stored _
        rw [w5]
        exact IsSet.nil
      · rw [c_dn, sm.2.2.2.2] at hp
        show (tOf S C.thread).var_ < p.1
        rw [w6]
        exact (rise_above _ _ h.wj.inv.ws).1 p (List.mem_of_mem_drop hp)
theorem sim5 (h : Sim n st limit H0 L C H S) (a : C.at_ = 5) : ∃ S', AccOk S (evT C H) S' ∧ Sim n st limit H0 L (goC C H) (goH C H) S' := by
  obtain ⟨m1, m2, m3, m4, m5⟩ := h.may
  have sm := goC_same C H
  have com := h.ph.com (by omega)
  obtain ⟨q1, q2, q3, q4⟩ := h.ph.p5 a
  obtain ⟨k1, k2⟩ := h.wj.inv.so a
  have hkd : C.done.toNat < C.writes.length := by omega
  have hl := h.wj.ok.locks
  have hst1 := h.st1
  have hnv := h.nv
  have hl0 : 0 < H.locks.length := by omega
  obtain ⟨p, hp⟩ : ∃ p, C.writes.getD C.done.toNat (0, 0) = p := ⟨_, rfl⟩
  have hpm : p ∈ C.writes := by
    rw [← hp, List.getD_eq_getElem?_getD, List.getElem?_eq_getElem hkd]; exact List.getElem_mem hkd
  obtain ⟨f1, f2, f3⟩ := fitW_at h.wj.fw hl0 hpm
  have hvl := h.wj.ok.vals
  have hvn := h.vars
  have eE : evT C H = ⟨8, C.thread, p.1, 0, p.2, 0⟩ := by
    show ({ goEv C H with thread := C.thread } : EvS) = _
    rw [goEv5 a, hp]
  have eC : goC C H = storeC C := goC5 a
  have eH : goH C H = setH H p.1 p.2 := by rw [goH5 a, hp]
  have c_ow : (goC C H).owned = C.owned := by rw [eC]; rfl
  have c_wv : (goC C H).wv = C.wv := by rw [eC]; rfl
  have c_dn : (goC C H).done = C.done + 1 := by rw [eC]; rfl
  have c_at : (goC C H).at_ = if C.done + 1 = C.writes.length then 6 else C.at_ := by rw [eC]; rfl
  have c56 : (goC C H).at_ = 5 ∨ (goC C H).at_ = 6 := by rw [c_at]; split <;> omega
  have hdrop : C.writes.drop C.done.toNat = p :: C.writes.drop (C.done.toNat + 1) := by rw [← hp]; exact drop_consD hkd
  have hmod : p.1.tmod (S.strs.length : Int) = p.1 % (H.locks.length : Int) := by rw [Int.tmod_eq_emod_of_nonneg f1, h.strs]
  have hmodr : 0 ≤ p.1 % (H.locks.length : Int) ∧ p.1 % (H.locks.length : Int) < 32 := by
    have g1 := Int.emod_nonneg p.1 (b := (H.locks.length : Int)) (by omega)
    have g2 := Int.emod_lt_of_pos p.1 (b := (H.locks.length : Int)) (by omega)
    omega
  have hmapm : ∀ s, s ∈ C.writes.map (fun p => p.1 % (H.locks.length : Int)) ↔ s ∈ C.owned := fun s => by
    rw [k2, mem_strL hl0]
    simp only [List.mem_map]
    constructor
    · rintro ⟨q, hq, rfl⟩
      exact ⟨q, hq, (fitW_at h.wj.fw hl0 hq).2.2⟩
    · rintro ⟨q, hq, rfl⟩
      exact ⟨q, hq, (fitW_at h.wj.fw hl0 hq).2.2.symm⟩
  have hin : p.1 % (H.locks.length : Int) ∈ C.owned := (hmapm _).1 (List.mem_map.2 ⟨p, hpm, rfl⟩)
  have hvar : (tOf S C.thread).var_ < p.1 := q4 p (by rw [hdrop]; exact List.mem_cons_self ..)
  have hst : IsSet ((tOf S C.thread).stored ||| BitVec.twoPow 32 (p.1.tmod (S.strs.length : Int)).toNat) ((C.writes.take (C.done.toNat + 1)).map fun p => p.1 % (H.locks.length : Int)) := by
    rw [hmod]
    have e : (C.writes.take (C.done.toNat + 1)).map (fun p => p.1 % (H.locks.length : Int)) = (C.writes.take C.done.toNat).map (fun p => p.1 % (H.locks.length : Int)) ++ [p.1 % (H.locks.length : Int)] := by
      rw [List.take_add_one, List.map_append, List.getElem?_eq_getElem hkd]
      have : C.writes[C.done.toNat] = p := by rw [← hp, List.getD_eq_getElem?_getD, List.getElem?_eq_getElem hkd]; rfl
      rw [this]; rfl
    rw [e]
    exact q3.add hmodr
  have hd : (C.done + 1).toNat = C.done.toNat + 1 := by omega
  have hlk : (goH C H).locks = H.locks := by rw [eH]; exact (set_clock _ _ _).2.1
  rw [eE]
  refine ⟨_, ⟨may_store m1 m2 m3 (by omega), h.ths, m4, Acc.store rfl q1 hvar ?_⟩, ?_⟩
  · show ¬ (((tOf S C.thread).owned >>> (p.1.tmod (S.strs.length : Int)).toNat &&& 1#32).toNat : Int) = 0
    rw [hmod]
    exact h.ph.owned.bit hmodr hin
  · refine h.mk2 (by omega) _ rfl ?_ ?_ rfl ?_
    · rw [eH, (set_clock _ _ _).1]; exact h.clock
    · rw [hlk]; exact h.strs
    · refine ⟨h.ph.rv, fun _ => com, by rw [sm.2.2.1, sm.2.2.2.1]; exact h.ph.read, by rw [c_ow]; exact h.ph.owned, (fun x => by omega), (fun x => by omega), (fun x => by omega), (fun x => by omega), fun _ => ⟨q1, by rw [c_wv]; exact q2, ?_, fun q hq => ?_⟩, fun x => ⟨by rw [c_wv]; exact q2, .inr ⟨q1, ?_⟩⟩, (fun x => by omega), (fun x => by omega)⟩
      · rw [c_dn, hd, sm.2.2.2.2, hlk]
        exact hst
      · rw [c_dn, hd, sm.2.2.2.2] at hq
        have hpw := (rise_above _ _ h.wj.inv.ws).2.sublist (List.drop_sublist C.done.toNat C.writes)
        rw [hdrop] at hpw
        exact (List.pairwise_cons.1 hpw).1 q hq
      · have hx : C.done + 1 = C.writes.length := by
          rw [c_at] at x
          split at x
          · assumption
          · omega
        rw [List.take_of_length_le (by omega)] at hst
        exact (hst.congr hmapm).eq h.ph.owned
theorem sim67 (h : Sim n st limit H0 L C H S) (a : C.at_ = 6 ∨ C.at_ = 7) : ∃ s0 r, C.owned = s0 :: r ∧ (0 ≤ s0 ∧ s0 < 32) ∧ (0 ≤ s0 ∧ s0 < (st : Int)) ∧ s0 ∉ r ∧ s0 = leastW (tOf S C.thread).owned ∧ IsSet (lessW (tOf S C.thread).owned s0) r ∧ (((lessW (tOf S C.thread).owned s0).toNat : Int) = 0 ↔ r = []) ∧ letE H s0 C.thread = 0 ∧ (leastC C).owned = r := by
  have hne := h.wj.inv.fr a
  obtain ⟨s0, r, hown⟩ : ∃ s0 r, C.owned = s0 :: r := by
    cases hx : C.owned with
    | nil => exact absurd hx hne
    | cons s0 r => exact ⟨s0, r, rfl⟩
  have hin := h.ownIn (s := s0) (by rw [hown]; exact List.mem_cons_self ..)
  have h1 := h.st1
  have h2 := h.nv
  have hlt : ∀ x ∈ r, s0 < x := by
    have hp := (strL_lt C H).sublist h.wj.inv.sub
    rw [hown] at hp
    exact (List.pairwise_cons.1 hp).1
  have hni : s0 ∉ r := fun x => Int.lt_irrefl _ (hlt _ x)
  have ho := h.ph.owned
  rw [hown] at ho
  have hless := ho.less hni hin.1
  have hl := h.wj.ok.locks
  have hle : letE H s0 C.thread = 0 := by
    have hown0 : ownerV H s0 = C.thread := by rw [h.wj.own s0, if_pos (by rw [hown]; exact List.mem_cons_self ..)]
    have ht := h.wj.inv.thr
    unfold letE
    rw [ownerV, if_pos (by omega)] at hown0
    rw [if_neg (fun x => x (by omega)), if_neg (by omega)]
  refine ⟨s0, r, hown, by omega, hin, hni, (ho.least (by omega) hlt).symm, hless, hless.zero (fun x hx => h.r32 x (by rw [hown]; exact List.mem_cons_of_mem _ hx)), hle, ?_⟩
  show C.owned.drop 1 = r
  rw [hown]; rfl
theorem sim6 (h : Sim n st limit H0 L C H S) (a : C.at_ = 6) : ∃ S', AccOk S (evT C H) S' ∧ Sim n st limit H0 L (goC C H) (goH C H) S' := by
  obtain ⟨m1, m2, m3, m4, m5⟩ := h.may
  have sm := goC_same C H
  have com := h.ph.com (by omega)
  obtain ⟨q1, q2⟩ := h.ph.p6 a
  obtain ⟨s0, r, hown, h32, hin, hni, hleast, hless, hzero, hle, hdrop⟩ := sim67 h (.inl a)
  have hg : C.owned.getD 0 0 = s0 := by rw [hown]; rfl
  have eE : evT C H = ⟨9, C.thread, s0, 0, 0, 0⟩ := by
    show ({ goEv C H with thread := C.thread } : EvS) = _
    rw [goEv6 a, hg]
  have eC : goC C H = leastC C := goC6 a
  have hl := h.wj.ok.locks
  have hfe : freeE H s0 C.thread C.wv = 0 := by
    have hs0L : s0 ∈ L := by rw [← h.wj.sl]; exact h.wj.inv.sub.subset (by rw [hown]; exact List.mem_cons_self ..)
    have hwv : C.wv = H0.clock + 1 ∧ H.clock = H0.clock + 1 := by
      have hc := h.wj.inv.c1 (.inr a)
      rcases h.wj.wv with g | g
      · rcases g.2.2 with x | x | x | x
        · exfalso
          have hx := strL_len (C := C) (H := H) (by omega)
          rw [x, h.wj.sl] at hx
          have : L = [] := List.eq_nil_of_length_eq_zero (by simpa using hx)
          rw [this] at hs0L; cases hs0L
        · omega
        · omega
        · rw [hc] at x; cases x.1
      · exact ⟨g.1, g.2.1⟩
    have hver0 : versionV H s0 = versionV H0 s0 := by rw [h.wj.ver s0, if_neg (fun x => x.2.2 (by rw [hown]; exact List.mem_cons_self ..))]
    have hl0 := h.ok0.locks
    have hv0 : versionV H0 s0 ≤ H0.clock := by
      have := h.ok0.ver s0.toNat (by omega)
      rw [versionV, if_pos (by omega)]
      exact this.2
    unfold freeE
    rw [versionV, if_pos (by omega)] at hver0
    rw [if_neg (fun x => x hle), if_neg (by omega)]
  have eH : goH C H = { H with locks := H.locks.set s0.toNat (-1, C.wv) } := by rw [goH6 a, hg]; unfold freeH; rw [if_pos hfe]
  have c_ow : (goC C H).owned = r := by rw [eC]; exact hdrop
  have c_wv : (goC C H).wv = C.wv := by rw [eC]; rfl
  have c_at : (goC C H).at_ = if r = [] then 8 else 6 := by
    rw [eC]
    show (if (C.owned.drop 1).length = 0 then (8 : Int) else C.at_) = _
    rw [hown]
    cases r with
    | nil => rfl
    | cons _ _ => rw [if_neg (by simp), if_neg (by simp)]; exact a
  rw [eE]
  refine ⟨_, ⟨may_str m1 m2 m3 (by omega) (by omega), h.ths, m4, Acc.free rfl (by show 0 ≤ (tOf S C.thread).commits ∧ (tOf S C.thread).commits ≤ 1000000; omega) (q2.imp id (fun x => ⟨x.1, by show ((tOf S C.thread).stored.toNat : Int) = (tOf S C.thread).owned.toNat; rw [x.2]⟩)) hleast⟩, ?_⟩
  refine h.mk2 (by omega) _ rfl ?_ ?_ rfl ?_
  · rw [eH]; exact h.clock
  · rw [eH]
    show S.strs.set s0.toNat (-1, (tOf S C.thread).wv_) = _
    rw [h.strs, q1]
  · show Phase _ _ (freedT (tOf S C.thread) s0)
    unfold freedT
    by_cases hr : r = []
    · rw [if_pos (hzero.2 hr)]
      rw [if_pos hr] at c_at
      exact ⟨h.ph.rv, fun x => absurd c_at x, by rw [sm.2.2.1, sm.2.2.2.1]; exact h.ph.read, by rw [c_ow]; exact hless, (fun x => by omega), (fun x => by omega), (fun x => by omega), (fun x => by omega), (fun x => by omega), (fun x => by omega), (fun x => by omega), fun _ => .inl rfl⟩
    · rw [if_neg (fun x => hr (hzero.1 x))]
      rw [if_neg hr] at c_at
      exact ⟨h.ph.rv, fun _ => com, by rw [sm.2.2.1, sm.2.2.2.1]; exact h.ph.read, by rw [c_ow]; exact hless, (fun x => by omega), (fun x => by omega), (fun x => by omega), (fun x => by omega), (fun x => by omega), fun _ => ⟨by rw [c_wv]; exact q1, .inl rfl⟩, (fun x => by omega), (fun x => by omega)⟩
theorem sim7 (h : Sim n st limit H0 L C H S) (a : C.at_ = 7) : ∃ S', AccOk S (evT C H) S' ∧ Sim n st limit H0 L (goC C H) (goH C H) S' := by
  obtain ⟨m1, m2, m3, m4, m5⟩ := h.may
  have sm := goC_same C H
  have com := h.ph.com (by omega)
  have q1 := h.ph.p7 a
  obtain ⟨s0, r, hown, h32, hin, hni, hleast, hless, hzero, hle, hdrop⟩ := sim67 h (.inr a)
  have hg : C.owned.getD 0 0 = s0 := by rw [hown]; rfl
  have eE : evT C H = ⟨11, C.thread, s0, 0, 0, 0⟩ := by
    show ({ goEv C H with thread := C.thread } : EvS) = _
    rw [goEv7 a, hg]
  have eC : goC C H = leastC C := goC7 a
  have hl := h.wj.ok.locks
  have eH : goH C H = { H with locks := H.locks.set s0.toNat (-1, (H.locks.getD s0.toNat (0, 0)).2) } := by rw [goH7 a, hg]; unfold letH; rw [if_pos hle]
  have c_ow : (goC C H).owned = r := by rw [eC]; exact hdrop
  have c_at : (goC C H).at_ = if r = [] then 8 else 7 := by
    rw [eC]
    show (if (C.owned.drop 1).length = 0 then (8 : Int) else C.at_) = _
    rw [hown]
    cases r with
    | nil => rfl
    | cons _ _ => rw [if_neg (by simp), if_neg (by simp)]; exact a
  rw [eE]
  refine ⟨_, ⟨may_str m1 m2 m3 (by omega) (by omega), h.ths, m4, Acc.undo rfl q1 hleast⟩, ?_⟩
  refine h.mk2 (by omega) _ rfl ?_ ?_ rfl ?_
  · rw [eH]; exact h.clock
  · rw [eH]
    show S.strs.set s0.toNat (-1, (S.strs.getD s0.toNat (0, 0)).2) = _
    rw [h.strs]
  · show Phase _ _ (undoT (tOf S C.thread) s0)
    unfold undoT
    by_cases hr : r = []
    · rw [if_pos (hzero.2 hr)]
      rw [if_pos hr] at c_at
      refine ⟨h.ph.rv, fun x => absurd c_at x, by rw [sm.2.2.1, sm.2.2.2.1]; exact h.ph.read, by rw [c_ow]; exact hless, (fun x => by omega), (fun x => by omega), (fun x => by omega), (fun x => by omega), (fun x => by omega), (fun x => by omega), (fun x => by omega), fun _ => ?_⟩
      show (if (tOf S C.thread).full = true then (9 : Int) else 0) = 0 ∨ (if (tOf S C.thread).full = true then (9 : Int) else 0) = 9
      split
      · exact .inr rfl
      · exact .inl rfl
    · rw [if_neg (fun x => hr (hzero.1 x))]
      rw [if_neg hr] at c_at
      exact ⟨h.ph.rv, fun _ => com, by rw [sm.2.2.1, sm.2.2.2.1]; exact h.ph.read, by rw [c_ow]; exact hless, (fun x => by omega), (fun x => by omega), (fun x => by omega), (fun x => by omega), (fun x => by omega), (fun x => by omega), fun _ => q1, (fun x => by omega)⟩
/-- Each step's event comes. -/
theorem Sim.go (h : Sim n st limit H0 L C H S) (h8 : C.at_ ≠ 8) : ∃ S', AccOk S (evT C H) S' ∧ Sim n st limit H0 L (goC C H) (goH C H) S' := by
  rcases at_cases h.wj.inv with a | a | a | a | a | a | a | a
  · exact sim1 h a
  · exact sim2 h a
  · exact sim3 h a
  · exact sim4 h a
  · exact sim5 h a
  · exact sim6 h a
  · exact sim7 h a
  · exact absurd a h8
end
/-- Events that come, one behind the other. -/
def AccL (S : ShS) : List EvS → ShS → Prop
  | [], S' => S' = S
  | e :: r, S' => ∃ S1, AccOk S e S1 ∧ AccL { S1 with events := S.events + 1 } r S'
theorem run_acc {n st : Nat} {limit : Int} {H0 : HeapS} {L : List Int} : ∀ (m : Nat) (C : CmS) (H : HeapS) (S : ShS), Sim n st limit H0 L C H S → ∃ S', AccL S (runF m C H).1 S' ∧ Sim n st limit H0 L (runF m C H).2.2.1 (runF m C H).2.2.2 S'
  | 0, C, H, S, h => ⟨S, rfl, h⟩
  | m + 1, C, H, S, h => by
    unfold runF
    by_cases h8 : C.at_ = 8
    · rw [if_pos h8]; exact ⟨S, rfl, h⟩
    · rw [if_neg h8]
      have he : stepE C H = 0 := by unfold stepE; rw [if_neg h8, if_pos h.wj.fits]
      rw [if_pos he]
      obtain ⟨S1, g1, g2⟩ := h.go h8
      have e1 : stepC C H = goC C H := by unfold stepC; rw [if_pos he]
      have e2 : stepH C H = goH C H := by unfold stepH; rw [if_pos he]
      have e3 : stepEv C H = evT C H := by
        unfold stepEv
        rw [if_pos he]
      rw [e1, e2, e3]
      obtain ⟨S', g3, g4⟩ := run_acc m _ _ _ (Sim.ev (k := S.events + 1) g2)
      exact ⟨S', ⟨S1, g1, g3⟩, g4⟩
end Go.Proofs.YtpiodhdbdlfnhaaGreatDoor
