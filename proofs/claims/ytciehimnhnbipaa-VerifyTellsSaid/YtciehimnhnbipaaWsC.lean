/- witness: fits; far; the comparison of writers. -/
import Derived.Test.YtciehimnhnbipaaWsA
import Derived.Test.YtciehimnhnbipaaStbH
namespace Go.Proofs.Ytciehimnhnbipaa
open Go.RowKit Go.Lib
set_option linter.unusedVariables false
set_option maxHeartbeats 2000000
theorem holds_below {r : Res} {w w' : World} (h : r.holds w) (hb : Below w.heap.size w w') : r.holds w' := r.loc w w' h fun k hk => hb.block k (r.lt w k h hk)
theorem isnan_at (x : Int) (w0 : World) : Calls Try.prog 67 #[.int .i64 x] w0 fun e w' => e = .returned (.bool false) ∧ Below w0.heap.size w0 w' := by
  have S := Sat.start (fun _ => False) w0
  refine enter1 Try.func67 rfl Try.ntmps67 rfl Try.results67 ?_
  repeat' (first | refine assign_b_l S rfl rfl ?_ | refine move_i_l S rfl rfl ?_ | (refine neq_l S rfl rfl rfl ?_ ?_ <;> intro hcmp <;> try (exfalso; first | omega | exact hcmp (by decide) | exact absurd hcmp (by decide))) | refine nilL ?_ | refine run_seq ?_ | refine run_region ?_ | refine run_ret ?_ | refine thenQ_n ?_ | refine ret1_b rfl ?_)
  all_goals first | exact ⟨rfl, S.chg.below⟩ | (exfalso; omega)
def cmpZ (x y : Int) : Int := if x < y then -1 else if x > y then 1 else 0
theorem compare_at (x y : Int) (w0 : World) : Calls Try.prog 57 #[.int .i64 x, .int .i64 y] w0 fun e w' => e = .returned (.int .i64 (cmpZ x y)) ∧ Below w0.heap.size w0 w' := by
  have S := Sat.start (fun _ => False) w0
  refine enter1 Try.func57 rfl Try.ntmps57 rfl Try.results57 ?_
  repeat' (first | refine assign_i_l S rfl rfl ?_ | refine move_i_l S rfl rfl ?_ | refine nilL ?_ | refine run_seq ?_ | refine run_region ?_ | refine thenQ_n ?_)
  (refine callL (isnan_at _ _) rfl rfl ?_; rintro e w ⟨rfl, hb⟩; replace S := S.below hb; clear hb; refine ⟨_, rfl, ?_⟩)
  repeat' (first | refine move_i_l S rfl rfl ?_ | refine nilL ?_ | refine run_seq ?_ | refine run_region ?_ | refine assign_b_l S rfl rfl ?_ | refine thenQ_n ?_)
  (refine callL (isnan_at _ _) rfl rfl ?_; rintro e w ⟨rfl, hb⟩; replace S := S.below hb; clear hb; refine ⟨_, rfl, ?_⟩)
  repeat' (first | refine assign_i_l S rfl rfl ?_ | refine move_i_l S rfl rfl ?_ | refine move_b_l S rfl rfl ?_ | refine nilL ?_ | refine run_seq ?_ | refine run_skip ?_ | refine run_region ?_ | refine assign_b_l S rfl rfl ?_ | (refine lss_l S rfl rfl rfl ?_ ?_ <;> intro hcmp <;> try (exfalso; first | omega | exact hcmp (by decide) | exact absurd hcmp (by decide))) | (refine gtr_l S rfl rfl rfl ?_ ?_ <;> intro hcmp <;> try (exfalso; first | omega | exact hcmp (by decide) | exact absurd hcmp (by decide))) | refine run_ret ?_ | refine run_cond_true rfl ?_ | refine run_cond_false rfl ?_ | refine thenQ_n ?_ | refine thenQ_r ?_ | refine ret1_i rfl ?_)
  all_goals exact ⟨by simp [cmpZ, *] <;> omega, S.chg.below⟩
theorem far_at {b : Nat} {n : Nat} (p : Int × Int) (w0 : World) (h : (blk b 1 (fun _ => .int .i64 (n : Nat)) 3).holds w0) :
    Calls Try.prog 37 #[prV p, .pointer (some ⟨b, 0, none⟩)] w0 fun e w' => e = .returned (.bool (decide (p.1 < 0) || decide ((n : Int) ≤ p.1))) ∧ Below w0.heap.size w0 w' := by
  have S := Sat.reads h
  refine enter1 Try.func37 rfl Try.ntmps37 rfl Try.results37 ?_
  repeat' (first | refine load_i_l S rfl rfl rfl rfl ?_ | refine assign_b_l S rfl rfl ?_ | refine nilL ?_ | refine run_seq ?_ | refine run_region ?_ | refine onL rfl rfl ?_ | refine offL rfl rfl rfl rfl ?_ | refine fieldAddr_l S rfl rfl rfl ?_ | (refine box_a S rfl rfl rfl ?_; clear S; intro b w S) | (refine lss_l S rfl rfl rfl ?_ ?_ <;> intro hcmp <;> try (exfalso; first | omega | exact hcmp (by decide) | exact absurd hcmp (by decide))) | refine move_b_l S rfl rfl ?_ | (refine geq_l S rfl rfl rfl ?_ ?_ <;> intro hcmp <;> try (exfalso; first | omega | exact hcmp (by decide) | exact absurd hcmp (by decide))) | refine pick_tb_l S rfl rfl rfl ?_ | refine pick_fb_l S rfl rfl rfl ?_ | refine run_ret ?_ | refine thenQ_n ?_ | refine ret1_b rfl ?_)
  all_goals exact ⟨by simp [*] <;> omega, S.chg.below⟩
theorem fit1_at {b : Nat} {a : Option Addr} {cap : Nat} {m : List Int} (p : Int × Int) (w0 : World) (h : (blk b 1 (fun _ => .slice a m.length cap) 23).holds w0) (hm : SlOk w0 a m.length cap 1 (gL encI 0 m)) (hp : 0 ≤ p.1 ∧ p.1 < m.length) :
    Calls Try.prog 60 #[prV p, .pointer (some ⟨b, 0, none⟩)] w0 fun e w' => e = .returned (.bool (decide (m.getD p.1.toNat 0 ≠ p.2))) ∧ Below w0.heap.size w0 w' := by
  have S := Sat.reads2 h (r' := slL a cap 1 encI 0 m) hm
  obtain ⟨q, hq⟩ : ∃ q : Nat, p.1 = q := ⟨p.1.toNat, by omega⟩
  refine enter1 Try.func60 rfl Try.ntmps60 rfl Try.results60 ?_
  repeat' (first | (refine box_a S rfl rfl rfl ?_; clear S; intro b w S) | refine assign_b_l S rfl rfl ?_ | refine nilL ?_ | refine run_seq ?_ | refine run_region ?_ | refine run_ret ?_ | refine thenQ_n ?_ | (refine run_draws S mixed ?_ ?_; · kernel_rfl) | (refine nilQ ?_; clear S; intro w S) | refine fieldAddr_q rfl rfl rfl ?_ | refine load_i_q rfl rfl rfl rfl ?_ | refine loadE_i_q rfl (by first | omega | decide | (simp; done) | (simp; omega)) rfl rfl rfl ?_ | refine indexAddr_q rfl rfl (idx_eq _) (by first | omega | decide | (simp; done) | (simp; omega)) rfl ?_ | (refine neq_q rfl rfl rfl ?_ ?_ <;> intro hcmp <;> try (exfalso; first | omega | exact hcmp (by decide) | exact absurd hcmp (by decide))) | refine assign_b_q rfl rfl ?_ | refine load_o_q rfl rfl rfl rfl ?_ | refine ret1_b rfl ?_)
  all_goals obtain rfl : q = p.1.toNat := by omega
  · exact ⟨by rw [decide_eq_true hcmp], S.chg.below⟩
  · exact ⟨by rw [decide_eq_false (fun h => h hcmp)], S.chg.below⟩
theorem wcmp_ok {b : Nat} {a : Option Addr} {cap : Nat} {l : List AtS} :
    CmpOk 56 [.pointer (some ⟨b, 0, none⟩)] (andR (blk b 1 (fun _ => .slice a l.length cap) 27) (hisR a cap l)) (fun i => (l.getD i.toNat atD).wv) (fun i => 0 ≤ i ∧ i < l.length) := by
  intro x y w0 hx hy h
  have S := Sat.reads2 h.1 h.2
  obtain ⟨p, rfl⟩ : ∃ q : Nat, x = q := ⟨x.toNat, by omega⟩
  obtain ⟨q, rfl⟩ : ∃ q : Nat, y = q := ⟨y.toNat, by omega⟩
  refine enter1 Try.func56 rfl Try.ntmps56 rfl Try.results56 ?_
  repeat' (first | refine assign_i_l S rfl rfl ?_ | refine nilL ?_ | refine run_seq ?_ | refine run_region ?_ | refine thenQ_n ?_)
  refine run_any S (L' := [roR (blk b 1 (fun _ => .slice a l.length cap) 27), roR (hisR a cap l)]) (f := 12) mixed rfl ?_
  clear S
  intro w S1
  have S : Sat _ _ w [roR (blk b 1 (fun _ => .slice a l.length cap) 27), roR (hisR a cap l)] := S1.sub
  all_goals (refine any_pure (i := 0) rfl (by kernel_rfl) S ?_; (first | refine load_s_x rfl rfl rfl rfl ?_ | refine load_o_x rfl rfl rfl rfl ?_ | refine loadE_s_x rfl (by first | omega | decide | (simp; done) | (simp; omega)) rfl rfl rfl ?_ | refine loadE_o_x rfl (by first | omega | decide | (simp; done) | (simp; omega)) rfl rfl rfl ?_))
  all_goals (refine any_pure (i := 1) rfl (by kernel_rfl) S ?_; refine move_i_x rfl rfl ?_)
  all_goals (refine any_pure (i := 2) rfl (by kernel_rfl) S ?_; (first | refine indexAddr_x rfl rfl (idx_cast _) (by first | omega | decide | (simp; done) | (simp; omega)) rfl ?_ | refine indexAddr_x rfl rfl (idx_eq _) (by first | omega | decide | (simp; done) | (simp; omega)) rfl ?_))
  all_goals (refine any_pure (i := 3) rfl (by kernel_rfl) S ?_; (first | refine fieldAddr_x rfl rfl rfl ?_ | refine fieldAddrE_x rfl (by first | omega | decide | (simp; done) | (simp; omega)) rfl rfl ?_))
  all_goals (refine any_pure (i := 4) rfl (by kernel_rfl) S ?_; (first | refine load_i_x rfl rfl rfl rfl ?_ | refine load_o_x rfl rfl rfl rfl ?_ | refine loadE_i_x rfl (by first | omega | decide | (simp; done) | (simp; omega)) rfl rfl rfl ?_ | refine loadE_o_x rfl (by first | omega | decide | (simp; done) | (simp; omega)) rfl rfl rfl ?_))
  all_goals (refine any_pure (i := 5) rfl (by kernel_rfl) S ?_; (first | refine load_s_x rfl rfl rfl rfl ?_ | refine load_o_x rfl rfl rfl rfl ?_ | refine loadE_s_x rfl (by first | omega | decide | (simp; done) | (simp; omega)) rfl rfl rfl ?_ | refine loadE_o_x rfl (by first | omega | decide | (simp; done) | (simp; omega)) rfl rfl rfl ?_))
  all_goals (refine any_pure (i := 6) rfl (by kernel_rfl) S ?_; refine move_i_x rfl rfl ?_)
  all_goals (refine any_pure (i := 7) rfl (by kernel_rfl) S ?_; (first | refine indexAddr_x rfl rfl (idx_cast _) (by first | omega | decide | (simp; done) | (simp; omega)) rfl ?_ | refine indexAddr_x rfl rfl (idx_eq _) (by first | omega | decide | (simp; done) | (simp; omega)) rfl ?_))
  all_goals (refine any_pure (i := 8) rfl (by kernel_rfl) S ?_; (first | refine fieldAddr_x rfl rfl rfl ?_ | refine fieldAddrE_x rfl (by first | omega | decide | (simp; done) | (simp; omega)) rfl rfl ?_))
  all_goals (refine any_pure (i := 9) rfl (by kernel_rfl) S ?_; (first | refine load_i_x rfl rfl rfl rfl ?_ | refine load_o_x rfl rfl rfl rfl ?_ | refine loadE_i_x rfl (by first | omega | decide | (simp; done) | (simp; omega)) rfl rfl rfl ?_ | refine loadE_o_x rfl (by first | omega | decide | (simp; done) | (simp; omega)) rfl rfl rfl ?_))
  all_goals refine any_step (i := 10) rfl (by kernel_rfl) ?_
  all_goals replace S := S1
  all_goals clear S1
  refine callL (compare_at _ _ _) rfl rfl ?_
  rintro e w ⟨rfl, hb⟩
  replace S := S.below hb
  refine ⟨_, rfl, ?_⟩
  all_goals try refine nilL ?_
  all_goals refine ⟨S.sub, ?_⟩
  all_goals (have S1 := S; replace S : Sat _ _ _ [roR (blk b 1 (fun _ => .slice a l.length cap) 27), roR (hisR a cap l)] := S1.sub)
  all_goals (refine any_pure (i := 11) rfl (by kernel_rfl) S ?_; refine assign_i_x rfl rfl ?_)
  all_goals refine any_end (by kernel_rfl) ?_
  all_goals replace S := S1
  repeat' (first | refine run_ret ?_ | refine thenQ_n ?_ | refine ret1_i rfl ?_)
  all_goals exact ⟨_, rfl, by simp only [cmpZ, Int.toNat_natCast]; repeat' split
                              all_goals omega, S.chg.below⟩
theorem sortstable_at {F : Nat → Prop} {w₀ w : World} {L : List Res} {a : Option Addr} {cap e : Nat} {R : Res} {key : Int → Int} {dom : Int → Prop} {f : FuncId} [FnOk Try.prog f] {l2 : List Value} (hc : CmpOk f l2 R key dom) {N : Nat} {zs : List Int} (S : Sat F w₀ w (row a N cap e 1 (gL encI 0 zs) :: R :: L)) (hl : zs.length = N) (hn : N ≤ 100000) (hd : ∀ u ∈ zs, dom u) :
    Calls Try.prog 55 #[.slice a N cap, .func (.func f) #[] l2.toArray] w fun r w' => r = .returned (.tuple #[]) ∧
      ∃ ys, ys.length = N ∧ ys.Perm zs ∧ SegS key ys 0 N ∧ Sat F w₀ w' (row a N cap e 1 (gL encI 0 ys) :: R :: L) := by
  refine enter0 Try.func55 rfl Try.ntmps55 rfl Try.results55 ?_
  repeat' (first | refine move_s_l S rfl rfl ?_ | refine len_l S rfl rfl ?_ | refine move_o_l S rfl rfl ?_ | refine run_region ?_)
  refine callL (stable_at (f := f) (l2 := l2) hc S hl hn hd) rfl rfl ?_
  clear S
  rintro e1 w ⟨rfl, ys, h1, h2, h3, S⟩
  refine ⟨_, rfl, ?_⟩
  repeat' (first | refine nilL ?_ | refine ret0_n ?_)
  exact ⟨rfl, ys, h1, h2, h3, S⟩
def fitsB (z : AtS) (m : List Int) : Bool := z.rs.all fun p => decide (m.getD p.1.toNat 0 = p.2)
theorem fits_at {z : AtS} {a : Option Addr} {cap : Nat} {m : List Int} (w0 : World) (hz : (atR z).holds w0) (hm : SlOk w0 a m.length cap 1 (gL encI 0 m)) (hp : ∀ p ∈ z.rs, 0 ≤ p.1 ∧ p.1 < m.length) :
    Calls Try.prog 44 #[atV z, .slice a m.length cap] w0 fun e w' => e = .returned (.bool (fitsB z m)) ∧ Below w0.heap.size w0 w' := by
  have S := Sat.reads2 hz (r' := slL a cap 1 encI 0 m) hm
  refine enter1 Try.func44 rfl Try.ntmps44 rfl Try.results44 ?_
  repeat' (first | refine assign_b_l S rfl rfl ?_ | (refine box_a S rfl rfl rfl ?_; clear S; intro b w S) | (refine box_s S rfl rfl ?_; clear S; intro b w S) | refine nilL ?_ | refine run_seq ?_ | refine run_region ?_ | refine fieldAddr_l S rfl rfl rfl ?_ | refine makeFunc_l S rfl rfl rfl ?_ | refine load_o_l S rfl rfl rfl rfl ?_ | refine thenQ_n ?_)
  refine callL (containsP_at (f := 60) (l2 := [.pointer (some ⟨b, 0, none⟩)]) (p := fun p => decide (m.getD p.1.toNat 0 ≠ p.2)) (I := fun w => (blk b 1 (fun _ => .slice a m.length cap) 23).holds w ∧ (slL a cap 1 encI 0 m).holds w) (zs := z.rs) ?_ ?_ z.ra z.rc _ ⟨S.got1, S.all (roR (slL a cap 1 encI 0 m)) (by simp)⟩ ((S.all (roR (atR z)) (by simp) : (atR z).holds w).1)) rfl rfl ?_
  · exact fun w w' h hb => ⟨holds_below h.1 hb, holds_below h.2 hb⟩
  · exact fun x w hx h => fit1_at x w h.1 h.2 (hp x hx)
  rintro e w' ⟨rfl, hb⟩
  replace S := S.below hb
  refine ⟨_, rfl, ?_⟩
  repeat' (first | refine assign_b_l S rfl rfl ?_ | refine nilL ?_ | refine not_l S rfl rfl ?_ | refine run_ret ?_ | refine thenQ_n ?_ | refine ret1_b rfl ?_)
  refine ⟨?_, S.chg.below⟩
  unfold fitsB
  rw [List.all_eq_not_any_not]
  simp
end Go.Proofs.Ytciehimnhnbipaa
