/- witness: attempts, what lies there; small functions. slices.IndexFunc, slices.ContainsFunc of pairs, with a function that changes nothing; IndexFunc of slices. -/
import Derived.Test.YtciehimnhnbipaaGen
import Derived.Test.YtciehimnhnbipaaExch
import Derived.Test.YtciehimnhnbipaaAnyB
import Derived.Test.YtciehimnhnbipaaFacts
namespace Go.Proofs.Ytciehimnhnbipaa
open Go.RowKit Go.Lib
set_option linter.unusedVariables false
set_option maxHeartbeats 2000000
def encPr (p : Int × Int) : Nat → Value := fun j => match j with | 0 => .int .i64 p.1 | _ => .int .i64 p.2
abbrev prV (p : Int × Int) : Value := aggV [.int .i64 p.1, .int .i64 p.2]
structure AtS where
  thread : Int
  tx : Int
  frm : Int
  to : Int
  rv : Int
  wv : Int
  com : Bool
  ra : Option Addr
  rc : Nat
  rs : List (Int × Int)
  wa : Option Addr
  wc : Nat
  ws : List (Int × Int)
abbrev atD : AtS := ⟨0, 0, 0, 0, 0, 0, false, none, 0, [], none, 0, []⟩
instance : Inhabited AtS := ⟨atD⟩
def encAt (z : AtS) : Nat → Value := fun j => match j with
  | 0 => .int .i64 z.thread | 1 => .int .i64 z.tx | 2 => .int .i64 z.frm | 3 => .int .i64 z.to | 4 => .int .i64 z.rv | 5 => .int .i64 z.wv | 6 => .bool z.com
  | 7 => .slice z.ra z.rs.length z.rc | _ => .slice z.wa z.ws.length z.wc
abbrev atV (z : AtS) : Value := aggV [.int .i64 z.thread, .int .i64 z.tx, .int .i64 z.frm, .int .i64 z.to, .int .i64 z.rv, .int .i64 z.wv, .bool z.com, .slice z.ra z.rs.length z.rc, .slice z.wa z.ws.length z.wc]
/-- The pairs that an attempt points to. -/
def atR (z : AtS) : Res where
  foot k := (slL z.ra z.rc 2 encPr (0, 0) z.rs).foot k ∨ (slL z.wa z.wc 2 encPr (0, 0) z.ws).foot k
  ro := true
  holds w := SlOk w z.ra z.rs.length z.rc 2 (gL encPr (0, 0) z.rs) ∧ SlOk w z.wa z.ws.length z.wc 2 (gL encPr (0, 0) z.ws)
  lt w k h e := e.elim ((slL z.ra z.rc 2 encPr (0, 0) z.rs).lt w k h.1) ((slL z.wa z.wc 2 encPr (0, 0) z.ws).lt w k h.2)
  loc w w' h e := ⟨(slL z.ra z.rc 2 encPr (0, 0) z.rs).loc w w' h.1 fun k hk => e k (.inl hk), (slL z.wa z.wc 2 encPr (0, 0) z.ws).loc w w' h.2 fun k hk => e k (.inr hk)⟩
/-- A history: the attempts, and what they point to. -/
def hisR (a : Option Addr) (cap : Nat) (l : List AtS) : Res where
  foot k := (slL a cap 9 encAt atD l).foot k ∨ ∃ i, (atR (l.getD i atD)).foot k
  ro := true
  holds w := SlOk w a l.length cap 9 (gL encAt atD l) ∧ ∀ i, (atR (l.getD i atD)).holds w
  lt w k h e := e.elim ((slL a cap 9 encAt atD l).lt w k h.1) fun ⟨i, hi⟩ => (atR (l.getD i atD)).lt w k (h.2 i) hi
  loc w w' h e := ⟨(slL a cap 9 encAt atD l).loc w w' h.1 fun k hk => e k (.inl hk), fun i => (atR (l.getD i atD)).loc w w' (h.2 i) fun k hk => e k (.inr ⟨i, hk⟩)⟩
/-- Two things that are read, as one. -/
def andR (r r' : Res) : Res where
  foot k := r.foot k ∨ r'.foot k
  ro := true
  holds w := r.holds w ∧ r'.holds w
  lt w k h e := e.elim (r.lt w k h.1) (r'.lt w k h.2)
  loc w w' h e := ⟨r.loc w w' h.1 fun k hk => e k (.inl hk), r'.loc w w' h.2 fun k hk => e k (.inr hk)⟩
theorem Sat.andR {S : Nat → Prop} {w₀ w : World} {L : List Res} {r r' : Res} (h : Sat S w₀ w (r :: r' :: L)) : Sat S w₀ w (andR r r' :: L) := by
  have hs := List.pairwise_cons.1 h.sep
  have hs2 := List.pairwise_cons.1 hs.2
  refine ⟨h.chg, fun x hx => ?_, List.pairwise_cons.2 ⟨fun x hx => ?_, hs2.2⟩, fun x hx => ?_⟩
  · rcases List.mem_cons.1 hx with rfl | hx
    · exact ⟨h.all r (by simp), h.all r' (by simp)⟩
    · exact h.all x (by simp [hx])
  · cases hr : x.ro with
    | true => exact .inl ⟨rfl, hr⟩
    | false =>
      refine .inr fun k e e' => ?_
      rcases e with e | e
      · rcases hs.1 x (by simp [hx]) with ⟨_, h2⟩ | h2
        · rw [hr] at h2; cases h2
        · exact h2 k e e'
      · rcases hs2.1 x hx with ⟨_, h2⟩ | h2
        · rw [hr] at h2; cases h2
        · exact h2 k e e'
  · rcases List.mem_cons.1 hx with rfl | hx
    · intro h0; cases h0
    · exact h.own x (by simp [hx])
section
variable (L : List Res) (a : Option Addr) (cap : Nat) (l : List AtS) (z : AtS)
instance at_SlR : PickSl (atR z :: L) z.ra z.rs.length z.rc 2 (gL encPr (0, 0) z.rs) := ⟨fun w h => (h (atR z) (List.mem_cons_self ..)).1⟩
instance at_LR : PickL (atR z :: L) z.ra z.rc 2 encPr (0, 0) z.rs := ⟨fun w h => (h (atR z) (List.mem_cons_self ..)).1⟩
instance at_ER : PickE (atR z :: L) z.ra z.rs.length z.rc 2 (gL encPr (0, 0) z.rs) := ⟨fun w h => (h (atR z) (List.mem_cons_self ..)).1⟩
instance at_SlW : PickSl (atR z :: L) z.wa z.ws.length z.wc 2 (gL encPr (0, 0) z.ws) := ⟨fun w h => (h (atR z) (List.mem_cons_self ..)).2⟩
instance at_LW : PickL (atR z :: L) z.wa z.wc 2 encPr (0, 0) z.ws := ⟨fun w h => (h (atR z) (List.mem_cons_self ..)).2⟩
instance at_EW : PickE (atR z :: L) z.wa z.ws.length z.wc 2 (gL encPr (0, 0) z.ws) := ⟨fun w h => (h (atR z) (List.mem_cons_self ..)).2⟩
instance his_Sl : PickSl (hisR a cap l :: L) a l.length cap 9 (gL encAt atD l) := ⟨fun w h => (h (hisR a cap l) (List.mem_cons_self ..)).1⟩
instance his_L : PickL (hisR a cap l :: L) a cap 9 encAt atD l := ⟨fun w h => (h (hisR a cap l) (List.mem_cons_self ..)).1⟩
instance his_E : PickE (hisR a cap l :: L) a l.length cap 9 (gL encAt atD l) := ⟨fun w h => (h (hisR a cap l) (List.mem_cons_self ..)).1⟩
instance his_SlR (i : Nat) : PickSl (hisR a cap l :: L) (l.getD i atD).ra (l.getD i atD).rs.length (l.getD i atD).rc 2 (gL encPr (0, 0) (l.getD i atD).rs) := ⟨fun w h => ((h (hisR a cap l) (List.mem_cons_self ..)).2 i).1⟩
instance his_LR (i : Nat) : PickL (hisR a cap l :: L) (l.getD i atD).ra (l.getD i atD).rc 2 encPr (0, 0) (l.getD i atD).rs := ⟨fun w h => ((h (hisR a cap l) (List.mem_cons_self ..)).2 i).1⟩
instance his_ER (i : Nat) : PickE (hisR a cap l :: L) (l.getD i atD).ra (l.getD i atD).rs.length (l.getD i atD).rc 2 (gL encPr (0, 0) (l.getD i atD).rs) := ⟨fun w h => ((h (hisR a cap l) (List.mem_cons_self ..)).2 i).1⟩
instance his_SlW (i : Nat) : PickSl (hisR a cap l :: L) (l.getD i atD).wa (l.getD i atD).ws.length (l.getD i atD).wc 2 (gL encPr (0, 0) (l.getD i atD).ws) := ⟨fun w h => ((h (hisR a cap l) (List.mem_cons_self ..)).2 i).2⟩
instance his_LW (i : Nat) : PickL (hisR a cap l :: L) (l.getD i atD).wa (l.getD i atD).wc 2 encPr (0, 0) (l.getD i atD).ws := ⟨fun w h => ((h (hisR a cap l) (List.mem_cons_self ..)).2 i).2⟩
instance his_EW (i : Nat) : PickE (hisR a cap l :: L) (l.getD i atD).wa (l.getD i atD).ws.length (l.getD i atD).wc 2 (gL encPr (0, 0) (l.getD i atD).ws) := ⟨fun w h => ((h (hisR a cap l) (List.mem_cons_self ..)).2 i).2⟩
end
def aheadB (a b : AtS) : Bool := decide (a.to ≠ -1) && decide (a.to < b.frm)
theorem writer_at (z : AtS) (w0 : World) : Calls Try.prog 38 #[atV z] w0 fun e w' => e = .returned (.bool (decide (0 < z.wv))) ∧ Below w0.heap.size w0 w' := by
  have S := Sat.start (fun _ => False) w0
  refine enter1 Try.func38 rfl Try.ntmps38 rfl Try.results38 ?_
  repeat' (first | refine assign_b_l S rfl rfl ?_ | (refine box_a S rfl rfl rfl ?_; clear S; intro b w S) | refine fieldAddr_l S rfl rfl rfl ?_ | refine nilL ?_ | refine run_seq ?_ | refine run_skip ?_ | refine run_region ?_ | refine fieldAddrE_l S rfl (by first | omega | decide | (simp; done) | (simp; omega)) rfl rfl ?_ | refine load_i_l S rfl rfl rfl rfl ?_ | refine loadE_i_l S rfl (by first | omega | decide | (simp; done) | (simp; omega)) rfl rfl rfl ?_ | (refine gtr_l S rfl rfl rfl ?_ ?_ <;> intro hcmp <;> try (exfalso; first | omega | exact hcmp (by decide) | exact absurd hcmp (by decide))) | refine load_o_l S rfl rfl rfl rfl ?_ | refine loadE_o_l S rfl (by first | omega | decide | (simp; done) | (simp; omega)) rfl rfl rfl ?_ | refine run_block ?_ | refine run_ret ?_ | refine run_exit ?_ | refine run_cond_true rfl ?_ | refine run_cond_false rfl ?_ | refine thenQ_n ?_ | refine thenQ_r ?_ | refine thenQ_e ?_ | refine blockQ_n ?_ | refine blockQ_r ?_ | refine blockQ_s rfl ?_ | refine blockQ_o rfl ?_ | refine ret1_i rfl ?_ | refine ret1_b rfl ?_ | refine ret1_p rfl ?_ | refine ret1_s rfl ?_ | refine ret1_e rfl ?_ | refine ret1_a rfl ?_ | refine ret1_o rfl ?_ | refine ret1n_i rfl ?_ | refine ret1n_b rfl ?_ | refine ret1n_p rfl ?_ | refine ret1n_s rfl ?_ | refine ret1n_o rfl ?_)
  all_goals exact ⟨by simp [*], S.chg.below⟩
theorem ahead_at (y z : AtS) (w0 : World) : Calls Try.prog 21 #[atV y, atV z] w0 fun e w' => e = .returned (.bool (aheadB y z)) ∧ Below w0.heap.size w0 w' := by
  have S := Sat.start (fun _ => False) w0
  refine enter1 Try.func21 rfl Try.ntmps21 rfl Try.results21 ?_
  repeat' (first | refine fieldAddr_l S rfl rfl rfl ?_ | refine fieldAddrE_l S rfl (by first | omega | decide | (simp; done) | (simp; omega)) rfl rfl ?_ | refine load_i_l S rfl rfl rfl rfl ?_ | refine nilL ?_ | refine run_seq ?_ | refine run_skip ?_ | refine run_region ?_ | refine onL rfl rfl ?_ | refine offL rfl rfl rfl rfl ?_ | refine offL0 rfl rfl rfl ?_ | refine offLU rfl rfl rfl ?_ | refine loadE_i_l S rfl (by first | omega | decide | (simp; done) | (simp; omega)) rfl rfl rfl ?_ | (refine box_a S rfl rfl rfl ?_; clear S; intro b w S) | refine assign_b_l S rfl rfl ?_ | (refine neq_l S rfl rfl rfl ?_ ?_ <;> intro hcmp <;> try (exfalso; first | omega | exact hcmp (by decide) | exact absurd hcmp (by decide))) | refine move_b_l S rfl rfl ?_ | (refine lss_l S rfl rfl rfl ?_ ?_ <;> intro hcmp <;> try (exfalso; first | omega | exact hcmp (by decide) | exact absurd hcmp (by decide))) | refine pick_tb_l S rfl rfl rfl ?_ | refine pick_fb_l S rfl rfl rfl ?_ | refine load_o_l S rfl rfl rfl rfl ?_ | refine loadE_o_l S rfl (by first | omega | decide | (simp; done) | (simp; omega)) rfl rfl rfl ?_ | refine run_block ?_ | refine run_ret ?_ | refine run_exit ?_ | refine run_cond_true rfl ?_ | refine run_cond_false rfl ?_ | refine thenQ_n ?_ | refine thenQ_r ?_ | refine thenQ_e ?_ | refine blockQ_n ?_ | refine blockQ_r ?_ | refine blockQ_s rfl ?_ | refine blockQ_o rfl ?_ | refine ret1_i rfl ?_ | refine ret1_b rfl ?_ | refine ret1_p rfl ?_ | refine ret1_s rfl ?_ | refine ret1_e rfl ?_ | refine ret1_a rfl ?_ | refine ret1_o rfl ?_ | refine ret1n_i rfl ?_ | refine ret1n_b rfl ?_ | refine ret1n_p rfl ?_ | refine ret1n_s rfl ?_ | refine ret1n_o rfl ?_)
  all_goals exact ⟨by simp [aheadB, *], S.chg.below⟩
theorem within_at (x : Int) (w0 : World) : Calls Try.prog 36 #[.int .i64 x] w0 fun e w' => e = .returned (.bool (decide (0 ≤ x) && decide (x ≤ 1099511627776))) ∧ Below w0.heap.size w0 w' := by
  have S := Sat.start (fun _ => False) w0
  refine enter1 Try.func36 rfl Try.ntmps36 rfl Try.results36 ?_
  repeat' (first | refine assign_b_l S rfl rfl ?_ | refine move_i_l S rfl rfl ?_ | (refine geq_l S rfl rfl rfl ?_ ?_ <;> intro hcmp <;> try (exfalso; first | omega | exact hcmp (by decide) | exact absurd hcmp (by decide))) | refine nilL ?_ | refine run_seq ?_ | refine run_skip ?_ | refine run_region ?_ | refine onL rfl rfl ?_ | refine offL rfl rfl rfl rfl ?_ | refine offL0 rfl rfl rfl ?_ | refine offLU rfl rfl rfl ?_ | refine move_b_l S rfl rfl ?_ | (refine leq_l S rfl rfl rfl ?_ ?_ <;> intro hcmp <;> try (exfalso; first | omega | exact hcmp (by decide) | exact absurd hcmp (by decide))) | refine pick_tb_l S rfl rfl rfl ?_ | refine pick_fb_l S rfl rfl rfl ?_ | refine run_block ?_ | refine run_ret ?_ | refine run_exit ?_ | refine run_cond_true rfl ?_ | refine run_cond_false rfl ?_ | refine thenQ_n ?_ | refine thenQ_r ?_ | refine thenQ_e ?_ | refine blockQ_n ?_ | refine blockQ_r ?_ | refine blockQ_s rfl ?_ | refine blockQ_o rfl ?_ | refine ret1_i rfl ?_ | refine ret1_b rfl ?_ | refine ret1_p rfl ?_ | refine ret1_s rfl ?_ | refine ret1_e rfl ?_ | refine ret1_a rfl ?_ | refine ret1_o rfl ?_ | refine ret1n_i rfl ?_ | refine ret1n_b rfl ?_ | refine ret1n_p rfl ?_ | refine ret1n_s rfl ?_ | refine ret1n_o rfl ?_)
  all_goals exact ⟨by simp [*], S.chg.below⟩
end Go.Proofs.Ytciehimnhnbipaa
namespace Go.Proofs.Ytciehimnhnbipaa
open Go.RowKit Go.Lib
set_option linter.unusedVariables false
set_option maxHeartbeats 2000000
theorem any_take_succG {α : Type} {p : α → Bool} {d : α} {l : List α} {q : Nat} (h : q < l.length) : (l.take (q + 1)).any p = ((l.take q).any p || p (l.getD q d)) := by
  rw [List.take_succ_eq_append_getElem h, List.any_append, List.getD_eq_getElem?_getD, List.getElem?_eq_getElem h]
  simp
theorem getD_mem {α : Type} {d : α} {l : List α} {q : Nat} (h : q < l.length) : l.getD q d ∈ l := by
  rw [List.getD_eq_getElem?_getD, List.getElem?_eq_getElem h]
  exact List.getElem_mem h
/-- The first place, or -1. -/
def idxG {α : Type} (p : α → Bool) (zs : List α) : Int := if zs.any p then (zs.findIdx p : Nat) else -1
theorem idxG_le {α : Type} (p : α → Bool) (zs : List α) : decide (0 ≤ idxG p zs) = zs.any p := by
  unfold idxG
  cases zs.any p with
  | true => rw [if_pos rfl]; exact decide_eq_true (by omega)
  | false => rw [if_neg (by decide)]; decide
theorem idxG_at {α : Type} {d : α} {p : α → Bool} {zs : List α} {q : Nat} (hq : q < zs.length) (h0 : (zs.take q).any p = false) (h1 : p (zs.getD q d) = true) : idxG p zs = q := by
  have ha : zs.any p = true := by
    rw [List.any_eq_true]
    rw [List.getD_eq_getElem?_getD, List.getElem?_eq_getElem hq] at h1
    exact ⟨_, List.getElem_mem hq, h1⟩
  unfold idxG
  rw [if_pos ha]
  have : zs.findIdx p = q := by
    rw [List.findIdx_eq hq]
    rw [List.getD_eq_getElem?_getD, List.getElem?_eq_getElem hq] at h1
    refine ⟨h1, fun j hj => ?_⟩
    have h2 := (List.any_eq_false.1 h0) zs[j] (List.mem_take_iff_getElem.2 ⟨j, by omega, rfl⟩)
    simpa using h2
  rw [this]
section
variable {f : FuncId} [FnOk Try.prog f] {l2 : List Value} {p : Int × Int → Bool} {I : World → Prop} {zs : List (Int × Int)}
theorem indexP_at (hI : ∀ w w', I w → Below w.heap.size w w' → I w') (hf : ∀ x w, x ∈ zs → I w → Calls Try.prog f ([] ++ [prV x] ++ l2).toArray w fun e w' => e = .returned (.bool (p x)) ∧ Below w.heap.size w w')
    (a : Option Addr) (cap : Nat) (w0 : World) (hi : I w0) (hs : SlOk w0 a zs.length cap 2 (gL encPr (0, 0) zs)) :
    Calls Try.prog 54 #[.slice a zs.length cap, .func (.func f) #[] l2.toArray] w0 fun e w' => e = .returned (.int .i64 (idxG p zs)) ∧ Below w0.heap.size w0 w' := by
  have hm := hs.small
  have S := Sat.reads (r := slL a cap 2 encPr (0, 0) zs) hs
  refine enter1 Try.func54 rfl Try.ntmps54 rfl Try.results54 ?_
  repeat' (first | refine move_i_l S rfl rfl ?_ | refine assign_i_l S rfl rfl ?_ | refine move_s_l S rfl rfl ?_ | refine nilL ?_ | refine run_seq ?_ | refine run_region ?_ | refine len_l S rfl rfl ?_ | refine run_block ?_ | refine thenQ_n ?_)
  refine run_while [4, 5, 9, 10, 11, 12, 13, 14, 15, 16, 17, 18] (fun (q : Nat) t => upd t 8 (.int .i64 q)) (fun q w' => q ≤ zs.length ∧ (zs.take q).any p = false ∧ Sat (fun _ => False) w0 w' [roR (slL a cap 2 encPr (0, 0) zs)]) (fun q => zs.length - q) 0 ?_ ?_ ?_
  · (repeat (first | exact agree_refl | refine agree_r rfl ?_ | refine agree_l rfl ?_ | refine agree_hv rfl ?_))
  · exact ⟨Nat.zero_le _, rfl, S⟩
  clear S
  rintro q j w ⟨hq, hn, S⟩
  by_cases hql : q < zs.length
  · have hsucc := any_take_succG (p := p) (d := (0, 0)) (l := zs) hql
    rw [hn] at hsucc
    repeat' (first | refine move_i_l S rfl rfl ?_ | refine assign_i_l S rfl rfl ?_ | refine move_s_l S rfl rfl ?_ | refine nilL ?_ | refine run_seq ?_ | refine run_skip ?_ | refine run_region ?_ | (refine lss_l S rfl rfl rfl ?_ ?_ <;> intro hcmp <;> try (exfalso; first | omega | exact hcmp (by decide) | exact absurd hcmp (by decide))) | refine indexAddr_l S rfl rfl (idx_cast _) (by first | omega | decide | (simp; done) | (simp; omega)) rfl ?_ | refine loadEN_l S rfl (by first | omega | decide | (simp; done) | (simp; omega)) rfl rfl ?_ | refine move_o_l S rfl rfl ?_ | refine run_block ?_ | refine run_cond_true rfl ?_ | refine thenQ_n ?_)
    refine callV (f := f) (l1 := []) (l2 := l2) (l := [prV (zs.getD q (0, 0))]) rfl (hf (zs.getD q (0, 0)) _ (getD_mem hql) (hI _ _ hi S.chg.below)) rfl rfl ?_
    rintro e w ⟨rfl, hb⟩
    replace S := S.below hb
    clear hb
    refine ⟨_, rfl, ?_⟩
    obtain ⟨r, hr⟩ : ∃ r, p (zs.getD q (0, 0)) = r := ⟨_, rfl⟩
    rw [hr] at hsucc ⊢
    cases r with
    | true =>
      repeat' (first | refine move_i_l S rfl rfl ?_ | refine assign_i_l S rfl rfl ?_ | refine nilL ?_ | refine run_seq ?_ | refine run_region ?_ | refine run_ret ?_ | refine run_cond_true rfl ?_ | refine thenQ_n ?_ | refine thenQ_r ?_ | refine blockQ_r ?_ | refine ret1_i rfl ?_)
      exact ⟨by rw [idxG_at hql hn hr], S.chg.below⟩
    | false =>
      repeat' (first | refine move_i_l S rfl rfl ?_ | refine nilL ?_ | refine run_skip ?_ | refine run_region ?_ | refine add_l S rfl rfl (wrap_in (by omega)) rfl ?_ | refine run_cond_false rfl ?_ | refine thenQ_n ?_ | refine blockQ_n ?_)
      refine ⟨q + 1, ?_, ⟨by omega, hsucc, S⟩, by omega⟩
      rw [Int.natCast_add]
      (repeat (first | exact agree_refl | refine agree_r rfl ?_ | refine agree_l rfl ?_ | refine agree_hv rfl ?_))
  · repeat' (first | refine assign_i_l S rfl rfl ?_ | refine nilL ?_ | refine run_seq ?_ | refine run_region ?_ | (refine lss_l S rfl rfl rfl ?_ ?_ <;> intro hcmp <;> try (exfalso; first | omega | exact hcmp (by decide) | exact absurd hcmp (by decide))) | refine run_ret ?_ | refine run_exit ?_ | refine run_cond_false rfl ?_ | refine thenQ_n ?_ | refine thenQ_e ?_ | refine blockQ_s rfl ?_ | refine ret1_i rfl ?_)
    rw [List.take_of_length_le (by omega)] at hn
    refine ⟨?_, S.chg.below⟩
    unfold idxG
    rw [hn]
    rfl
theorem containsP_at (hI : ∀ w w', I w → Below w.heap.size w w' → I w') (hf : ∀ x w, x ∈ zs → I w → Calls Try.prog f ([] ++ [prV x] ++ l2).toArray w fun e w' => e = .returned (.bool (p x)) ∧ Below w.heap.size w w')
    (a : Option Addr) (cap : Nat) (w0 : World) (hi : I w0) (hs : SlOk w0 a zs.length cap 2 (gL encPr (0, 0) zs)) :
    Calls Try.prog 39 #[.slice a zs.length cap, .func (.func f) #[] l2.toArray] w0 fun e w' => e = .returned (.bool (zs.any p)) ∧ Below w0.heap.size w0 w' := by
  have S := Sat.reads (r := slL a cap 2 encPr (0, 0) zs) hs
  refine enter1 Try.func39 rfl Try.ntmps39 rfl Try.results39 ?_
  repeat' (first | refine assign_b_l S rfl rfl ?_ | refine move_s_l S rfl rfl ?_ | refine nilL ?_ | refine run_seq ?_ | refine run_region ?_ | refine move_o_l S rfl rfl ?_ | refine thenQ_n ?_)
  refine callL (indexP_at hI hf a cap w0 hi hs) rfl rfl ?_
  rintro e w' ⟨rfl, hb⟩
  replace S := S.below hb
  clear hb
  have hr := idxG_le p zs
  obtain ⟨r, hrr⟩ : ∃ r, idxG p zs = r := ⟨_, rfl⟩
  rw [hrr] at hr ⊢
  refine ⟨_, rfl, ?_⟩
  repeat' (first | refine assign_b_l S rfl rfl ?_ | (refine geq_l S rfl rfl rfl ?_ ?_ <;> intro hcmp <;> try (exfalso; first | omega | exact hcmp (by decide) | exact absurd hcmp (by decide))) | refine nilL ?_ | refine run_ret ?_ | refine thenQ_n ?_ | refine ret1_b rfl ?_)
  · rw [← hr, decide_eq_true hcmp]; exact ⟨rfl, S.chg.below⟩
  · rw [← hr, decide_eq_false hcmp]; exact ⟨rfl, S.chg.below⟩
end
/-- A slice of numbers, as a value. -/
structure SlX where
  a : Option Addr
  cap : Nat
  zs : List Int
abbrev sxD : SlX := ⟨none, 0, []⟩
abbrev slV (z : SlX) : Value := .slice z.a z.zs.length z.cap
def encSx (z : SlX) : Nat → Value := fun _ => slV z
section
variable {f : FuncId} [FnOk Try.prog f] {l2 : List Value} {p : SlX → Bool} {I : World → Prop} {zs : List SlX}
theorem indexS_at (hI : ∀ w w', I w → Below w.heap.size w w' → I w') (hf : ∀ x w, x ∈ zs → I w → Calls Try.prog f ([] ++ [slV x] ++ l2).toArray w fun e w' => e = .returned (.bool (p x)) ∧ Below w.heap.size w w')
    (a : Option Addr) (cap : Nat) (w0 : World) (hi : I w0) (hs : SlOk w0 a zs.length cap 1 (gL encSx sxD zs)) :
    Calls Try.prog 42 #[.slice a zs.length cap, .func (.func f) #[] l2.toArray] w0 fun e w' => e = .returned (.int .i64 (idxG p zs)) ∧ Below w0.heap.size w0 w' := by
  have hm := hs.small
  have S := Sat.reads (r := slL a cap 1 encSx sxD zs) hs
  refine enter1 Try.func42 rfl Try.ntmps42 rfl Try.results42 ?_
  repeat' (first | refine move_i_l S rfl rfl ?_ | refine assign_i_l S rfl rfl ?_ | refine move_s_l S rfl rfl ?_ | refine nilL ?_ | refine run_seq ?_ | refine run_region ?_ | refine len_l S rfl rfl ?_ | refine run_block ?_ | refine thenQ_n ?_)
  refine run_while [4, 5, 9, 10, 11, 12, 13, 14, 15, 16, 17, 18] (fun (q : Nat) t => upd t 8 (.int .i64 q)) (fun q w' => q ≤ zs.length ∧ (zs.take q).any p = false ∧ Sat (fun _ => False) w0 w' [roR (slL a cap 1 encSx sxD zs)]) (fun q => zs.length - q) 0 ?_ ?_ ?_
  · (repeat (first | exact agree_refl | refine agree_r rfl ?_ | refine agree_l rfl ?_ | refine agree_hv rfl ?_))
  · exact ⟨Nat.zero_le _, rfl, S⟩
  clear S
  rintro q j w ⟨hq, hn, S⟩
  by_cases hql : q < zs.length
  · have hsucc := any_take_succG (p := p) (d := sxD) (l := zs) hql
    rw [hn] at hsucc
    repeat' (first | refine move_i_l S rfl rfl ?_ | refine assign_i_l S rfl rfl ?_ | refine move_s_l S rfl rfl ?_ | refine nilL ?_ | refine run_seq ?_ | refine run_skip ?_ | refine run_region ?_ | (refine lss_l S rfl rfl rfl ?_ ?_ <;> intro hcmp <;> try (exfalso; first | omega | exact hcmp (by decide) | exact absurd hcmp (by decide))) | refine indexAddr_l S rfl rfl (idx_cast _) (by first | omega | decide | (simp; done) | (simp; omega)) rfl ?_ | refine move_o_l S rfl rfl ?_ | refine loadE_o_l S rfl (by first | omega | decide | (simp; done) | (simp; omega)) rfl rfl rfl ?_ | refine run_block ?_ | refine run_cond_true rfl ?_ | refine thenQ_n ?_)
    refine callV (f := f) (l1 := []) (l2 := l2) (l := [slV (zs.getD q sxD)]) rfl (hf (zs.getD q sxD) _ (getD_mem hql) (hI _ _ hi S.chg.below)) rfl rfl ?_
    rintro e w ⟨rfl, hb⟩
    replace S := S.below hb
    clear hb
    refine ⟨_, rfl, ?_⟩
    obtain ⟨r, hr⟩ : ∃ r, p (zs.getD q sxD) = r := ⟨_, rfl⟩
    rw [hr] at hsucc ⊢
    cases r with
    | true =>
      repeat' (first | refine move_i_l S rfl rfl ?_ | refine assign_i_l S rfl rfl ?_ | refine nilL ?_ | refine run_seq ?_ | refine run_region ?_ | refine run_ret ?_ | refine run_cond_true rfl ?_ | refine thenQ_n ?_ | refine thenQ_r ?_ | refine blockQ_r ?_ | refine ret1_i rfl ?_)
      exact ⟨by rw [idxG_at hql hn hr], S.chg.below⟩
    | false =>
      repeat' (first | refine move_i_l S rfl rfl ?_ | refine nilL ?_ | refine run_skip ?_ | refine run_region ?_ | refine add_l S rfl rfl (wrap_in (by omega)) rfl ?_ | refine run_cond_false rfl ?_ | refine thenQ_n ?_ | refine blockQ_n ?_)
      refine ⟨q + 1, ?_, ⟨by omega, hsucc, S⟩, by omega⟩
      rw [Int.natCast_add]
      (repeat (first | exact agree_refl | refine agree_r rfl ?_ | refine agree_l rfl ?_ | refine agree_hv rfl ?_))
  · repeat' (first | refine assign_i_l S rfl rfl ?_ | refine nilL ?_ | refine run_seq ?_ | refine run_region ?_ | (refine lss_l S rfl rfl rfl ?_ ?_ <;> intro hcmp <;> try (exfalso; first | omega | exact hcmp (by decide) | exact absurd hcmp (by decide))) | refine run_ret ?_ | refine run_exit ?_ | refine run_cond_false rfl ?_ | refine thenQ_n ?_ | refine thenQ_e ?_ | refine blockQ_s rfl ?_ | refine ret1_i rfl ?_)
    rw [List.take_of_length_le (by omega)] at hn
    refine ⟨?_, S.chg.below⟩
    unfold idxG
    rw [hn]
    rfl
end
end Go.Proofs.Ytciehimnhnbipaa
