/- commit: what lies there; the small methods. commit: the steps that change only itself. -/
import Derived.Test.YtpiodhdbdlfnhaaGreatDoorRsSet
import Derived.Test.YtpiodhdbdlfnhaaGreatDoorHpE
import Derived.Test.YtpiodhdbdlfnhaaGreatDoorRetC
namespace Go.Proofs.YtpiodhdbdlfnhaaGreatDoor
open Go.RowKit Go.Lib
set_option linter.unusedVariables false
structure CmS where
  thread : Int
  at_ : Int
  rv : Int
  st : Int
  hs : List Bool
  writes : List (Int × Int)
  owned : List Int
  wv : Int
  done : Int
  committed : Bool
  full : Bool
structure CA where
  bs : Nat
  aw : Option Addr
  cw : Nat
  ao : Option Addr
  co : Nat
def cmC (A : CA) (C : CmS) : Tm := fun i => match i with
  | 0 => .int .i64 C.thread | 1 => .int .u8 C.at_ | 2 => .pointer (some ⟨A.bs, 0, none⟩) | 3 => .slice A.aw C.writes.length A.cw | 4 => .slice A.ao C.owned.length A.co
  | 5 => .int .i64 C.wv | 6 => .int .i64 C.done | 7 => .bool C.committed | 8 => .bool C.full | _ => undef
abbrev wrR (A : CA) (C : CmS) : Res := slL A.aw A.cw 2 encP (0, 0) C.writes
abbrev owR (A : CA) (C : CmS) : Res := slL A.ao A.co 1 encI 0 C.owned
abbrev csR (A : CA) (C : CmS) : Res := roR (setR A.bs C.rv C.st C.hs)
def cmR (b : Nat) (A : CA) (C : CmS) : Res where
  foot k := k = b ∨ (csR A C).foot k ∨ (wrR A C).foot k ∨ (owR A C).foot k
  ro := false
  holds w := ((blk b 9 (cmC A C) 94).holds w ∧ (csR A C).holds w ∧ (wrR A C).holds w ∧ (owR A C).holds w) ∧ (∀ k, (csR A C).foot k → k ≠ b) ∧ (∀ k, (wrR A C).foot k → k ≠ b) ∧ (∀ k, (owR A C).foot k → k ≠ b)
  lt w k h e := by
    rcases e with rfl | e | e | e
    · exact lt_of_heap h.1.1
    · exact (csR A C).lt w k h.1.2.1 e
    · exact (wrR A C).lt w k h.1.2.2.1 e
    · exact (owR A C).lt w k h.1.2.2.2 e
  loc w w' h e := ⟨⟨(blk b 9 (cmC A C) 94).loc w w' h.1.1 (fun k hk => e k (.inl hk)), (csR A C).loc w w' h.1.2.1 (fun k hk => e k (.inr (.inl hk))), (wrR A C).loc w w' h.1.2.2.1 (fun k hk => e k (.inr (.inr (.inl hk)))), (owR A C).loc w w' h.1.2.2.2 (fun k hk => e k (.inr (.inr (.inr hk))))⟩, h.2⟩
abbrev cmL (b : Nat) (A : CA) (C : CmS) : List Res := [blk b 9 (cmC A C) 94, csR A C, wrR A C, owR A C]
theorem cm_open {b : Nat} {A : CA} {C : CmS} {w : World} (h : (cmR b A C).holds w) : Sat (cmR b A C).foot w w (cmL b A C) := by
  obtain ⟨⟨h1, h2, h3, h4⟩, g1, g2, g3⟩ := h
  refine (((((Sat.start _ w).push (r := owR A C) h4 (by simp) (fun e => by cases e)).push (r := wrR A C) h3 ?_ (fun e => by cases e)).push (r := csR A C) h2 ?_ (fun e => by cases e)).push (r := blk b 9 (cmC A C) 94) h1 ?_ (fun _ k hk _ => .inl hk))
  · intro x hx
    obtain rfl : x = owR A C := by simpa using hx
    exact .inl ⟨rfl, rfl⟩
  · intro x hx
    simp only [List.mem_cons, List.not_mem_nil, or_false] at hx
    rcases hx with rfl | rfl
    · exact .inl ⟨rfl, rfl⟩
    · exact .inl ⟨rfl, rfl⟩
  · intro x hx
    simp only [List.mem_cons, List.not_mem_nil, or_false] at hx
    rcases hx with rfl | rfl | rfl
    · exact .inr fun k e e' => g1 k e' e
    · exact .inr fun k e e' => g2 k e' e
    · exact .inr fun k e e' => g3 k e' e
theorem cm_shut {S : Nat → Prop} {w₀ w : World} {b : Nat} {A : CA} {C : CmS} (h : Sat S w₀ w (cmL b A C)) : (cmR b A C).holds w := by
  have a1 := h.all _ (List.mem_cons_self ..)
  have a2 := h.all (csR A C) (by simp)
  have a3 := h.all (wrR A C) (by simp)
  have a4 := h.all (owR A C) (by simp)
  have s := (List.pairwise_cons.1 h.sep).1
  have use : ∀ x : Res, (blk b 9 (cmC A C) 94).apart x → ∀ k, x.foot k → k ≠ b := fun x hx k h1 h2 => by
    rcases hx with e | e
    · cases e.1
    · exact e k h2 h1
  exact ⟨⟨a1, a2, a3, a4⟩, use _ (s _ (by simp)), use _ (s _ (by simp)), use _ (s _ (by simp))⟩
section
variable (L : List Res) (b : Nat) (A : CA) (C : CmS)
instance cm_B : PickB (cmR b A C :: L) b 9 (cmC A C) 94 := ⟨fun w h => (h (cmR b A C) (List.mem_cons_self ..)).1.1⟩
instance cm_SlW : PickSl (cmR b A C :: L) A.aw C.writes.length A.cw 2 (gL encP (0, 0) C.writes) := ⟨fun w h => (h (cmR b A C) (List.mem_cons_self ..)).1.2.2.1⟩
instance cm_EW : PickE (cmR b A C :: L) A.aw C.writes.length A.cw 2 (gL encP (0, 0) C.writes) := ⟨fun w h => (h (cmR b A C) (List.mem_cons_self ..)).1.2.2.1⟩
end
/-- What a method leaves. -/
def CmTo (b : Nat) (A : CA) (C C' : CmS) (w w' : World) : Prop := ∃ A', (A'.aw = A.aw ∧ A'.cw = A.cw) ∧ (cmR b A' C').holds w' ∧ Chg (cmR b A C).foot w w' ∧ ∀ k, (cmR b A' C').foot k → (cmR b A C).foot k ∨ w.heap.size ≤ k
/-- Only the block itself was changed. -/
theorem cm_to {w₀ w : World} {b : Nat} {A A' : CA} {C C' : CmS} (hw : A'.aw = A.aw ∧ A'.cw = A.cw) (h : Sat (cmR b A C).foot w₀ w (cmL b A' C')) (hf : ∀ k, (csR A' C').foot k ∨ (wrR A' C').foot k ∨ (owR A' C').foot k → (cmR b A C).foot k ∨ w₀.heap.size ≤ k) : CmTo b A C C' w₀ w := by
  refine ⟨A', hw, cm_shut h, h.chg, fun k hk => ?_⟩
  by_cases hlt : k < w₀.heap.size
  · rcases hk with hk | hk
    · exact .inl (h.own _ (List.mem_cons_self ..) rfl k hk hlt)
    · exact hf k hk
  · exact .inr (by omega)
section
variable {bc : Nat} {A : CA} {C : CmS} {w0 : World} (h : (cmR bc A C).holds w0)
include h
theorem cm_small : C.writes.length ≤ 9223372036854775807 ∧ C.owned.length ≤ 9223372036854775807 ∧ C.owned.length ≤ A.co ∧ C.writes.length ≤ A.cw :=
  ⟨SlOk.small h.1.2.2.1, SlOk.small h.1.2.2.2, (h.1.2.2.2 : SlOk w0 _ _ _ _ _).2.1, (h.1.2.2.1 : SlOk w0 _ _ _ _ _).2.1⟩
theorem over_at : Calls Tryz.prog 45 #[.pointer (some ⟨bc, 0, none⟩)] w0 fun e w' => e = .returned (.bool (decide (C.at_ = 8))) ∧ Below w0.heap.size w0 w' := by
  have S := Sat.reads h
  refine enter1 Tryz.func45 rfl Tryz.ntmps45 rfl Tryz.results45 ?_
  repeat' (first | refine assign_b_l S rfl rfl ?_ | refine move_p_l S rfl rfl ?_ | refine nilL ?_ | refine run_seq ?_ | refine run_region ?_ | refine onL rfl rfl ?_ | refine neqP_l S rfl rfl rfl ?_ | refine move_b_l S rfl rfl ?_ | refine nilCheck_l S rfl rfl ?_ | refine fieldAddr_l S rfl rfl rfl ?_ | refine load_i_l S rfl rfl rfl rfl ?_ | (refine eql_l S rfl rfl rfl ?_ ?_ <;> intro hcmp <;> try (exfalso; first | omega | exact hcmp (by decide) | exact absurd hcmp (by decide))) | refine pick_tb_l S rfl rfl rfl ?_ | refine run_ret ?_ | refine thenQ_n ?_ | refine ret1_b rfl ?_)
  · exact ⟨by rw [decide_eq_true hcmp], S.chg.below⟩
  · exact ⟨by rw [decide_eq_false hcmp], S.chg.below⟩
end
end Go.Proofs.YtpiodhdbdlfnhaaGreatDoor
namespace Go.Proofs.YtpiodhdbdlfnhaaGreatDoor
open Go.RowKit Go.Lib
set_option linter.unusedVariables false
structure EvS where
  kind : Int
  thread : Int
  at_ : Int
  v : Int
  x : Int
  why : Int
def encEv (e : EvS) : Value := aggV [.int .u8 e.kind, .int .i64 e.thread, .int .i64 0, .int .i64 e.at_, .int .i64 e.v, .int .i64 e.x, .int .u8 e.why]
theorem cmC_at (A : CA) (C : CmS) (z : Int) : upd (cmC A C) (0 + 1) (.int .u8 z) = cmC A { C with at_ := z } := by
  funext i
  match i with
  | 0 => rfl
  | 1 => rfl
  | 2 => rfl
  | 3 => rfl
  | 4 => rfl
  | 5 => rfl
  | 6 => rfl
  | 7 => rfl
  | 8 => rfl
  | _ + 9 => rfl
theorem cmC_wv (A : CA) (C : CmS) (z : Int) : upd (cmC A C) (0 + 5) (.int .i64 z) = cmC A { C with wv := z } := by
  funext i
  match i with
  | 0 => rfl
  | 1 => rfl
  | 2 => rfl
  | 3 => rfl
  | 4 => rfl
  | 5 => rfl
  | 6 => rfl
  | 7 => rfl
  | 8 => rfl
  | _ + 9 => rfl
theorem cmC_done (A : CA) (C : CmS) (z : Int) : upd (cmC A C) (0 + 6) (.int .i64 z) = cmC A { C with done := z } := by
  funext i
  match i with
  | 0 => rfl
  | 1 => rfl
  | 2 => rfl
  | 3 => rfl
  | 4 => rfl
  | 5 => rfl
  | 6 => rfl
  | 7 => rfl
  | 8 => rfl
  | _ + 9 => rfl
theorem cmC_committed (A : CA) (C : CmS) (z : Bool) : upd (cmC A C) (0 + 7) (.bool z) = cmC A { C with committed := z } := by
  funext i
  match i with
  | 0 => rfl
  | 1 => rfl
  | 2 => rfl
  | 3 => rfl
  | 4 => rfl
  | 5 => rfl
  | 6 => rfl
  | 7 => rfl
  | 8 => rfl
  | _ + 9 => rfl
theorem cmC_full (A : CA) (C : CmS) (z : Bool) : upd (cmC A C) (0 + 8) (.bool z) = cmC A { C with full := z } := by
  funext i
  match i with
  | 0 => rfl
  | 1 => rfl
  | 2 => rfl
  | 3 => rfl
  | 4 => rfl
  | 5 => rfl
  | 6 => rfl
  | 7 => rfl
  | 8 => rfl
  | _ + 9 => rfl
theorem cmC_owned (A : CA) (C : CmS) (a : Option Addr) (c : Nat) (l : List Int) : upd (cmC A C) (0 + 4) (.slice a l.length c) = cmC { A with ao := a, co := c } { C with owned := l } := by
  funext i
  match i with
  | 0 => rfl
  | 1 => rfl
  | 2 => rfl
  | 3 => rfl
  | 4 => rfl
  | 5 => rfl
  | 6 => rfl
  | 7 => rfl
  | 8 => rfl
  | _ + 9 => rfl
/-- Opened and shut where it lies in a list. -/
theorem cm_openL {S : Nat → Prop} {w₀ w : World} {L : List Res} {b : Nat} {A : CA} {C : CmS} (h : Sat S w₀ w (cmR b A C :: L)) : Sat S w₀ w (cmL b A C ++ L) := by
  have hc : (cmR b A C).holds w := h.all _ (by simp)
  obtain ⟨⟨h1, h2, h3, h4⟩, g1, g2, g3⟩ := hc
  have hs := List.pairwise_cons.1 h.sep
  have ap : ∀ x ∈ L, ∀ k, (cmR b A C).foot k → ¬ x.foot k := fun x hx k e1 e2 => by
    rcases hs.1 x hx with e | e
    · cases e.1
    · exact e k e1 e2
  have base : Sat S w₀ w L := ⟨h.chg, fun x hx => h.all x (by simp [hx]), hs.2, fun x hx => h.own x (by simp [hx])⟩
  have s4 : Sat S w₀ w (owR A C :: L) := base.push h4 (fun x hx => .inr fun k e1 e2 => ap x hx k (.inr (.inr (.inr e1))) e2) (fun e => by cases e)
  have s3 : Sat S w₀ w (wrR A C :: owR A C :: L) := s4.push h3 (fun x hx => by
    rcases List.mem_cons.1 hx with rfl | hx
    · exact .inl ⟨rfl, rfl⟩
    · exact .inr fun k e1 e2 => ap x hx k (.inr (.inr (.inl e1))) e2) (fun e => by cases e)
  have s2 : Sat S w₀ w (csR A C :: wrR A C :: owR A C :: L) := s3.push h2 (fun x hx => by
    rcases List.mem_cons.1 hx with rfl | hx
    · exact .inl ⟨rfl, rfl⟩
    rcases List.mem_cons.1 hx with rfl | hx
    · exact .inl ⟨rfl, rfl⟩
    · exact .inr fun k e1 e2 => ap x hx k (.inr (.inl e1)) e2) (fun e => by cases e)
  refine s2.push h1 (fun x hx => ?_) (fun _ k hk hlt => h.own (cmR b A C) (by simp) rfl k (.inl hk) hlt)
  rcases List.mem_cons.1 hx with rfl | hx
  · exact .inr fun k e e' => g1 k e' e
  rcases List.mem_cons.1 hx with rfl | hx
  · exact .inr fun k e e' => g2 k e' e
  rcases List.mem_cons.1 hx with rfl | hx
  · exact .inr fun k e e' => g3 k e' e
  · exact .inr fun k e1 e2 => ap x hx k (.inl e1) e2
theorem cm_shutL {S : Nat → Prop} {w₀ w : World} {L : List Res} {b : Nat} {A : CA} {C : CmS} (h : Sat S w₀ w (cmL b A C ++ L)) (hL : ∀ x ∈ L, x.ro = false) (hf : ∀ k, (csR A C).foot k ∨ (wrR A C).foot k ∨ (owR A C).foot k → k < w₀.heap.size → S k) : Sat S w₀ w (cmR b A C :: L) := by
  have hsub : Sat S w₀ w (cmL b A C) := ⟨h.chg, fun x hx => h.all x (List.mem_append_left _ hx), (List.pairwise_append.1 h.sep).1, fun x hx => h.own x (List.mem_append_left _ hx)⟩
  have hp := List.pairwise_append.1 h.sep
  have base : Sat S w₀ w L := ⟨h.chg, fun x hx => h.all x (List.mem_append_right _ hx), hp.2.1, fun x hx => h.own x (List.mem_append_right _ hx)⟩
  refine base.push (r := cmR b A C) (cm_shut hsub) (fun x hx => .inr fun k e1 e2 => ?_) (fun _ k hk hlt => ?_)
  · have use : ∀ y ∈ cmL b A C, ¬ y.foot k := fun y hy e => by
      rcases hp.2.2 y hy x hx with q | q
      · have := hL x hx; rw [q.2] at this; cases this
      · exact q k e e2
    rcases e1 with e1 | e1 | e1 | e1
    · exact use (blk b 9 (cmC A C) 94) (by simp) e1
    · exact use (csR A C) (by simp) e1
    · exact use (wrR A C) (by simp) e1
    · exact use (owR A C) (by simp) e1
  · rcases hk with hk | hk
    · exact h.own (blk b 9 (cmC A C) 94) (List.mem_append_left _ (by simp)) rfl k hk hlt
    · exact hf k hk hlt
theorem subA_block {a : Option Addr} {lo cap sz : Nat} {x : Addr} (h : subA a lo cap sz = some x) : ∃ y, a = some y ∧ y.block = x.block := by
  rw [subA_eq] at h
  split at h
  · exact ⟨x, h, rfl⟩
  · cases a with
    | none => cases h
    | some y =>
      refine ⟨y, rfl, ?_⟩
      have := Option.some.inj h
      rw [← this]
      show y.block = (y.add (lo * sz)).block
      unfold Addr.add
      (split <;> rfl)
def abortC (C : CmS) : CmS := { C with at_ := if C.owned.length = 0 then 8 else 7 }
def commitC (C : CmS) : CmS := { C with committed := true, done := 0, at_ := if C.writes.length = 0 then 8 else 5 }
def leastC (C : CmS) : CmS := { C with owned := C.owned.drop 1, at_ := if (C.owned.drop 1).length = 0 then 8 else C.at_ }
section
variable {bc : Nat} {A : CA} {C : CmS} {w0 : World} (h : (cmR bc A C).holds w0)
include h
theorem abort_at (why at_ : Int) : Calls Tryz.prog 84 #[.pointer (some ⟨bc, 0, none⟩), .int .u8 why, .int .i64 at_] w0 fun e w' => e = .returned (encEv ⟨10, 0, at_, 0, 0, why⟩) ∧ CmTo bc A C (abortC C) w0 w' := by
  have S := cm_open h
  have hm := cm_small h
  refine enterC Tryz.func84 rfl Tryz.ntmps84 rfl Tryz.results84 ?_
  repeat' (first | refine move_p_l S rfl rfl ?_ | refine nilCheck_l S rfl rfl ?_ | refine nilL ?_ | refine run_seq ?_ | refine run_skip ?_ | refine run_region ?_ | refine fieldAddr_l S rfl rfl rfl ?_ | (refine store_i S rfl rfl rfl ?_; clear S; intro w S) | refine move_i_l S rfl rfl ?_ | (refine allocZ_l S rfl rfl ?_; clear S; intro b w S) | refine len_l S rfl rfl ?_ | (refine eql_l S rfl rfl rfl ?_ ?_ <;> intro hcmp <;> try (exfalso; first | omega | exact hcmp (by decide) | exact absurd hcmp (by decide))) | (apply build7_l S; (· repeat (first | exact mapN | apply mapC_i rfl | apply mapC_b rfl | apply mapC_p rfl | apply mapC_s rfl | apply mapC_e rfl | apply mapC_a rfl | apply mapC_o rfl)); (· rfl); (· rfl)) | (refine storeN_l S rfl rfl ⟨rfl, rfl⟩ rfl ?_; clear S; intro w S) | refine load_o_l S rfl rfl rfl rfl ?_ | refine run_ret ?_ | refine run_cond_true rfl ?_ | refine run_cond_false rfl ?_ | refine thenQ_n ?_ | refine retC_l S rfl ?_)
  · rw [cmC_at, cmC_at] at S
    refine ⟨rfl, ?_⟩
    have e : abortC C = { C with at_ := 8 } := by unfold abortC; rw [if_pos (by omega)]
    rw [e]
    exact cm_to ⟨rfl, rfl⟩ (S.sub (L' := cmL bc A { C with at_ := 8 })) (fun k hk => .inl (.inr hk))
  · rw [cmC_at] at S
    refine ⟨rfl, ?_⟩
    have e : abortC C = { C with at_ := 7 } := by unfold abortC; rw [if_neg (by omega)]
    rw [e]
    exact cm_to ⟨rfl, rfl⟩ (S.sub (L' := cmL bc A { C with at_ := 7 })) (fun k hk => .inl (.inr hk))
theorem commit_at (hp : Option Addr) : Calls Tryz.prog 68 #[.pointer (some ⟨bc, 0, none⟩), .pointer hp] w0 fun e w' => e = .returned (encEv ⟨7, 0, 0, C.wv, 0, 0⟩) ∧ CmTo bc A C (commitC C) w0 w' := by
  have S := cm_open h
  have hm := cm_small h
  refine enterC Tryz.func68 rfl Tryz.ntmps68 rfl Tryz.results68 ?_
  repeat' (first | refine move_p_l S rfl rfl ?_ | refine nilCheck_l S rfl rfl ?_ | refine nilL ?_ | refine run_seq ?_ | refine run_skip ?_ | refine run_region ?_ | refine fieldAddr_l S rfl rfl rfl ?_ | (refine store_i S rfl rfl rfl ?_; clear S; intro w S) | (refine allocZ_l S rfl rfl ?_; clear S; intro b w S) | (refine store_b S rfl rfl rfl ?_; clear S; intro w S) | refine len_l S rfl rfl ?_ | (refine eql_l S rfl rfl rfl ?_ ?_ <;> intro hcmp <;> try (exfalso; first | omega | exact hcmp (by decide) | exact absurd hcmp (by decide))) | refine load_i_l S rfl rfl rfl rfl ?_ | (apply build7_l S; (· repeat (first | exact mapN | apply mapC_i rfl | apply mapC_b rfl | apply mapC_p rfl | apply mapC_s rfl | apply mapC_e rfl | apply mapC_a rfl | apply mapC_o rfl)); (· rfl); (· rfl)) | (refine storeN_l S rfl rfl ⟨rfl, rfl⟩ rfl ?_; clear S; intro w S) | refine load_o_l S rfl rfl rfl rfl ?_ | refine run_ret ?_ | refine run_cond_true rfl ?_ | refine run_cond_false rfl ?_ | refine thenQ_n ?_ | refine retC_l S rfl ?_)
  · rw [cmC_committed, cmC_done, cmC_at, cmC_at] at S
    refine ⟨rfl, ?_⟩
    have e : commitC C = { C with committed := true, done := 0, at_ := 8 } := by unfold commitC; rw [if_pos (by omega)]
    rw [e]
    exact cm_to ⟨rfl, rfl⟩ (S.sub (L' := cmL bc A { C with committed := true, done := 0, at_ := 8 })) (fun k hk => .inl (.inr hk))
  · rw [cmC_committed, cmC_done, cmC_at] at S
    refine ⟨rfl, ?_⟩
    have e : commitC C = { C with committed := true, done := 0, at_ := 5 } := by unfold commitC; rw [if_neg (by omega)]
    rw [e]
    exact cm_to ⟨rfl, rfl⟩ (S.sub (L' := cmL bc A { C with committed := true, done := 0, at_ := 5 })) (fun k hk => .inl (.inr hk))
theorem least_at (hn : C.owned ≠ []) : Calls Tryz.prog 89 #[.pointer (some ⟨bc, 0, none⟩)] w0 fun e w' => e = .returned (.int .i64 (C.owned.getD 0 0)) ∧ CmTo bc A C (leastC C) w0 w' := by
  have S := cm_open h
  have hm := cm_small h
  have hlen : 0 < C.owned.length := by
    cases hC : C.owned with
    | nil => exact absurd hC hn
    | cons _ _ => simp
  refine enter1 Tryz.func89 rfl Tryz.ntmps89 rfl Tryz.results89 ?_
  repeat' (first | refine move_p_l S rfl rfl ?_ | refine nilCheck_l S rfl rfl ?_ | refine nilL ?_ | refine run_seq ?_ | refine run_region ?_ | refine fieldAddr_l S rfl rfl rfl ?_ | refine assign_i_l S rfl rfl ?_ | refine indexAddr_l S rfl rfl (idx_cast _) (by first | omega | decide | (simp; done) | (simp; omega)) rfl ?_ | refine loadE_i_l S rfl (by first | omega | decide | (simp; done) | (simp; omega)) rfl rfl rfl ?_ | refine load_o_l S rfl rfl rfl rfl ?_ | refine thenQ_n ?_)
  refine sliceSuf_l S (l := 1) rfl rfl ⟨by omega, by omega⟩ rfl ?_
  have hd1 : C.owned.length - 1 = (C.owned.drop 1).length := by simp
  rw [hd1]
  have fin : ∀ {w : World} {C' : CmS}, C'.rv = C.rv → C'.st = C.st → C'.hs = C.hs → C'.writes = C.writes → C'.owned = C.owned.drop 1 → Sat (cmR bc A C).foot w0 w [blk bc 9 (cmC { A with ao := subA A.ao 1 A.co 1, co := A.co - 1 } C') 94, csR A C, wrR A C, owR A C] → CmTo bc A C C' w0 w := by
    intro w C' e1 e2 e3 e4 e5 S
    have S2 := S.turn (r := owR A C) (r' := slL (subA A.ao 1 A.co 1) (A.co - 1) 1 encI 0 (C.owned.drop 1)) (by
      have hs : SlOk w A.ao C.owned.length A.co 1 (gL encI 0 C.owned) := S.all (owR A C) (by simp)
      show SlOk w _ (C.owned.drop 1).length _ 1 _
      rw [← hd1]
      refine (hs.sub (lo := 1) (n := C.owned.length - 1) (by omega)).congr fun i hi j hj => ?_
      unfold gL
      rw [List.getD_eq_getElem?_getD, List.getD_eq_getElem?_getD, List.getElem?_drop]) rfl (fun k hk => by
      obtain ⟨g1, x, g2, g3⟩ := hk
      obtain ⟨y, g4, g5⟩ := subA_block g2
      exact ⟨by omega, y, g4, g5.trans g3⟩)
    have S3 : Sat (cmR bc A C).foot w0 w (cmL bc { A with ao := subA A.ao 1 A.co 1, co := A.co - 1 } C') := by
      show Sat _ _ _ [_, roR (setR A.bs C'.rv C'.st C'.hs), slL A.aw A.cw 2 encP (0, 0) C'.writes, slL (subA A.ao 1 A.co 1) (A.co - 1) 1 encI 0 C'.owned]
      rw [e1, e2, e3, e4, e5]
      exact S2
    refine cm_to (A' := { A with ao := subA A.ao 1 A.co 1, co := A.co - 1 }) ⟨rfl, rfl⟩ S3 fun k hk => .inl (.inr ?_)
    rcases hk with hk | hk | hk
    · exact .inl hk
    · refine .inr (.inl ?_)
      obtain ⟨g1, g2⟩ := hk
      exact ⟨by rw [e4] at g1; exact g1, g2⟩
    · refine .inr (.inr ?_)
      obtain ⟨g1, x, g2, g3⟩ := hk
      obtain ⟨y, g4, g5⟩ := subA_block g2
      exact ⟨by omega, y, g4, g5.trans g3⟩
  repeat' (first | refine move_p_l S rfl rfl ?_ | refine nilCheck_l S rfl rfl ?_ | refine nilL ?_ | refine run_seq ?_ | refine run_skip ?_ | refine run_region ?_ | refine fieldAddr_l S rfl rfl rfl ?_ | refine assign_i_l S rfl rfl ?_ | (refine store_s S rfl rfl rfl ?_; clear S; intro w S) | refine len_l S rfl rfl ?_ | (refine eql_l S rfl rfl rfl ?_ ?_ <;> intro hcmp <;> try (exfalso; first | omega | exact hcmp (by decide) | exact absurd hcmp (by decide))) | (refine store_i S rfl rfl rfl ?_; clear S; intro w S) | refine move_i_l S rfl rfl ?_ | refine load_o_l S rfl rfl rfl rfl ?_ | refine run_ret ?_ | refine run_cond_true rfl ?_ | refine run_cond_false rfl ?_ | refine thenQ_n ?_ | refine ret1_i rfl ?_)
  · rw [cmC_owned, cmC_at] at S
    refine ⟨rfl, ?_⟩
    have e : leastC C = { C with owned := C.owned.drop 1, at_ := 8 } := by unfold leastC; rw [if_pos (by omega)]
    rw [e]
    exact fin rfl rfl rfl rfl rfl S
  · rw [cmC_owned] at S
    refine ⟨rfl, ?_⟩
    have e : leastC C = { C with owned := C.owned.drop 1 } := by unfold leastC; rw [if_neg (by omega)]
    rw [e]
    exact fin rfl rfl rfl rfl rfl S
end
end Go.Proofs.YtpiodhdbdlfnhaaGreatDoor
