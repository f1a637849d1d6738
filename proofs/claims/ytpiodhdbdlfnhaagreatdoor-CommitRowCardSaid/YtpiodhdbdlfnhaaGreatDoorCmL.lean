/- commit: what the statements are handed; long; the turns ahead; what holds along a run. commit: what each step does to owners, versions and values (plain). commit: Owned, Pending; what else the statements call. -/
import Derived.Test.YtpiodhdbdlfnhaaGreatDoorHpO
import Derived.Test.YtpiodhdbdlfnhaaGreatDoorOpen2
import Derived.Test.YtpiodhdbdlfnhaaGreatDoorCmW
namespace Go.Proofs.YtpiodhdbdlfnhaaGreatDoor
open Go.RowKit Go.Lib
set_option linter.unusedVariables false
set_option maxHeartbeats 4000000
set_option maxRecDepth 100000
def pairCells (s : Int × Int) : List Value := [.int .i64 s.1, .int .i64 s.2]
section
variable {H : Type} {enc : TypeId × Value → H} {w : World}
theorem pairc_open (fuel : Nat) (cs : List Value) (x : DataW H × List MemPlace) (h : DataW.trod enc Tryz.prog w 0 (fun _ => true) true fuel 57 cs = some x) : ∃ d : Int × Int, cs = pairCells d ∧ (Lit.int .i64 d.1).wf = true ∧ (Lit.int .i64 d.2).wf = true := by
  obtain ⟨y0, y1, n, hl, h0, h1⟩ := trodS2 Tryz.underlying57 h
  have hl5 : cs.length = 2 := hl.trans (by kernel_rfl)
  match cs, hl5 with
  | [c0, c1], _ =>
    obtain ⟨a, e1, _, wn⟩ := DataW.trod_int Tryz.underlying3 h0
    obtain ⟨b, e2, _, wx⟩ := DataW.trod_int Tryz.underlying2 h1
    have d0 : [c0] = [.int .i64 a] := e1
    have d1 : [c1] = [.int .i64 b] := e2
    obtain rfl := (List.cons.inj d0).1
    obtain rfl := (List.cons.inj d1).1
    exact ⟨⟨a, b⟩, rfl, wn, wx⟩
theorem pairs_open {a : Option Addr} {len cap : Nat} {d : DataW H} {p : List MemPlace} (h : DataW.Trod enc Tryz.prog w 0 (fun _ => true) true 24 (.slice a len cap) d p) :
    ∃ zs : List (Int × Int), zs.length = len ∧ SlOk w a len cap 2 (gL encP (0, 0) zs) ∧ ∀ z ∈ zs, (Lit.int .i64 z.1).wf = true ∧ (Lit.int .i64 z.2).wf = true := by
  obtain ⟨zs, h1, h2⟩ := slice_open 24 57 2 pairCells (fun d => (Lit.int .i64 d.1).wf = true ∧ (Lit.int .i64 d.2).wf = true) Tryz.underlying24 (by kernel_rfl) (by decide) (fun _ => rfl) pairc_open h
  exact ⟨zs, h1.1, SlOk.of_at h1 (none_capT Tryz.underlying24 h) (by decide) (fun z j hj => by
    match j, hj with
    | 0, _ => rfl
    | 1, _ => rfl), h2⟩
theorem ints_open2 {a : Option Addr} {len cap : Nat} {d : DataW H} {p : List MemPlace} (h : DataW.Trod enc Tryz.prog w 0 (fun _ => true) true 23 (.slice a len cap) d p) :
    ∃ zs : List Int, zs.length = len ∧ SlOk w a len cap 1 (gL encI 0 zs) ∧ ∀ z ∈ zs, (Lit.int .i64 z).wf = true := ints_sl 23 3 Tryz.underlying23 (by kernel_rfl) Tryz.underlying3 h
end
def longB (n r m l : Nat) : Bool := decide (50 < n ∨ 100 < r ∨ 50 < m ∨ 200 < l)
theorem long_at (a0 a1 a2 a3 : Option Addr) (l0 c0 l1 c1 l2 c2 l3 c3 : Nat) (hm : l0 ≤ 9223372036854775807 ∧ l1 ≤ 9223372036854775807 ∧ l2 ≤ 9223372036854775807 ∧ l3 ≤ 9223372036854775807) (w0 : World) :
    Calls Tryz.prog 5 #[.slice a0 l0 c0, .slice a1 l1 c1, .slice a2 l2 c2, .slice a3 l3 c3] w0 fun e w' => e = .returned (.bool (longB l0 l1 l2 l3)) ∧ Below w0.heap.size w0 w' := by
  have S := Sat.start (fun _ => False) w0
  unfold longB
  refine enter1 Tryz.func5 rfl Tryz.ntmps5 rfl Tryz.results5 ?_
  repeat' (first | refine move_s_l S rfl rfl ?_ | refine len_l S rfl rfl ?_ | (refine gtr_l S rfl rfl rfl ?_ ?_ <;> intro hcmp <;> try (exfalso; first | omega | exact hcmp (by decide) | exact absurd hcmp (by decide))) | refine nilL ?_ | refine run_seq ?_ | refine run_skip ?_ | refine run_region ?_ | refine onL rfl rfl ?_ | refine offL rfl rfl rfl rfl ?_ | refine offL0 rfl rfl rfl ?_ | refine offLU rfl rfl rfl ?_ | refine move_b_l S rfl rfl ?_ | refine pick_tb_l S rfl rfl rfl ?_ | refine pick_fb_l S rfl rfl rfl ?_ | refine assign_b_l S rfl rfl ?_ | refine run_block ?_ | refine run_ret ?_ | refine run_exit ?_ | refine run_cond_true rfl ?_ | refine run_cond_false rfl ?_ | refine thenQ_n ?_ | refine thenQ_r ?_ | refine thenQ_e ?_ | refine blockQ_n ?_ | refine blockQ_r ?_ | refine blockQ_s rfl ?_ | refine blockQ_o rfl ?_ | refine ret1_i rfl ?_ | refine ret1_b rfl ?_ | refine ret1_p rfl ?_ | refine ret1_s rfl ?_ | refine ret1_e rfl ?_ | refine ret1_a rfl ?_ | refine ret1_o rfl ?_ | refine ret1n_i rfl ?_ | refine ret1n_b rfl ?_ | refine ret1n_p rfl ?_ | refine ret1n_s rfl ?_ | refine ret1n_o rfl ?_)
  all_goals first
    | (rw [decide_eq_true (by omega)]; exact ⟨rfl, S.chg.below⟩)
    | (rw [decide_eq_false (by omega)]; exact ⟨rfl, S.chg.below⟩)
/-- What holds along a run, whether or not it gets to its end. -/
theorem runF_inv {J : CmS → HeapS → Prop} (hj : ∀ C H, J C H → C.at_ ≠ 8 → stepE C H = 0 → J (goC C H) (goH C H)) : ∀ (m : Nat) (C : CmS) (H : HeapS), J C H → J (runF m C H).2.2.1 (runF m C H).2.2.2
  | 0, _, _, h => h
  | m + 1, C, H, h => by
    unfold runF
    by_cases h8 : C.at_ = 8
    · rw [if_pos h8]; exact h
    · rw [if_neg h8]
      by_cases he : stepE C H = 0
      · rw [if_pos he]
        refine runF_inv hj m _ _ ?_
        unfold stepC stepH
        rw [if_pos he, if_pos he]
        exact hj C H h h8 he
      · rw [if_neg he]; exact h
end Go.Proofs.YtpiodhdbdlfnhaaGreatDoor
namespace Go.Proofs.YtpiodhdbdlfnhaaGreatDoor
open Go.RowKit Go.Lib
set_option linter.unusedVariables false
theorem ownerV_set1 {H : HeapS} {s : Int} (h : 0 ≤ s ∧ s < H.locks.length) (z : Int × Int) (i : Int) : ownerV { H with locks := H.locks.set s.toNat z } i = if i = s then z.1 else ownerV H i := by
  unfold ownerV
  rw [show ({ H with locks := H.locks.set s.toNat z } : HeapS).locks = H.locks.set s.toNat z from rfl, List.length_set]
  by_cases e : i = s
  · subst e
    rw [if_pos h, if_pos rfl, getD_setC (by omega), if_pos rfl]
  · rw [if_neg e]
    split
    · rw [getD_setC (by omega), if_neg (by omega)]
    · rfl
theorem versionV_set1 {H : HeapS} {s : Int} (h : 0 ≤ s ∧ s < H.locks.length) (z : Int × Int) (i : Int) : versionV { H with locks := H.locks.set s.toNat z } i = if i = s then z.2 else versionV H i := by
  unfold versionV
  rw [show ({ H with locks := H.locks.set s.toNat z } : HeapS).locks = H.locks.set s.toNat z from rfl, List.length_set]
  by_cases e : i = s
  · subst e
    rw [if_pos h, if_pos rfl, getD_setC (by omega), if_pos rfl]
  · rw [if_neg e]
    split
    · rw [getD_setC (by omega), if_neg (by omega)]
    · rfl
theorem owner_own (H : HeapS) (s who i : Int) : ownerV (ownH H s who) i = if ownE H s who = 0 ∧ i = s then who else ownerV H i := by
  unfold ownH
  by_cases e : ownE H s who = 0
  · have h := ownE_zeroC e
    rw [if_pos e, ownerV_set1 ⟨h.1, h.2.1⟩]
    by_cases e2 : i = s
    · rw [if_pos e2, if_pos ⟨e, e2⟩]
    · rw [if_neg e2, if_neg (fun x => e2 x.2)]
  · rw [if_neg e, if_neg (fun x => e x.1)]
theorem version_own (H : HeapS) (s who i : Int) : versionV (ownH H s who) i = versionV H i := by
  unfold ownH
  by_cases e : ownE H s who = 0
  · have h := ownE_zeroC e
    rw [if_pos e, versionV_set1 ⟨h.1, h.2.1⟩]
    by_cases e2 : i = s
    · subst e2; rw [if_pos rfl, versionV, if_pos ⟨h.1, h.2.1⟩]
    · rw [if_neg e2]
  · rw [if_neg e]
theorem owner_let (H : HeapS) (s who i : Int) : ownerV (letH H s who) i = if letE H s who = 0 ∧ i = s then -1 else ownerV H i := by
  unfold letH
  by_cases e : letE H s who = 0
  · have h := letE_zeroC e
    rw [if_pos e, ownerV_set1 ⟨h.1, h.2.1⟩]
    by_cases e2 : i = s
    · rw [if_pos e2, if_pos ⟨e, e2⟩]
    · rw [if_neg e2, if_neg (fun x => e2 x.2)]
  · rw [if_neg e, if_neg (fun x => e x.1)]
theorem version_let (H : HeapS) (s who i : Int) : versionV (letH H s who) i = versionV H i := by
  unfold letH
  by_cases e : letE H s who = 0
  · have h := letE_zeroC e
    rw [if_pos e, versionV_set1 ⟨h.1, h.2.1⟩]
    by_cases e2 : i = s
    · subst e2; rw [if_pos rfl, versionV, if_pos ⟨h.1, h.2.1⟩]
    · rw [if_neg e2]
  · rw [if_neg e]
theorem owner_free (H : HeapS) (s who ver i : Int) : ownerV (freeH H s who ver) i = if freeE H s who ver = 0 ∧ i = s then -1 else ownerV H i := by
  unfold freeH
  by_cases e : freeE H s who ver = 0
  · have h := letE_zeroC (freeE_zeroC e).1
    rw [if_pos e, ownerV_set1 ⟨h.1, h.2.1⟩]
    by_cases e2 : i = s
    · rw [if_pos e2, if_pos ⟨e, e2⟩]
    · rw [if_neg e2, if_neg (fun x => e2 x.2)]
  · rw [if_neg e, if_neg (fun x => e x.1)]
theorem version_free (H : HeapS) (s who ver i : Int) : versionV (freeH H s who ver) i = if freeE H s who ver = 0 ∧ i = s then ver else versionV H i := by
  unfold freeH
  by_cases e : freeE H s who ver = 0
  · have h := letE_zeroC (freeE_zeroC e).1
    rw [if_pos e, versionV_set1 ⟨h.1, h.2.1⟩]
    by_cases e2 : i = s
    · rw [if_pos e2, if_pos ⟨e, e2⟩]
    · rw [if_neg e2, if_neg (fun x => e2 x.2)]
  · rw [if_neg e, if_neg (fun x => e x.1)]
theorem owner_bump (H : HeapS) (i : Int) : ownerV (bumpH H) i = ownerV H i := by unfold bumpH; split <;> rfl
theorem version_bump (H : HeapS) (i : Int) : versionV (bumpH H) i = versionV H i := by unfold bumpH; split <;> rfl
theorem owner_set (H : HeapS) (v z i : Int) : ownerV (setH H v z) i = ownerV H i := by unfold setH; split <;> rfl
theorem version_set (H : HeapS) (v z i : Int) : versionV (setH H v z) i = versionV H i := by unfold setH; split <;> rfl
theorem own_vals (H : HeapS) (s who : Int) : (ownH H s who).vals = H.vals ∧ (ownH H s who).clock = H.clock ∧ (ownH H s who).limit = H.limit ∧ (ownH H s who).locks.length = H.locks.length := by unfold ownH; split <;> simp
theorem let_vals (H : HeapS) (s who : Int) : (letH H s who).vals = H.vals ∧ (letH H s who).clock = H.clock ∧ (letH H s who).limit = H.limit ∧ (letH H s who).locks.length = H.locks.length := by unfold letH; split <;> simp
theorem free_vals (H : HeapS) (s who ver : Int) : (freeH H s who ver).vals = H.vals ∧ (freeH H s who ver).clock = H.clock ∧ (freeH H s who ver).limit = H.limit ∧ (freeH H s who ver).locks.length = H.locks.length := by unfold freeH; split <;> simp
theorem set_clock (H : HeapS) (v z : Int) : (setH H v z).clock = H.clock ∧ (setH H v z).locks = H.locks ∧ (setH H v z).limit = H.limit := by unfold setH; split <;> simp
theorem bump_vals (H : HeapS) : (bumpH H).vals = H.vals ∧ (bumpH H).locks = H.locks ∧ (bumpH H).limit = H.limit ∧ (bumpH H).clock = (if H.limit ≤ H.clock then H.clock else H.clock + 1) := by
  unfold bumpH
  split <;> simp
theorem goH1 {C : CmS} {H : HeapS} (h : C.at_ = 1) : goH C H = ownH H (lockS C H) C.thread := by unfold goH; rw [h]; rfl
theorem goH2 {C : CmS} {H : HeapS} (h : C.at_ = 2) : goH C H = bumpH H := by unfold goH; rw [h]; rfl
theorem goH3 {C : CmS} {H : HeapS} (h : C.at_ = 3) : goH C H = H := by unfold goH; rw [h]; rfl
theorem goH4 {C : CmS} {H : HeapS} (h : C.at_ = 4) : goH C H = H := by unfold goH; rw [h]; rfl
theorem goH5 {C : CmS} {H : HeapS} (h : C.at_ = 5) : goH C H = setH H (C.writes.getD C.done.toNat (0, 0)).1 (C.writes.getD C.done.toNat (0, 0)).2 := by unfold goH; rw [h]; rfl
theorem goH6 {C : CmS} {H : HeapS} (h : C.at_ = 6) : goH C H = freeH H (C.owned.getD 0 0) C.thread C.wv := by unfold goH; rw [h]; rfl
theorem goH7 {C : CmS} {H : HeapS} (h : C.at_ = 7) : goH C H = letH H (C.owned.getD 0 0) C.thread := by unfold goH; rw [h]; rfl
theorem abortC_at (C : CmS) : (abortC C).at_ = 7 ∨ (abortC C).at_ = 8 := by unfold abortC; by_cases e : C.owned.length = 0 <;> simp [e]
theorem at_cases {C : CmS} {H : HeapS} (h : InvC C H) : C.at_ = 1 ∨ C.at_ = 2 ∨ C.at_ = 3 ∨ C.at_ = 4 ∨ C.at_ = 5 ∨ C.at_ = 6 ∨ C.at_ = 7 ∨ C.at_ = 8 := by have := h.at1; omega
end Go.Proofs.YtpiodhdbdlfnhaaGreatDoor
namespace Go.Proofs.YtpiodhdbdlfnhaaGreatDoor
open Go.RowKit Go.Lib
set_option linter.unusedVariables false
set_option maxHeartbeats 4000000
section
variable {bc : Nat} {A : CA} {C : CmS} {w0 : World} (h : (cmR bc A C).holds w0)
include h
end
/-- How many events of one kind there are. -/
def cntK (k : Int) (l : List EvS) : Int := ((l.filter fun e => decide (e.kind = k)).length : Nat)
theorem cntK_cons (k : Int) (e : EvS) (l : List EvS) : cntK k (e :: l) = (if e.kind = k then 1 else 0) + cntK k l := by
  unfold cntK
  by_cases h : e.kind = k
  · simp [h]; omega
  · simp [h]
theorem goEv1 {C : CmS} {H : HeapS} (h : C.at_ = 1) : goEv C H = lockEv C H := by unfold goEv; rw [h]; rfl
theorem goEv2 {C : CmS} {H : HeapS} (h : C.at_ = 2) : goEv C H = bumpEv H := by unfold goEv; rw [h]; rfl
theorem goEv3 {C : CmS} {H : HeapS} (h : C.at_ = 3) : goEv C H = checkEv C H := by unfold goEv; rw [h]; rfl
theorem goEv4 {C : CmS} {H : HeapS} (h : C.at_ = 4) : goEv C H = ⟨7, 0, 0, C.wv, 0, 0⟩ := by unfold goEv; rw [h]; rfl
theorem goEv5 {C : CmS} {H : HeapS} (h : C.at_ = 5) : goEv C H = ⟨8, 0, (C.writes.getD C.done.toNat (0, 0)).1, 0, (C.writes.getD C.done.toNat (0, 0)).2, 0⟩ := by unfold goEv; rw [h]; rfl
theorem goEv6 {C : CmS} {H : HeapS} (h : C.at_ = 6) : goEv C H = ⟨9, 0, C.owned.getD 0 0, 0, 0, 0⟩ := by unfold goEv; rw [h]; rfl
theorem goEv7 {C : CmS} {H : HeapS} (h : C.at_ = 7) : goEv C H = ⟨11, 0, C.owned.getD 0 0, 0, 0, 0⟩ := by unfold goEv; rw [h]; rfl
theorem kind1 {C : CmS} {H : HeapS} (h : C.at_ = 1) : (goEv C H).kind = if ownE H (lockS C H) C.thread = 0 then 4 else 10 := by rw [goEv1 h]; unfold lockEv; split <;> rfl
theorem kind3 {C : CmS} {H : HeapS} (h : C.at_ = 3) : (goEv C H).kind = if checkB C H = true then 10 else 6 := by rw [goEv3 h]; unfold checkEv; split <;> rfl
theorem kind4 {C : CmS} {H : HeapS} (h : C.at_ = 4) : (goEv C H).kind = 7 := by rw [goEv4 h]
theorem kind5 {C : CmS} {H : HeapS} (h : C.at_ = 5) : (goEv C H).kind = 8 := by rw [goEv5 h]
theorem kind6 {C : CmS} {H : HeapS} (h : C.at_ = 6) : (goEv C H).kind = 9 := by rw [goEv6 h]
theorem kind7 {C : CmS} {H : HeapS} (h : C.at_ = 7) : (goEv C H).kind = 11 := by rw [goEv7 h]
end Go.Proofs.YtpiodhdbdlfnhaaGreatDoor
