/- commit: what the statements are handed; long; the turns ahead; what holds along a run. -/
import Derived.Test.YtpiodhdbdlfnhaaHpO
import Derived.Test.YtpiodhdbdlfnhaaOpen2
import Derived.Test.YtpiodhdbdlfnhaaCmW
namespace Go.Proofs.Ytpiodhdbdlfnhaa
open Go.RowKit Go.Lib
set_option linter.unusedVariables false
set_option maxHeartbeats 4000000
set_option maxRecDepth 100000
abbrev turnD : TurnS := ⟨0, 0, 0, 0⟩
instance : Inhabited TurnS := ⟨turnD⟩
def turnCells (s : TurnS) : List Value := [.int .u8 s.k, .int .i64 s.at_, .int .i64 s.who, .int .i64 s.x]
def pairCells (s : Int × Int) : List Value := [.int .i64 s.1, .int .i64 s.2]
section
variable {H : Type} {enc : TypeId × Value → H} {w : World}
theorem turnc_open (fuel : Nat) (cs : List Value) (x : DataW H × List MemPlace) (h : DataW.trod enc Try.prog w 0 (fun _ => true) true fuel 35 cs = some x) : ∃ d : TurnS, cs = turnCells d ∧ True := by
  obtain ⟨y0, y1, y2, y3, n, hl, h0, h1, h2, h3⟩ := trodS4 Try.underlying35 h
  have hl5 : cs.length = 4 := hl.trans (by kernel_rfl)
  match cs, hl5 with
  | [c0, c1, c2, c3], _ =>
    obtain ⟨k, e0, _, wk⟩ := DataW.trod_int Try.underlying5 h0
    obtain ⟨a, e1, _, wn⟩ := DataW.trod_int Try.underlying3 h1
    obtain ⟨b, e2, _, wx⟩ := DataW.trod_int Try.underlying3 h2
    obtain ⟨c, e3, _, ws⟩ := DataW.trod_int Try.underlying2 h3
    have d0 : [c0] = [.int .u8 k] := e0
    have d1 : [c1] = [.int .i64 a] := e1
    have d2 : [c2] = [.int .i64 b] := e2
    have d3 : [c3] = [.int .i64 c] := e3
    obtain rfl := (List.cons.inj d0).1
    obtain rfl := (List.cons.inj d1).1
    obtain rfl := (List.cons.inj d2).1
    obtain rfl := (List.cons.inj d3).1
    exact ⟨⟨k, a, b, c⟩, rfl, trivial⟩
theorem turns_open {a : Option Addr} {len cap : Nat} {d : DataW H} {p : List MemPlace} (h : DataW.Trod enc Try.prog w 0 (fun _ => true) true 23 (.slice a len cap) d p) :
    ∃ zs : List TurnS, zs.length = len ∧ SlOk w a len cap 4 (gL encT turnD zs) := by
  obtain ⟨zs, h1, _⟩ := slice_open 23 35 4 turnCells (fun _ => True) Try.underlying23 (by kernel_rfl) (by decide) (fun _ => rfl) turnc_open h
  exact ⟨zs, h1.1, SlOk.of_at h1 (none_capT Try.underlying23 h) (by decide) (fun z j hj => by
    match j, hj with
    | 0, _ => rfl
    | 1, _ => rfl
    | 2, _ => rfl
    | 3, _ => rfl)⟩
theorem pairc_open (fuel : Nat) (cs : List Value) (x : DataW H × List MemPlace) (h : DataW.trod enc Try.prog w 0 (fun _ => true) true fuel 49 cs = some x) : ∃ d : Int × Int, cs = pairCells d ∧ (Lit.int .i64 d.1).wf = true ∧ (Lit.int .i64 d.2).wf = true := by
  obtain ⟨y0, y1, n, hl, h0, h1⟩ := trodS2 Try.underlying49 h
  have hl5 : cs.length = 2 := hl.trans (by kernel_rfl)
  match cs, hl5 with
  | [c0, c1], _ =>
    obtain ⟨a, e1, _, wn⟩ := DataW.trod_int Try.underlying3 h0
    obtain ⟨b, e2, _, wx⟩ := DataW.trod_int Try.underlying2 h1
    have d0 : [c0] = [.int .i64 a] := e1
    have d1 : [c1] = [.int .i64 b] := e2
    obtain rfl := (List.cons.inj d0).1
    obtain rfl := (List.cons.inj d1).1
    exact ⟨⟨a, b⟩, rfl, wn, wx⟩
theorem pairs_open {a : Option Addr} {len cap : Nat} {d : DataW H} {p : List MemPlace} (h : DataW.Trod enc Try.prog w 0 (fun _ => true) true 25 (.slice a len cap) d p) :
    ∃ zs : List (Int × Int), zs.length = len ∧ SlOk w a len cap 2 (gL encP (0, 0) zs) ∧ ∀ z ∈ zs, (Lit.int .i64 z.1).wf = true ∧ (Lit.int .i64 z.2).wf = true := by
  obtain ⟨zs, h1, h2⟩ := slice_open 25 49 2 pairCells (fun d => (Lit.int .i64 d.1).wf = true ∧ (Lit.int .i64 d.2).wf = true) Try.underlying25 (by kernel_rfl) (by decide) (fun _ => rfl) pairc_open h
  exact ⟨zs, h1.1, SlOk.of_at h1 (none_capT Try.underlying25 h) (by decide) (fun z j hj => by
    match j, hj with
    | 0, _ => rfl
    | 1, _ => rfl), h2⟩
theorem ints_open2 {a : Option Addr} {len cap : Nat} {d : DataW H} {p : List MemPlace} (h : DataW.Trod enc Try.prog w 0 (fun _ => true) true 24 (.slice a len cap) d p) :
    ∃ zs : List Int, zs.length = len ∧ SlOk w a len cap 1 (gL encI 0 zs) ∧ ∀ z ∈ zs, (Lit.int .i64 z).wf = true := ints_sl 24 3 Try.underlying24 (by kernel_rfl) Try.underlying3 h
end
def longB (n r m l : Nat) : Bool := decide (50 < n ∨ 100 < r ∨ 50 < m ∨ 200 < l)
theorem long_at (a0 a1 a2 a3 : Option Addr) (l0 c0 l1 c1 l2 c2 l3 c3 : Nat) (hm : l0 ≤ 9223372036854775807 ∧ l1 ≤ 9223372036854775807 ∧ l2 ≤ 9223372036854775807 ∧ l3 ≤ 9223372036854775807) (w0 : World) :
    Calls Try.prog 9 #[.slice a0 l0 c0, .slice a1 l1 c1, .slice a2 l2 c2, .slice a3 l3 c3] w0 fun e w' => e = .returned (.bool (longB l0 l1 l2 l3)) ∧ Below w0.heap.size w0 w' := by
  have S := Sat.start (fun _ => False) w0
  unfold longB
  refine enter1 Try.func9 rfl Try.ntmps9 rfl Try.results9 ?_
  repeat' (first | refine move_s_l S rfl rfl ?_ | refine len_l S rfl rfl ?_ | (refine gtr_l S rfl rfl rfl ?_ ?_ <;> intro hcmp <;> try (exfalso; first | omega | exact hcmp (by decide) | exact absurd hcmp (by decide))) | refine nilL ?_ | refine run_seq ?_ | refine run_skip ?_ | refine run_region ?_ | refine onL rfl rfl ?_ | refine offL rfl rfl rfl rfl ?_ | refine offL0 rfl rfl rfl ?_ | refine offLU rfl rfl rfl ?_ | refine move_b_l S rfl rfl ?_ | refine pick_tb_l S rfl rfl rfl ?_ | refine pick_fb_l S rfl rfl rfl ?_ | refine assign_b_l S rfl rfl ?_ | refine run_block ?_ | refine run_ret ?_ | refine run_exit ?_ | refine run_cond_true rfl ?_ | refine run_cond_false rfl ?_ | refine thenQ_n ?_ | refine thenQ_r ?_ | refine thenQ_e ?_ | refine blockQ_n ?_ | refine blockQ_r ?_ | refine blockQ_s rfl ?_ | refine blockQ_o rfl ?_ | refine ret1_i rfl ?_ | refine ret1_b rfl ?_ | refine ret1_p rfl ?_ | refine ret1_s rfl ?_ | refine ret1_e rfl ?_ | refine ret1_a rfl ?_ | refine ret1_o rfl ?_ | refine ret1n_i rfl ?_ | refine ret1n_b rfl ?_ | refine ret1n_p rfl ?_ | refine ret1n_s rfl ?_ | refine ret1n_o rfl ?_)
  all_goals first
    | (rw [decide_eq_true (by omega)]; exact ⟨rfl, S.chg.below⟩)
    | (rw [decide_eq_false (by omega)]; exact ⟨rfl, S.chg.below⟩)
def turnsH (H : HeapS) (l : List TurnS) : HeapS := l.foldl turnH H
theorem turnsH_succ {H : HeapS} {l : List TurnS} {q : Nat} (h : q < l.length) : turnsH H (l.take (q + 1)) = turnH (turnsH H (l.take q)) (l.getD q turnD) := by
  rw [List.take_succ_eq_append_getElem h, List.getD_eq_getElem?_getD, List.getElem?_eq_getElem h]
  unfold turnsH
  rw [List.foldl_append]
  rfl
theorem OkC.turns {n st : Nat} {limit : Int} {H : HeapS} (h : OkC n st limit H) (l : List TurnS) : OkC n st limit (turnsH H l) := by
  unfold turnsH
  induction l generalizing H with
  | nil => exact h
  | cons x l ih => exact ih (h.turn x)
/-- What holds along a run, whether or not it gets to its end. -/
theorem runF_inv {J : CmS → HeapS → Prop} (hj : ∀ C H, J C H → C.at_ ≠ 8 → stepE C H = 0 → J (goC C H) (goH C H)) : ∀ (m : Nat) (C : CmS) (H : HeapS), J C H → J (runF m C H).2.2.1 (runF m C H).2.2.2
  | 0, _, _, h => h
  | m + 1, C, H, h => by
    unfold runF
    by_cases h8 : C.at_ = 8
    · rw [if_pos h8]; exact h
    · rw [if_neg h8]
      by_cases he : stepE C H = 0
      · rw [if_pos he]
        refine runF_inv hj m _ _ ?_
        unfold stepC stepH
        rw [if_pos he, if_pos he]
        exact hj C H h h8 he
      · rw [if_neg he]; exact h
end Go.Proofs.Ytpiodhdbdlfnhaa
