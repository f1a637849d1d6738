/- heap: owners and versions. shape: a new checker; whether any stripe is owned. CommitRow's own events ahead of the commit: what the checker has then. commit: the law CommitRow. What the tables laid at the start give the walk. -/
import Derived.Test.YtpiodhdbdlfnhaaGreatDoorHpE
import Derived.Test.YtpiodhdbdlfnhaaGreatDoorBits
import Derived.Test.YtpiodhdbdlfnhaaGreatDoorAll
import Derived.Test.YtpiodhdbdlfnhaaGreatDoorShN
import Derived.Test.YtpiodhdbdlfnhaaGreatDoorRsSet
import Derived.Test.YtpiodhdbdlfnhaaGreatDoorCmL
import Derived.Test.YtpiodhdbdlfnhaaGreatDoorRows
import Derived.Test.YtpiodhdbdlfnhaaGreatDoorShE
import Derived.WalkKit
import Derived.ProofKit
import Derived.LaidMore
import Derived.LaidSub
import Derived.OpenShut
import Derived.Stop.Joined
import Derived.MakeChecks
namespace Go.Proofs.YtpiodhdbdlfnhaaGreatDoor
open Go.RowKit Go.Lib
set_option linter.unusedVariables false
theorem take_map_succ {α : Type} {g : α → Int} {l : List α} {q : Nat} {d : α} (hq : q < l.length) : (l.take (q + 1)).map g = (l.take q).map g ++ [g (l.getD q d)] := by
  rw [List.take_add_one, List.getElem?_eq_getElem hq, List.map_append, List.getD_eq_getElem?_getD, List.getElem?_eq_getElem hq]
  rfl
theorem owners1_at (x y : Int) (w0 : World) : Calls Tryz.prog 63 #[aggV [.int .i64 x, .int .i64 y]] w0 fun e w' => e = .returned (.int .i64 x) ∧ Below w0.heap.size w0 w' := by
  have S := Sat.start (fun _ => False) w0
  refine enter1 Tryz.func63 rfl Tryz.ntmps63 rfl Tryz.results63 ?_
  repeat' (first | refine assign_i_l S rfl rfl ?_ | (refine box_a S rfl rfl rfl ?_; clear S; intro b w S) | refine fieldAddr_l S rfl rfl rfl ?_ | refine nilL ?_ | refine run_seq ?_ | refine run_region ?_ | refine load_i_l S rfl rfl rfl rfl ?_ | refine run_ret ?_ | refine thenQ_n ?_ | refine ret1_i rfl ?_)
  exact ⟨rfl, S.chg.below⟩
set_option maxHeartbeats 1000000
section
variable {bh : Nat} {ga va : Option Addr} {gc vc : Nat} {H : HeapS} {w0 : World} (h : (heapR bh ga va gc vc H).holds w0)
include h
theorem heach_at (f : FuncId) [FnOk Tryz.prog f] (g : Int × Int → Int) (hg : ∀ (x y : Int) (w : World), Calls Tryz.prog f #[aggV [.int .i64 x, .int .i64 y]] w fun e w' => e = .returned (.int .i64 (g (x, y))) ∧ Below w.heap.size w w') (hn : H.locks.length ≤ 1000) :
    Calls Tryz.prog 62 #[.pointer (some ⟨bh, 0, none⟩), .func (.func f) #[] #[]] w0 fun e w' => ∃ v, e = .returned v ∧ NewRow w0 w' 3 1 encI 0 (H.locks.map g) v ∧ Below w0.heap.size w0 w' := by
  have S := Sat.reads h
  refine enter1 Tryz.func62 rfl Tryz.ntmps62 rfl Tryz.results62 ?_
  repeat' (first | refine assign_s_l S rfl rfl ?_ | refine move_p_l S rfl rfl ?_ | refine nilL ?_ | refine run_seq ?_ | refine run_region ?_ | refine thenQ_n ?_)
  (refine callL (stripes_at S.got) rfl rfl ?_; rintro e w ⟨rfl, hb⟩; replace S := S.below hb; clear hb; refine ⟨_, rfl, ?_⟩)
  repeat' (first | refine move_i_l S rfl rfl ?_ | refine nilL ?_ | refine run_block ?_ | refine thenQ_n ?_)
  replace S : Sat (fun _ => False) w0 w (rowL none 0 3 1 encI 0 [] :: _) := S.push (r := rowL none 0 3 1 encI 0 []) ⟨by decide, .inl ⟨rfl, rfl, rfl⟩⟩ (fun x hx => .inr (fun k ⟨y, hy, _⟩ => by cases hy)) (fun _ k ⟨y, hy, _⟩ => by cases hy)
  refine run_while [6, 10, 11, 12, 13, 14, 15, 16, 17, 18, 19, 20, 21, 22, 23, 24, 25] (fun (s : Nat × Option Addr × Nat) t => upd (upd t 9 (.int .i64 s.1)) 5 (.slice s.2.1 ((H.locks.take s.1).map g).length s.2.2)) (fun s w' => s.1 ≤ H.locks.length ∧ Sat (fun _ => False) w0 w' [rowL s.2.1 s.2.2 3 1 encI 0 ((H.locks.take s.1).map g), roR (heapR bh ga va gc vc H)]) (fun s => H.locks.length - s.1) (0, none, 0) ?_ ?_ ?_
  · (repeat (first | exact agree_refl | refine agree_r rfl ?_))
  · exact ⟨Nat.zero_le _, S⟩
  clear S
  rintro ⟨q, ta, tc⟩ j w ⟨hq, S⟩
  simp only at hq S ⊢
  have hlen : ((H.locks.take q).map g).length = q := by simp; omega
  by_cases hql : q < H.locks.length
  · have hz := take_map_succ (g := g) (d := (0, 0)) hql
    repeat' (first | refine move_i_l S rfl rfl ?_ | refine move_p_l S rfl rfl ?_ | refine nilL ?_ | refine run_seq ?_ | refine run_skip ?_ | refine run_region ?_ | refine move_s_l S rfl rfl ?_ | refine fieldAddr_l S rfl rfl rfl ?_ | (refine lss_l S rfl rfl rfl ?_ ?_ <;> intro hcmp <;> try (exfalso; first | omega | exact hcmp (by decide) | exact absurd hcmp (by decide))) | refine assign_i_l S rfl rfl ?_ | refine nilCheck_l S rfl rfl ?_ | refine indexAddr_l S rfl rfl (idx_cast _) (by first | omega | decide | (simp; done) | (simp; omega)) rfl ?_ | refine loadEN_l S rfl (by first | omega | decide | (simp; done) | (simp; omega)) rfl rfl ?_ | refine move_o_l S rfl rfl ?_ | refine load_o_l S rfl rfl rfl rfl ?_ | refine run_block ?_ | refine run_cond_true rfl ?_ | refine thenQ_n ?_)
    refine callV (f := f) (l1 := []) (l2 := []) (l := [aggV [.int .i64 (H.locks.getD q (0, 0)).1, .int .i64 (H.locks.getD q (0, 0)).2]]) rfl (hg (H.locks.getD q (0, 0)).1 (H.locks.getD q (0, 0)).2 _) rfl rfl ?_
    rintro e w ⟨rfl, hb⟩
    replace S := S.below hb
    clear hb
    refine ⟨_, rfl, ?_⟩
    repeat' (first | refine assign_s_l S rfl rfl ?_ | refine move_i_l S rfl rfl ?_ | refine nilL ?_ | refine run_region ?_ | (refine buildSlice_l S rfl rfl rfl rfl rfl ?_; clear S; intro b w S) | (refine append1_i S rfl rfl rfl (by omega) rfl ?_; clear S; intro a' cap' w S) | refine add_l S rfl rfl (wrap_in (by omega)) rfl ?_ | refine thenQ_n ?_ | refine blockQ_n ?_)
    refine ⟨(q + 1, a', cap'), ?_, ⟨by simp only; omega, ?_⟩, by simp only; omega⟩
    · simp only
      rw [hz, Int.natCast_add]
      (repeat (first | exact agree_refl | refine agree_r rfl ?_ | refine agree_l rfl ?_ | refine agree_hv rfl ?_))
    · simp only
      rw [hz]
      exact S.sub
  · repeat' (first | refine assign_s_l S rfl rfl ?_ | refine nilL ?_ | refine run_seq ?_ | refine run_region ?_ | refine move_s_l S rfl rfl ?_ | (refine lss_l S rfl rfl rfl ?_ ?_ <;> intro hcmp <;> try (exfalso; first | omega | exact hcmp (by decide) | exact absurd hcmp (by decide))) | refine run_ret ?_ | refine run_exit ?_ | refine run_cond_false rfl ?_ | refine thenQ_n ?_ | refine thenQ_e ?_ | refine blockQ_s rfl ?_ | refine ret1_s rfl ?_)
    have e : H.locks.take q = H.locks := List.take_of_length_le (by omega)
    rw [e] at S ⊢
    exact ⟨_, rfl, S.newRow, S.chg.below⟩
theorem owners_at (hn : H.locks.length ≤ 1000) : Calls Tryz.prog 42 #[.pointer (some ⟨bh, 0, none⟩)] w0 fun e w' => ∃ v, e = .returned v ∧ NewRow w0 w' 3 1 encI 0 (H.locks.map (·.1)) v ∧ Below w0.heap.size w0 w' := by
  have S := Sat.reads h
  refine enter1 Tryz.func42 rfl Tryz.ntmps42 rfl Tryz.results42 ?_
  repeat' (first | refine assign_s_l S rfl rfl ?_ | refine move_p_l S rfl rfl ?_ | refine nilL ?_ | refine run_seq ?_ | refine run_region ?_ | refine thenQ_n ?_)
  refine callL (heach_at S.got 63 (·.1) (fun x y w => owners1_at x y w) hn) rfl rfl ?_
  rintro e w' ⟨_, rfl, ⟨a, c, rfl, hr, hf⟩, hb⟩
  replace S := Sat.freshRow S hb hr hf
  refine ⟨_, rfl, ?_⟩
  repeat' (first | refine assign_s_l S rfl rfl ?_ | refine nilL ?_ | refine run_ret ?_ | refine thenQ_n ?_ | refine ret1_s rfl ?_)
  exact ⟨_, rfl, S.newRow, S.chg.below⟩
end
end Go.Proofs.YtpiodhdbdlfnhaaGreatDoor
namespace Go.Proofs.YtpiodhdbdlfnhaaGreatDoor
open Go.RowKit Go.Lib
set_option linter.unusedVariables false
set_option linter.unusedSimpArgs false
set_option maxHeartbeats 4000000
theorem srepeat_at (z : Int × Int) (k : Nat) (h1 : 1 ≤ k) (h2 : k ≤ 32) (b0 : Nat) (w0 : World) (h : SlOk w0 (some ⟨b0, 0, none⟩) 1 1 2 (gL encP (0, 0) [z])) :
    Calls Tryz.prog 24 #[.slice (some ⟨b0, 0, none⟩) 1 1, .int .i64 k] w0 fun e w' => ∃ v, e = .returned v ∧ NewRow w0 w' 74 2 encP (0, 0) (List.replicate k z) v ∧ Below w0.heap.size w0 w' := by
  have S := Sat.reads (r := slL (some ⟨b0, 0, none⟩) 1 2 encP (0, 0) [z]) h
  refine enter1 Tryz.func24 rfl Tryz.ntmps24 rfl Tryz.results24 ?_
  repeat' (first | refine move_i_l S rfl rfl ?_ | refine move_s_l S rfl rfl ?_ | refine assign_s_l S rfl rfl ?_ | refine nilL ?_ | refine run_seq ?_ | refine run_skip ?_ | refine run_region ?_ | refine convert_l S rfl (wrapu_in (by omega)) rfl ?_ | (refine lss_l S rfl rfl rfl ?_ ?_ <;> intro hcmp <;> try (exfalso; first | omega | exact hcmp (by decide) | exact absurd hcmp (by decide))) | refine len_l S rfl rfl ?_ | refine run_cond_false rfl ?_ | refine thenQ_n ?_)
  refine callL (l := [.int .u64 1, .int .u64 k]) (mul_one k (by omega) (by omega) _) rfl rfl ?_
  rintro e w ⟨rfl, rfl⟩
  refine ⟨_, rfl, ?_⟩
  repeat' (first | refine move_i_l S rfl rfl ?_ | refine move_s_l S rfl rfl ?_ | refine assign_s_l S rfl rfl ?_ | refine nilL ?_ | refine run_seq ?_ | refine run_skip ?_ | refine run_region ?_ | refine onL rfl rfl ?_ | refine convert_l S rfl (wrap_in (by omega)) rfl ?_ | refine assign_i_l S rfl rfl ?_ | refine extract_i_l S rfl rfl rfl ?_ | (refine gtr_l S rfl rfl rfl ?_ ?_ <;> intro hcmp <;> try (exfalso; first | omega | exact hcmp (by decide) | exact absurd hcmp (by decide))) | refine move_b_l S rfl rfl ?_ | refine pick_fb_l S rfl rfl rfl ?_ | (refine makeSlice_l S rfl rfl rfl (by omega) rfl ?_; clear S; intro b w S) | refine move_o_l S rfl rfl ?_ | refine run_cond_false rfl ?_ | refine thenQ_n ?_)
  refine copy_core (a := some ⟨b, 0, none⟩) (len := k) (cap := k) (lo := 0) (m := 1) (sz := 2) S rfl rfl (by rw [subA_zero]) ((S.all (roR (slL (some ⟨b0, 0, none⟩) 1 2 encP (0, 0) [z])) (by simp))) (fun i j _ _ => plainP.one _ _) (by omega) (by rw [show Nat.min 1 k = 1 from Nat.min_eq_left h1]) rfl ?_
  clear S; intro w S
  repeat' (first | refine nilL ?_ | refine run_seq ?_ | refine assign_i_l S rfl rfl ?_ | refine run_block ?_ | refine thenQ_n ?_)
  refine run_while [34, 35, 36, 37, 38, 39, 40, 41, 42, 43, 44, 45, 46] (fun (m : Nat) t => upd t 8 (.int .i64 m)) (fun m w' => (1 ≤ m ∧ m ≤ k) ∧ ∃ g, (∀ i, i < m → ∀ j, j < 2 → g i j = encP z j) ∧ Sat (fun _ => False) w0 w' [row (some ⟨b, 0, none⟩) k k 74 2 g, roR (slL (some ⟨b0, 0, none⟩) 1 2 encP (0, 0) [z])]) (fun m => k - m) 1 ?_ ?_ ?_
  · (repeat (first | exact agree_refl | refine agree_r rfl ?_ | refine agree_l rfl ?_ | refine agree_hv rfl ?_))
  · refine ⟨⟨Nat.le_refl _, h1⟩, _, fun i hi j hj => ?_, S⟩
    obtain rfl : i = 0 := by omega
    rfl
  · rintro m j w ⟨⟨hm1, hm⟩, g, hg, S⟩
    repeat' (first | refine move_i_l S rfl rfl ?_ | refine move_s_l S rfl rfl ?_ | refine assign_s_l S rfl rfl ?_ | refine nilL ?_ | refine run_seq ?_ | refine run_skip ?_ | refine run_region ?_ | (refine lss_l S rfl rfl rfl ?_ ?_ <;> intro hcmp <;> try (exfalso; first | omega | exact hcmp (by decide) | exact absurd hcmp (by decide))) | refine len_l S rfl rfl ?_ | refine run_block ?_ | refine run_ret ?_ | refine run_exit ?_ | refine run_cond_true rfl ?_ | refine run_cond_false rfl ?_ | refine thenQ_n ?_ | refine thenQ_e ?_ | refine blockQ_s rfl ?_ | refine ret1_s rfl ?_)
    · obtain ⟨q, hq⟩ : ∃ q, Nat.min m (k - m) = q := ⟨_, rfl⟩
      have hq2 : (q = m ∧ m ≤ k - m) ∨ (q = k - m ∧ k - m ≤ m) := by rw [← hq]; show (min m (k - m) = m ∧ _) ∨ (min m (k - m) = k - m ∧ _); omega
      refine run_any S (L' := []) (f := 10) mixed rfl ?_
      clear S
      intro w S1
      have S : Sat _ _ w [] := S1.sub
      all_goals (refine any_pure (i := 0) rfl (by kernel_rfl) S ?_; refine move_i_x rfl rfl ?_)
      all_goals (refine any_pure (i := 1) rfl (by kernel_rfl) S ?_; refine move_s_x rfl rfl ?_)
      all_goals (refine any_pure (i := 2) rfl (by kernel_rfl) S ?_; refine move_i_x rfl rfl ?_)
      all_goals (refine any_pure (i := 3) rfl (by kernel_rfl) S ?_; refine sliceSuf_x rfl rfl (by omega) rfl ?_)
      all_goals (refine any_pure (i := 4) rfl (by kernel_rfl) S ?_; refine move_s_x rfl rfl ?_)
      all_goals (refine any_pure (i := 5) rfl (by kernel_rfl) S ?_; refine move_i_x rfl rfl ?_)
      all_goals (refine any_pure (i := 6) rfl (by kernel_rfl) S ?_; refine slicePre_x rfl rfl (by omega) rfl ?_)
      all_goals refine any_step (i := 7) rfl (by kernel_rfl) ?_
      refine copy_core (a := some ⟨b, 0, none⟩) (len := k) (cap := k) (lo := m) (m := q) (sz := 2) S1 rfl rfl rfl (SlOk.pre (RowOk.sl (S1.all (row (some ⟨b, 0, none⟩) k k 74 2 g) (by simp))) hm) (fun i j hi hj => by rw [hg i hi j hj]; exact plainP.one _ _) (by omega) hq rfl ?_
      clear S S1; intro w S
      all_goals try refine nilL ?_
      all_goals refine ⟨S.sub, ?_⟩
      all_goals (have S1 := S; replace S : Sat _ _ _ [] := S1.sub)
      all_goals (refine any_pure (i := 8) rfl (by kernel_rfl) S ?_; (first | refine add_x rfl rfl (wrap_in (by omega)) rfl ?_ | refine add_x rfl rfl rfl rfl ?_))
      all_goals (refine any_pure (i := 9) rfl (by kernel_rfl) S ?_; refine assign_i_x rfl rfl ?_)
      all_goals refine any_end (by kernel_rfl) ?_
      replace S := S1
      repeat' (first | refine thenQ_n ?_ | refine blockQ_n ?_)
      refine ⟨m + q, ?_, ⟨⟨by omega, by omega⟩, _, fun i hi j hj => ?_, S⟩, by omega⟩
      · rw [Int.natCast_add]
        (repeat (first | exact agree_refl | refine agree_r rfl ?_ | refine agree_l rfl ?_ | refine agree_hv rfl ?_))
      · unfold gcopy
        by_cases hlt : i < m
        · rw [if_neg (by omega)]; exact hg i hlt j hj
        · rw [if_pos (by omega)]; exact hg _ (by omega) j hj
    · have S2 := S.reRow (g' := gL encP (0, 0) (List.replicate k z)) (a := some ⟨b, 0, none⟩) (fun i hi j hj => by rw [hg i (by omega) j hj]; simp [gL, hi])
      refine ⟨_, rfl, ⟨some ⟨b, 0, none⟩, k, by rw [List.length_replicate], ?_, ?_⟩, S.chg.below⟩
      · rw [List.length_replicate]; exact S2.all (row (some ⟨b, 0, none⟩) k k 74 2 (gL encP (0, 0) (List.replicate k z))) (by simp)
      · exact fun x hx => Nat.le_of_not_lt fun hlt => S2.own (row (some ⟨b, 0, none⟩) k k 74 2 (gL encP (0, 0) (List.replicate k z))) (List.mem_cons_self ..) rfl x.block ⟨x, hx, rfl⟩ hlt

/-- A fresh checker. -/
def newSh (n k : Nat) : ShS := ⟨n, 0, 0, List.replicate 6 thD, List.replicate k (-1, 0)⟩
def NewSh (w0 w' : World) (C : ShS) (v : Value) : Prop := ∃ b tb ga gc, v = .pointer (some ⟨b, 0, none⟩) ∧ (shR b (some ⟨tb, 0, none⟩) ga 6 gc C).holds w' ∧ ∀ k, (shR b (some ⟨tb, 0, none⟩) ga 6 gc C).foot k → w0.heap.size ≤ k
theorem snewsh_no (n st : Int) (hg : ¬ (1 ≤ n ∧ n ≤ 32 ∧ 1 ≤ st ∧ st ≤ n)) (w0 : World) : Calls Tryz.prog 7 #[.int .i64 6, .int .i64 n, .int .i64 st] w0 fun e w' => e = .returned (.tuple #[.pointer none, .int .i64 1]) ∧ Below w0.heap.size w0 w' := by
  have S := Sat.start (fun _ => False) w0
  refine enter2 Tryz.func7 rfl Tryz.ntmps7 rfl Tryz.results7 ?_
  repeat' (first | refine move_i_l S rfl rfl ?_ | refine move_b_l S rfl rfl ?_ | refine pick_tb_l S rfl rfl rfl ?_ | refine nilL ?_ | refine run_seq ?_ | refine run_region ?_ | refine onL rfl rfl ?_ | refine offL rfl rfl rfl rfl ?_ | refine pick_fb_l S rfl rfl rfl ?_ | (refine lss_l S rfl rfl rfl ?_ ?_ <;> intro hcmp <;> try (exfalso; first | omega | exact hcmp (by decide) | exact absurd hcmp (by decide))) | (refine gtr_l S rfl rfl rfl ?_ ?_ <;> intro hcmp <;> try (exfalso; first | omega | exact hcmp (by decide) | exact absurd hcmp (by decide))) | refine assign_p_l S rfl rfl ?_ | refine assign_i_l S rfl rfl ?_ | refine run_ret ?_ | refine run_cond_true rfl ?_ | refine thenQ_n ?_ | refine thenQ_r ?_ | refine ret2_pi rfl rfl ?_)
  all_goals exact ⟨rfl, S.chg.below⟩
theorem snewsh_yes (n k : Nat) (h1 : 1 ≤ k) (h2 : k ≤ n) (h3 : n ≤ 32) (w0 : World) : Calls Tryz.prog 7 #[.int .i64 6, .int .i64 n, .int .i64 k] w0 fun e w' => ∃ p, e = .returned (.tuple #[p, .int .i64 0]) ∧ NewSh w0 w' (newSh n k) p ∧ Below w0.heap.size w0 w' := by
  have S := Sat.start (fun _ => False) w0
  refine enter2 Tryz.func7 rfl Tryz.ntmps7 rfl Tryz.results7 ?_
  repeat' (first | refine move_i_l S rfl rfl ?_ | refine move_b_l S rfl rfl ?_ | refine nilL ?_ | refine run_seq ?_ | refine run_skip ?_ | refine run_region ?_ | refine onL rfl rfl ?_ | refine pick_fb_l S rfl rfl rfl ?_ | (refine lss_l S rfl rfl rfl ?_ ?_ <;> intro hcmp <;> try (exfalso; first | omega | exact hcmp (by decide) | exact absurd hcmp (by decide))) | (refine gtr_l S rfl rfl rfl ?_ ?_ <;> intro hcmp <;> try (exfalso; first | omega | exact hcmp (by decide) | exact absurd hcmp (by decide))) | refine assign_p_l S rfl rfl ?_ | refine assign_i_l S rfl rfl ?_ | refine run_cond_false rfl ?_ | refine thenQ_n ?_)
  refine run_any_at (L' := []) (f := 11) [31, 32, 33, 34, 35, 36, 37, 38, 39] (fun (s : Nat × Nat × Option Addr × Nat) t => upd (upd t 6 (.pointer (some ⟨s.1, 0, none⟩))) 7 (.int .i64 0)) (fun s w' => Sat (fun _ => False) w0 w' [blk s.1 5 (shC (some ⟨s.2.1, 0, none⟩) s.2.2.1 6 s.2.2.2 (newSh n k)) 76, row (some ⟨s.2.1, 0, none⟩) 6 6 87 13 (fun _ j => (Value.agg #[Value.int .i64 0, .int .i64 0, .int .i64 0, .int .i64 0, .int .i64 0, .int .i64 0, .int .u32 0, .int .u32 0, .int .u32 0, .int .u32 0, .int .i64 0, .int .i64 0, .bool false]).cells.getD j undef), rowL s.2.2.1 s.2.2.2 74 2 encP (0, 0) (List.replicate k (-1, 0))]) S mixed rfl ?_ ?_
  · clear S
    intro w S1
    have S : Sat _ _ w [] := S1.sub
    (refine any_pure (i := 0) rfl (by kernel_rfl) S ?_; refine move_i_x rfl rfl ?_)
    (refine any_pure (i := 1) rfl (by kernel_rfl) S ?_; refine move_i_x rfl rfl ?_)
    (refine any_pure (i := 3) rfl (by kernel_rfl) S ?_; (apply build2_x; (· repeat (first | exact mapN | apply mapC_i rfl | apply mapC_b rfl | apply mapC_p rfl | apply mapC_s rfl | apply mapC_e rfl | apply mapC_a rfl | apply mapC_o rfl)); (· rfl); (· rfl)))
    (refine any_pure (i := 5) rfl (by kernel_rfl) S ?_; refine move_i_x rfl rfl ?_)
    refine any_all (l := [2, 4]) (by kernel_rfl) (by decide) ?_
    intro i hi
    simp only [List.mem_cons, List.not_mem_nil, or_false] at hi
    rcases hi with rfl | rfl
    · refine ⟨_, rfl, ?_⟩
      replace S := S1
      clear S1
      refine makeSlice_l (k := 6) S rfl rfl rfl (by decide) rfl ?_
      clear S
      intro tb w S
      refine nilL ?_
      refine ⟨S.sub, ?_⟩
      have S1 := S
      replace S : Sat _ _ w [] := S1.sub
      refine any_step (i := 4) rfl (by kernel_rfl) ?_
      replace S := S1
      clear S1
      refine buildSliceN_l (vs := [[.int .i64 (-1), .int .i64 0]]) S rfl rfl rfl rfl rfl rfl ?_
      clear S
      intro rb w S
      refine nilL ?_
      refine ⟨S.sub, ?_⟩
      have S1 := S
      replace S : Sat _ _ w [] := S1.sub
      refine any_step (i := 6) rfl (by kernel_rfl) ?_
      replace S := S1
      clear S1
      refine callL (srepeat_at (-1, 0) k (by omega) (by omega) rb w (RowOk.sl (RowOk.congr (S.all (row (some ⟨rb, 0, none⟩) 1 1 74 2 (fun i j => ([[Value.int .i64 (-1), .int .i64 0]].getD i []).getD j undef)) (by simp)) (fun i hi j hj => by
        have hi0 : i = 0 := by omega
        subst hi0
        match j, hj with
        | 0, _ => rfl
        | 1, _ => rfl)))) rfl rfl ?_
      rintro e w ⟨_, rfl, ⟨ga, gc, rfl, hr, hf⟩, hb⟩
      replace S := Sat.freshRow S hb hr hf
      clear hb hr hf
      refine ⟨_, rfl, ?_⟩
      refine nilL ?_
      refine ⟨S.sub, ?_⟩
      have S1 := S
      replace S : Sat _ _ w [] := S1.sub
      (refine any_pure (i := 7) rfl (by kernel_rfl) S ?_; (apply build5_x; (· repeat (first | exact mapN | apply mapC_i rfl | apply mapC_b rfl | apply mapC_p rfl | apply mapC_s rfl | apply mapC_e rfl | apply mapC_a rfl | apply mapC_o rfl)); (· rfl); (· rfl)))
      refine any_step (i := 8) rfl (by kernel_rfl) ?_
      replace S := S1
      clear S1
      refine box_a S rfl rfl rfl ?_
      clear S
      intro b w S
      refine nilL ?_
      refine ⟨S.sub, ?_⟩
      have S1 := S
      replace S : Sat _ _ w [] := S1.sub
      (refine any_pure (i := 9) rfl (by kernel_rfl) S ?_; (first | refine assign_p_x rfl rfl ?_ | refine assign_e_x rfl rfl ?_ | refine assign_o_x rfl rfl ?_))
      (refine any_pure (i := 10) rfl (by kernel_rfl) S ?_; refine assign_i_x rfl rfl ?_)
      refine any_end (by kernel_rfl) ?_
      replace S1 := S1.turn1 (r' := blk b 5 (shC (some ⟨tb, 0, none⟩) ga 6 gc (newSh n k)) 76) S1.got1 rfl (fun k e => e)
      refine ⟨(b, tb, ga, gc), ?_, ?_⟩
      · (repeat (first | exact agree_refl | refine agree_r rfl ?_ | refine agree_l rfl ?_ | refine agree_hv rfl ?_))
      · first | exact S1.sub | exact (S1.sub (L' := [blk b 5 (shC (some ⟨tb, 0, none⟩) ga 6 gc (newSh n k)) 76, rowL ga gc 74 2 encP (0, 0) (List.replicate k (-1, 0)), row (some ⟨tb, 0, none⟩) 6 6 87 13 (fun _ j => (Value.agg #[Value.int .i64 0, .int .i64 0, .int .i64 0, .int .i64 0, .int .i64 0, .int .i64 0, .int .u32 0, .int .u32 0, .int .u32 0, .int .u32 0, .int .i64 0, .int .i64 0, .bool false]).cells.getD j undef)])).perm (List.Perm.cons _ (List.Perm.swap _ _ _))
    · refine ⟨_, rfl, ?_⟩
      replace S := S1
      clear S1
      refine buildSliceN_l (vs := [[.int .i64 (-1), .int .i64 0]]) S rfl rfl rfl rfl rfl rfl ?_
      clear S
      intro rb w S
      refine nilL ?_
      refine ⟨S.sub, ?_⟩
      have S1 := S
      replace S : Sat _ _ w [] := S1.sub
      refine any_all (l := [2, 6]) (by kernel_rfl) (by decide) ?_
      intro i hi
      simp only [List.mem_cons, List.not_mem_nil, or_false] at hi
      rcases hi with rfl | rfl
      · refine ⟨_, rfl, ?_⟩
        replace S := S1
        clear S1
        refine makeSlice_l (k := 6) S rfl rfl rfl (by decide) rfl ?_
        clear S
        intro tb w S
        refine nilL ?_
        refine ⟨S.sub, ?_⟩
        have S1 := S
        replace S : Sat _ _ w [] := S1.sub
        refine any_step (i := 6) rfl (by kernel_rfl) ?_
        replace S := S1
        clear S1
        refine callL (srepeat_at (-1, 0) k (by omega) (by omega) rb w (RowOk.sl (RowOk.congr (S.all (row (some ⟨rb, 0, none⟩) 1 1 74 2 (fun i j => ([[Value.int .i64 (-1), .int .i64 0]].getD i []).getD j undef)) (by simp)) (fun i hi j hj => by
          have hi0 : i = 0 := by omega
          subst hi0
          match j, hj with
          | 0, _ => rfl
          | 1, _ => rfl)))) rfl rfl ?_
        rintro e w ⟨_, rfl, ⟨ga, gc, rfl, hr, hf⟩, hb⟩
        replace S := Sat.freshRow S hb hr hf
        clear hb hr hf
        refine ⟨_, rfl, ?_⟩
        refine nilL ?_
        refine ⟨S.sub, ?_⟩
        have S1 := S
        replace S : Sat _ _ w [] := S1.sub
        (refine any_pure (i := 7) rfl (by kernel_rfl) S ?_; (apply build5_x; (· repeat (first | exact mapN | apply mapC_i rfl | apply mapC_b rfl | apply mapC_p rfl | apply mapC_s rfl | apply mapC_e rfl | apply mapC_a rfl | apply mapC_o rfl)); (· rfl); (· rfl)))
        refine any_step (i := 8) rfl (by kernel_rfl) ?_
        replace S := S1
        clear S1
        refine box_a S rfl rfl rfl ?_
        clear S
        intro b w S
        refine nilL ?_
        refine ⟨S.sub, ?_⟩
        have S1 := S
        replace S : Sat _ _ w [] := S1.sub
        (refine any_pure (i := 9) rfl (by kernel_rfl) S ?_; (first | refine assign_p_x rfl rfl ?_ | refine assign_e_x rfl rfl ?_ | refine assign_o_x rfl rfl ?_))
        (refine any_pure (i := 10) rfl (by kernel_rfl) S ?_; refine assign_i_x rfl rfl ?_)
        refine any_end (by kernel_rfl) ?_
        replace S1 := S1.turn1 (r' := blk b 5 (shC (some ⟨tb, 0, none⟩) ga 6 gc (newSh n k)) 76) S1.got1 rfl (fun k e => e)
        refine ⟨(b, tb, ga, gc), ?_, ?_⟩
        · (repeat (first | exact agree_refl | refine agree_r rfl ?_ | refine agree_l rfl ?_ | refine agree_hv rfl ?_))
        · first | exact S1.sub | exact (S1.sub (L' := [blk b 5 (shC (some ⟨tb, 0, none⟩) ga 6 gc (newSh n k)) 76, rowL ga gc 74 2 encP (0, 0) (List.replicate k (-1, 0)), row (some ⟨tb, 0, none⟩) 6 6 87 13 (fun _ j => (Value.agg #[Value.int .i64 0, .int .i64 0, .int .i64 0, .int .i64 0, .int .i64 0, .int .i64 0, .int .u32 0, .int .u32 0, .int .u32 0, .int .u32 0, .int .i64 0, .int .i64 0, .bool false]).cells.getD j undef)])).perm (List.Perm.cons _ (List.Perm.swap _ _ _))
      · refine ⟨_, rfl, ?_⟩
        replace S := S1
        clear S1
        refine callL (srepeat_at (-1, 0) k (by omega) (by omega) rb w (RowOk.sl (RowOk.congr (S.all (row (some ⟨rb, 0, none⟩) 1 1 74 2 (fun i j => ([[Value.int .i64 (-1), .int .i64 0]].getD i []).getD j undef)) (by simp)) (fun i hi j hj => by
          have hi0 : i = 0 := by omega
          subst hi0
          match j, hj with
          | 0, _ => rfl
          | 1, _ => rfl)))) rfl rfl ?_
        rintro e w ⟨_, rfl, ⟨ga, gc, rfl, hr, hf⟩, hb⟩
        replace S := Sat.freshRow S hb hr hf
        clear hb hr hf
        refine ⟨_, rfl, ?_⟩
        refine nilL ?_
        refine ⟨S.sub, ?_⟩
        have S1 := S
        replace S : Sat _ _ w [] := S1.sub
        refine any_step (i := 2) rfl (by kernel_rfl) ?_
        replace S := S1
        clear S1
        refine makeSlice_l (k := 6) S rfl rfl rfl (by decide) rfl ?_
        clear S
        intro tb w S
        refine nilL ?_
        refine ⟨S.sub, ?_⟩
        have S1 := S
        replace S : Sat _ _ w [] := S1.sub
        (refine any_pure (i := 7) rfl (by kernel_rfl) S ?_; (apply build5_x; (· repeat (first | exact mapN | apply mapC_i rfl | apply mapC_b rfl | apply mapC_p rfl | apply mapC_s rfl | apply mapC_e rfl | apply mapC_a rfl | apply mapC_o rfl)); (· rfl); (· rfl)))
        refine any_step (i := 8) rfl (by kernel_rfl) ?_
        replace S := S1
        clear S1
        refine box_a S rfl rfl rfl ?_
        clear S
        intro b w S
        refine nilL ?_
        refine ⟨S.sub, ?_⟩
        have S1 := S
        replace S : Sat _ _ w [] := S1.sub
        (refine any_pure (i := 9) rfl (by kernel_rfl) S ?_; (first | refine assign_p_x rfl rfl ?_ | refine assign_e_x rfl rfl ?_ | refine assign_o_x rfl rfl ?_))
        (refine any_pure (i := 10) rfl (by kernel_rfl) S ?_; refine assign_i_x rfl rfl ?_)
        refine any_end (by kernel_rfl) ?_
        replace S1 := S1.turn1 (r' := blk b 5 (shC (some ⟨tb, 0, none⟩) ga 6 gc (newSh n k)) 76) S1.got1 rfl (fun k e => e)
        refine ⟨(b, tb, ga, gc), ?_, ?_⟩
        · (repeat (first | exact agree_refl | refine agree_r rfl ?_ | refine agree_l rfl ?_ | refine agree_hv rfl ?_))
        · first | exact S1.sub | exact (S1.sub (L' := [blk b 5 (shC (some ⟨tb, 0, none⟩) ga 6 gc (newSh n k)) 76, rowL ga gc 74 2 encP (0, 0) (List.replicate k (-1, 0)), row (some ⟨tb, 0, none⟩) 6 6 87 13 (fun _ j => (Value.agg #[Value.int .i64 0, .int .i64 0, .int .i64 0, .int .i64 0, .int .i64 0, .int .i64 0, .int .u32 0, .int .u32 0, .int .u32 0, .int .u32 0, .int .i64 0, .int .i64 0, .bool false]).cells.getD j undef)])).perm (List.Perm.cons _ (List.Perm.swap _ _ _))
  · clear S
    rintro ⟨b, tb, ga, gc⟩ j w S
    simp only at S ⊢
    repeat' (first | refine run_ret ?_ | refine thenQ_n ?_ | refine ret2_pi rfl rfl ?_)
    have S2 := (S.perm (L' := [row (some ⟨tb, 0, none⟩) 6 6 87 13 (fun _ j => (Value.agg #[Value.int .i64 0, .int .i64 0, .int .i64 0, .int .i64 0, .int .i64 0, .int .i64 0, .int .u32 0, .int .u32 0, .int .u32 0, .int .u32 0, .int .i64 0, .int .i64 0, .bool false]).cells.getD j undef), blk b 5 (shC (some ⟨tb, 0, none⟩) ga 6 gc (newSh n k)) 76, rowL ga gc 74 2 encP (0, 0) (List.replicate k (-1, 0))]) (List.Perm.swap _ _ _)).reRow (a := some ⟨tb, 0, none⟩) (g' := gL encTh thD (List.replicate 6 thD)) (fun i hi j hj => by
      have : (List.replicate 6 thD).getD i thD = thD := by
        rw [List.getD_eq_getElem?_getD, List.getElem?_replicate, if_pos hi]; rfl
      unfold gL
      rw [this]
      revert j
      exact thirteen rfl rfl rfl rfl rfl rfl rfl rfl rfl rfl rfl rfl rfl)
    have S3 : Sat (fun _ => False) w0 w (shL b (some ⟨tb, 0, none⟩) ga 6 gc (newSh n k)) := S2.perm (List.Perm.swap _ _ _)
    refine ⟨_, rfl, ⟨b, tb, ga, gc, rfl, sh_shut S3, fun q hq => Nat.le_of_not_lt fun hlt => ?_⟩, S.chg.below⟩
    rcases hq with hq | hq | hq
    · exact S3.own _ (List.mem_cons_self ..) rfl q hq hlt
    · exact S3.own (thsR (some ⟨tb, 0, none⟩) 6 (newSh n k).ths) (by simp) rfl q hq hlt
    · exact S3.own (strsR ga gc (newSh n k).strs) (by simp) rfl q hq hlt
theorem getD_memT {l : List Int} {k : Nat} (hk : k < l.length) : l.getD k 0 ∈ l := by
  rw [List.getD_eq_getElem?_getD, List.getElem?_eq_getElem hk]; exact List.getElem_mem hk
/-- Is any stripe owned? -/
def anyB (H : HeapS) : Bool := (H.locks.map (·.1)).any fun x => decide (0 ≤ x)
theorem any_owned {bh : Nat} {ga va : Option Addr} {gc vc : Nat} {H : HeapS} {w0 : World} (h : (heapR bh ga va gc vc H).holds w0) (hn : H.locks.length ≤ 1000) :
    Calls Tryz.prog 14 #[.pointer (some ⟨bh, 0, none⟩)] w0 fun e w' => e = .returned (.bool (anyB H)) ∧ Below w0.heap.size w0 w' := by
  have S := Sat.reads h
  refine enter1 Tryz.func14 rfl Tryz.ntmps14 rfl Tryz.results14 ?_
  repeat' (first | refine assign_b_l S rfl rfl ?_ | refine nilL ?_ | refine run_seq ?_ | refine run_region ?_ | refine move_p_l S rfl rfl ?_ | refine thenQ_n ?_)
  refine callL (owners_at S.got hn) rfl rfl ?_
  rintro e w' ⟨_, rfl, ⟨ra, rc, rfl, hh, hf⟩, hb⟩
  replace S := Sat.freshRow S hb hh hf
  clear hb hh hf
  refine ⟨_, rfl, ?_⟩
  repeat' (first | refine assign_i_l S rfl rfl ?_ | refine nilL ?_ | refine run_seq ?_ | refine run_region ?_ | refine assign_s_l S rfl rfl ?_ | refine run_block ?_ | refine thenQ_n ?_)
  have hm : (H.locks.map (·.1)).length ≤ 9223372036854775807 := by rw [List.length_map]; omega
  refine run_while [2, 7, 8, 9, 10, 11, 12, 13, 14, 15, 16, 17] (fun (q : Nat) t => upd t 4 (.int .i64 q)) (fun q w' => q ≤ (H.locks.map (·.1)).length ∧ (∀ i, i < q → ¬ 0 ≤ (H.locks.map (·.1)).getD i 0) ∧ Sat (fun _ => False) w0 w' [rowL ra rc 3 1 encI 0 (H.locks.map (·.1)), roR (heapR bh ga va gc vc H)]) (fun q => (H.locks.map (·.1)).length - q) 0 ?_ ?_ ?_
  · (repeat (first | exact agree_refl | refine agree_r rfl ?_ | refine agree_l rfl ?_ | refine agree_hv rfl ?_))
  · exact ⟨Nat.zero_le _, fun i hi => by omega, S⟩
  · clear S
    rintro q j w ⟨hq, hall, S⟩
    repeat' (first | refine assign_b_l S rfl rfl ?_ | refine move_i_l S rfl rfl ?_ | refine assign_i_l S rfl rfl ?_ | refine nilL ?_ | refine run_seq ?_ | refine run_skip ?_ | refine run_region ?_ | refine move_s_l S rfl rfl ?_ | refine len_l S rfl rfl ?_ | (refine lss_l S rfl rfl rfl ?_ ?_ <;> intro hcmp <;> try (exfalso; first | omega | exact hcmp (by decide) | exact absurd hcmp (by decide))) | refine indexAddr_l S rfl rfl (idx_cast _) (by first | omega | decide | (simp; done) | (simp; omega)) rfl ?_ | refine loadE_i_l S rfl (by first | omega | decide | (simp; done) | (simp; omega)) rfl rfl rfl ?_ | (refine geq_l S rfl rfl rfl ?_ ?_ <;> intro hcmp <;> try (exfalso; first | omega | exact hcmp (by decide) | exact absurd hcmp (by decide))) | refine add_l S rfl rfl (wrap_in (by omega)) rfl ?_ | refine run_block ?_ | refine run_ret ?_ | refine run_exit ?_ | refine run_cond_true rfl ?_ | refine run_cond_false rfl ?_ | refine thenQ_n ?_ | refine thenQ_r ?_ | refine thenQ_e ?_ | refine blockQ_n ?_ | refine blockQ_r ?_ | refine blockQ_s rfl ?_ | refine ret1_b rfl ?_)
    · refine ⟨?_, S.chg.below⟩
      have : anyB H = true := List.any_eq_true.2 ⟨(H.locks.map (·.1)).getD q 0, getD_memT (by omega), decide_eq_true hcmp⟩
      rw [this]
    · refine ⟨q + 1, ?_, ⟨by omega, fun i hi => ?_, S⟩, by omega⟩
      · (repeat (first | exact agree_refl | refine agree_r rfl ?_ | refine agree_l rfl ?_ | refine agree_hv rfl ?_))
      · rcases Nat.lt_or_ge i q with h | h
        · exact hall i h
        · obtain rfl : i = q := by omega
          exact hcmp
    · refine ⟨?_, S.chg.below⟩
      have : anyB H = false := by
        unfold anyB
        rw [List.any_eq_false]
        intro x hx
        obtain ⟨i, hi, rfl⟩ := List.getElem_of_mem hx
        have := hall i (by omega)
        rw [List.getD_eq_getElem?_getD, List.getElem?_eq_getElem hi] at this
        exact fun h => this (of_decide_eq_true h)
      rw [this]
end Go.Proofs.YtpiodhdbdlfnhaaGreatDoor
namespace Go.Proofs.YtpiodhdbdlfnhaaGreatDoor
open Go.RowKit Go.Lib
set_option linter.unusedVariables false
set_option linter.unusedSimpArgs false
set_option maxHeartbeats 2000000
/-- The thread, behind its Begin and some Loads. -/
structure TB (st : Int) (hs : List Bool) (T : ThS) : Prop where
  len : hs.length = 32
  at_ : T.at_ = 1
  com : T.commits = 0
  rv : T.rv = 0
  locked : T.locked = -1
  var_ : T.var_ = -1
  owned : T.owned = 0#32
  stored : T.stored = 0#32
  check : T.check = 0#32
  read : IsSet T.read (allI st hs)
structure Base (n st : Nat) (limit th ot : Int) (C : ShS) (hs : List Bool) (H : HeapS) : Prop where
  n32 : 1 ≤ st ∧ st ≤ n ∧ n ≤ 32
  thr : 0 ≤ th ∧ th ≤ 5
  oth : 0 ≤ ot ∧ ot ≤ 5 ∧ ot ≠ th
  vars : C.vars = n
  clock : C.clock = H.clock
  strs : C.strs = H.locks
  ths : C.ths.length = 6
  ok : OkC n st limit H
  tb : TB st hs (tOf C th)
  own : ∀ s, ownerV H s = -1 ∨ ownerV H s = ot
  ver : ∀ s, versionV H s = 0
/-- The other thread, behind its Begin and some Locks. -/
structure OB (H : HeapS) (O : ThS) : Prop where
  rv : O.rv = 0
  ph : (O.at_ = 3 ∧ ∃ s, 0 ≤ ownerV H s) ∨ (O.at_ = 1 ∧ ∀ s, ownerV H s = -1)
theorem tOf_other {C : ShS} {th ot : Int} {T : ThS} (h : 0 ≤ th) (h2 : 0 ≤ ot) (hne : ot ≠ th) : tOf (putTh C th.toNat T) ot = tOf C ot := by
  show (C.ths.set th.toNat T).getD ot.toNat thD = C.ths.getD ot.toNat thD
  rw [List.getD_eq_getElem?_getD, List.getElem?_set, if_neg (by omega), List.getD_eq_getElem?_getD]
theorem set_same {l : List (Int × Int)} {s : Nat} {z : Int × Int} (h : l.getD s (0, 0) = z) (hs : s < l.length) : l.set s z = l := by
  rw [List.getD_eq_getElem?_getD, List.getElem?_eq_getElem hs] at h
  apply List.ext_getElem?
  intro i
  rw [List.getElem?_set]
  by_cases e : s = i
  · subst e
    rw [if_pos rfl, if_pos hs, List.getElem?_eq_getElem hs]
    exact congrArg some h.symm
  · rw [if_neg e]
section
variable {n st : Nat} {limit th ot : Int} {C : ShS} {hs : List Bool} {H : HeapS}
theorem Base.may (h : Base n st limit th ot C hs H) : (1 ≤ C.vars ∧ C.vars ≤ 32) ∧ (1 ≤ (C.strs.length : Int) ∧ (C.strs.length : Int) ≤ C.vars) ∧ (0 < C.strs.length ∧ C.strs.length ≤ 32) ∧ C.strs.length = st := by
  have h1 := h.n32
  have h2 := h.vars
  have h3 : C.strs.length = st := by rw [h.strs]; exact h.ok.locks
  refine ⟨by omega, by omega, by omega, h3⟩
theorem Base.lock (h : Base n st limit th ot C hs H) {s : Int} (hs : 0 ≤ s ∧ s < (st : Int)) : (C.strs.getD s.toNat (0, 0)).1 = ownerV H s ∧ (C.strs.getD s.toNat (0, 0)).2 = versionV H s := by
  have hl := h.ok.locks
  rw [h.strs, ownerV, versionV, if_pos (by omega), if_pos (by omega)]
  exact ⟨rfl, rfl⟩
/-- The first Begin. -/
theorem base_begin {zs : List Int} {k : Nat} {limit : Int} (hg : goodNew zs.length k limit) (hth : 0 ≤ th ∧ th ≤ 5) (hot : 0 ≤ ot ∧ ot ≤ 5 ∧ ot ≠ th) :
    ∃ C1, AccOk (newSh zs.length k) ⟨1, th, 0, 0, 0, 0⟩ C1 ∧ Base zs.length k limit th ot { C1 with events := (newSh zs.length k).events + 1 } (List.replicate 32 false) (newH zs k limit) ∧ tOf { C1 with events := (newSh zs.length k).events + 1 } ot = thD ∧ C1.events = 0 := by
  unfold goodNew at hg
  have hl : (newSh zs.length k).strs.length = k := List.length_replicate
  have hT : ∀ i : Nat, (newSh zs.length k).ths.getD i thD = thD := fun i => by
    show (List.replicate 6 thD).getD i thD = thD
    rw [List.getD_eq_getElem?_getD, List.getElem?_replicate]
    split <;> rfl
  have hk : ((k : Int)).toNat = k := by omega
  have hgd : ∀ i : Nat, i < k → (List.replicate k ((-1 : Int), (0 : Int))).getD i (0, 0) = (-1, 0) := fun i hi => by
    rw [List.getD_eq_getElem?_getD, List.getElem?_replicate, if_pos hi]; rfl
  have hlk : (newH zs k limit).locks = List.replicate k (-1, 0) := by show List.replicate (k : Int).toNat _ = _; rw [hk]
  have hown : ∀ s, ownerV (newH zs k limit) s = -1 := fun s => by
    unfold ownerV
    split
    · rename_i hs
      rw [hlk] at hs ⊢
      rw [List.length_replicate] at hs
      rw [hgd _ (by omega)]
    · rfl
  have hver : ∀ s, versionV (newH zs k limit) s = 0 := fun s => by
    unfold versionV
    split
    · rename_i hs
      rw [hlk] at hs ⊢
      rw [List.length_replicate] at hs
      rw [hgd _ (by omega)]
    · rfl
  have hx : th.toNat < (newSh zs.length k).ths.length := by show th.toNat < 6; omega
  have ok0 := OkC.new (zs := zs) (stripes := (k : Int)) (limit := limit) hg
  rw [hk] at ok0
  refine ⟨_, ⟨may_begin (by show 1 ≤ ((zs.length : Nat) : Int) ∧ ((zs.length : Nat) : Int) ≤ 32; omega) (by rw [hl]; show 1 ≤ (k : Int) ∧ (k : Int) ≤ ((zs.length : Nat) : Int); omega) hth, rfl, by rw [hl]; omega, Acc.begin rfl (by rw [hT]) (by rw [hT]) (by show (0 : Int) ≤ 0; omega)⟩, ?_, ?_, rfl⟩
  · refine ⟨by omega, hth, hot, rfl, rfl, hlk.symm, by show ((List.replicate 6 thD).set _ _).length = 6; rw [List.length_set, List.length_replicate], ok0, ?_, fun s => .inl (hown s), hver⟩
    have e := tOf_put (S := { newSh zs.length k with clock := 0 }) (th := th) ⟨1, (tOf (newSh zs.length k) th).commits, 0, 0, 0, 0, 0#32, 0#32, 0#32, 0#32, -1, -1, false⟩ hx
    show TB _ _ (tOf (putTh { newSh zs.length k with clock := 0 } th.toNat _) th)
    rw [e]
    refine ⟨List.length_replicate, rfl, ?_, rfl, rfl, rfl, rfl, rfl, rfl, ?_⟩
    · show (tOf (newSh zs.length k) th).commits = 0
      rw [tOf, hT]
    · rw [allI_new]; exact IsSet.nil
  · show tOf (putTh { newSh zs.length k with clock := 0 } th.toNat _) ot = thD
    rw [tOf_other hth.1 hot.1 hot.2.2]
    exact hT _
/-- A Look, and a Load. -/
theorem base_read (h : Base n st limit th ot C hs H) (hO : tOf C ot = thD) (hno : ∀ s, ownerV H s = -1) {r : Int} (hr : 0 ≤ r ∧ r < (st : Int)) :
    ∃ C1, AccOk C ⟨2, th, r, 0, 0, 0⟩ C1 ∧ C1.events = C.events ∧ ∃ C2, AccOk { C1 with events := C.events + 1 } ⟨3, th, r, 0, 0, 0⟩ C2 ∧ C2.events = C.events + 1 ∧ Base n st limit th ot { C2 with events := C.events + 1 + 1 } (addH st hs r) H ∧ tOf { C2 with events := C.events + 1 + 1 } ot = thD := by
  obtain ⟨m1, m2, m3, m4⟩ := h.may
  have h32 := h.n32
  have hth := h.thr
  have hot := h.oth
  obtain ⟨l1, l2⟩ := h.lock hr
  have ho := hno r
  have hv := h.ver r
  have hx : th.toNat < C.ths.length := by rw [h.ths]; omega
  have hrl : r.toNat < C.strs.length := by omega
  have e1 : C.strs.set r.toNat ((C.strs.getD r.toNat (0, 0)).1, 0) = C.strs := set_same (Prod.ext rfl (l2.trans hv)) hrl
  have tb := h.tb
  obtain ⟨T, hT⟩ : ∃ T, tOf C th = T := ⟨_, rfl⟩
  refine ⟨_, ⟨may_str m1 m2 hth (by omega) (.inl rfl), h.ths, m3, Acc.look rfl tb.at_ (by show (C.strs.getD r.toNat (0, 0)).1 = -1; rw [l1]; exact ho) (by show (C.strs.getD r.toNat (0, 0)).2 ≤ 0; rw [l2, hv]; omega) (by show (0 : Int) ≤ (tOf C th).rv; rw [tb.rv]; omega)⟩, rfl, ?_⟩
  have e2 : putTh (putSt C r.toNat ((C.strs.getD r.toNat (0, 0)).1, 0)) th.toNat { tOf C th with at_ := 2, stripe := r, v := 0 } = putTh C th.toNat { tOf C th with at_ := 2, stripe := r, v := 0 } := by
    unfold putSt
    rw [e1]
  show ∃ C2, AccOk { putTh (putSt C r.toNat ((C.strs.getD r.toNat (0, 0)).1, 0)) th.toNat { tOf C th with at_ := 2, stripe := r, v := 0 } with events := C.events + 1 } ⟨3, th, r, 0, 0, 0⟩ C2 ∧ _
  rw [e2]
  obtain ⟨D, hD⟩ : ∃ D, D = ({ putTh C th.toNat { tOf C th with at_ := 2, stripe := r, v := 0 } with events := C.events + 1 } : ShS) := ⟨_, rfl⟩
  rw [← hD]
  have d1 : tOf D th = { tOf C th with at_ := 2, stripe := r, v := 0 } := by rw [hD]; exact tOf_put (S := C) _ hx
  have d2 : D.strs = C.strs := by rw [hD]; rfl
  have d3 : D.vars = C.vars := by rw [hD]; rfl
  have d4 : D.clock = C.clock := by rw [hD]; rfl
  have d5 : D.ths.length = 6 := by rw [hD]; show (C.ths.set _ _).length = 6; rw [List.length_set]; exact h.ths
  have d6 : D.events = C.events + 1 := by rw [hD]
  have d7 : tOf D ot = thD := by rw [hD]; exact (tOf_other (C := C) hth.1 hot.1 hot.2.2).trans hO
  have hxD : th.toNat < D.ths.length := by omega
  have hst : (tOf D th).stripe = r := by rw [d1]
  have hmod : r.tmod (D.strs.length : Int) = r := by
    rw [d2, Int.tmod_eq_emod_of_nonneg hr.1]
    exact Int.emod_eq_of_lt hr.1 (by omega)
  refine ⟨_, ⟨may_load (by rw [d3]; exact m1) (by rw [d2, d3]; exact m2) hth (by rw [d2]; omega), d5, by rw [d2]; exact m3, Acc.load rfl (by show (tOf D th).at_ = 2; rw [d1]) (by show 0 ≤ (tOf D th).stripe ∧ (tOf D th).stripe < _; rw [hst, d2]; omega) (by show r.tmod (D.strs.length : Int) = (tOf D th).stripe; rw [hst]; exact hmod) (by show (D.strs.getD (tOf D th).stripe.toNat (0, 0)).1 = -1 ∧ (D.strs.getD (tOf D th).stripe.toNat (0, 0)).2 = (tOf D th).v; rw [hst, d2, l1, l2, d1]; exact ⟨ho, hv⟩)⟩, d6, ?_, ?_⟩
  · refine ⟨h32, hth, hot, d3.trans h.vars, d4.trans h.clock, d2.trans h.strs, by show (D.ths.set _ _).length = 6; rw [List.length_set]; exact d5, h.ok, ?_, h.own, h.ver⟩
    have e := tOf_put (S := D) (th := th) { tOf D th with at_ := 1, read := (tOf D th).read ||| BitVec.twoPow 32 (tOf D th).stripe.toNat } hxD
    show TB _ _ (tOf (putTh D th.toNat { tOf D th with at_ := 1, read := (tOf D th).read ||| BitVec.twoPow 32 (tOf D th).stripe.toNat }) th)
    rw [e, d1]
    refine ⟨(addH_len2 _ _ _).trans tb.len, rfl, tb.com, tb.rv, tb.locked, tb.var_, tb.owned, tb.stored, tb.check, ?_⟩
    refine (tb.read.add (s := r) (by omega)).congr fun s => ?_
    rw [List.mem_append, List.mem_singleton, mem_allI (by omega), mem_allI (by omega), addS_has (by omega) tb.len]
    constructor
    · rintro (x | rfl)
      · exact .inl x
      · exact .inr ⟨rfl, by omega, by omega⟩
    · rintro (x | x)
      · exact .inl x
      · exact .inr x.1
  · show tOf (putTh D th.toNat _) ot = thD
    rw [tOf_other hth.1 hot.1 hot.2.2]
    exact d7
/-- The other one's Begin. -/
theorem base_other (h : Base n st limit th ot C hs H) (hO : tOf C ot = thD) (hno : ∀ s, ownerV H s = -1) (hc : H.clock = 0) :
    ∃ C1, AccOk C ⟨1, ot, 0, 0, 0, 0⟩ C1 ∧ C1.events = C.events ∧ Base n st limit th ot { C1 with events := C.events + 1 } hs H ∧ OB H (tOf { C1 with events := C.events + 1 } ot) ∧ (tOf { C1 with events := C.events + 1 } ot).locked = -1 := by
  obtain ⟨m1, m2, m3, m4⟩ := h.may
  have hth := h.thr
  have hot := h.oth
  have hx : ot.toNat < C.ths.length := by rw [h.ths]; omega
  have hcl := h.clock
  refine ⟨_, ⟨may_begin m1 m2 (by omega), h.ths, m3, Acc.begin rfl (by show (tOf C ot).at_ = 0; rw [hO]) (by show (tOf C ot).commits = 0; rw [hO]) (by show C.clock ≤ 0; omega)⟩, rfl, ?_⟩
  have e := tOf_put (S := { C with clock := 0 }) (th := ot) ⟨1, (tOf C ot).commits, 0, 0, 0, 0, 0#32, 0#32, 0#32, 0#32, -1, -1, false⟩ hx
  refine ⟨⟨h.n32, hth, hot, h.vars, hc.symm, h.strs, by show (C.ths.set _ _).length = 6; rw [List.length_set]; exact h.ths, h.ok, ?_, h.own, h.ver⟩, ?_, ?_⟩
  · show TB _ _ (tOf (putTh { C with clock := 0 } ot.toNat _) th)
    rw [tOf_other hot.1 hth.1 (fun x => hot.2.2 x.symm)]
    exact h.tb
  · show OB H (tOf (putTh { C with clock := 0 } ot.toNat ⟨1, (tOf C ot).commits, 0, 0, 0, 0, 0#32, 0#32, 0#32, 0#32, -1, -1, false⟩) ot)
    rw [e]
    exact ⟨rfl, .inr ⟨rfl, hno⟩⟩
  · show (tOf (putTh { C with clock := 0 } ot.toNat ⟨1, (tOf C ot).commits, 0, 0, 0, 0, 0#32, 0#32, 0#32, 0#32, -1, -1, false⟩) ot).locked = -1
    rw [e]
/-- The other one's Lock. -/
theorem base_own (h : Base n st limit th ot C hs H) (hO : OB H (tOf C ot)) {s : Int} (hs1 : 0 ≤ s ∧ s < (st : Int)) (he : ownE H s ot = 0) (hl : (tOf C ot).locked < s) :
    ∃ C1, AccOk C ⟨4, ot, s, 0, 0, 0⟩ C1 ∧ C1.events = C.events ∧ Base n st limit th ot { C1 with events := C.events + 1 } hs (ownH H s ot) ∧ OB (ownH H s ot) (tOf { C1 with events := C.events + 1 } ot) ∧ (tOf { C1 with events := C.events + 1 } ot).locked = s := by
  obtain ⟨m1, m2, m3, m4⟩ := h.may
  have hth := h.thr
  have hot := h.oth
  have h32 := h.n32
  have hx : ot.toNat < C.ths.length := by rw [h.ths]; omega
  have hz := ownE_zeroC he
  have ov := own_vals H s ot
  obtain ⟨l1, l2⟩ := h.lock hs1
  have hat : (tOf C ot).at_ = 1 ∨ (tOf C ot).at_ = 3 := hO.ph.elim (fun x => .inr x.1) (fun x => .inl x.1)
  refine ⟨_, ⟨may_str m1 m2 (by omega) (by omega) (by omega), h.ths, m3, Acc.lock rfl hat hl (by show (C.strs.getD s.toNat (0, 0)).1 = -1; rw [h.strs]; exact hz.2.2.2.2)⟩, rfl, ?_⟩
  have e := tOf_put (S := putSt C s.toNat (ot, (C.strs.getD s.toNat (0, 0)).2)) (th := ot) { tOf C ot with at_ := 3, locked := s, owned := (tOf C ot).owned ||| BitVec.twoPow 32 s.toNat } hx
  refine ⟨⟨h.n32, hth, hot, h.vars, ?_, ?_, by show (C.ths.set _ _).length = 6; rw [List.length_set]; exact h.ths, h.ok.own s ot, ?_, fun i => ?_, fun i => ?_⟩, ?_, ?_⟩
  · show C.clock = _
    rw [ov.2.1]; exact h.clock
  · show C.strs.set s.toNat (ot, (C.strs.getD s.toNat (0, 0)).2) = _
    unfold ownH
    rw [if_pos he, h.strs]
  · show TB _ _ (tOf (putTh (putSt C s.toNat (ot, (C.strs.getD s.toNat (0, 0)).2)) ot.toNat _) th)
    rw [tOf_other hot.1 hth.1 (fun x => hot.2.2 x.symm)]
    exact h.tb
  · rw [owner_own]
    by_cases hi : ownE H s ot = 0 ∧ i = s
    · rw [if_pos hi]; exact .inr rfl
    · rw [if_neg hi]; exact h.own i
  · rw [version_own]; exact h.ver i
  · show OB _ (tOf (putTh (putSt C s.toNat (ot, (C.strs.getD s.toNat (0, 0)).2)) ot.toNat { tOf C ot with at_ := 3, locked := s, owned := (tOf C ot).owned ||| BitVec.twoPow 32 s.toNat }) ot)
    rw [e]
    exact ⟨hO.rv, .inl ⟨rfl, s, by rw [owner_own, if_pos ⟨he, rfl⟩]; exact hot.1⟩⟩
  · show (tOf (putTh (putSt C s.toNat (ot, (C.strs.getD s.toNat (0, 0)).2)) ot.toNat { tOf C ot with at_ := 3, locked := s, owned := (tOf C ot).owned ||| BitVec.twoPow 32 s.toNat }) ot).locked = s
    rw [e]
theorem any_iff (h : Base n st limit th ot C hs H) : anyB H = true ↔ ∃ s, 0 ≤ ownerV H s := by
  unfold anyB
  rw [List.any_eq_true]
  constructor
  · rintro ⟨x, hx, h0⟩
    obtain ⟨i, hi, e⟩ := List.getElem_of_mem hx
    rw [List.length_map] at hi
    refine ⟨i, ?_⟩
    rw [List.getElem_map] at e
    unfold ownerV
    rw [if_pos (by omega), Int.toNat_natCast, List.getD_eq_getElem?_getD, List.getElem?_eq_getElem hi]
    show 0 ≤ (H.locks[i]).1
    rw [e]
    exact of_decide_eq_true h0
  · rintro ⟨s, hs⟩
    unfold ownerV at hs
    split at hs
    · rename_i hr
      refine ⟨_, List.mem_map.2 ⟨H.locks.getD s.toNat (0, 0), ?_, rfl⟩, decide_eq_true hs⟩
      rw [List.getD_eq_getElem?_getD, List.getElem?_eq_getElem (by omega)]
      exact List.getElem_mem _
    · omega
/-- The other one's Bump. -/
theorem base_bump (h : Base n st limit th ot C hs H) (hO : OB H (tOf C ot)) (hb : ¬ H.limit ≤ H.clock) (hl : limit ≤ 1099511627776) (ha : anyB H = true) :
    ∃ C1, AccOk C ⟨5, ot, 0, H.clock + 1, 0, 0⟩ C1 ∧ C1.events = C.events ∧ Base n st limit th ot { C1 with events := C.events + 1 } hs (bumpH H) := by
  obtain ⟨m1, m2, m3, m4⟩ := h.may
  have hth := h.thr
  have hot := h.oth
  have hx : ot.toNat < C.ths.length := by rw [h.ths]; omega
  have bv := bump_vals H
  have hc0 := h.ok.c0
  have hli := h.ok.lim
  have hcl := h.clock
  have hat : (tOf C ot).at_ = 3 := by
    rcases hO.ph with x | x
    · exact x.1
    · exfalso
      obtain ⟨s, hs⟩ := (any_iff h).1 ha
      have := x.2 s
      omega
  have hrv := hO.rv
  refine ⟨_, ⟨may_bump m1 m2 (by omega) (by omega), h.ths, m3, Acc.bump rfl (by show 0 ≤ (tOf C ot).rv ∧ (tOf C ot).rv ≤ 1099511627776; omega) hat (by show C.clock < H.clock + 1; omega)⟩, rfl, ⟨h.n32, hth, hot, h.vars, ?_, ?_, by show (C.ths.set _ _).length = 6; rw [List.length_set]; exact h.ths, h.ok.bump, ?_, fun i => ?_, fun i => ?_⟩⟩
  · rw [bv.2.2.2, if_neg hb]; rfl
  · rw [bv.2.1]; exact h.strs
  · show TB _ _ (tOf (putTh { C with clock := H.clock + 1 } ot.toNat _) th)
    rw [tOf_other hot.1 hth.1 (fun x => hot.2.2 x.symm)]
    exact h.tb
  · rw [owner_bump]; exact h.own i
  · rw [version_bump]; exact h.ver i
theorem base_no (h : Base n st limit th ot C hs H) (hO : OB H (tOf C ot)) (ha : anyB H = false) : ¬ (tOf C ot).at_ = 3 := by
  rcases hO.ph with x | x
  · obtain ⟨_, s, hs⟩ := x
    have := (any_iff h).2 ⟨s, hs⟩
    rw [ha] at this
    cases this
  · rw [x.1]; decide
theorem fits_in {ws : List (Int × Int)} (h : Base n st limit th ot C hs H) (hf : fitsB (newC th 0 st hs ws) H = true) : ∀ s ∈ strL (newC th 0 st hs ws) H, 0 ≤ s ∧ s < (st : Int) := fun s hm => by
  have hl := h.ok.locks
  have h32 := h.n32
  obtain ⟨p, hp, rfl⟩ := List.mem_map.1 ((mem_strL (by omega) s).1 hm)
  obtain ⟨a, b, c⟩ := fitW_at (of_fitsB hf).1 (by omega) hp
  rw [c, ← hl]
  exact ⟨Int.emod_nonneg _ (by omega), Int.emod_lt_of_pos _ (by omega)⟩
/-- The commit begins. -/
theorem sim_start {ws : List (Int × Int)} (h : Base n st limit th ot C hs H) (hl : limit ≤ 1099511627776) (hw : okN th ws) (hf : fitsB (newC th 0 st hs ws) H = true) : Sim n st limit H (strL (newC th 0 st hs ws) H) (newC th 0 st hs ws) H C := by
  have h32 := h.n32
  have hth := h.thr
  have hot := h.oth
  have tb := h.tb
  have hat : (newC th 0 st hs ws).at_ = if ws.length = 0 then 4 else 1 := rfl
  refine ⟨WJ.new h.ok (by omega) hw hf, by omega, by omega, hl, h.ok, rfl, by show 1 ≤ (st : Int) ∧ (st : Int) ≤ 32; omega, fun s => ?_, h.vars, h.clock, h.strs, h.ths, ?_⟩
  · show ownerV H s ≠ th
    rcases h.own s with x | x <;> omega
  · have hx : (newC th 0 st hs ws).at_ = 4 ∨ (newC th 0 st hs ws).at_ = 1 := by rw [hat]; split <;> omega
    show Phase _ _ (tOf C th)
    refine ⟨tb.rv, fun _ => by rw [tb.com]; omega, tb.read, ?_, fun x => ⟨.inl tb.at_, fun s hs' => ?_, tb.check, tb.stored, tb.var_⟩, (fun x => by omega), (fun x => by omega), fun x => .inl ⟨?_, tb.at_, rfl⟩, (fun x => by omega), (fun x => by omega), (fun x => by omega), (fun x => by omega)⟩
    · rw [tb.owned]; exact IsSet.nil
    · rw [tb.locked]
      have := fits_in h hf s (List.mem_of_mem_drop hs')
      omega
    · rw [hat] at x
      split at x
      · exact List.eq_nil_of_length_eq_zero (by assumption)
      · omega
end
theorem run_len {n st : Nat} {limit : Int} {H0 : HeapS} {L : List Int} (o0 : OkC n st limit H0) (h0 : 0 < st) : ∀ (m : Nat) (C : CmS) (H : HeapS), WJ n st limit H0 L C H → (runF m C H).1.length ≤ mu C H
  | 0, C, H, _ => Nat.zero_le _
  | m + 1, C, H, h => by
    unfold runF
    by_cases h8 : C.at_ = 8
    · rw [if_pos h8]; exact Nat.zero_le _
    · rw [if_neg h8]
      have he : stepE C H = 0 := by unfold stepE; rw [if_neg h8, if_pos h.fits]
      rw [if_pos he]
      have e1 : stepC C H = goC C H := by unfold stepC; rw [if_pos he]
      have e2 : stepH C H = goH C H := by unfold stepH; rw [if_pos he]
      rw [e1, e2]
      have := run_len o0 h0 m _ _ (h.go h0 o0 h8)
      have := mu_go h.inv h.ok h0 h8
      show (runF m (goC C H) (goH C H)).1.length + 1 ≤ _
      omega
theorem short_len {st : Int} : ∀ (l : List Int) (a : Int), l.Pairwise (· < ·) → (∀ x ∈ l, a ≤ x ∧ x < st) → a ≤ st → (l.length : Int) ≤ st - a
  | [], a, _, _, h => by show (0 : Int) ≤ _; omega
  | x :: r, a, hp, hx, h => by
    have h1 := hx x (List.mem_cons_self ..)
    have hp2 := List.pairwise_cons.1 hp
    have := short_len r (x + 1) hp2.2 (fun y hy => ⟨by have := hp2.1 y hy; omega, (hx y (List.mem_cons_of_mem _ hy)).2⟩) (by omega)
    show ((r.length + 1 : Nat) : Int) ≤ _
    omega
theorem mu_new {n st : Nat} {limit th ot : Int} {C : ShS} {hs : List Bool} {H : HeapS} {ws : List (Int × Int)} (h : Base n st limit th ot C hs H) (hf : fitsB (newC th 0 st hs ws) H = true) : (mu (newC th 0 st hs ws) H : Int) ≤ 2 * st + ws.length + (allI st hs).length + 2 := by
  have hlen := short_len (st := st) (strL (newC th 0 st hs ws) H) 0 (strL_lt _ _) (fits_in h hf) (by omega)
  by_cases hw : ws.length = 0
  · rw [mu4 (by show (if ws.length = 0 then (4 : Int) else 1) = 4; rw [if_pos hw])]
    show ((1 + ws.length + 0 : Nat) : Int) ≤ _
    omega
  · rw [mu1 (by show (if ws.length = 0 then (4 : Int) else 1) = 1; rw [if_neg hw])]
    show ((2 * ((strL (newC th 0 st hs ws) H).length - 0) + 2 + (allI st hs).length + ws.length + 0 : Nat) : Int) ≤ _
    omega
/-- What a run tells of the checker. -/
theorem row_law {n st : Nat} {limit th ot : Int} {C : ShS} {hs : List Bool} {H : HeapS} {ws : List (Int × Int)} (h : Base n st limit th ot C hs H) (hl : limit ≤ 1099511627776) (hw : okN th ws) :
    ∃ S', AccL C (runF 200 (newC th 0 st hs ws) H).1 S' ∧ (((runF 200 (newC th 0 st hs ws) H).2.1 = false ∧ (runF 200 (newC th 0 st hs ws) H).1 = []) ∨
      ((runF 200 (newC th 0 st hs ws) H).2.1 = true ∧ ((runF 200 (newC th 0 st hs ws) H).1.length : Int) ≤ 2 * st + ws.length + (allI st hs).length + 2 ∧ ((tOf S' th).at_ = 0 ∨ (tOf S' th).at_ = 9) ∧ S'.ths.length = 6)) := by
  have h32 := h.n32
  rcases whole_law (rv := 0) (s2 := st) (hs := hs) h.ok (by omega) hw with ⟨g1, g2, _⟩ | ⟨g1, hf, _, g3, _, _⟩
  · exact ⟨C, by rw [g2]; rfl, .inl ⟨g1, g2⟩⟩
  · have hs0 := sim_start h hl hw hf
    obtain ⟨S', a1, a2⟩ := run_acc 200 _ _ _ hs0
    have hlen := run_len h.ok (by omega) 200 _ _ hs0.wj
    have hmu := mu_new h hf
    have hth : (runF 200 (newC th 0 st hs ws) H).2.2.1.thread = th := runF_inv (J := fun C _ => C.thread = th) (fun C H hJ _ _ => (goC_thread C H).trans hJ) 200 _ _ rfl
    have hp := a2.ph.p8 g3
    rw [hth] at hp
    exact ⟨S', a1, .inr ⟨g1, by omega, hp, a2.ths⟩⟩
end Go.Proofs.YtpiodhdbdlfnhaaGreatDoor
namespace Go.Proofs.YtpiodhdbdlfnhaaGreatDoor
open Go.RowKit Go.Lib
set_option linter.unusedVariables false
set_option linter.unusedSimpArgs false
set_option maxHeartbeats 8000000
set_option maxRecDepth 100000
section
variable {S0 : Nat → Prop} {ww w : World} {L : List Res} {bk : Nat} {ta sa : Option Addr} {tc sc : Nat} {C C' : ShS} {nm : Nat → Value} {aF : Nat → Option Addr} {cF : Nat → Nat}
theorem next_in (S : Sat S0 ww w (shR bk ta sa tc sc C :: gR nm aF cF :: tabR :: L)) (e : EvS) (hev : 0 ≤ C.events ∧ C.events < 1000000) (hA : AccOk C e C') :
    Calls Tryz.prog 9 #[.pointer (some ⟨bk, 0, none⟩), evA e] w fun r w' => r = .returned (.int .i64 0) ∧ Sat S0 ww w' (shR bk ta sa tc sc { C' with events := C.events + 1 } :: gR nm aF cF :: tabR :: L) := by
  have hs := List.pairwise_cons.1 S.sep
  exact (next_acc (S.all _ (List.mem_cons_self ..)) (S.all (gR nm aF cF) (by simp)) (S.all tabR (by simp)) (hs.1 tabR (by simp)) (hs.1 (gR nm aF cF) (by simp)) e hev hA).mono fun r w' ⟨h1, h2, h3⟩ => ⟨h1, S.swap (r := shR bk ta sa tc sc C) rfl h3 h2 rfl (fun k hk => .inl hk)⟩
theorem next_in_no (S : Sat S0 ww w (shR bk ta sa tc sc C :: gR nm aF cF :: tabR :: L)) (e : EvS) (hev : 0 ≤ C.events ∧ C.events < 1000000) (hl : C.ths.length = 6) (hM : MayP e C.vars C.strs.length) (hk : e.kind = 5) (h3 : ¬ (C.ths.getD e.thread.toNat thD).at_ = 3) :
    Calls Tryz.prog 9 #[.pointer (some ⟨bk, 0, none⟩), evA e] w fun r w' => r = .returned (.int .i64 4) ∧ Sat S0 ww w' (shR bk ta sa tc sc C :: gR nm aF cF :: tabR :: L) := by
  have hs := List.pairwise_cons.1 S.sep
  have ht := hM.thread
  exact (next_no5 (S.all _ (List.mem_cons_self ..)) (S.all (gR nm aF cF) (by simp)) (S.all tabR (by simp)) (hs.1 tabR (by simp)) (hs.1 (gR nm aF cF) (by simp)) e hl hM hev hk (fun w hw hT => bump_no hw (by omega) e h3)).mono fun r w' ⟨h1, h2, h3⟩ => ⟨h1, S.swap (r := shR bk ta sa tc sc C) rfl h3 h2 rfl (fun k hk => .inl hk)⟩
end
theorem walk_CommitRow (a0 : Int) (a1 : Option Addr) (len1 cap1 : Nat) (z1 : List Int) (a2 a3 a4 : Int) (a5 : Option Addr) (len5 cap5 : Nat) (z5 : List Int) (a6 : Option Addr) (len6 cap6 : Nat) (z6 : List Int) (a7 : Option Addr) (len7 cap7 : Nat) (z7 : List (Int × Int)) (w0 : World) (f0 : (Lit.int .i64 a0).wf = true) (f1 : z1.length = len1 ∧ SlOk w0 a1 len1 cap1 1 (gL encI 0 z1) ∧ ∀ z ∈ z1, (Lit.int .i64 z).wf = true) (f2 : (Lit.int .i64 a2).wf = true) (f3 : (Lit.int .i64 a3).wf = true) (f4 : (Lit.int .i64 a4).wf = true) (f5 : z5.length = len5 ∧ SlOk w0 a5 len5 cap5 1 (gL encI 0 z5) ∧ ∀ z ∈ z5, (Lit.int .i64 z).wf = true) (f6 : z6.length = len6 ∧ SlOk w0 a6 len6 cap6 1 (gL encI 0 z6) ∧ ∀ z ∈ z6, (Lit.int .i64 z).wf = true) (f7 : z7.length = len7 ∧ SlOk w0 a7 len7 cap7 2 (gL encP (0, 0) z7) ∧ ∀ z ∈ z7, (Lit.int .i64 z.1).wf = true ∧ (Lit.int .i64 z.2).wf = true)
    {nm : Nat → Value} {aF : Nat → Option Addr} {cF : Nat → Nat} (hG : (gR nm aF cF).holds w0) (hT : tabR.holds w0) :
    Calls Tryz.prog 3 #[.int .i64 a0, .slice a1 len1 cap1, .int .i64 a2, .int .i64 a3, .int .i64 a4, .slice a5 len5 cap5, .slice a6 len6 cap6, .slice a7 len7 cap7] w0 fun e w' => e = .returned (.bool true) ∧ Below w0.heap.size w0 w' := by
  obtain ⟨rfl, s1, _⟩ := f1
  obtain ⟨rfl, s5, _⟩ := f5
  obtain ⟨rfl, s6, wf6⟩ := f6
  obtain ⟨rfl, s7, _⟩ := f7
  have b0 := bounds_i64 f0; have b2 := bounds_i64 f2; have b3 := bounds_i64 f3; have b4 := bounds_i64 f4
  have m1 := s1.small; have m5 := s5.small; have m6 := s6.small; have m7 := s7.small
  clear f0 f2 f3 f4
  have S : Sat (fun _ => False) w0 w0 [gR nm aF cF, tabR, slL a1 cap1 1 encI 0 z1, slL a5 cap5 1 encI 0 z5, slL a6 cap6 1 encI 0 z6, slL a7 cap7 2 encP (0, 0) z7] := ((((((Sat.start _ _).ro (r := slL a7 cap7 2 encP (0, 0) z7) s7 rfl rfl).ro (r := slL a6 cap6 1 encI 0 z6) s6 rfl rfl).ro (r := slL a5 cap5 1 encI 0 z5) s5 rfl rfl).ro (r := slL a1 cap1 1 encI 0 z1) s1 rfl rfl).ro (r := tabR) hT rfl rfl).ro (r := gR nm aF cF) hG rfl rfl
  clear s1 s5 s6 s7 hG hT
  refine enter1 Tryz.func3 rfl Tryz.ntmps3 rfl Tryz.results3 ?_
  repeat' (first | refine nilL ?_ | refine run_seq ?_ | refine run_region ?_ | refine assign_b_l S rfl rfl ?_ | refine thenQ_n ?_)
  (refine callL (cworks_at _) rfl rfl ?_; rintro e w ⟨rfl, hb⟩; replace S := S.below hb; clear hb; refine ⟨_, rfl, ?_⟩)
  repeat' (first | refine move_s_l S rfl rfl ?_ | refine move_b_l S rfl rfl ?_ | refine onL rfl rfl ?_ | refine not_l S rfl rfl ?_)
  (refine callL (long_at a1 a6 a7 none z1.length cap1 z6.length cap6 z7.length cap7 0 0 ⟨m1, m6, m7, by decide⟩ _) rfl rfl ?_; rintro e w ⟨rfl, hb⟩; replace S := S.below hb; clear hb; refine ⟨_, rfl, ?_⟩)
  by_cases hL : longB z1.length z6.length z7.length 0 = true
  · rw [hL]
    repeat' (first | refine move_b_l S rfl rfl ?_ | refine nilL ?_ | refine run_seq ?_ | refine run_region ?_ | refine offL rfl rfl rfl rfl ?_ | refine pick_tb_l S rfl rfl rfl ?_ | refine pick_fb_l S rfl rfl rfl ?_ | refine run_cond_true rfl ?_ | refine thenQ_n ?_)
    (refine callL (cworks_at _) rfl rfl ?_; rintro e w ⟨rfl, hb⟩; replace S := S.below hb; clear hb; refine ⟨_, rfl, ?_⟩)
    repeat' (first | refine nilL ?_ | refine assign_b_l S rfl rfl ?_ | refine run_ret ?_ | refine thenQ_n ?_ | refine thenQ_r ?_ | refine ret1_b rfl ?_)
    exact ⟨rfl, S.chg.below⟩
  rw [show longB z1.length z6.length z7.length 0 = false from by simpa using hL]
  unfold longB at hL
  have hb : z1.length ≤ 50 ∧ z6.length ≤ 100 ∧ z7.length ≤ 50 := by simp at hL; omega
  clear hL
  repeat' (first | refine move_i_l S rfl rfl ?_ | refine move_s_l S rfl rfl ?_ | refine move_b_l S rfl rfl ?_ | refine nilL ?_ | refine run_seq ?_ | refine run_skip ?_ | refine run_region ?_ | refine onL rfl rfl ?_ | refine pick_fb_l S rfl rfl rfl ?_ | refine len_l S rfl rfl ?_ | (refine gtr_l S rfl rfl rfl ?_ ?_ <;> intro hcmp <;> try (exfalso; first | omega | exact hcmp (by decide) | exact absurd hcmp (by decide))) | refine run_cond_true rfl ?_ | refine run_cond_false rfl ?_ | refine thenQ_n ?_)
  · (refine callL (cworks_at _) rfl rfl ?_; rintro e w ⟨rfl, hb⟩; replace S := S.below hb; clear hb; refine ⟨_, rfl, ?_⟩)
    repeat' (first | refine nilL ?_ | refine assign_b_l S rfl rfl ?_ | refine run_ret ?_ | refine thenQ_n ?_ | refine thenQ_r ?_ | refine ret1_b rfl ?_)
    exact ⟨rfl, S.chg.below⟩
  by_cases hg : goodNew z1.length a2 a3
  rotate_left
  · (refine callL (new_no a1 cap1 z1 a2 a3 hg _ (S.all (slL a1 cap1 1 encI 0 z1) (by simp))) rfl rfl ?_; rintro e w ⟨rfl, hb⟩; replace S := S.below hb; clear hb; refine ⟨_, rfl, ?_⟩)
    repeat' (first | refine move_i_l S rfl rfl ?_ | refine move_s_l S rfl rfl ?_ | refine nilL ?_ | refine run_seq ?_ | refine run_region ?_ | refine assign_i_l S rfl rfl ?_ | refine len_l S rfl rfl ?_ | refine extract_i_l S rfl rfl rfl ?_ | refine extract_p_l S rfl rfl rfl ?_ | refine assign_p_l S rfl rfl ?_ | refine move_o_l S rfl rfl ?_ | refine thenQ_n ?_)
    by_cases hs : 1 ≤ (z1.length : Int) ∧ (z1.length : Int) ≤ 32 ∧ 1 ≤ a2 ∧ a2 ≤ z1.length
    · obtain ⟨st, rfl⟩ : ∃ st : Nat, a2 = st := ⟨a2.toNat, by omega⟩
      refine callL (snewsh_yes z1.length st (by omega) (by omega) (by omega) _) rfl rfl ?_
      rintro e w' ⟨_, rfl, _, hb2⟩
      replace S := S.below hb2
      refine ⟨_, rfl, ?_⟩
      repeat' (first | refine move_i_l S rfl rfl ?_ | refine move_b_l S rfl rfl ?_ | refine nilL ?_ | refine run_seq ?_ | refine run_region ?_ | refine offL rfl rfl rfl rfl ?_ | refine assign_i_l S rfl rfl ?_ | refine pick_tb_l S rfl rfl rfl ?_ | refine assign_b_l S rfl rfl ?_ | (refine neq_l S rfl rfl rfl ?_ ?_ <;> intro hcmp <;> try (exfalso; first | omega | exact hcmp (by decide) | exact absurd hcmp (by decide))) | refine extract_i_l S rfl rfl rfl ?_ | refine move_o_l S rfl rfl ?_ | refine extract_o_l S rfl rfl rfl ?_ | refine assign_o_l S rfl rfl ?_ | refine run_ret ?_ | refine run_cond_true rfl ?_ | refine thenQ_n ?_ | refine thenQ_r ?_ | refine ret1_b rfl ?_)
      exact ⟨rfl, S.chg.below⟩
    · (refine callL (snewsh_no z1.length a2 hs _) rfl rfl ?_; rintro e w ⟨rfl, hb⟩; replace S := S.below hb; clear hb; refine ⟨_, rfl, ?_⟩)
      repeat' (first | refine move_i_l S rfl rfl ?_ | refine move_b_l S rfl rfl ?_ | refine nilL ?_ | refine run_seq ?_ | refine run_region ?_ | refine offL rfl rfl rfl rfl ?_ | refine assign_i_l S rfl rfl ?_ | refine pick_tb_l S rfl rfl rfl ?_ | refine assign_b_l S rfl rfl ?_ | (refine neq_l S rfl rfl rfl ?_ ?_ <;> intro hcmp <;> try (exfalso; first | omega | exact hcmp (by decide) | exact absurd hcmp (by decide))) | refine extract_i_l S rfl rfl rfl ?_ | refine extract_p_l S rfl rfl rfl ?_ | refine assign_p_l S rfl rfl ?_ | refine move_o_l S rfl rfl ?_ | refine run_ret ?_ | refine run_cond_true rfl ?_ | refine thenQ_n ?_ | refine thenQ_r ?_ | refine ret1_b rfl ?_)
      exact ⟨rfl, S.chg.below⟩
  refine callL (new_yes a1 cap1 z1 a2 a3 hg _ (S.all (slL a1 cap1 1 encI 0 z1) (by simp))) rfl rfl ?_
  rintro e w' ⟨_, rfl, ⟨bh, ga, va, gc, vc, rfl, hh, hf⟩, hb2⟩
  replace S := S.fresh hb2 hh hf
  clear hb2 hh hf
  refine ⟨_, rfl, ?_⟩
  have hg2 := hg
  unfold goodNew at hg2
  obtain ⟨st, rfl⟩ : ∃ st : Nat, a2 = st := ⟨a2.toNat, by omega⟩
  repeat' (first | refine move_i_l S rfl rfl ?_ | refine move_s_l S rfl rfl ?_ | refine nilL ?_ | refine run_seq ?_ | refine run_region ?_ | refine assign_i_l S rfl rfl ?_ | refine len_l S rfl rfl ?_ | refine extract_i_l S rfl rfl rfl ?_ | refine extract_p_l S rfl rfl rfl ?_ | refine assign_p_l S rfl rfl ?_ | refine move_o_l S rfl rfl ?_ | refine thenQ_n ?_)
  refine callL (snewsh_yes z1.length st (by omega) (by omega) (by omega) _) rfl rfl ?_
  rintro e w' ⟨_, rfl, ⟨bk, tb, sa, sc, rfl, hh, hf⟩, hb2⟩
  replace S := S.fresh hb2 hh hf
  clear hb2 hh hf
  refine ⟨_, rfl, ?_⟩
  replace S := S.perm (L' := [shR bk (some ⟨tb, 0, none⟩) sa 6 sc (newSh z1.length st), gR nm aF cF, tabR, heapR bh ga va gc vc (newH z1 st a3), slL a1 cap1 1 encI 0 z1, slL a5 cap5 1 encI 0 z5, slL a6 cap6 1 encI 0 z6, slL a7 cap7 2 encP (0, 0) z7]) (List.Perm.cons _ (List.perm_middle (l₁ := [gR nm aF cF, tabR])))
  repeat' (first | refine move_i_l S rfl rfl ?_ | refine move_b_l S rfl rfl ?_ | refine nilL ?_ | refine run_seq ?_ | refine run_skip ?_ | refine run_region ?_ | refine onL rfl rfl ?_ | refine offL rfl rfl rfl rfl ?_ | refine assign_i_l S rfl rfl ?_ | refine pick_tb_l S rfl rfl rfl ?_ | refine pick_fb_l S rfl rfl rfl ?_ | refine assign_b_l S rfl rfl ?_ | refine add_l S rfl rfl (wrap_in (by omega)) rfl ?_ | (refine neq_l S rfl rfl rfl ?_ ?_ <;> intro hcmp <;> try (exfalso; first | omega | exact hcmp (by decide) | exact absurd hcmp (by decide))) | refine extract_i_l S rfl rfl rfl ?_ | (refine lss_l S rfl rfl rfl ?_ ?_ <;> intro hcmp <;> try (exfalso; first | omega | exact hcmp (by decide) | exact absurd hcmp (by decide))) | refine extract_p_l S rfl rfl rfl ?_ | refine assign_p_l S rfl rfl ?_ | (refine geq_l S rfl rfl rfl ?_ ?_ <;> intro hcmp <;> try (exfalso; first | omega | exact hcmp (by decide) | exact absurd hcmp (by decide))) | refine rem_l S rfl rfl (by omega) rfl rfl ?_ | refine move_o_l S rfl rfl ?_ | refine run_ret ?_ | refine run_cond_true rfl ?_ | refine run_cond_false rfl ?_ | refine thenQ_n ?_ | refine thenQ_r ?_ | refine ret1_b rfl ?_)
  · exact ⟨rfl, S.chg.below⟩
  · exact ⟨rfl, S.chg.below⟩
  have hth : 0 ≤ a0 ∧ a0 ≤ 5 := by omega
  obtain ⟨ot, hote⟩ : ∃ ot : Nat, (a0 + 1).tmod 6 = ot := ⟨((a0 + 1).tmod 6).toNat, by have := Int.tmod_nonneg (a := a0 + 1) 6 (by omega); omega⟩
  have hot : 0 ≤ (ot : Int) ∧ (ot : Int) ≤ 5 ∧ (ot : Int) ≠ a0 := by
    rw [← hote, Int.tmod_eq_emod_of_nonneg (by omega)]
    omega
  rw [hote]
  obtain ⟨tn, rfl⟩ : ∃ tn : Nat, a0 = tn := ⟨a0.toNat, by omega⟩
  have hno0 : ∀ s, ownerV (newH z1 st a3) s = -1 := fun s => by
    unfold ownerV
    split
    · show ((List.replicate (st : Int).toNat ((-1 : Int), (0 : Int))).getD s.toNat (0, 0)).1 = -1
      rename_i hs
      have hs2 : s < ((List.replicate (st : Int).toNat ((-1 : Int), (0 : Int))).length : Int) := hs.2
      rw [List.getD_eq_getElem?_getD, List.getElem?_replicate, if_pos (by simp at hs2 ⊢; omega)]
      rfl
    · rfl
  refine callL (snew_ok 0 st ⟨by omega, by omega, by omega, by omega⟩ _) rfl rfl ?_
  rintro e w' ⟨_, rfl, ⟨bs, rfl, g1, g2⟩, hb2⟩
  replace S := S.freshSet hb2 g1 g2
  clear hb2 g1 g2
  refine ⟨_, rfl, ?_⟩
  replace S := S.perm (L' := [shR bk (some ⟨tb, 0, none⟩) sa 6 sc (newSh z1.length st), gR nm aF cF, tabR, setR bs 0 st (List.replicate 32 false), heapR bh ga va gc vc (newH z1 st a3), slL a1 cap1 1 encI 0 z1, slL a5 cap5 1 encI 0 z5, slL a6 cap6 1 encI 0 z6, slL a7 cap7 2 encP (0, 0) z7]) (List.perm_middle (l₁ := [shR bk (some ⟨tb, 0, none⟩) sa 6 sc (newSh z1.length st), gR nm aF cF, tabR]))
  repeat' (first | refine move_i_l S rfl rfl ?_ | refine nilL ?_ | refine run_seq ?_ | refine run_region ?_ | refine move_p_l S rfl rfl ?_ | refine assign_i_l S rfl rfl ?_ | refine extract_i_l S rfl rfl rfl ?_ | (apply build7_l S; (· repeat (first | exact mapN | apply mapC_i rfl | apply mapC_b rfl | apply mapC_p rfl | apply mapC_s rfl | apply mapC_e rfl | apply mapC_a rfl | apply mapC_o rfl)); (· rfl); (· rfl)) | refine extract_p_l S rfl rfl rfl ?_ | refine assign_p_l S rfl rfl ?_ | refine move_o_l S rfl rfl ?_ | refine thenQ_n ?_)
  obtain ⟨C1, hA, hB, hO, hev⟩ := base_begin (th := tn) (ot := ot) hg hth hot
  refine callL (next_in S ⟨1, tn, 0, 0, 0, 0⟩ ⟨Int.le_refl 0, by show (0 : Int) < 1000000; decide⟩ hA) rfl rfl ?_
  clear S
  rintro r w ⟨rfl, S⟩
  refine ⟨_, rfl, ?_⟩
  repeat' (first | refine nilL ?_ | refine run_seq ?_ | refine run_region ?_ | refine assign_i_l S rfl rfl ?_ | refine run_block ?_ | refine thenQ_n ?_)
  refine run_while [16, 25, 26, 90, 91, 92, 93, 94, 95, 96, 97, 98, 99, 100, 101, 102, 103, 104, 105, 106, 107, 108, 109, 110, 111, 112, 113, 114, 115, 116, 117, 118, 119, 120, 121, 122, 123, 124, 125, 126, 127, 128, 129, 130, 131, 132, 133, 134, 135, 136] (fun (s : Nat × ShS × List Bool) t => upd t 24 (.int .i64 s.1)) (fun s w' => s.1 ≤ z6.length ∧ Base z1.length st a3 tn ot s.2.1 s.2.2 (newH z1 st a3) ∧ tOf s.2.1 ot = thD ∧ (0 ≤ s.2.1.events ∧ s.2.1.events ≤ 1 + 2 * s.1) ∧ Sat (fun _ => False) w0 w' [shR bk (some ⟨tb, 0, none⟩) sa 6 sc s.2.1, gR nm aF cF, tabR, setR bs 0 st s.2.2, heapR bh ga va gc vc (newH z1 st a3), slL a1 cap1 1 encI 0 z1, slL a5 cap5 1 encI 0 z5, slL a6 cap6 1 encI 0 z6, slL a7 cap7 2 encP (0, 0) z7]) (fun s => z6.length - s.1) (0, { C1 with events := (newSh z1.length st).events + 1 }, List.replicate 32 false) ?_ ?_ ?_
  · (repeat (first | exact agree_refl | refine agree_r rfl ?_))
  · exact ⟨Nat.zero_le _, hB, hO, by show (0 : Int) ≤ 0 + 1 ∧ (0 : Int) + 1 ≤ 1 + 2 * ((0 : Nat) : Int); omega, S⟩
  clear S hA hB hO hev C1
  rintro ⟨q, C, hs⟩ j w ⟨hq, hB, hO, hev, S⟩
  simp only at hq hB hO hev S ⊢
  by_cases hql : q < z6.length
  · repeat' (first | refine move_i_l S rfl rfl ?_ | refine move_s_l S rfl rfl ?_ | refine move_b_l S rfl rfl ?_ | refine nilL ?_ | refine run_seq ?_ | refine run_skip ?_ | refine run_region ?_ | refine onL rfl rfl ?_ | refine offL rfl rfl rfl rfl ?_ | refine move_p_l S rfl rfl ?_ | refine assign_i_l S rfl rfl ?_ | refine pick_tb_l S rfl rfl rfl ?_ | refine pick_fb_l S rfl rfl rfl ?_ | refine len_l S rfl rfl ?_ | refine add_l S rfl rfl (wrap_in (by omega)) rfl ?_ | refine indexAddr_l S rfl rfl (idx_cast _) (by first | omega | decide | (simp; done) | (simp; omega)) rfl ?_ | (refine lss_l S rfl rfl rfl ?_ ?_ <;> intro hcmp <;> try (exfalso; first | omega | exact hcmp (by decide) | exact absurd hcmp (by decide))) | refine loadE_i_l S rfl (by first | omega | decide | (simp; done) | (simp; omega)) rfl rfl rfl ?_ | (refine geq_l S rfl rfl rfl ?_ ?_ <;> intro hcmp <;> try (exfalso; first | omega | exact hcmp (by decide) | exact absurd hcmp (by decide))) | refine run_block ?_ | refine run_exit ?_ | refine run_cond_true rfl ?_ | refine run_cond_false rfl ?_ | refine thenQ_n ?_ | refine thenQ_e ?_ | refine blockQ_s rfl ?_)
    · refine ⟨(q + 1, C, hs), ?_, ⟨by simp only; omega, hB, hO, by simp only; omega, S⟩, by simp only; omega⟩
      simp only
      rw [Int.natCast_add]
      (repeat (first | exact agree_refl | refine agree_r rfl ?_ | refine agree_l rfl ?_ | refine agree_hv rfl ?_))
    · refine ⟨(q + 1, C, hs), ?_, ⟨by simp only; omega, hB, hO, by simp only; omega, S⟩, by simp only; omega⟩
      simp only
      rw [Int.natCast_add]
      (repeat (first | exact agree_refl | refine agree_r rfl ?_ | refine agree_l rfl ?_ | refine agree_hv rfl ?_))
    · have hr : 0 ≤ z6.getD q 0 ∧ z6.getD q 0 < (st : Int) := by omega
      refine callL (add_e (S.all (setR bs 0 st hs) (by simp)) (z6.getD q 0)) rfl rfl ?_
      rintro e w' ⟨rfl, g1, g2⟩
      replace S := S.swap (r := setR bs 0 st hs) (r' := setR bs 0 st (addH st hs (z6.getD q 0))) rfl g2 g1 rfl (fun k hk => .inl hk)
      clear g1 g2
      refine ⟨_, rfl, ?_⟩
      repeat' (first | refine move_i_l S rfl rfl ?_ | refine move_s_l S rfl rfl ?_ | refine nilL ?_ | refine run_seq ?_ | refine run_region ?_ | refine move_p_l S rfl rfl ?_ | refine indexAddr_l S rfl rfl (idx_cast _) (by first | omega | decide | (simp; done) | (simp; omega)) rfl ?_ | (apply build7_l S; (· repeat (first | exact mapN | apply mapC_i rfl | apply mapC_b rfl | apply mapC_p rfl | apply mapC_s rfl | apply mapC_e rfl | apply mapC_a rfl | apply mapC_o rfl)); (· rfl); (· rfl)) | refine loadE_i_l S rfl (by first | omega | decide | (simp; done) | (simp; omega)) rfl rfl rfl ?_ | refine thenQ_n ?_)
      obtain ⟨C1, hA1, he1, C2, hA2, he2, hB2, hO2⟩ := base_read hB hO hno0 hr
      refine callL (next_in S ⟨2, tn, z6.getD q 0, 0, 0, 0⟩ (by omega) hA1) rfl rfl ?_
      clear S
      rintro r w ⟨rfl, S⟩
      refine ⟨_, rfl, ?_⟩
      repeat' (first | refine move_i_l S rfl rfl ?_ | refine move_s_l S rfl rfl ?_ | refine nilL ?_ | refine run_seq ?_ | refine run_region ?_ | refine move_p_l S rfl rfl ?_ | refine assign_i_l S rfl rfl ?_ | refine indexAddr_l S rfl rfl (idx_cast _) (by first | omega | decide | (simp; done) | (simp; omega)) rfl ?_ | (apply build7_l S; (· repeat (first | exact mapN | apply mapC_i rfl | apply mapC_b rfl | apply mapC_p rfl | apply mapC_s rfl | apply mapC_e rfl | apply mapC_a rfl | apply mapC_o rfl)); (· rfl); (· rfl)) | refine loadE_i_l S rfl (by first | omega | decide | (simp; done) | (simp; omega)) rfl rfl rfl ?_ | refine thenQ_n ?_)
      refine callL (next_in S ⟨3, tn, z6.getD q 0, 0, 0, 0⟩ (by simp only; omega) hA2) rfl rfl ?_
      clear S
      rintro r w ⟨rfl, S⟩
      refine ⟨_, rfl, ?_⟩
      repeat' (first | refine move_i_l S rfl rfl ?_ | refine move_b_l S rfl rfl ?_ | refine nilL ?_ | refine run_seq ?_ | refine run_skip ?_ | refine run_region ?_ | refine onL rfl rfl ?_ | refine assign_i_l S rfl rfl ?_ | refine pick_fb_l S rfl rfl rfl ?_ | refine add_l S rfl rfl (wrap_in (by omega)) rfl ?_ | (refine neq_l S rfl rfl rfl ?_ ?_ <;> intro hcmp <;> try (exfalso; first | omega | exact hcmp (by decide) | exact absurd hcmp (by decide))) | refine run_cond_false rfl ?_ | refine thenQ_n ?_ | refine blockQ_n ?_)
      refine ⟨(q + 1, { C2 with events := C.events + 1 + 1 }, addH st hs (z6.getD q 0)), ?_, ⟨by simp only; omega, hB2, hO2, by simp only; omega, S⟩, by simp only; omega⟩
      simp only
      rw [Int.natCast_add]
      (repeat (first | exact agree_refl | refine agree_r rfl ?_ | refine agree_l rfl ?_ | refine agree_hv rfl ?_))
  repeat' (first | refine move_i_l S rfl rfl ?_ | refine move_s_l S rfl rfl ?_ | refine nilL ?_ | refine run_seq ?_ | refine run_region ?_ | refine move_p_l S rfl rfl ?_ | refine len_l S rfl rfl ?_ | (refine lss_l S rfl rfl rfl ?_ ?_ <;> intro hcmp <;> try (exfalso; first | omega | exact hcmp (by decide) | exact absurd hcmp (by decide))) | (apply build7_l S; (· repeat (first | exact mapN | apply mapC_i rfl | apply mapC_b rfl | apply mapC_p rfl | apply mapC_s rfl | apply mapC_e rfl | apply mapC_a rfl | apply mapC_o rfl)); (· rfl); (· rfl)) | refine run_exit ?_ | refine run_cond_false rfl ?_ | refine thenQ_n ?_ | refine thenQ_e ?_ | refine blockQ_s rfl ?_)
  clear hql
  obtain ⟨C1, hA, he1, hB1, hO1, hlk⟩ := base_other hB hO hno0 rfl
  refine callL (next_in S ⟨1, ot, 0, 0, 0, 0⟩ (by omega) hA) rfl rfl ?_
  clear S
  rintro r w ⟨rfl, S⟩
  refine ⟨_, rfl, ?_⟩
  repeat' (first | refine nilL ?_ | refine run_seq ?_ | refine run_region ?_ | refine assign_i_l S rfl rfl ?_ | refine run_block ?_ | refine thenQ_n ?_)
  obtain ⟨Cx, hCx⟩ : ∃ Cx, Cx = ({ C1 with events := C.events + 1 } : ShS) := ⟨_, rfl⟩
  rw [← hCx] at hB1 hO1 hlk S
  have hevx : 0 ≤ Cx.events ∧ Cx.events ≤ 202 := by rw [hCx]; simp only; omega
  clear hCx hA he1 hB hO hev hq
  refine run_while [16, 28, 141, 142, 143, 144, 145, 146, 147, 148, 149, 150, 151, 152, 153, 154, 155, 156, 157, 158, 159, 160, 161, 162, 163, 164, 165, 166, 167, 168, 169, 170, 171, 172] (fun (s : Nat × ShS × HeapS) t => upd t 27 (.int .i64 s.1)) (fun s w' => s.1 ≤ st ∧ Base z1.length st a3 tn ot s.2.1 hs s.2.2 ∧ OB s.2.2 (tOf s.2.1 ot) ∧ (tOf s.2.1 ot).locked < s.1 ∧ s.2.2.clock = 0 ∧ (0 ≤ s.2.1.events ∧ s.2.1.events ≤ 300 + 50 * s.1) ∧ Sat (fun _ => False) w0 w' [shR bk (some ⟨tb, 0, none⟩) sa 6 sc s.2.1, gR nm aF cF, tabR, setR bs 0 st hs, heapR bh ga va gc vc s.2.2, slL a1 cap1 1 encI 0 z1, slL a5 cap5 1 encI 0 z5, slL a6 cap6 1 encI 0 z6, slL a7 cap7 2 encP (0, 0) z7]) (fun s => st - s.1) (0, Cx, newH z1 st a3) ?_ ?_ ?_
  · (repeat (first | exact agree_refl | refine agree_r rfl ?_))
  · exact ⟨Nat.zero_le _, hB1, hO1, by simp only; rw [hlk]; decide, rfl, by simp only; omega, S⟩
  clear S hB1 hO1 hlk hevx Cx C1 C
  rintro ⟨s, C, H⟩ j2 w ⟨hq, hB, hO, hlk, hc0, hev, S⟩
  simp only at hq hB hO hlk hc0 hev S ⊢
  by_cases hsl : s < st
  · repeat' (first | refine move_i_l S rfl rfl ?_ | refine nilL ?_ | refine run_seq ?_ | refine run_skip ?_ | refine run_region ?_ | refine assign_i_l S rfl rfl ?_ | (refine lss_l S rfl rfl rfl ?_ ?_ <;> intro hcmp <;> try (exfalso; first | omega | exact hcmp (by decide) | exact absurd hcmp (by decide))) | refine run_block ?_ | refine run_cond_true rfl ?_ | refine thenQ_n ?_)
    refine run_while [16, 146, 147, 148, 149, 150, 151, 152, 153, 154, 155, 156, 157, 158, 159, 160, 161, 162, 163, 164, 165, 166, 167, 168, 169, 170, 171, 172] (fun (x : Nat × ShS × HeapS) t => upd t 28 (.int .i64 x.1)) (fun x w' => x.1 ≤ z5.length ∧ Base z1.length st a3 tn ot x.2.1 hs x.2.2 ∧ OB x.2.2 (tOf x.2.1 ot) ∧ ((tOf x.2.1 ot).locked ≤ s ∧ ((tOf x.2.1 ot).locked = s → ownerV x.2.2 s ≠ -1)) ∧ x.2.2.clock = 0 ∧ (0 ≤ x.2.1.events ∧ x.2.1.events ≤ 300 + 50 * s + x.1) ∧ Sat (fun _ => False) w0 w' [shR bk (some ⟨tb, 0, none⟩) sa 6 sc x.2.1, gR nm aF cF, tabR, setR bs 0 st hs, heapR bh ga va gc vc x.2.2, slL a1 cap1 1 encI 0 z1, slL a5 cap5 1 encI 0 z5, slL a6 cap6 1 encI 0 z6, slL a7 cap7 2 encP (0, 0) z7]) (fun x => z5.length - x.1) (0, C, H) ?_ ?_ ?_
    · (repeat (first | exact agree_refl | refine agree_r rfl ?_))
    · exact ⟨Nat.zero_le _, hB, hO, ⟨by simp only; omega, fun x => by simp only at x; omega⟩, hc0, by simp only; omega, S⟩
    clear S hB hO hlk hev hc0 C H
    rintro ⟨i, C, H⟩ j3 w ⟨hq2, hB, hO, hlk, hc0, hev, S⟩
    simp only at hq2 hB hO hlk hc0 hev S ⊢
    by_cases hil : i < z5.length
    · by_cases heq : z5.getD i 0 = s
      · repeat' (first | refine move_i_l S rfl rfl ?_ | refine move_s_l S rfl rfl ?_ | refine move_b_l S rfl rfl ?_ | refine nilL ?_ | refine run_seq ?_ | refine run_skip ?_ | refine run_region ?_ | refine onL rfl rfl ?_ | refine move_p_l S rfl rfl ?_ | refine len_l S rfl rfl ?_ | refine indexAddr_l S rfl rfl (idx_cast _) (by first | omega | decide | (simp; done) | (simp; omega)) rfl ?_ | (refine eql_l S rfl rfl rfl ?_ ?_ <;> intro hcmp <;> try (exfalso; first | omega | exact hcmp (by decide) | exact absurd hcmp (by decide))) | (refine lss_l S rfl rfl rfl ?_ ?_ <;> intro hcmp <;> try (exfalso; first | omega | exact hcmp (by decide) | exact absurd hcmp (by decide))) | refine loadE_i_l S rfl (by first | omega | decide | (simp; done) | (simp; omega)) rfl rfl rfl ?_ | refine run_block ?_ | refine run_cond_true rfl ?_ | refine thenQ_n ?_)
        refine callL (own_at (S.all (heapR bh ga va gc vc H) (by simp)) s ot) rfl rfl ?_
        rintro e w' ⟨rfl, hm⟩
        replace S := S.swap (r := heapR bh ga va gc vc H) (r' := heapR bh ga va gc vc (ownH H s ot)) rfl hm.2 hm.1 rfl (fun k hk => .inl hk)
        clear hm
        refine ⟨_, rfl, ?_⟩
        by_cases he : ownE H s ot = 0
        · have hlt : (tOf C ot).locked < s := by
            have hz := ownE_zeroC he
            rcases Int.lt_or_eq_of_le hlk.1 with x | x
            · exact x
            · exfalso
              apply hlk.2 x
              rw [ownerV, if_pos ⟨hz.1, hz.2.1⟩]
              exact hz.2.2.2.2
          have hcl : (ownH H s ot).clock = 0 := (own_vals H s ot).2.1.trans hc0
          have hne : ownerV (ownH H s ot) s ≠ -1 := by
            rw [owner_own, if_pos ⟨he, rfl⟩]; omega
          obtain ⟨C1, hA, he1, hB1, hO1, hlk1⟩ := base_own hB hO ⟨by omega, by omega⟩ he hlt
          repeat' (first | refine move_i_l S rfl rfl ?_ | refine move_b_l S rfl rfl ?_ | refine onL rfl rfl ?_ | refine move_p_l S rfl rfl ?_ | refine pick_tb_l S rfl rfl rfl ?_ | (refine eql_l S rfl rfl rfl ?_ ?_ <;> intro hcmp <;> try (exfalso; first | omega | exact hcmp (by decide) | exact absurd hcmp (by decide))) | (apply build7_l S; (· repeat (first | exact mapN | apply mapC_i rfl | apply mapC_b rfl | apply mapC_p rfl | apply mapC_s rfl | apply mapC_e rfl | apply mapC_a rfl | apply mapC_o rfl)); (· rfl); (· rfl)))
          refine callL (next_in S ⟨4, ot, s, 0, 0, 0⟩ (by omega) hA) rfl rfl ?_
          clear S
          rintro r w ⟨rfl, S⟩
          refine ⟨_, rfl, ?_⟩
          repeat' (first | refine move_i_l S rfl rfl ?_ | refine nilL ?_ | refine run_skip ?_ | refine run_region ?_ | refine onL rfl rfl ?_ | refine assign_i_l S rfl rfl ?_ | refine pick_tb_l S rfl rfl rfl ?_ | refine add_l S rfl rfl (wrap_in (by omega)) rfl ?_ | (refine neq_l S rfl rfl rfl ?_ ?_ <;> intro hcmp <;> try (exfalso; first | omega | exact hcmp (by decide) | exact absurd hcmp (by decide))) | refine run_cond_false rfl ?_ | refine thenQ_n ?_ | refine blockQ_n ?_)
          refine ⟨(i + 1, { C1 with events := C.events + 1 }, ownH H s ot), ?_, ⟨by simp only; omega, hB1, hO1, ⟨by simp only; rw [hlk1]; omega, fun _ => hne⟩, hcl, by simp only; omega, S⟩, by simp only; omega⟩
          simp only
          rw [Int.natCast_add]
          (repeat (first | exact agree_refl | refine agree_r rfl ?_ | refine agree_l rfl ?_ | refine agree_hv rfl ?_))
        · have eH : ownH H s ot = H := by unfold ownH; rw [if_neg he]
          rw [eH] at S
          repeat' (first | refine move_i_l S rfl rfl ?_ | refine move_b_l S rfl rfl ?_ | refine nilL ?_ | refine run_skip ?_ | refine run_region ?_ | refine onL rfl rfl ?_ | refine offL rfl rfl rfl rfl ?_ | refine assign_i_l S rfl rfl ?_ | refine pick_tb_l S rfl rfl rfl ?_ | refine pick_fb_l S rfl rfl rfl ?_ | refine add_l S rfl rfl (wrap_in (by omega)) rfl ?_ | (refine eql_l S rfl rfl rfl ?_ ?_ <;> intro hcmp <;> try (exfalso; first | omega | exact hcmp (by decide) | exact absurd hcmp (by decide))) | refine run_cond_false rfl ?_ | refine thenQ_n ?_ | refine blockQ_n ?_)
          refine ⟨(i + 1, C, H), ?_, ⟨by simp only; omega, hB, hO, hlk, hc0, by simp only; omega, S⟩, by simp only; omega⟩
          simp only
          rw [Int.natCast_add]
          (repeat (first | exact agree_refl | refine agree_r rfl ?_ | refine agree_l rfl ?_ | refine agree_hv rfl ?_))
      · repeat' (first | refine move_i_l S rfl rfl ?_ | refine move_s_l S rfl rfl ?_ | refine move_b_l S rfl rfl ?_ | refine nilL ?_ | refine run_seq ?_ | refine run_skip ?_ | refine run_region ?_ | refine offL rfl rfl rfl rfl ?_ | refine assign_i_l S rfl rfl ?_ | refine pick_fb_l S rfl rfl rfl ?_ | refine len_l S rfl rfl ?_ | refine add_l S rfl rfl (wrap_in (by omega)) rfl ?_ | refine indexAddr_l S rfl rfl (idx_cast _) (by first | omega | decide | (simp; done) | (simp; omega)) rfl ?_ | (refine eql_l S rfl rfl rfl ?_ ?_ <;> intro hcmp <;> try (exfalso; first | omega | exact hcmp (by decide) | exact absurd hcmp (by decide))) | (refine lss_l S rfl rfl rfl ?_ ?_ <;> intro hcmp <;> try (exfalso; first | omega | exact hcmp (by decide) | exact absurd hcmp (by decide))) | refine loadE_i_l S rfl (by first | omega | decide | (simp; done) | (simp; omega)) rfl rfl rfl ?_ | refine run_block ?_ | refine run_cond_true rfl ?_ | refine run_cond_false rfl ?_ | refine thenQ_n ?_ | refine blockQ_n ?_)
        refine ⟨(i + 1, C, H), ?_, ⟨by simp only; omega, hB, hO, hlk, hc0, by simp only; omega, S⟩, by simp only; omega⟩
        simp only
        rw [Int.natCast_add]
        (repeat (first | exact agree_refl | refine agree_r rfl ?_ | refine agree_l rfl ?_ | refine agree_hv rfl ?_))
    · repeat' (first | refine move_i_l S rfl rfl ?_ | refine move_s_l S rfl rfl ?_ | refine nilL ?_ | refine run_seq ?_ | refine run_region ?_ | refine assign_i_l S rfl rfl ?_ | refine len_l S rfl rfl ?_ | refine add_l S rfl rfl (wrap_in (by omega)) rfl ?_ | (refine lss_l S rfl rfl rfl ?_ ?_ <;> intro hcmp <;> try (exfalso; first | omega | exact hcmp (by decide) | exact absurd hcmp (by decide))) | refine run_exit ?_ | refine run_cond_false rfl ?_ | refine thenQ_n ?_ | refine thenQ_e ?_ | refine blockQ_n ?_ | refine blockQ_s rfl ?_)
      refine ⟨(s + 1, C, H), ?_, ⟨by simp only; omega, hB, hO, by simp only; omega, hc0, by simp only; omega, S⟩, by simp only; omega⟩
      simp only
      rw [Int.natCast_add]
      (repeat (first | exact agree_refl | refine agree_r rfl ?_ | refine agree_l rfl ?_ | refine agree_hv rfl ?_))
  repeat' (first | refine move_i_l S rfl rfl ?_ | refine nilL ?_ | refine run_seq ?_ | refine run_region (id := 21) ?_ | (refine lss_l S rfl rfl rfl ?_ ?_ <;> intro hcmp <;> try (exfalso; first | omega | exact hcmp (by decide) | exact absurd hcmp (by decide))) | refine run_exit ?_ | refine run_cond_false rfl ?_ | refine thenQ_n ?_ | refine thenQ_e ?_ | refine blockQ_s rfl ?_)
  clear hsl
  have h32 := hB.n32
  have hlen : H.locks.length ≤ 1000 := by rw [hB.ok.locks]; omega
  have hlim0 := hB.ok.lim
  refine run_cut_b [29, 30, 173, 174, 175, 176, 177, 178, 179, 180, 181, 182, 183, 184, 185, 186, 187, 188, 189, 190, 191, 192, 193, 194, 195, 196, 197, 198, 199, 200, 201, 202, 203, 204, 205] (fun (x : ShS × HeapS) t => t) (fun x w' => Base z1.length st a3 tn ot x.1 hs x.2 ∧ (0 ≤ x.1.events ∧ x.1.events ≤ 5000) ∧ Sat (fun _ => False) w0 w' [shR bk (some ⟨tb, 0, none⟩) sa 6 sc x.1, gR nm aF cF, tabR, setR bs 0 st hs, heapR bh ga va gc vc x.2, slL a1 cap1 1 encI 0 z1, slL a5 cap5 1 encI 0 z5, slL a6 cap6 1 encI 0 z6, slL a7 cap7 2 encP (0, 0) z7]) ?_ ?_
  · repeat' (first | refine move_i_l S rfl rfl ?_ | refine move_b_l S rfl rfl ?_ | refine nilL ?_ | refine run_skip ?_ | refine run_region ?_ | refine onL rfl rfl ?_ | refine offL rfl rfl rfl rfl ?_ | refine move_p_l S rfl rfl ?_ | refine pick_fb_l S rfl rfl rfl ?_ | (refine eql_l S rfl rfl rfl ?_ ?_ <;> intro hcmp <;> try (exfalso; first | omega | exact hcmp (by decide) | exact absurd hcmp (by decide))) | refine rem_l S rfl rfl (by omega) rfl rfl ?_ | refine run_cond_false rfl ?_ | refine thenQ_n ?_)
    · (refine callL (sopen_at S.got1 ot (by rw [hB.ths]; omega)) rfl rfl ?_; rintro e w ⟨rfl, hb⟩; replace S := S.below hb; clear hb; refine ⟨_, rfl, ?_⟩)
      have hop : (thV C ot).at_ ≠ 0 ∧ (thV C ot).at_ ≠ 9 := by
        have hx : thV C ot = tOf C ot := rfl
        rw [hx]
        rcases hO.ph with x | x <;> (rw [x.1]; decide)
      rw [decide_eq_true hop]
      repeat' (first | refine nilL ?_ | refine run_seq ?_ | refine run_region ?_ | refine move_p_l S rfl rfl ?_ | refine pick_tb_l S rfl rfl rfl ?_ | refine run_cond_true rfl ?_ | refine thenQ_n ?_)
      refine callL (bump_at (S.all (heapR bh ga va gc vc H) (by simp)) ⟨by omega, by omega⟩) rfl rfl ?_
      rintro e w' ⟨rfl, hm⟩
      replace S := S.swap (r := heapR bh ga va gc vc H) (r' := heapR bh ga va gc vc (bumpH H)) rfl hm.2 hm.1 rfl (fun k hk => .inl hk)
      clear hm
      refine ⟨_, rfl, ?_⟩
      by_cases hbl : H.limit ≤ H.clock
      · rw [show bumpN H = 0 from if_pos hbl, show bumpE H = 41 from if_pos hbl]
        rw [show bumpH H = H from if_pos hbl] at S
        repeat' (first | refine move_i_l S rfl rfl ?_ | refine move_b_l S rfl rfl ?_ | refine nilL ?_ | refine run_seq ?_ | refine run_skip ?_ | refine run_region ?_ | refine offL rfl rfl rfl rfl ?_ | refine assign_i_l S rfl rfl ?_ | refine pick_fb_l S rfl rfl rfl ?_ | (refine eql_l S rfl rfl rfl ?_ ?_ <;> intro hcmp <;> try (exfalso; first | omega | exact hcmp (by decide) | exact absurd hcmp (by decide))) | refine extract_i_l S rfl rfl rfl ?_ | refine move_o_l S rfl rfl ?_ | refine run_cond_false rfl ?_ | refine thenQ_n ?_)
        exact midQ_n (C, H) (by (repeat (first | exact agree_refl | refine agree_r rfl ?_ | refine agree_l rfl ?_))) ⟨hB, by simp only; omega, S⟩
      rw [show bumpN H = H.clock + 1 from if_neg hbl, show bumpE H = 0 from if_neg hbl]
      have hanyb : anyB (bumpH H) = anyB H := by unfold anyB; rw [(bump_vals H).2.1]
      have hlenb : (bumpH H).locks.length ≤ 1000 := by rw [(bump_vals H).2.1]; exact hlen
      repeat' (first | refine move_i_l S rfl rfl ?_ | refine move_b_l S rfl rfl ?_ | refine nilL ?_ | refine run_seq ?_ | refine run_region ?_ | refine onL rfl rfl ?_ | refine move_p_l S rfl rfl ?_ | refine assign_i_l S rfl rfl ?_ | (refine eql_l S rfl rfl rfl ?_ ?_ <;> intro hcmp <;> try (exfalso; first | omega | exact hcmp (by decide) | exact absurd hcmp (by decide))) | refine extract_i_l S rfl rfl rfl ?_ | (apply build7_l S; (· repeat (first | exact mapN | apply mapC_i rfl | apply mapC_b rfl | apply mapC_p rfl | apply mapC_s rfl | apply mapC_e rfl | apply mapC_a rfl | apply mapC_o rfl)); (· rfl); (· rfl)) | refine move_o_l S rfl rfl ?_ | refine thenQ_n ?_)
      by_cases ha : anyB H = true
      · obtain ⟨C1, hA, he1, hB1⟩ := base_bump hB hO hbl (by omega) ha
        refine callL (next_in S ⟨5, ot, 0, H.clock + 1, 0, 0⟩ (by omega) hA) rfl rfl ?_
        clear S
        rintro r w ⟨rfl, S⟩
        refine ⟨_, rfl, ?_⟩
        repeat' (first | refine onL rfl rfl ?_ | refine move_p_l S rfl rfl ?_ | (refine eql_l S rfl rfl rfl ?_ ?_ <;> intro hcmp <;> try (exfalso; first | omega | exact hcmp (by decide) | exact absurd hcmp (by decide))))
        (refine callL (any_owned (S.all (heapR bh ga va gc vc (bumpH H)) (by simp)) hlenb) rfl rfl ?_; rintro e w ⟨rfl, hb⟩; replace S := S.below hb; clear hb; refine ⟨_, rfl, ?_⟩)
        rw [hanyb, ha]
        repeat' (first | refine move_i_l S rfl rfl ?_ | refine move_b_l S rfl rfl ?_ | refine nilL ?_ | refine run_seq ?_ | refine run_skip ?_ | refine run_region ?_ | refine onL rfl rfl ?_ | refine move_p_l S rfl rfl ?_ | refine pick_tb_l S rfl rfl rfl ?_ | (refine eql_l S rfl rfl rfl ?_ ?_ <;> intro hcmp <;> try (exfalso; first | omega | exact hcmp (by decide) | exact absurd hcmp (by decide))) | refine neqB_l S rfl rfl rfl ?_ | refine run_cond_false rfl ?_ | refine thenQ_n ?_)
        (refine callL (any_owned (S.all (heapR bh ga va gc vc (bumpH H)) (by simp)) hlenb) rfl rfl ?_; rintro e w ⟨rfl, hb⟩; replace S := S.below hb; clear hb; refine ⟨_, rfl, ?_⟩)
        rw [hanyb, ha]
        repeat' (first | refine nilL ?_ | refine run_skip ?_ | refine onL rfl rfl ?_ | refine pick_tb_l S rfl rfl rfl ?_ | refine not_l S rfl rfl ?_ | refine run_cond_false rfl ?_ | refine thenQ_n ?_)
        exact midQ_n ({ C1 with events := C.events + 1 }, bumpH H) (by (repeat (first | exact agree_refl | refine agree_r rfl ?_ | refine agree_l rfl ?_))) ⟨hB1, by simp only; omega, S⟩
      · replace ha : anyB H = false := by simpa using ha
        have hmay := hB.may
        refine callL (next_in_no S ⟨5, ot, 0, H.clock + 1, 0, 0⟩ (by omega) hB.ths (may_bump hmay.1 hmay.2.1 ⟨by omega, by omega⟩ (by omega)) rfl (base_no hB hO ha)) rfl rfl ?_
        clear S
        rintro r w ⟨rfl, S⟩
        refine ⟨_, rfl, ?_⟩
        repeat' (first | refine onL rfl rfl ?_ | refine move_p_l S rfl rfl ?_ | (refine eql_l S rfl rfl rfl ?_ ?_ <;> intro hcmp <;> try (exfalso; first | omega | exact hcmp (by decide) | exact absurd hcmp (by decide))))
        (refine callL (any_owned (S.all (heapR bh ga va gc vc (bumpH H)) (by simp)) hlenb) rfl rfl ?_; rintro e w ⟨rfl, hb⟩; replace S := S.below hb; clear hb; refine ⟨_, rfl, ?_⟩)
        rw [hanyb, ha]
        repeat' (first | refine move_i_l S rfl rfl ?_ | refine move_b_l S rfl rfl ?_ | refine nilL ?_ | refine run_seq ?_ | refine run_skip ?_ | refine run_region ?_ | refine onL rfl rfl ?_ | refine move_p_l S rfl rfl ?_ | refine pick_tb_l S rfl rfl rfl ?_ | (refine eql_l S rfl rfl rfl ?_ ?_ <;> intro hcmp <;> try (exfalso; first | omega | exact hcmp (by decide) | exact absurd hcmp (by decide))) | refine neqB_l S rfl rfl rfl ?_ | refine run_cond_false rfl ?_ | refine thenQ_n ?_)
        (refine callL (any_owned (S.all (heapR bh ga va gc vc (bumpH H)) (by simp)) hlenb) rfl rfl ?_; rintro e w ⟨rfl, hb⟩; replace S := S.below hb; clear hb; refine ⟨_, rfl, ?_⟩)
        rw [hanyb, ha]
        repeat' (first | refine nilL ?_ | refine run_seq ?_ | refine run_region ?_ | refine onL rfl rfl ?_ | refine pick_tb_l S rfl rfl rfl ?_ | refine assign_b_l S rfl rfl ?_ | refine not_l S rfl rfl ?_ | refine run_ret ?_ | refine run_cond_true rfl ?_ | refine thenQ_n ?_)
        refine midQ_r ?_
        repeat' (first | refine ret1_b rfl ?_)
        exact ⟨rfl, S.chg.below⟩
    · exact midQ_n (C, H) (by (repeat (first | exact agree_refl | refine agree_r rfl ?_ | refine agree_l rfl ?_))) ⟨hB, by simp only; omega, S⟩
  clear S hB hO hlk hev hc0 hlen hlim0 h32 C H
  rintro ⟨C, H⟩ j4 w ⟨hB, hev, S⟩
  simp only at hB hev S ⊢
  have h32 := hB.n32
  repeat' (first | refine move_i_l S rfl rfl ?_ | refine move_s_l S rfl rfl ?_ | refine run_seq ?_ | refine run_region ?_ | refine move_p_l S rfl rfl ?_)
  refine callL (cnew_at (S.all (setR bs 0 st hs) (by simp)) (S.all (slL a7 cap7 2 encP (0, 0) z7) (by simp)) tn (by omega)) rfl rfl ?_
  rintro e w2 ⟨p, n, rfl, hp, hb2⟩
  rcases hp with ⟨hok, rfl, bc, A, rfl, h1, h2⟩ | ⟨hok, rfl, rfl⟩
  rotate_left
  · replace S := S.below hb2
    refine ⟨_, rfl, ?_⟩
    repeat' (first | refine move_i_l S rfl rfl ?_ | refine nilL ?_ | refine run_seq ?_ | refine run_region ?_ | refine assign_i_l S rfl rfl ?_ | refine assign_b_l S rfl rfl ?_ | (refine neq_l S rfl rfl rfl ?_ ?_ <;> intro hcmp <;> try (exfalso; first | omega | exact hcmp (by decide) | exact absurd hcmp (by decide))) | refine extract_i_l S rfl rfl rfl ?_ | refine extract_p_l S rfl rfl rfl ?_ | refine assign_p_l S rfl rfl ?_ | refine move_o_l S rfl rfl ?_ | refine run_ret ?_ | refine run_cond_true rfl ?_ | refine thenQ_n ?_ | refine thenQ_r ?_ | refine ret1_b rfl ?_)
    exact ⟨rfl, S.chg.below⟩
  replace S := S.fresh (r := cmR bc A (newC tn 0 st hs z7)) hb2 h1 h2
  clear hb2 h1 h2
  refine ⟨_, rfl, ?_⟩
  repeat' (first | refine move_i_l S rfl rfl ?_ | refine nilL ?_ | refine run_seq ?_ | refine run_skip ?_ | refine run_region ?_ | refine move_p_l S rfl rfl ?_ | refine assign_i_l S rfl rfl ?_ | (refine neq_l S rfl rfl rfl ?_ ?_ <;> intro hcmp <;> try (exfalso; first | omega | exact hcmp (by decide) | exact absurd hcmp (by decide))) | refine extract_i_l S rfl rfl rfl ?_ | refine extract_p_l S rfl rfl rfl ?_ | refine assign_p_l S rfl rfl ?_ | refine move_o_l S rfl rfl ?_ | refine run_cond_false rfl ?_ | refine thenQ_n ?_)
  obtain ⟨Sf, hacc, law⟩ := row_law hB (by omega) hok
  have hI : InvC (newC tn 0 st hs z7) H := InvC.new (by rw [hB.ok.locks]; omega) hok
  replace S := S.perm (L' := [cmR bc A (newC tn 0 st hs z7), heapR bh ga va gc vc H, shR bk (some ⟨tb, 0, none⟩) sa 6 sc C, gR nm aF cF, tabR, setR bs 0 st hs, slL a1 cap1 1 encI 0 z1, slL a5 cap5 1 encI 0 z5, slL a6 cap6 1 encI 0 z6, slL a7 cap7 2 encP (0, 0) z7]) (List.Perm.cons _ (List.Perm.symm (List.perm_middle (l₁ := [shR bk (some ⟨tb, 0, none⟩) sa 6 sc C, gR nm aF cF, tabR, setR bs 0 st hs]))))
  refine callL (run_at2 S.begin2 hI hB.ok (by omega) (by omega)) rfl rfl ?_
  rintro e w' ⟨ra, rc, A', rfl, _, hS⟩
  replace S := S.both3 hS rfl rfl rfl rfl rfl
  clear hS
  have hal : (allI st hs).length ≤ 32 := allI_len _ _
  obtain ⟨R, hR⟩ : ∃ R, runF 200 (newC tn 0 st hs z7) H = R := ⟨_, rfl⟩
  rw [hR] at S law hacc ⊢
  clear hR
  obtain ⟨evs, kb, C', H'⟩ := R
  simp only at law S hacc ⊢
  refine ⟨_, rfl, ?_⟩
  have hevs : evs.length ≤ 200 := by
    rcases law with ⟨_, x⟩ | ⟨_, x, _⟩
    · rw [x]; exact Nat.zero_le _
    · omega
  replace S := (S.sub (L' := [rowL ra rc 39 7 encE evD evs, shR bk (some ⟨tb, 0, none⟩) sa 6 sc C, gR nm aF cF, tabR, setR bs 0 st hs, slL a1 cap1 1 encI 0 z1, slL a5 cap5 1 encI 0 z5, slL a6 cap6 1 encI 0 z6, slL a7 cap7 2 encP (0, 0) z7])).perm (L' := [shR bk (some ⟨tb, 0, none⟩) sa 6 sc C, gR nm aF cF, tabR, rowL ra rc 39 7 encE evD evs, setR bs 0 st hs, slL a1 cap1 1 encI 0 z1, slL a5 cap5 1 encI 0 z5, slL a6 cap6 1 encI 0 z6, slL a7 cap7 2 encP (0, 0) z7]) (List.perm_middle (l₁ := [shR bk (some ⟨tb, 0, none⟩) sa 6 sc C, gR nm aF cF, tabR]))
  repeat' (first | refine nilL ?_ | refine run_seq ?_ | refine run_region ?_ | refine assign_i_l S rfl rfl ?_ | refine assign_b_l S rfl rfl ?_ | refine extract_s_l S rfl rfl rfl ?_ | refine extract_b_l S rfl rfl rfl ?_ | refine assign_s_l S rfl rfl ?_ | refine move_o_l S rfl rfl ?_ | refine run_block ?_ | refine thenQ_n ?_)
  refine run_while [16, 221, 222, 223, 224, 225, 226, 227, 228, 229, 230, 231, 232, 233] (fun (x : Nat × ShS) t => upd t 35 (.int .i64 x.1)) (fun x w' => x.1 ≤ evs.length ∧ AccL x.2 (evs.drop x.1) Sf ∧ (0 ≤ x.2.events ∧ x.2.events ≤ 5000 + x.1) ∧ Sat (fun _ => False) w0 w' [shR bk (some ⟨tb, 0, none⟩) sa 6 sc x.2, gR nm aF cF, tabR, rowL ra rc 39 7 encE evD evs, setR bs 0 st hs, slL a1 cap1 1 encI 0 z1, slL a5 cap5 1 encI 0 z5, slL a6 cap6 1 encI 0 z6, slL a7 cap7 2 encP (0, 0) z7]) (fun x => evs.length - x.1) (0, C) ?_ ?_ ?_
  · (repeat (first | exact agree_refl | refine agree_r rfl ?_))
  · exact ⟨Nat.zero_le _, hacc, by simp only; omega, S⟩
  clear S hacc hev hB hI C
  rintro ⟨k, C⟩ j5 w ⟨hk, hacc, hev, S⟩
  simp only at hk hacc hev S ⊢
  by_cases hkl : k < evs.length
  · rw [drop_consD (d := evD) hkl] at hacc
    obtain ⟨S1, hA, hacc2⟩ := hacc
    repeat' (first | refine move_i_l S rfl rfl ?_ | refine move_s_l S rfl rfl ?_ | refine nilL ?_ | refine run_seq ?_ | refine run_skip ?_ | refine run_region ?_ | refine move_p_l S rfl rfl ?_ | refine len_l S rfl rfl ?_ | refine indexAddr_l S rfl rfl (idx_cast _) (by first | omega | decide | (simp; done) | (simp; omega)) rfl ?_ | (refine lss_l S rfl rfl rfl ?_ ?_ <;> intro hcmp <;> try (exfalso; first | omega | exact hcmp (by decide) | exact absurd hcmp (by decide))) | refine loadEN_l S rfl (by first | omega | decide | (simp; done) | (simp; omega)) rfl rfl ?_ | refine run_block ?_ | refine run_cond_true rfl ?_ | refine thenQ_n ?_)
    refine callL (next_in S (evs.getD k evD) (by omega) hA) rfl rfl ?_
    clear S
    rintro r w ⟨rfl, S⟩
    refine ⟨_, rfl, ?_⟩
    repeat' (first | refine move_i_l S rfl rfl ?_ | refine nilL ?_ | refine run_skip ?_ | refine run_region ?_ | refine assign_i_l S rfl rfl ?_ | refine add_l S rfl rfl (wrap_in (by omega)) rfl ?_ | (refine neq_l S rfl rfl rfl ?_ ?_ <;> intro hcmp <;> try (exfalso; first | omega | exact hcmp (by decide) | exact absurd hcmp (by decide))) | refine run_cond_false rfl ?_ | refine thenQ_n ?_ | refine blockQ_n ?_)
    refine ⟨(k + 1, { S1 with events := C.events + 1 }), ?_, ⟨by simp only; omega, hacc2, by simp only; omega, S⟩, by simp only; omega⟩
    simp only
    rw [Int.natCast_add]
    (repeat (first | exact agree_refl | refine agree_r rfl ?_ | refine agree_l rfl ?_ | refine agree_hv rfl ?_))
  · rw [List.drop_of_length_le (by omega)] at hacc
    obtain rfl : Sf = C := hacc
    rcases law with ⟨rfl, rfl⟩ | ⟨rfl, x1, x2, x3⟩
    · repeat' (first | refine move_i_l S rfl rfl ?_ | refine move_s_l S rfl rfl ?_ | refine move_b_l S rfl rfl ?_ | refine nilL ?_ | refine run_seq ?_ | refine run_region ?_ | refine onL rfl rfl ?_ | refine offL rfl rfl rfl rfl ?_ | refine offLU rfl rfl rfl ?_ | refine pick_tb_l S rfl rfl rfl ?_ | refine assign_b_l S rfl rfl ?_ | refine len_l S rfl rfl ?_ | (refine eql_l S rfl rfl rfl ?_ ?_ <;> intro hcmp <;> try (exfalso; first | omega | exact hcmp (by decide) | exact absurd hcmp (by decide))) | (refine lss_l S rfl rfl rfl ?_ ?_ <;> intro hcmp <;> try (exfalso; first | omega | exact hcmp (by decide) | exact absurd hcmp (by decide))) | refine not_l S rfl rfl ?_ | refine run_ret ?_ | refine run_exit ?_ | refine run_cond_false rfl ?_ | refine thenQ_n ?_ | refine thenQ_e ?_ | refine blockQ_s rfl ?_ | refine ret1_b rfl ?_)
      exact ⟨rfl, S.chg.below⟩
    · repeat' (first | refine move_i_l S rfl rfl ?_ | refine move_s_l S rfl rfl ?_ | refine move_b_l S rfl rfl ?_ | refine nilL ?_ | refine run_seq ?_ | refine run_region ?_ | refine onL rfl rfl ?_ | refine offL rfl rfl rfl rfl ?_ | refine move_p_l S rfl rfl ?_ | refine pick_fb_l S rfl rfl rfl ?_ | refine len_l S rfl rfl ?_ | (refine lss_l S rfl rfl rfl ?_ ?_ <;> intro hcmp <;> try (exfalso; first | omega | exact hcmp (by decide) | exact absurd hcmp (by decide))) | refine not_l S rfl rfl ?_ | refine run_exit ?_ | refine run_cond_false rfl ?_ | refine thenQ_n ?_ | refine thenQ_e ?_ | refine blockQ_s rfl ?_)
      (refine callL (sopen_at S.got1 tn (by rw [x3]; omega)) rfl rfl ?_; rintro e w ⟨rfl, hb⟩; replace S := S.below hb; clear hb; refine ⟨_, rfl, ?_⟩)
      have hop : ¬ ((thV Sf tn).at_ ≠ 0 ∧ (thV Sf tn).at_ ≠ 9) := by
        have hx : thV Sf tn = tOf Sf tn := rfl
        rw [hx]
        rintro ⟨y1, y2⟩
        exact x2.elim y1 y2
      rw [decide_eq_false hop]
      repeat' (first | refine move_i_l S rfl rfl ?_ | refine move_s_l S rfl rfl ?_ | refine move_b_l S rfl rfl ?_ | refine onL rfl rfl ?_ | refine move_p_l S rfl rfl ?_ | refine pick_tb_l S rfl rfl rfl ?_ | refine len_l S rfl rfl ?_ | refine add_l S rfl rfl (wrap_in (by omega)) rfl ?_ | refine not_l S rfl rfl ?_ | refine mul_l S rfl rfl (wrap_in (by omega)) rfl ?_)
      refine callL (all_e (S.all (setR bs 0 st hs) (by simp))) rfl rfl ?_
      rintro e w' ⟨_, rfl, ⟨aa, ac, rfl, hh, hf⟩, hb2⟩
      replace S := Sat.freshRow S hb2 hh hf
      clear hb2 hh hf
      refine ⟨_, rfl, ?_⟩
      repeat' (first | refine nilL ?_ | refine onL rfl rfl ?_ | refine pick_tb_l S rfl rfl rfl ?_ | refine pick_fb_l S rfl rfl rfl ?_ | refine assign_b_l S rfl rfl ?_ | refine len_l S rfl rfl ?_ | refine add_l S rfl rfl (wrap_in (by omega)) rfl ?_ | (refine leq_l S rfl rfl rfl ?_ ?_ <;> intro hcmp <;> try (exfalso; first | omega | exact hcmp (by decide) | exact absurd hcmp (by decide))) | refine run_ret ?_ | refine thenQ_n ?_ | refine ret1_b rfl ?_)
      exact ⟨rfl, S.chg.below⟩
end Go.Proofs.YtpiodhdbdlfnhaaGreatDoor
namespace Go.Proofs.YtpiodhdbdlfnhaaGreatDoor
open Go.ChangeShapes Go.WideShapes Go.ChangeAt Go.RowKit
set_option linter.unusedVariables false
set_option maxRecDepth 100000
abbrev laidL : List (String × DataW Unit) := [("math/bits.deBruijn32tab", Rows.laid_math_bits_deBruijn32tab), ("seesaw/event.kinds", Rows.laid_seesaw_event_kinds)]
theorem gKinds : Tryz.prog.globalNamed "seesaw/event.kinds" = some 0 := by kernel_rfl
theorem gTab : Tryz.prog.globalNamed "math/bits.deBruijn32tab" = some 1 := by kernel_rfl
theorem tKinds : (Tryz.prog.globals[0]?).map (·.type) = some 131 := by kernel_rfl
theorem tTab : (Tryz.prog.globals[1]?).map (·.type) = some 140 := by kernel_rfl
theorem two_at {l : List Value} {k : Nat} {c0 c1 : Value} (h : (l.drop k).take 2 = [c0, c1]) : l[k]? = some c0 ∧ l[k + 1]? = some c1 := by
  have h0 : ((l.drop k).take 2)[0]? = some c0 := by rw [h]; rfl
  have h1 : ((l.drop k).take 2)[1]? = some c1 := by rw [h]; rfl
  rw [List.getElem?_take, if_pos (by omega), List.getElem?_drop] at h0 h1
  exact ⟨h0, h1⟩
theorem one_at {l : List Value} {k : Nat} {c : Value} (h : (l.drop k).take 1 = [c]) : l[k]? = some c := by
  have h0 : ((l.drop k).take 1)[0]? = some c := by rw [h]; rfl
  rw [List.getElem?_take, if_pos (by omega), List.getElem?_drop] at h0
  exact h0
theorem tab_of {W : World} (h : laidMetH Tryz.prog laidL W) : tabR.holds W := by
  have h2 := h.filter (fun x => x.1 == "math/bits.deBruijn32tab")
  have e : laidL.filter (fun x => x.1 == "math/bits.deBruijn32tab") = [("math/bits.deBruijn32tab", Rows.laid_math_bits_deBruijn32tab)] := by kernel_rfl
  rw [e, MakeChecks.laidMetH_plain _ _ _ (by kernel_rfl)] at h2
  obtain ⟨ps, ⟨g0, t0, cs0, f0, p0, q0, hg0, ht0, hv0, hd0, _, _⟩, _, _⟩ := h2
  obtain rfl := Option.some.inj (gTab.symm.trans hg0)
  obtain rfl := Option.some.inj (tTab.symm.trans ht0)
  obtain ⟨xs, m, _, hx, hl, hn, hel⟩ := DataW.trod_array Tryz.underlying140 hd0
  have hmap : xs.map (·.1) = deB.map fun z => (.lit (.int .u8 z)) := by
    have := congrArg Prod.fst hx
    exact (DataW.agg.inj this).symm
  have c5 : Tryz.prog.cellsOf 5 = 1 := by kernel_rfl
  refine ⟨by decide, Nat.le_refl _, by unfold maxLen; omega, (fun e => by cases e), .inr ⟨_, 0, rfl, fun i hi j hj => ?_⟩⟩
  have hi32 : i < 32 := hi
  obtain rfl : j = 0 := by omega
  have hE := hel i hi32
  rw [c5, Nat.mul_one] at hE
  have hxi : i < xs.length := by omega
  rw [List.getElem?_eq_getElem hxi] at hE
  obtain ⟨k, e1, e2, _⟩ := DataW.trod_int Tryz.underlying5 hE
  have hfst : (xs.map (·.1))[i]? = some (.lit (.int .u8 k)) := by
    rw [List.getElem?_map, List.getElem?_eq_getElem hxi, e2]; rfl
  rw [hmap, List.getElem?_map, List.getElem?_eq_getElem hi] at hfst
  simp only [Option.map_some, Option.some.injEq, DataW.lit.injEq, Lit.int.injEq, true_and] at hfst
  have hc := one_at e1
  have hcell := World.var?_cell hg0 hv0 i
  show W.cell? ⟨_, 0 + (i * 1 + 0), none⟩ = some (.int .u8 (deB.getD i 0))
  rw [show 0 + (i * 1 + 0) = i by omega, hcell, List.getD_eq_getElem?_getD, List.getElem?_eq_getElem hi]
  simp only [Option.getD_some]
  rw [hfst, ← hc]
  simp
def nmB (j : Nat) : List UInt8 := match j with
  | 2 => [40, 42, 115, 101, 101, 115, 97, 119, 47, 101, 118, 101, 110, 116, 46, 119, 104, 111, 108, 101, 41, 46, 116, 120]
  | 3 => [40, 42, 115, 101, 101, 115, 97, 119, 47, 101, 118, 101, 110, 116, 46, 119, 104, 111, 108, 101, 41, 46, 97, 116]
  | 4 => [40, 42, 115, 101, 101, 115, 97, 119, 47, 101, 118, 101, 110, 116, 46, 119, 104, 111, 108, 101, 41, 46, 118]
  | 5 => [40, 42, 115, 101, 101, 115, 97, 119, 47, 101, 118, 101, 110, 116, 46, 119, 104, 111, 108, 101, 41, 46, 120]
  | _ => [40, 42, 115, 101, 101, 115, 97, 119, 47, 101, 118, 101, 110, 116, 46, 119, 104, 111, 108, 101, 41, 46, 119, 104, 121]
theorem fn_of {W : World} {n : Nat} {v : Value} {q : List MemPlace} {j : Nat} (hj : 2 ≤ j ∧ j ≤ 6) (h : DataW.trod (funcToken Tryz.prog) Tryz.prog W 0 (fun _ => true) true n 133 [v] = some (.held (nmB j), q)) : v = .func (.func (fnV j)) #[] #[] := by
  have hh : j = 2 ∨ j = 3 ∨ j = 4 ∨ j = 5 ∨ j = 6 := by omega
  rcases hh with rfl | rfl | rfl | rfl | rfl
  · exact func_of_trod (f0 := 138) Tryz.underlying133 (by kernel_rfl) h
  · exact func_of_trod (f0 := 135) Tryz.underlying133 (by kernel_rfl) h
  · exact func_of_trod (f0 := 139) Tryz.underlying133 (by kernel_rfl) h
  · exact func_of_trod (f0 := 140) Tryz.underlying133 (by kernel_rfl) h
  · exact func_of_trod (f0 := 141) Tryz.underlying133 (by kernel_rfl) h
/-- One kind's row: its slice of functions. -/
theorem row_of {W : World} {m : Nat} {c : Value} {js : List Nat} {q : List MemPlace} (hjs : ∀ j ∈ js, 2 ≤ j ∧ j ≤ 6) (hne : js ≠ [])
    (h : DataW.trod (funcToken Tryz.prog) Tryz.prog W 0 (fun _ => true) true m 129 [c] = some (.slice (js.map fun j => .held (nmB j)) [], q)) : ∃ a cap, c = .slice a js.length cap ∧ SlOk W a js.length cap 1 (gL encF 0 js) := by
  have c133 : Tryz.prog.cellsOf 133 = 1 := by kernel_rfl
  have hcap : ∃ a len cap, c = .slice (some a) len cap ∧ cap ≤ maxLen := by
    rcases DataW.trod_slice Tryz.underlying129 h with ⟨_, hx⟩ | ⟨a, len, cap, elems, rest, n, _, hcs, hx, _, hl, hm, _⟩
    · simp at hx
    · exact ⟨a, len, cap, by simpa using hcs, hm⟩
  obtain ⟨a, cap, hcs, hle, hel⟩ := open_row Tryz.underlying129 c133 h
  obtain ⟨a2, len2, cap2, e2, hm⟩ := hcap
  have hc : c = .slice (some a) (js.map fun j => (DataW.held (nmB j) : DataW (List UInt8))).length cap := by simpa using hcs
  rw [List.length_map] at hc hle
  have hcc : cap2 = cap := by
    rw [hc] at e2
    cases e2
    rfl
  subst hcc
  refine ⟨some a, cap2, hc, Nat.one_pos, hle, hm, (fun e => by cases e), .inr ?_⟩
  have hcell : ∀ i, i < js.length → W.cell? (a.add i) = some (.func (.func (fnV (js.getD i 0))) #[] #[]) := fun i hi => by
    obtain ⟨v, n, q', hv, hr⟩ := hel i (.held (nmB (js.getD i 0))) (by rw [List.getElem?_map, List.getElem?_eq_getElem hi, List.getD_eq_getElem?_getD, List.getElem?_eq_getElem hi]; rfl)
    rw [hv, fn_of (hjs _ (by rw [List.getD_eq_getElem?_getD, List.getElem?_eq_getElem hi]; exact List.getElem_mem hi)) hr]
  have h0 := hcell 0 (by cases js with
    | nil => exact absurd rfl hne
    | cons _ _ => exact Nat.zero_lt_succ _)
  obtain ⟨b, off, spot⟩ := a
  have hspot : spot = none := by simpa [Addr.add] using World.cell?_spot h0
  subst hspot
  refine ⟨b, off, rfl, fun i hi j hj => ?_⟩
  obtain rfl : j = 0 := by omega
  have := hcell i hi
  show W.cell? ⟨b, off + (i * 1 + 0), none⟩ = some (.func (.func (fnV (js.getD i 0))) #[] #[])
  rw [show off + (i * 1 + 0) = off + i by omega]
  rcases Nat.eq_zero_or_pos i with rfl | h0
  · simpa [Addr.add] using this
  · simpa [Addr.add, Nat.ne_of_gt h0] using this
/-- A kind's data: a name, and its parts. -/
def hasD (js : List Nat) : DataW (List UInt8) := match js with | [] => .nil | _ => .slice (js.map fun j => .held (nmB j)) []
def kData (s : List UInt8) (js : List Nat) : DataW (List UInt8) := .agg [.lit (.string s), hasD js]
theorem kind_of {W : World} {m : Nat} {cs : List Value} {js : List Nat} {s : List UInt8} {q : List MemPlace} (hjs : ∀ j ∈ js, 2 ≤ j ∧ j ≤ 6)
    (h : DataW.trod (funcToken Tryz.prog) Tryz.prog W 0 (fun _ => true) true m 130 cs = some (kData s js, q)) : ∃ c0 a cap, cs = [c0, .slice a js.length cap] ∧ SlOk W a js.length cap 1 (gL encF 0 js) := by
  obtain ⟨y0, y1, n, hx, hl, h0, h1⟩ := trod_struct2 Tryz.underlying130 h
  have c130 : Tryz.prog.cellsOf 130 = 2 := by kernel_rfl
  have c129 : Tryz.prog.cellsOf 129 = 1 := by kernel_rfl
  rw [c130] at hl
  match cs, hl with
  | [c0, c1], _ =>
    have h1' : DataW.trod (funcToken Tryz.prog) Tryz.prog W 0 (fun _ => true) true n 129 (([c0, c1].drop 1).take (Tryz.prog.cellsOf 129)) = some y1 := h1
    rw [c129] at h1'
    have h1' : DataW.trod (funcToken Tryz.prog) Tryz.prog W 0 (fun _ => true) true n 129 [c1] = some y1 := h1'
    have hy : y1.1 = hasD js := by
      have := congrArg Prod.fst hx
      unfold kData at this
      simp only [DataW.agg.injEq, List.cons.injEq, and_true] at this
      exact this.2.symm
    obtain ⟨d, q1⟩ := y1
    simp only at hy
    subst hy
    cases js with
    | nil =>
      rcases DataW.trod_slice Tryz.underlying129 h1' with ⟨hcs, _⟩ | ⟨a, len, cap, elems, rest, n, _, hcs, hx2, _⟩
      · obtain rfl : c1 = .slice none 0 0 := by simpa using hcs
        exact ⟨c0, none, 0, rfl, Nat.one_pos, Nat.le_refl _, Nat.zero_le _, fun _ => rfl, .inl rfl⟩
      · simp [hasD] at hx2
    | cons j r =>
      obtain ⟨a, cap, rfl, hs⟩ := row_of hjs (by simp) h1'
      exact ⟨c0, a, cap, rfl, hs⟩
theorem kinds_of {W : World} (h : laidMetH Tryz.prog laidL W) : ∃ nm aF cF, (gR nm aF cF).holds W := by
  obtain ⟨g, t, cs, fuel, p, hg, ht, hv, hd⟩ := h.funcs (n := "seesaw/event.kinds") (List.mem_cons_of_mem _ (List.mem_singleton.2 rfl))
  obtain rfl := Option.some.inj (gKinds.symm.trans hg)
  obtain rfl := Option.some.inj (tKinds.symm.trans ht)
  obtain ⟨xs, m, _, hx, hl, hn, hel⟩ := DataW.trod_array Tryz.underlying131 hd
  have c130 : Tryz.prog.cellsOf 130 = 2 := by kernel_rfl
  rw [c130] at hel
  have hmap : xs.map (·.1) = [kData [] [], kData [98, 101, 103, 105, 110] (partsK 1), kData [108, 111, 111, 107] (partsK 2), kData [108, 111, 97, 100] (partsK 3), kData [108, 111, 99, 107] (partsK 4), kData [98, 117, 109, 112] (partsK 5), kData [99, 104, 101, 99, 107] (partsK 6), kData [99, 111, 109, 109, 105, 116] (partsK 7), kData [115, 116, 111, 114, 101] (partsK 8), kData [102, 114, 101, 101] (partsK 9), kData [97, 98, 111, 114, 116] (partsK 10), kData [117, 110, 100, 111] (partsK 11), kData [119, 97, 105, 116] [], kData [119, 97, 107, 101] []] := by
    have := congrArg Prod.fst hx
    exact (DataW.agg.inj this).symm
  have hall : ∀ i, i < 14 → ∃ s, (xs.map (·.1))[i]? = some (kData s (partsK i)) := fun i hi => by
    rw [hmap]
    match i, hi with
    | 0, _ => exact ⟨_, rfl⟩
    | 1, _ => exact ⟨_, rfl⟩
    | 2, _ => exact ⟨_, rfl⟩
    | 3, _ => exact ⟨_, rfl⟩
    | 4, _ => exact ⟨_, rfl⟩
    | 5, _ => exact ⟨_, rfl⟩
    | 6, _ => exact ⟨_, rfl⟩
    | 7, _ => exact ⟨_, rfl⟩
    | 8, _ => exact ⟨_, rfl⟩
    | 9, _ => exact ⟨_, rfl⟩
    | 10, _ => exact ⟨_, rfl⟩
    | 11, _ => exact ⟨_, rfl⟩
    | 12, _ => exact ⟨_, rfl⟩
    | 13, _ => exact ⟨_, rfl⟩
  have hone : ∀ i : Nat, ∃ z : Value × Option Addr × Nat, i < 14 → W.cell? ⟨0, i * 2, none⟩ = some z.1 ∧ W.cell? ⟨0, i * 2 + 1, none⟩ = some (.slice z.2.1 (partsK i).length z.2.2) ∧ SlOk W z.2.1 (partsK i).length z.2.2 1 (gL encF 0 (partsK i)) := fun i => by
    by_cases hi : i < 14
    · have hE := hel i hi
      have hxi : i < xs.length := by omega
      rw [List.getElem?_eq_getElem hxi] at hE
      obtain ⟨s, hs⟩ := hall i hi
      rw [List.getElem?_map, List.getElem?_eq_getElem hxi] at hs
      simp only [Option.map_some, Option.some.injEq] at hs
      have hE2 : DataW.trod (funcToken Tryz.prog) Tryz.prog W 0 (fun _ => true) true m 130 ((cs.toList.drop (i * 2)).take 2) = some (kData s (partsK i), (xs[i]).2) := by rw [hE, ← hs]
      obtain ⟨c0, a, cap, e1, e2⟩ := kind_of (parts_in i) hE2
      obtain ⟨g0, g1⟩ := two_at e1
      refine ⟨(c0, a, cap), fun _ => ⟨?_, ?_, e2⟩⟩
      · rw [World.var?_cell hg hv, ← g0]; simp
      · rw [World.var?_cell hg hv, ← g1]; simp
    · exact ⟨(.nilFunc, none, 0), fun h => absurd h hi⟩
  obtain ⟨f, hf⟩ := Classical.skolem.1 hone
  refine ⟨fun i => (f i).1, fun i => (f i).2.1, fun i => (f i).2.2, ⟨by decide, Nat.le_refl _, by unfold maxLen; omega, (fun e => by cases e), .inr ⟨_, 0, rfl, fun i hi j hj => ?_⟩⟩, fun i hi => (hf i hi).2.2⟩
  obtain ⟨h0, h1, _⟩ := hf i hi
  match j, hj with
  | 0, _ =>
    rw [show 0 + (i * 2 + 0) = i * 2 by omega]
    exact h0
  | 1, _ =>
    rw [show 0 + (i * 2 + 1) = i * 2 + 1 by omega]
    exact h1
end Go.Proofs.YtpiodhdbdlfnhaaGreatDoor
