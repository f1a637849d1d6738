/- commit: the stripes of what is written; does a heap fit. commit: lock. -/
import Derived.Test.YtpiodhdbdlfnhaaGreatDoorShSort
import Derived.Test.YtpiodhdbdlfnhaaGreatDoorCont
namespace Go.Proofs.YtpiodhdbdlfnhaaGreatDoor
open Go.RowKit Go.Lib
set_option linter.unusedVariables false
set_option maxHeartbeats 2000000
theorem take_map_succ' {α β : Type} {g : α → β} {d : α} {l : List α} {q : Nat} (h : q < l.length) : (l.take (q + 1)).map g = (l.take q).map g ++ [g (l.getD q d)] := by
  rw [List.take_succ_eq_append_getElem h, List.map_append, List.getD_eq_getElem?_getD, List.getElem?_eq_getElem h]; rfl
theorem Res.below {r : Res} {w w' : World} (h : r.holds w) (hb : Below w.heap.size w w') : r.holds w' := r.loc w w' h fun k hk => hb.block k (r.lt w k h hk)
/-- The stripes of what is written, rising. -/
def strL (C : CmS) (H : HeapS) : List Int := ((List.range (H.locks.length + 1)).map fun (k : Nat) => (k : Int) - 1).filter fun s => decide (s ∈ C.writes.map fun p => stripeV H p.1)
theorem strL_lt (C : CmS) (H : HeapS) : (strL C H).Pairwise (· < ·) := by
  unfold strL
  refine List.Pairwise.filter _ ?_
  rw [List.pairwise_map]
  exact List.pairwise_lt_range.imp (fun h => by omega)
theorem stripeV_bd {H : HeapS} (hl : 0 < H.locks.length) (v : Int) : -1 ≤ stripeV H v ∧ stripeV H v < H.locks.length := by
  unfold stripeV
  split
  · omega
  · exact ⟨by have := Int.emod_nonneg v (b := (H.locks.length : Int)) (by omega); omega, Int.emod_lt_of_pos v (by omega)⟩
theorem mem_strL {C : CmS} {H : HeapS} (hl : 0 < H.locks.length) (s : Int) : s ∈ strL C H ↔ s ∈ C.writes.map fun p => stripeV H p.1 := by
  unfold strL
  rw [List.mem_filter, decide_eq_true_eq, List.mem_map]
  refine ⟨fun h => h.2, fun h => ⟨?_, h⟩⟩
  obtain ⟨p, hp, rfl⟩ := List.mem_map.1 h
  have := stripeV_bd hl p.1
  exact ⟨(stripeV H p.1 + 1).toNat, List.mem_range.2 (by omega), by omega⟩
theorem strL_eq {C : CmS} {H : HeapS} (hl : 0 < H.locks.length) : uniqL (C.writes.map fun p => stripeV H p.1) = strL C H :=
  sorted_ext _ _ (uniqL_lt _) (strL_lt C H) fun x => (mem_uniqL _ _).trans (mem_strL hl x).symm
theorem strL_len {C : CmS} {H : HeapS} (hl : 0 < H.locks.length) : (strL C H).length ≤ C.writes.length := by
  rw [← strL_eq hl]
  exact Nat.le_trans (uniqL_len _) (by simp)
section
variable {bc : Nat} {A : CA} {C : CmS} {bh : Nat} {ga va : Option Addr} {gc vc : Nat} {H : HeapS} {w0 : World} (h : (cmR bc A C).holds w0) (hh : (heapR bh ga va gc vc H).holds w0)
include h hh
theorem stripes_c (hl : 0 < H.locks.length) (hw : C.writes.length ≤ 1000) : Calls Tryz.prog 83 #[.pointer (some ⟨bc, 0, none⟩), .pointer (some ⟨bh, 0, none⟩)] w0 fun e w' => ∃ v, e = .returned v ∧ NewRow w0 w' 3 1 encI 0 (strL C H) v ∧ Below w0.heap.size w0 w' := by
  have S := Sat.reads2 h hh
  obtain ⟨g, hg⟩ : ∃ g, (fun p : Int × Int => stripeV H p.1) = g := ⟨_, rfl⟩
  refine enter1 Tryz.func83 rfl Tryz.ntmps83 rfl Tryz.results83 ?_
  repeat' (first | refine assign_s_l S rfl rfl ?_ | refine move_p_l S rfl rfl ?_ | refine nilL ?_ | refine run_seq ?_ | refine run_region ?_ | refine fieldAddr_l S rfl rfl rfl ?_ | refine move_i_l S rfl rfl ?_ | refine nilCheck_l S rfl rfl ?_ | refine len_l S rfl rfl ?_ | refine load_o_l S rfl rfl rfl rfl ?_ | refine run_block ?_ | refine thenQ_n ?_)
  replace S := S.nilRow 3 1 encI 0 (by decide)
  refine run_while [7, 14, 15, 16, 17, 18, 19, 20, 21, 22, 23, 24] (fun (s : Nat × Option Addr × Nat) t => upd (upd t 13 (.int .i64 s.1)) 5 (.slice s.2.1 ((C.writes.take s.1).map g).length s.2.2)) (fun s w' => s.1 ≤ C.writes.length ∧ Sat (fun _ => False) w0 w' [rowL s.2.1 s.2.2 3 1 encI 0 ((C.writes.take s.1).map g), roR (cmR bc A C), roR (heapR bh ga va gc vc H)]) (fun s => C.writes.length - s.1) (0, none, 0) ?_ ?_ ?_
  · (repeat (first | exact agree_refl | refine agree_r rfl ?_))
  · exact ⟨Nat.zero_le _, S⟩
  clear S
  rintro ⟨q, ta, tc⟩ j w ⟨hq, S⟩
  simp only at hq S ⊢
  have hlen : ((C.writes.take q).map g).length = q := by simp; omega
  by_cases hql : q < C.writes.length
  · have hz := take_map_succ' (g := g) (d := (0, 0)) hql
    repeat' (first | refine move_s_l S rfl rfl ?_ | refine move_p_l S rfl rfl ?_ | refine nilL ?_ | refine run_seq ?_ | refine run_skip ?_ | refine run_region ?_ | refine fieldAddr_l S rfl rfl rfl ?_ | (refine lss_l S rfl rfl rfl ?_ ?_ <;> intro hcmp <;> try (exfalso; first | omega | exact hcmp (by decide) | exact absurd hcmp (by decide))) | refine indexAddr_l S rfl rfl (idx_cast _) (by first | omega | decide | (simp; done) | (simp; omega)) rfl ?_ | refine loadEN_l S rfl (by first | omega | decide | (simp; done) | (simp; omega)) rfl rfl ?_ | (refine allocZ_l S rfl rfl ?_; clear S; intro b w S) | (refine storeN_l S rfl rfl ⟨rfl, rfl⟩ rfl ?_; clear S; intro w S) | refine load_i_l S rfl rfl rfl rfl ?_ | refine run_block ?_ | refine run_cond_true rfl ?_ | refine thenQ_n ?_)
    (refine callL (stripe_at (S.all (roR (heapR bh ga va gc vc H)) (by simp)) (C.writes.getD q (0, 0)).1 hl) rfl rfl ?_; rintro e w ⟨rfl, hb⟩; replace S := S.below hb; clear hb; refine ⟨_, rfl, ?_⟩)
    rw [show stripeV H (C.writes.getD q (0, 0)).1 = g (C.writes.getD q (0, 0)) from by rw [← hg]]
    repeat' (first | refine assign_s_l S rfl rfl ?_ | refine nilL ?_ | refine run_region ?_ | refine move_i_l S rfl rfl ?_ | (refine buildSlice_l S rfl rfl rfl rfl rfl ?_; clear S; intro b w S) | (refine append1_i S rfl rfl rfl (by omega) rfl ?_; clear S; intro a' cap' w S) | refine add_l S rfl rfl (wrap_in (by omega)) rfl ?_ | refine thenQ_n ?_ | refine blockQ_n ?_)
    refine ⟨(q + 1, a', cap'), ?_, ⟨by simp only; omega, ?_⟩, by simp only; omega⟩
    · simp only
      rw [hz, Int.natCast_add]
      (repeat (first | exact agree_refl | refine agree_r rfl ?_ | refine agree_l rfl ?_ | refine agree_hv rfl ?_))
    · simp only
      rw [hz]
      exact S.sub
  · repeat' (first | refine move_s_l S rfl rfl ?_ | refine nilL ?_ | refine run_seq ?_ | refine run_region ?_ | (refine lss_l S rfl rfl rfl ?_ ?_ <;> intro hcmp <;> try (exfalso; first | omega | exact hcmp (by decide) | exact absurd hcmp (by decide))) | refine run_exit ?_ | refine run_cond_false rfl ?_ | refine thenQ_n ?_ | refine thenQ_e ?_ | refine blockQ_s rfl ?_)
    have e : C.writes.take q = C.writes := List.take_of_length_le (by omega)
    rw [e] at S hlen ⊢
    refine callL (sort_at (by omega) (S.all (rowL ta tc 3 1 encI 0 (C.writes.map g)) (by simp))) rfl rfl ?_
    rintro r w' ⟨rfl, h1, h2⟩
    replace S := S.swap (r := rowL ta tc 3 1 encI 0 (C.writes.map g)) (r' := rowL ta tc 3 1 encI 0 (sortL (C.writes.map g))) rfl h2 h1 rfl (fun k e => .inl e)
    clear h1 h2
    refine ⟨_, rfl, ?_⟩
    have hsl : (C.writes.map g).length = (sortL (C.writes.map g)).length := (sortL_perm _).length_eq.symm
    rw [hsl]
    repeat' (first | refine move_s_l S rfl rfl ?_ | refine nilL ?_ | refine run_seq ?_ | refine run_region ?_ | refine thenQ_n ?_)
    refine callL (compact_at (S.all (rowL ta tc 3 1 encI 0 (sortL (C.writes.map g))) (by simp))) rfl rfl ?_
    rintro r w' ⟨rfl, h1, h2⟩
    replace S := S.swap (r := rowL ta tc 3 1 encI 0 (sortL (C.writes.map g))) (r' := rowL ta tc 3 1 encI 0 (uniqL (C.writes.map g))) rfl h2 h1 rfl (fun k e => .inl e)
    clear h1 h2
    refine ⟨_, rfl, ?_⟩
    repeat' (first | refine assign_s_l S rfl rfl ?_ | refine nilL ?_ | refine run_ret ?_ | refine thenQ_n ?_ | refine ret1_s rfl ?_)
    rw [← strL_eq hl, hg]
    exact ⟨_, rfl, S.newRow, S.chg.below⟩
end
section
variable {bc : Nat} {A : CA} {C : CmS} {bh : Nat} {ga va : Option Addr} {gc vc : Nat} {H : HeapS} {w0 : World}
theorem fits1_at {b3 b2 : Nat} (S : Sat (fun _ => False) w0 w0 [roR (blk b3 1 (fun _ => .pointer (some ⟨bh, 0, none⟩)) 27), roR (blk b2 1 (fun _ => .pointer (some ⟨bc, 0, none⟩)) 46), roR (cmR bc A C), roR (heapR bh ga va gc vc H)]) (x : Int) :
    Calls Tryz.prog 81 #[.int .i64 x, .pointer (some ⟨b3, 0, none⟩), .pointer (some ⟨b2, 0, none⟩)] w0 fun e w' => e = .returned (.bool (decide (ownerV H x ≠ C.thread))) ∧ Below w0.heap.size w0 w' := by
  refine enter1 Tryz.func81 rfl Tryz.ntmps81 rfl Tryz.results81 ?_
  repeat' (first | refine assign_b_l S rfl rfl ?_ | refine nilL ?_ | refine run_seq ?_ | refine run_region ?_ | refine thenQ_n ?_)
  refine run_any S (L' := [roR (blk b3 1 (fun _ => .pointer (some ⟨bh, 0, none⟩)) 27), roR (blk b2 1 (fun _ => .pointer (some ⟨bc, 0, none⟩)) 46), roR (cmR bc A C)]) (f := 9) mixed rfl ?_
  clear S
  intro w S1
  have S : Sat _ _ w [roR (blk b3 1 (fun _ => .pointer (some ⟨bh, 0, none⟩)) 27), roR (blk b2 1 (fun _ => .pointer (some ⟨bc, 0, none⟩)) 46), roR (cmR bc A C)] := S1.sub
  all_goals (refine any_pure (i := 0) rfl (by kernel_rfl) S ?_; (refine load_p_x rfl rfl rfl rfl ?_))
  all_goals (refine any_pure (i := 1) rfl (by kernel_rfl) S ?_; refine move_i_x rfl rfl ?_)
  all_goals (refine any_pure (i := 3) rfl (by kernel_rfl) S ?_; (refine load_p_x rfl rfl rfl rfl ?_))
  all_goals (refine any_pure (i := 4) rfl (by kernel_rfl) S ?_; (refine nilCheck_x rfl rfl ?_))
  all_goals (refine any_pure (i := 5) rfl (by kernel_rfl) S ?_; (refine fieldAddr_x rfl rfl rfl ?_))
  all_goals (refine any_pure (i := 6) rfl (by kernel_rfl) S ?_; (refine load_i_x rfl rfl rfl rfl ?_))
  all_goals refine any_step (i := 2) rfl (by kernel_rfl) ?_
  all_goals replace S := S1
  (refine callL (owner_at (S.all (roR (heapR bh ga va gc vc H)) (by simp)) x) rfl rfl ?_; rintro e w ⟨rfl, hb⟩; replace S := S.below hb; clear hb; refine ⟨_, rfl, ?_⟩)
  all_goals try refine nilL ?_
  all_goals refine ⟨S.sub, ?_⟩
  all_goals (have S1 := S; replace S : Sat _ _ _ [roR (blk b3 1 (fun _ => .pointer (some ⟨bh, 0, none⟩)) 27), roR (blk b2 1 (fun _ => .pointer (some ⟨bc, 0, none⟩)) 46), roR (cmR bc A C)] := S1.sub)
  all_goals (refine any_pure (i := 7) rfl (by kernel_rfl) S ?_; (refine neq_x rfl rfl rfl ?_ ?_ <;> intro hcmp <;> try (exfalso; first | omega | exact hcmp (by decide) | exact absurd hcmp (by decide))))
  all_goals (refine any_pure (i := 8) rfl (by kernel_rfl) S ?_; refine assign_b_x rfl rfl ?_)
  all_goals refine any_end (by kernel_rfl) ?_
  all_goals replace S := S1
  all_goals repeat' (first | refine run_ret ?_ | refine thenQ_n ?_ | refine ret1_b rfl ?_)
  all_goals first
    | exact ⟨by rw [decide_eq_true hcmp], S.chg.below⟩
    | exact ⟨by rw [decide_eq_false (fun e => hcmp e)], S.chg.below⟩
    | exact ⟨by rw [decide_eq_true (by omega)], S.chg.below⟩
    | exact ⟨by rw [decide_eq_false (by omega)], S.chg.below⟩
end
def fitW (C : CmS) (H : HeapS) : Bool := C.writes.all fun p => decide (0 ≤ stripeV H p.1)
def fitR (C : CmS) (H : HeapS) : Bool := (allI C.st C.hs).all fun s => decide (s < H.locks.length)
def fitO (C : CmS) (H : HeapS) : Bool := !C.owned.any fun s => decide (ownerV H s ≠ C.thread)
def fitsB (C : CmS) (H : HeapS) : Bool := fitW C H && (fitR C H && fitO C H)
theorem all_take_succ' {α : Type} {p : α → Bool} {d : α} {l : List α} {q : Nat} (h : q < l.length) : (l.take (q + 1)).all p = ((l.take q).all p && p (l.getD q d)) := by
  rw [List.take_succ_eq_append_getElem h, List.all_append, List.getD_eq_getElem?_getD, List.getElem?_eq_getElem h]
  simp
theorem all_false_of {α : Type} {p : α → Bool} {d : α} {l : List α} {q : Nat} (h : q < l.length) (hp : p (l.getD q d) = false) : l.all p = false := by
  rw [List.all_eq_false]
  rw [List.getD_eq_getElem?_getD, List.getElem?_eq_getElem h] at hp
  exact ⟨l[q], List.getElem_mem h, by rw [show l[q] = (some l[q]).getD d from rfl, hp]; decide⟩
section
variable {bc : Nat} {A : CA} {C : CmS} {bh : Nat} {ga va : Option Addr} {gc vc : Nat} {H : HeapS} {w0 : World} (h : (cmR bc A C).holds w0) (hh : (heapR bh ga va gc vc H).holds w0)
include h hh
theorem fits_at (hl : 0 < H.locks.length) (hw : C.writes.length ≤ 1000) : Calls Tryz.prog 64 #[.pointer (some ⟨bc, 0, none⟩), .pointer (some ⟨bh, 0, none⟩)] w0 fun e w' => e = .returned (.bool (fitsB C H)) ∧ Below w0.heap.size w0 w' := by
  have S := Sat.reads2 h hh
  have hal := allI_len C.st C.hs
  have hls := heap_small hh
  have hcs := cm_small h
  obtain ⟨p1, hp1⟩ : ∃ p, (fun q : Int × Int => decide (0 ≤ stripeV H q.1)) = p := ⟨_, rfl⟩
  obtain ⟨p2, hp2⟩ : ∃ p, (fun s : Int => decide (s < (H.locks.length : Int))) = p := ⟨_, rfl⟩
  obtain ⟨p3, hp3⟩ : ∃ p, (fun s : Int => decide (ownerV H s ≠ C.thread)) = p := ⟨_, rfl⟩
  rw [show fitsB C H = (C.writes.all p1 && ((allI C.st C.hs).all p2 && !C.owned.any p3)) from by unfold fitsB fitW fitR fitO; rw [hp1, hp2, hp3]]
  refine enter1 Tryz.func64 rfl Tryz.ntmps64 rfl Tryz.results64 ?_
  repeat' (first | refine load_p_l S rfl rfl rfl rfl ?_ | refine move_i_l S rfl rfl ?_ | refine nilL ?_ | refine run_seq ?_ | refine run_region ?_ | refine assign_b_l S rfl rfl ?_ | refine fieldAddr_l S rfl rfl rfl ?_ | refine nilCheck_l S rfl rfl ?_ | (refine box_p S rfl rfl ?_; clear S; intro b w S) | refine len_l S rfl rfl ?_ | refine load_o_l S rfl rfl rfl rfl ?_ | refine run_block ?_ | refine thenQ_n ?_)
  rename_i b2 _
  obtain ⟨b3, hb3⟩ : ∃ b3, b3 = b := ⟨_, rfl⟩
  subst hb3
  refine run_while [4, 6, 15, 16, 17, 18, 19, 20, 21, 22, 23] (fun (q : Nat) t => upd t 14 (.int .i64 q)) (fun q w' => q ≤ C.writes.length ∧ (C.writes.take q).all p1 = true ∧ Sat (fun _ => False) w0 w' [blk b3 1 (fun _ => .pointer (some ⟨bh, 0, none⟩)) 27, blk b2 1 (fun _ => .pointer (some ⟨bc, 0, none⟩)) 46, roR (cmR bc A C), roR (heapR bh ga va gc vc H)]) (fun q => C.writes.length - q) 0 ?_ ?_ ?_
  · (repeat (first | exact agree_refl | refine agree_r rfl ?_))
  · exact ⟨Nat.zero_le _, rfl, S⟩
  clear S
  rintro q j w ⟨hq, hn, S⟩
  by_cases hql : q < C.writes.length
  · have hsucc := all_take_succ' (p := p1) (d := (0, 0)) hql
    rw [hn, Bool.true_and] at hsucc
    have hv : p1 (C.writes.getD q (0, 0)) = decide (0 ≤ stripeV H (C.writes.getD q (0, 0)).1) := by rw [← hp1]
    repeat' (first | refine load_p_l S rfl rfl rfl rfl ?_ | refine nilL ?_ | refine run_seq ?_ | refine run_skip ?_ | refine run_region ?_ | refine fieldAddr_l S rfl rfl rfl ?_ | (refine lss_l S rfl rfl rfl ?_ ?_ <;> intro hcmp <;> try (exfalso; first | omega | exact hcmp (by decide) | exact absurd hcmp (by decide))) | refine indexAddr_l S rfl rfl (idx_cast _) (by first | omega | decide | (simp; done) | (simp; omega)) rfl ?_ | refine load_i_l S rfl rfl rfl rfl ?_ | refine loadEN_l S rfl (by first | omega | decide | (simp; done) | (simp; omega)) rfl rfl ?_ | (refine allocZ_l S rfl rfl ?_; clear S; intro b w S) | (refine storeN_l S rfl rfl ⟨rfl, rfl⟩ rfl ?_; clear S; intro w S) | refine run_block ?_ | refine run_cond_true rfl ?_ | refine thenQ_n ?_)
    (refine callL (stripe_at (S.all (roR (heapR bh ga va gc vc H)) (by simp)) (C.writes.getD q (0, 0)).1 hl) rfl rfl ?_; rintro e w ⟨rfl, hb⟩; replace S := S.below hb; clear hb; refine ⟨_, rfl, ?_⟩)
    obtain ⟨r, hr⟩ : ∃ r, stripeV H (C.writes.getD q (0, 0)).1 = r := ⟨_, rfl⟩
    rw [hr] at hv ⊢
    repeat' (first | refine move_i_l S rfl rfl ?_ | refine nilL ?_ | refine run_seq ?_ | refine run_skip ?_ | refine run_region ?_ | refine assign_b_l S rfl rfl ?_ | (refine lss_l S rfl rfl rfl ?_ ?_ <;> intro hcmp <;> try (exfalso; first | omega | exact hcmp (by decide) | exact absurd hcmp (by decide))) | refine add_l S rfl rfl (wrap_in (by omega)) rfl ?_ | refine run_ret ?_ | refine run_cond_true rfl ?_ | refine run_cond_false rfl ?_ | refine thenQ_n ?_ | refine thenQ_r ?_ | refine blockQ_n ?_ | refine blockQ_r ?_ | refine ret1_b rfl ?_)
    · rw [decide_eq_false (by omega)] at hv
      rw [all_false_of hql hv]
      exact ⟨rfl, S.chg.below⟩
    · rw [decide_eq_true (by omega)] at hv
      rw [hv] at hsucc
      refine ⟨q + 1, ?_, ⟨by omega, hsucc, S.sub⟩, by omega⟩
      rw [Int.natCast_add]
      (repeat (first | exact agree_refl | refine agree_r rfl ?_ | refine agree_l rfl ?_ | refine agree_hv rfl ?_))
  · rw [List.take_of_length_le (by omega)] at hn
    rw [hn, Bool.true_and]
    clear hn
    repeat' (first | refine load_p_l S rfl rfl rfl rfl ?_ | refine nilL ?_ | refine run_seq ?_ | refine run_region ?_ | refine fieldAddr_l S rfl rfl rfl ?_ | refine nilCheck_l S rfl rfl ?_ | (refine lss_l S rfl rfl rfl ?_ ?_ <;> intro hcmp <;> try (exfalso; first | omega | exact hcmp (by decide) | exact absurd hcmp (by decide))) | refine run_exit ?_ | refine run_cond_false rfl ?_ | refine thenQ_n ?_ | refine thenQ_e ?_ | refine blockQ_s rfl ?_)
    have hset : (csR A C).holds w := (S.all (roR (cmR bc A C)) (by simp) : (cmR bc A C).holds w).1.2.1
    refine callL (all_e hset) rfl rfl ?_
    rintro e w' ⟨_, rfl, ⟨ra, rc, rfl, hh', hf⟩, hb⟩
    replace S := Sat.freshRow S hb hh' hf
    clear hb hh' hf hset
    refine ⟨_, rfl, ?_⟩
    repeat' (first | refine move_i_l S rfl rfl ?_ | refine nilL ?_ | refine len_l S rfl rfl ?_ | refine run_block ?_ | refine thenQ_n ?_)
    obtain ⟨zs, hzs⟩ : ∃ zs, allI C.st C.hs = zs := ⟨_, rfl⟩
    rw [hzs] at S hal ⊢
    refine run_while [4, 8, 31, 32, 33, 34, 35, 36, 37, 38] (fun (q : Nat) t => upd t 30 (.int .i64 q)) (fun q w' => q ≤ zs.length ∧ (zs.take q).all p2 = true ∧ Sat (fun _ => False) w0 w' [rowL ra rc 3 1 encI 0 zs, blk b3 1 (fun _ => .pointer (some ⟨bh, 0, none⟩)) 27, blk b2 1 (fun _ => .pointer (some ⟨bc, 0, none⟩)) 46, roR (cmR bc A C), roR (heapR bh ga va gc vc H)]) (fun q => zs.length - q) 0 ?_ ?_ ?_
    · (repeat (first | exact agree_refl | refine agree_r rfl ?_))
    · exact ⟨Nat.zero_le _, rfl, S⟩
    clear S
    rintro k j w ⟨hk, hn, S⟩
    by_cases hkl : k < zs.length
    · have hsucc := all_take_succ' (p := p2) (d := 0) hkl
      rw [hn, Bool.true_and] at hsucc
      have hv : p2 (zs.getD k 0) = decide (zs.getD k 0 < H.locks.length) := by rw [← hp2]
      repeat' (first | refine load_p_l S rfl rfl rfl rfl ?_ | refine move_i_l S rfl rfl ?_ | refine nilL ?_ | refine run_seq ?_ | refine run_skip ?_ | refine run_region ?_ | (refine lss_l S rfl rfl rfl ?_ ?_ <;> intro hcmp <;> try (exfalso; first | omega | exact hcmp (by decide) | exact absurd hcmp (by decide))) | refine indexAddr_l S rfl rfl (idx_cast _) (by first | omega | decide | (simp; done) | (simp; omega)) rfl ?_ | refine loadE_i_l S rfl (by first | omega | decide | (simp; done) | (simp; omega)) rfl rfl rfl ?_ | refine assign_i_l S rfl rfl ?_ | refine run_block ?_ | refine run_cond_true rfl ?_ | refine thenQ_n ?_)
      (refine callL (stripes_at (S.all (roR (heapR bh ga va gc vc H)) (by simp))) rfl rfl ?_; rintro e w ⟨rfl, hb⟩; replace S := S.below hb; clear hb; refine ⟨_, rfl, ?_⟩)
      repeat' (first | refine move_i_l S rfl rfl ?_ | refine nilL ?_ | refine run_seq ?_ | refine run_skip ?_ | refine run_region ?_ | refine assign_b_l S rfl rfl ?_ | refine add_l S rfl rfl (wrap_in (by omega)) rfl ?_ | (refine geq_l S rfl rfl rfl ?_ ?_ <;> intro hcmp <;> try (exfalso; first | omega | exact hcmp (by decide) | exact absurd hcmp (by decide))) | refine run_ret ?_ | refine run_cond_true rfl ?_ | refine run_cond_false rfl ?_ | refine thenQ_n ?_ | refine thenQ_r ?_ | refine blockQ_n ?_ | refine blockQ_r ?_ | refine ret1_b rfl ?_)
      · rw [decide_eq_false (by omega)] at hv
        rw [all_false_of hkl hv]
        exact ⟨rfl, S.chg.below⟩
      · rw [decide_eq_true (by omega)] at hv
        rw [hv] at hsucc
        refine ⟨k + 1, ?_, ⟨by omega, hsucc, S.sub⟩, by omega⟩
        rw [Int.natCast_add]
        (repeat (first | exact agree_refl | refine agree_r rfl ?_ | refine agree_l rfl ?_ | refine agree_hv rfl ?_))
    · rw [List.take_of_length_le (by omega)] at hn
      rw [hn, Bool.true_and]
      clear hn
      repeat' (first | refine load_p_l S rfl rfl rfl rfl ?_ | refine nilL ?_ | refine run_seq ?_ | refine run_region ?_ | refine fieldAddr_l S rfl rfl rfl ?_ | refine nilCheck_l S rfl rfl ?_ | (refine lss_l S rfl rfl rfl ?_ ?_ <;> intro hcmp <;> try (exfalso; first | omega | exact hcmp (by decide) | exact absurd hcmp (by decide))) | refine makeFunc_l S rfl rfl rfl ?_ | refine load_o_l S rfl rfl rfl rfl ?_ | refine run_exit ?_ | refine run_cond_false rfl ?_ | refine thenQ_n ?_ | refine thenQ_e ?_ | refine blockQ_s rfl ?_)
      refine callL (contains_at (f := 81) (l2 := [.pointer (some ⟨b3, 0, none⟩), .pointer (some ⟨b2, 0, none⟩)]) (p := p3) (I := fun w => (blk b3 1 (fun _ => .pointer (some ⟨bh, 0, none⟩)) 27).holds w ∧ (blk b2 1 (fun _ => .pointer (some ⟨bc, 0, none⟩)) 46).holds w ∧ (cmR bc A C).holds w ∧ (heapR bh ga va gc vc H).holds w) ?_ ?_ A.ao A.co C.owned _ ?_ ?_) rfl rfl ?_
      · rintro w w' ⟨h1, h2, h3, h4⟩ hb
        exact ⟨Res.below h1 hb, Res.below h2 hb, Res.below h3 hb, Res.below h4 hb⟩
      · rintro x w ⟨h1, h2, h3, h4⟩
        rw [← hp3]
        exact fits1_at (Sat.ro (Sat.ro (Sat.reads2 h3 h4) (r := roR (blk b2 1 (fun _ => .pointer (some ⟨bc, 0, none⟩)) 46)) h2 rfl rfl) (r := roR (blk b3 1 (fun _ => .pointer (some ⟨bh, 0, none⟩)) 27)) h1 rfl rfl) x
      · exact ⟨S.all (blk b3 1 (fun _ => .pointer (some ⟨bh, 0, none⟩)) 27) (by simp), S.all (blk b2 1 (fun _ => .pointer (some ⟨bc, 0, none⟩)) 46) (by simp), S.all (roR (cmR bc A C)) (by simp), S.all (roR (heapR bh ga va gc vc H)) (by simp)⟩
      · exact (S.all (roR (cmR bc A C)) (by simp) : (cmR bc A C).holds _).1.2.2.2
      rintro e w' ⟨rfl, hb⟩
      replace S := S.below hb
      refine ⟨_, rfl, ?_⟩
      repeat' (first | refine nilL ?_ | refine assign_b_l S rfl rfl ?_ | refine not_l S rfl rfl ?_ | refine run_ret ?_ | refine thenQ_n ?_ | refine ret1_b rfl ?_)
      exact ⟨rfl, S.chg.below⟩
end
end Go.Proofs.YtpiodhdbdlfnhaaGreatDoor
namespace Go.Proofs.YtpiodhdbdlfnhaaGreatDoor
open Go.RowKit Go.Lib
set_option linter.unusedVariables false
set_option maxHeartbeats 2000000
theorem cloneI_at (a : Option Addr) (cap : Nat) (zs : List Int) (hn : zs.length ≤ 1000000) (w0 : World) (h : SlOk w0 a zs.length cap 1 (gL encI 0 zs)) :
    Calls Tryz.prog 85 #[.slice a zs.length cap] w0 fun e w' => ∃ v, e = .returned v ∧ NewRow w0 w' 3 1 encI 0 zs v ∧ Below w0.heap.size w0 w' := by
  have S := Sat.reads (r := slL a cap 1 encI 0 zs) h
  refine enter1 Tryz.func85 rfl Tryz.ntmps85 rfl Tryz.results85 ?_
  repeat' (first | refine assign_s_l S rfl rfl ?_ | refine move_s_l S rfl rfl ?_ | (refine eqlS_l S rfl rfl rfl ?_ ?_ <;> intro hcmp <;> try (exfalso; simp at hcmp; done)) | refine nilL ?_ | refine run_seq ?_ | refine run_skip ?_ | refine run_region ?_ | (refine buildSliceN_l S (vs := []) rfl rfl rfl rfl rfl rfl ?_; clear S; intro b w S) | (refine append0_l S rfl rfl (by omega) rfl ?_; clear S; intro a' cap' w S) | refine run_ret ?_ | refine run_cond_true rfl ?_ | refine run_cond_false rfl ?_ | refine thenQ_n ?_ | refine thenQ_r ?_ | refine ret1_s rfl ?_)
  · have hz : zs = [] := List.eq_nil_of_length_eq_zero (by have := h.2.1; have := h.2.2.2.1 hcmp; omega)
    subst hz
    exact ⟨_, rfl, NewRow.nil (by decide), S.chg.below⟩
  · exact ⟨_, rfl, S.newRow, S.chg.below⟩
theorem cloneP_at (a : Option Addr) (cap : Nat) (zs : List (Int × Int)) (hn : zs.length ≤ 1000000) (w0 : World) (h : SlOk w0 a zs.length cap 2 (gL encP (0, 0) zs)) :
    Calls Tryz.prog 44 #[.slice a zs.length cap] w0 fun e w' => ∃ v, e = .returned v ∧ NewRow w0 w' 57 2 encP (0, 0) zs v ∧ Below w0.heap.size w0 w' := by
  have S := Sat.reads (r := slL a cap 2 encP (0, 0) zs) h
  refine enter1 Tryz.func44 rfl Tryz.ntmps44 rfl Tryz.results44 ?_
  repeat' (first | refine assign_s_l S rfl rfl ?_ | refine move_s_l S rfl rfl ?_ | (refine eqlS_l S rfl rfl rfl ?_ ?_ <;> intro hcmp <;> try (exfalso; simp at hcmp; done)) | refine nilL ?_ | refine run_seq ?_ | refine run_skip ?_ | refine run_region ?_ | (refine buildSliceN_l S (vs := []) rfl rfl rfl rfl rfl rfl ?_; clear S; intro b w S) | (refine append0_l S rfl rfl (by omega) rfl ?_; clear S; intro a' cap' w S) | refine run_ret ?_ | refine run_cond_true rfl ?_ | refine run_cond_false rfl ?_ | refine thenQ_n ?_ | refine thenQ_r ?_ | refine ret1_s rfl ?_)
  · have hz : zs = [] := List.eq_nil_of_length_eq_zero (by have := h.2.1; have := h.2.2.2.1 hcmp; omega)
    subst hz
    exact ⟨_, rfl, NewRow.nil (by decide), S.chg.below⟩
  · exact ⟨_, rfl, S.newRow, S.chg.below⟩
def lockS (C : CmS) (H : HeapS) : Int := (strL C H).getD C.owned.length 0
def lockC (C : CmS) (H : HeapS) : CmS := if ownE H (lockS C H) C.thread = 0 then { C with owned := C.owned ++ [lockS C H], at_ := if C.owned.length + 1 = (strL C H).length then 2 else C.at_ } else abortC C
def lockH (C : CmS) (H : HeapS) : HeapS := ownH H (lockS C H) C.thread
def lockEv (C : CmS) (H : HeapS) : EvS := if ownE H (lockS C H) C.thread = 0 then ⟨4, 0, lockS C H, 0, 0, 0⟩ else ⟨10, 0, lockS C H, 0, 0, 4⟩
theorem lock_fin {bc : Nat} {A : CA} {C : CmS} {bh : Nat} {ga va : Option Addr} {gc vc : Nat} {H : HeapS} {w0 w : World} {a : Option Addr} {cap : Nat} {C' : CmS} {H' : HeapS} {l : List Int} (e1 : C'.rv = C.rv) (e2 : C'.st = C.st) (e3 : C'.hs = C.hs) (e4 : C'.writes = C.writes) (e5 : C'.owned = l)
    (S : Sat (two bc A C bh ga va gc vc H) w0 w [rowL a cap 3 1 encI 0 l, blk bc 9 (cmC { A with ao := a, co := cap } C') 94, csR A C, wrR A C, heapR bh ga va gc vc H']) : StTo bc A C bh ga va gc vc H C' H' w0 w := by
  have hown := S.own (rowL a cap 3 1 encI 0 l) (by simp) rfl
  have S2 := S.toRo (y := slL a cap 1 encI 0 l) (RowOk.sl S.got1) rfl rfl (fun k hk => hk.2)
  have S3 := S2.perm (L' := [blk bc 9 (cmC { A with ao := a, co := cap } C') 94, csR A C, wrR A C, slL a cap 1 encI 0 l, heapR bh ga va gc vc H']) (List.perm_middle (l₁ := [_, _, _]))
  subst e5
  refine ⟨{ A with ao := a, co := cap }, ⟨rfl, rfl⟩, cm_shutL (L := [heapR bh ga va gc vc H']) ?_ (fun x hx => ?_) ?_⟩
  rotate_left
  · have e : x = heapR bh ga va gc vc H' := by simpa using hx
    rw [e]; rfl
  rotate_left
  · show Sat _ _ _ [_, roR (setR A.bs C'.rv C'.st C'.hs), slL A.aw A.cw 2 encP (0, 0) C'.writes, slL a cap 1 encI 0 C'.owned, _]
    rw [e1, e2, e3, e4]
    exact S3
  · intro k hk hlt
    rcases hk with hk | hk | hk
    · exact .inl (.inr (.inl hk))
    · obtain ⟨g1, g2⟩ := hk
      exact .inl (.inr (.inr (.inl ⟨by rw [e4] at g1; exact g1, g2⟩)))
    · exact hown k hk.2 hlt
section
variable {bc : Nat} {A : CA} {C : CmS} {bh : Nat} {ga va : Option Addr} {gc vc : Nat} {H : HeapS} {w0 : World} (h : Sat (two bc A C bh ga va gc vc H) w0 w0 [cmR bc A C, heapR bh ga va gc vc H])
include h
theorem clock_c (hd : C.owned.length < (strL C H).length) (hw : C.writes.length ≤ 1000) (hl : 0 < H.locks.length) : Calls Tryz.prog 65 #[.pointer (some ⟨bc, 0, none⟩), .pointer (some ⟨bh, 0, none⟩)] w0 fun e w' => e = .returned (encEv (lockEv C H)) ∧ StTo bc A C bh ga va gc vc H (lockC C H) (lockH C H) w0 w' := by
  have hsl : (strL C H).length ≤ C.writes.length := strL_len hl
  have S : Sat (two bc A C bh ga va gc vc H) w0 w0 [blk bc 9 (cmC A C) 94, csR A C, wrR A C, owR A C, heapR bh ga va gc vc H] := cm_openL h
  refine enterC Tryz.func65 rfl Tryz.ntmps65 rfl Tryz.results65 ?_
  repeat' (first | refine move_p_l S rfl rfl ?_ | refine nilL ?_ | refine run_seq ?_ | refine run_region ?_ | (refine allocZ_l S rfl rfl ?_; clear S; intro b w S) | refine thenQ_n ?_)
  refine callL (stripes_c (cm_shut (S.sub (L' := cmL bc A C))) (S.all (heapR bh ga va gc vc H) (by simp)) hl hw) rfl rfl ?_
  rintro e w' ⟨_, rfl, ⟨ra, rc, rfl, hh, hf⟩, hb⟩
  replace S := Sat.freshRow S hb hh hf
  clear hb hh hf
  refine ⟨_, rfl, ?_⟩
  repeat' (first | refine move_p_l S rfl rfl ?_ | refine nilCheck_l S rfl rfl ?_ | refine nilL ?_ | refine run_seq ?_ | refine run_region ?_ | refine fieldAddr_l S rfl rfl rfl ?_ | refine move_i_l S rfl rfl ?_ | refine len_l S rfl rfl ?_ | refine move_s_l S rfl rfl ?_ | refine load_i_l S rfl rfl rfl rfl ?_ | refine loadE_i_l S rfl (by first | omega | decide | (simp; done) | (simp; omega)) rfl rfl rfl ?_ | refine assign_s_l S rfl rfl ?_ | refine indexAddr_l S rfl rfl (idx_cast _) (by first | omega | decide | (simp; done) | (simp; omega)) rfl ?_ | refine assign_i_l S rfl rfl ?_ | refine load_o_l S rfl rfl rfl rfl ?_ | refine thenQ_n ?_)
  rw [show (strL C H).getD C.owned.length 0 = lockS C H from rfl]
  obtain ⟨s, hs⟩ : ∃ s, lockS C H = s := ⟨_, rfl⟩
  unfold lockC lockH lockEv
  rw [hs]
  refine callL (own_at (S.all (heapR bh ga va gc vc H) (by simp)) s C.thread) rfl rfl ?_
  rintro e w' ⟨rfl, hm⟩
  replace S := S.swap (r := heapR bh ga va gc vc H) (r' := heapR bh ga va gc vc (ownH H s C.thread)) rfl hm.2 hm.1 rfl (fun k e => .inl e)
  clear hm
  refine ⟨_, rfl, ?_⟩
  generalize ownH H s C.thread = H' at S ⊢
  obtain ⟨o, ho⟩ : ∃ o, ownE H s C.thread = o := ⟨_, rfl⟩
  rw [ho]
  repeat' (first | refine move_p_l S rfl rfl ?_ | refine nilCheck_l S rfl rfl ?_ | refine nilL ?_ | refine run_seq ?_ | refine run_skip ?_ | refine run_region ?_ | refine fieldAddr_l S rfl rfl rfl ?_ | refine move_i_l S rfl rfl ?_ | (refine neq_l S rfl rfl rfl ?_ ?_ <;> intro hcmp <;> try (exfalso; first | omega | exact hcmp (by decide) | exact absurd hcmp (by decide))) | refine load_o_l S rfl rfl rfl rfl ?_ | refine run_cond_true rfl ?_ | refine run_cond_false rfl ?_ | refine thenQ_n ?_)
  · rw [if_neg hcmp, if_neg hcmp]
    have S2 := cm_shutL (L := [heapR bh ga va gc vc H', _]) (A := A) (C := C) (S.tl.perm (List.perm_append_singleton _ [_, _, _, _, _])) (fun x hx => by
      simp only [List.mem_cons, List.not_mem_nil, or_false] at hx
      rcases hx with hx | hx <;> (rw [hx]; rfl)) (fun k hk _ => .inl (.inr hk))
    clear S
    have S := S2
    clear S2
    refine callL (abort_at S.got1 4 s) rfl rfl ?_
    rintro e w' ⟨rfl, A', gw, g1, g2, g3⟩
    replace S := S.swap (r := cmR bc A C) (r' := cmR bc A' (abortC C)) rfl g2 g1 rfl g3
    clear g1 g2 g3
    refine ⟨_, rfl, ?_⟩
    repeat' (first | refine nilL ?_ | (refine storeN_l S rfl rfl ⟨rfl, rfl⟩ rfl ?_; clear S; intro w S) | refine run_ret ?_ | refine thenQ_n ?_ | refine thenQ_r ?_ | refine retC_l S rfl ?_)
    exact ⟨rfl, A', gw, S.sub⟩
  · have hcmp2 : o = 0 := by omega
    rw [if_pos hcmp2, if_pos hcmp2]
    have hol : C.owned.length ≤ 1000 := by omega
    refine callL (cloneI_at A.ao A.co C.owned (by omega) _ (S.all (owR A C) (by simp))) rfl rfl ?_
    rintro e w' ⟨_, rfl, ⟨da, dc, rfl, hh, hf⟩, hb⟩
    replace S := Sat.freshRow S hb hh hf
    clear hb hh hf
    refine ⟨_, rfl, ?_⟩
    repeat' (first | refine move_p_l S rfl rfl ?_ | refine nilCheck_l S rfl rfl ?_ | refine nilL ?_ | refine run_seq ?_ | refine run_skip ?_ | refine run_region ?_ | refine fieldAddr_l S rfl rfl rfl ?_ | refine move_i_l S rfl rfl ?_ | refine len_l S rfl rfl ?_ | refine move_s_l S rfl rfl ?_ | (refine storeN_l S rfl rfl ⟨rfl, rfl⟩ rfl ?_; clear S; intro w S) | (refine buildSlice_l S rfl rfl rfl rfl rfl ?_; clear S; intro b w S) | (refine append1_i S rfl rfl rfl (by omega) rfl ?_; clear S; intro a' cap' w S) | (refine store_s S rfl rfl rfl ?_; clear S; intro w S) | (refine eql_l S rfl rfl rfl ?_ ?_ <;> intro hcmp <;> try (exfalso; first | omega | exact hcmp (by decide) | exact absurd hcmp (by decide))) | (refine store_i S rfl rfl rfl ?_; clear S; intro w S) | (apply build7_l S; (· repeat (first | exact mapN | apply mapC_i rfl | apply mapC_b rfl | apply mapC_p rfl | apply mapC_s rfl | apply mapC_e rfl | apply mapC_a rfl | apply mapC_o rfl)); (· rfl); (· rfl)) | refine load_o_l S rfl rfl rfl rfl ?_ | refine run_ret ?_ | refine run_cond_true rfl ?_ | refine run_cond_false rfl ?_ | refine thenQ_n ?_ | refine retC_l S rfl ?_)
    · rw [cmC_owned, cmC_at] at S
      have hcmp3 : C.owned.length + 1 = (strL C H).length := by simp at hcmp; omega
      refine ⟨rfl, ?_⟩
      rw [if_pos hcmp3]
      exact lock_fin (a := a') (cap := cap') (l := C.owned ++ [s]) (C' := { C with owned := C.owned ++ [s], at_ := 2 }) rfl rfl rfl rfl rfl S.sub
    · rw [cmC_owned] at S
      have hcmp3 : ¬ C.owned.length + 1 = (strL C H).length := by simp at hcmp; omega
      refine ⟨rfl, ?_⟩
      rw [if_neg hcmp3]
      exact lock_fin (a := a') (cap := cap') (l := C.owned ++ [s]) (C' := { C with owned := C.owned ++ [s] }) rfl rfl rfl rfl rfl S.sub
end
end Go.Proofs.YtpiodhdbdlfnhaaGreatDoor
