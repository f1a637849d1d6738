/- witness: Writers. -/
import Derived.Test.YtciehimnhnbipaaWsC
import Derived.Test.YtciehimnhnbipaaRetC
namespace Go.Proofs.Ytciehimnhnbipaa
open Go.RowKit Go.Lib
set_option linter.unusedVariables false
set_option maxHeartbeats 8000000
/-- The places of writers, among the first ones. -/
def wrsL (l : List AtS) (q : Nat) : List Int := ((List.range q).filter fun j => decide (0 < (l.getD j atD).wv)).map fun (j : Nat) => (j : Int)
theorem wrsL_succ (l : List AtS) (q : Nat) : wrsL l (q + 1) = wrsL l q ++ if 0 < (l.getD q atD).wv then [(q : Int)] else [] := by
  unfold wrsL
  rw [List.range_succ, List.filter_append, List.map_append]
  by_cases h : 0 < (l.getD q atD).wv
  · rw [if_pos h, List.filter_cons, if_pos (by exact decide_eq_true h)]; rfl
  · rw [if_neg h, List.filter_cons, if_neg (by simpa using h)]; rfl
theorem wrsL_len (l : List AtS) (q : Nat) : (wrsL l q).length ≤ q := by
  unfold wrsL
  rw [List.length_map]
  exact Nat.le_trans (List.length_filter_le _ _) (by simp)
theorem wrsL_mem {l : List AtS} {q : Nat} {u : Int} (h : u ∈ wrsL l q) : 0 ≤ u ∧ u < q ∧ 0 < (l.getD u.toNat atD).wv := by
  unfold wrsL at h
  rw [List.mem_map] at h
  obtain ⟨j, hj, rfl⟩ := h
  obtain ⟨h1, h2⟩ := List.mem_filter.1 hj
  have := List.mem_range.1 h1
  rw [Int.toNat_natCast]
  exact ⟨by omega, by omega, of_decide_eq_true h2⟩
/-- The writers, sorted by their versions. -/
def IsWrs (l : List AtS) (ys : List Int) : Prop := ys.Perm (wrsL l l.length) ∧ SegS (fun i => (l.getD i.toNat atD).wv) ys 0 ys.length
section
variable {a : Option Addr} {cap : Nat} {l : List AtS} {w0 : World} (h : (hisR a cap l).holds w0) (hn : l.length ≤ 100000)
include h hn
theorem writers_at : Calls Try.prog 40 #[.slice a l.length cap] w0 fun e w' => ∃ v ys, e = .returned v ∧ IsWrs l ys ∧ NewRow w0 w' 3 1 encI 0 ys v ∧ Below w0.heap.size w0 w' := by
  have S := Sat.reads h
  refine enter1 Try.func40 rfl Try.ntmps40 rfl Try.results40 ?_
  repeat' (first | refine assign_s_l S rfl rfl ?_ | refine move_i_l S rfl rfl ?_ | refine nilL ?_ | refine run_seq ?_ | refine run_region ?_ | (refine box_s S rfl rfl ?_; clear S; intro b w S) | refine len_l S rfl rfl ?_ | refine load_o_l S rfl rfl rfl rfl ?_ | refine run_block ?_ | refine thenQ_n ?_)
  replace S := S.nilRow 3 1 encI 0 (by decide)
  refine run_while [4, 5, 9, 10, 11, 12, 13, 14, 15, 16, 17, 18, 19] (fun (s : Nat × Option Addr × Nat) t => upd (upd t 8 (.int .i64 s.1)) 3 (.slice s.2.1 (wrsL l s.1).length s.2.2)) (fun s w' => s.1 ≤ l.length ∧ Sat (fun _ => False) w0 w' [rowL s.2.1 s.2.2 3 1 encI 0 (wrsL l s.1), blk b 1 (fun _ => .slice a l.length cap) 27, roR (hisR a cap l)]) (fun s => l.length - s.1) (0, none, 0) ?_ ?_ ?_
  · (repeat (first | exact agree_refl | refine agree_r rfl ?_ | refine agree_l rfl ?_ | refine agree_hv rfl ?_))
  · exact ⟨Nat.zero_le _, S⟩
  clear S
  rintro ⟨q, ta, tc⟩ j w ⟨hq, S⟩
  simp only at hq S ⊢
  have hlen := wrsL_len l q
  have hsucc := wrsL_succ l q
  by_cases hql : q < l.length
  · repeat' (first | refine move_i_l S rfl rfl ?_ | refine nilL ?_ | refine run_seq ?_ | refine run_skip ?_ | refine run_region ?_ | refine loadN_l S rfl rfl rfl ?_ | refine loadEN_l S rfl (by first | omega | decide | (simp; done) | (simp; omega)) rfl rfl ?_ | (refine lss_l S rfl rfl rfl ?_ ?_ <;> intro hcmp <;> try (exfalso; first | omega | exact hcmp (by decide) | exact absurd hcmp (by decide))) | refine indexAddr_l S rfl rfl (idx_cast _) (by first | omega | decide | (simp; done) | (simp; omega)) rfl ?_ | (refine allocZ_l S rfl rfl ?_; clear S; intro b w S) | refine assign_i_l S rfl rfl ?_ | (refine storeN_l S rfl rfl ⟨rfl, rfl⟩ rfl ?_; clear S; intro w S) | refine run_block ?_ | refine run_cond_true rfl ?_ | refine thenQ_n ?_)
    replace S := S.turn1 (r' := blk b 9 (encAt (l.getD q atD)) 32) S.got1 rfl (fun k e => e)
    refine callL (writer_at (l.getD q atD) _) rfl rfl ?_
    rintro e w' ⟨rfl, hb⟩
    replace S := S.below hb
    clear hb
    refine ⟨_, rfl, ?_⟩
    by_cases hw : 0 < (l.getD q atD).wv
    · rw [decide_eq_true hw]
      rw [if_pos hw] at hsucc
      repeat' (first | refine assign_s_l S rfl rfl ?_ | refine move_i_l S rfl rfl ?_ | refine move_s_l S rfl rfl ?_ | refine nilL ?_ | refine run_region ?_ | (refine buildSlice_l S rfl rfl rfl rfl rfl ?_; clear S; intro b w S) | (refine append1_i S rfl rfl rfl (by omega) rfl ?_; clear S; intro a' cap' w S) | refine add_l S rfl rfl (wrap_in (by omega)) rfl ?_ | refine run_cond_true rfl ?_ | refine thenQ_n ?_ | refine blockQ_n ?_)
      refine ⟨(q + 1, a', cap'), ?_, ⟨by simp only; omega, ?_⟩, by simp only; omega⟩
      · simp only
        rw [hsucc, Int.natCast_add]
        (repeat (first | exact agree_refl | refine agree_r rfl ?_ | refine agree_l rfl ?_ | refine agree_hv rfl ?_))
      · simp only
        rw [hsucc]
        exact S.sub
    · rw [decide_eq_false hw]
      rw [if_neg hw, List.append_nil] at hsucc
      repeat' (first | refine move_i_l S rfl rfl ?_ | refine nilL ?_ | refine run_skip ?_ | refine run_region ?_ | refine add_l S rfl rfl (wrap_in (by omega)) rfl ?_ | refine run_cond_false rfl ?_ | refine thenQ_n ?_ | refine blockQ_n ?_)
      refine ⟨(q + 1, ta, tc), ?_, ⟨by simp only; omega, ?_⟩, by simp only; omega⟩
      · simp only
        rw [hsucc, Int.natCast_add]
        (repeat (first | exact agree_refl | refine agree_r rfl ?_ | refine agree_l rfl ?_ | refine agree_hv rfl ?_))
      · simp only
        rw [hsucc]
        exact S.sub
  · obtain rfl : q = l.length := by omega
    repeat' (first | refine move_s_l S rfl rfl ?_ | refine nilL ?_ | refine run_seq ?_ | refine run_region ?_ | (refine lss_l S rfl rfl rfl ?_ ?_ <;> intro hcmp <;> try (exfalso; first | omega | exact hcmp (by decide) | exact absurd hcmp (by decide))) | refine makeFunc_l S rfl rfl rfl ?_ | refine run_exit ?_ | refine run_cond_false rfl ?_ | refine thenQ_n ?_ | refine thenQ_e ?_ | refine blockQ_s rfl ?_)
    have S2 : Sat (fun _ => False) w0 w [andR (blk b 1 (fun _ => .slice a l.length cap) 27) (hisR a cap l), rowL ta tc 3 1 encI 0 (wrsL l l.length)] := Sat.andR (S.perm (show List.Perm [blk b 1 (fun _ => .slice a l.length cap) 27, roR (hisR a cap l), rowL ta tc 3 1 encI 0 (wrsL l l.length)] [rowL ta tc 3 1 encI 0 (wrsL l l.length), blk b 1 (fun _ => .slice a l.length cap) 27, roR (hisR a cap l)] from List.perm_append_comm (l₁ := [blk b 1 (fun _ => .slice a l.length cap) 27, roR (hisR a cap l)]) (l₂ := [rowL ta tc 3 1 encI 0 (wrsL l l.length)])))
    replace S2 := Sat.sw S2
    refine callL (sortstable_at (f := 56) (l2 := [.pointer (some ⟨b, 0, none⟩)]) wcmp_ok S2 rfl (by omega) (fun u hu => by have := wrsL_mem hu; exact ⟨this.1, this.2.1⟩)) rfl rfl ?_
    clear S S2
    rintro e w ⟨rfl, ys, hl, hp, hs, S⟩
    refine ⟨_, rfl, ?_⟩
    repeat' (first | refine assign_s_l S rfl rfl ?_ | refine move_s_l S rfl rfl ?_ | refine nilL ?_ | refine run_seq ?_ | refine run_region ?_ | refine run_ret ?_ | refine thenQ_n ?_ | refine ret1_s rfl ?_)
    rw [← hl] at hs S ⊢
    exact ⟨_, ys, rfl, ⟨hp, hs⟩, S.newRow, S.chg.below⟩
end
end Go.Proofs.Ytciehimnhnbipaa
