/- slices.SortStableFunc of ints: the whole. -/
import Derived.Test.YtciehimnhnbipaaStbG
namespace Go.Proofs.Ytciehimnhnbipaa
open Go.RowKit Go.Lib
set_option linter.unusedVariables false
set_option maxHeartbeats 8000000
theorem blk_step {key : Int → Int} {cs ys : List Int} {bs av : Nat} (hb : 0 < bs) (hav : bs ∣ av) (h : BlkS key cs bs av) (hk : ∀ k, k < av ∨ av + bs ≤ k → ys.getD k 0 = cs.getD k 0) (hs : SegS key ys av (av + bs)) : BlkS key ys bs (av + bs) := by
  intro t i j ht h1 h2 h3 h4
  by_cases hlt : t < av
  · have := mult_gap ht hav hlt
    rw [hk i (.inl (by omega)), hk j (.inl (by omega))]
    exact h t i j ht h1 h2 h3 (by omega)
  · exact hs i j (by omega) h2 (by omega)
theorem blk_last {key : Int → Int} {cs ys : List Int} {bs av N : Nat} (hb : 0 < bs) (hav : bs ∣ av) (h : BlkS key cs bs av) (hk : ∀ k, k < av → ys.getD k 0 = cs.getD k 0) (hs : SegS key ys av N) : BlkS key ys bs N := by
  intro t i j ht h1 h2 h3 h4
  by_cases hlt : t < av
  · have := mult_gap ht hav hlt
    rw [hk i (by omega), hk j (by omega)]
    exact h t i j ht h1 h2 h3 (by omega)
  · exact hs i j (by omega) h2 h4
/-- What is left is still in small blocks. -/
def RstS (key : Int → Int) (cs : List Int) (bs av N : Nat) : Prop := ∀ t i j, bs ∣ t → av ≤ t → t ≤ i → i ≤ j → j < t + bs → j < N → key (cs.getD i 0) ≤ key (cs.getD j 0)
section
variable {F : Nat → Prop} {w₀ w : World} {L : List Res} {a : Option Addr} {cap e : Nat} {R : Res} {key : Int → Int} {dom : Int → Prop} {f : FuncId} [FnOk Try.prog f] {l2 : List Value}
theorem stable_at (hc : CmpOk f l2 R key dom) {N : Nat} {zs : List Int} (S : Sat F w₀ w (row a N cap e 1 (gL encI 0 zs) :: R :: L)) (hl : zs.length = N) (hn : N ≤ 100000) (hd : ∀ u ∈ zs, dom u) :
    Calls Try.prog 66 #[.slice a N cap, .int .i64 (N : Nat), .func (.func f) #[] l2.toArray] w fun r w' => r = .returned (.tuple #[]) ∧
      ∃ ys, ys.length = N ∧ ys.Perm zs ∧ SegS key ys 0 N ∧ Sat F w₀ w' (row a N cap e 1 (gL encI 0 ys) :: R :: L) := by
  have hdp : ∀ {cs : List Int}, cs.Perm zs → ∀ u ∈ cs, dom u := fun hp u hu => hd u (hp.mem_iff.1 hu)
  refine enter0 Try.func66 rfl Try.ntmps66 rfl Try.results66 ?_
  repeat' (first | refine move_i_l S rfl rfl ?_ | refine assign_i_l S rfl rfl ?_ | refine nilL ?_ | refine run_seq ?_ | refine run_region ?_ | refine run_block ?_ | refine thenQ_n ?_)
  refine run_while [11, 12, 13, 14, 15, 16, 17, 18, 19, 20, 21, 22] (fun (q : Nat × List Int) t => upd (upd t 7 (.int .i64 (q.1 : Nat))) 8 (.int .i64 (q.1 + 20 : Nat))) (fun q w' => ((20 ∣ q.1 ∧ q.1 ≤ N) ∧ q.2.length = N ∧ q.2.Perm zs ∧ BlkS key q.2 20 q.1) ∧ Sat F w₀ w' (row a N cap e 1 (gL encI 0 q.2) :: R :: L)) (fun q => N - q.1) (0, zs) ?_ ?_ ?_
  · (repeat (first | exact agree_refl | refine agree_r rfl ?_ | refine agree_l rfl ?_ | refine agree_hv rfl ?_))
  · exact ⟨⟨⟨Nat.dvd_zero 20, Nat.zero_le _⟩, hl, .refl _, fun t i j _ _ _ _ h => absurd h (Nat.not_lt_zero j)⟩, S⟩
  clear S
  rintro ⟨av, cs⟩ j w ⟨⟨⟨hdv, hav⟩, hcl, hp, hb⟩, S⟩
  replace hdv : 20 ∣ av := hdv
  replace hav : av ≤ N := hav
  replace hcl : cs.length = N := hcl
  replace hp : cs.Perm zs := hp
  replace hb : BlkS key cs 20 av := hb
  replace S : Sat F w₀ w (row a N cap e 1 (gL encI 0 cs) :: R :: L) := S
  dsimp only
  by_cases hlt : av + 20 ≤ N
  · repeat' (first | refine move_i_l S rfl rfl ?_ | refine move_s_l S rfl rfl ?_ | refine nilL ?_ | refine run_seq ?_ | refine run_skip ?_ | refine run_region ?_ | (refine leq_l S rfl rfl rfl ?_ ?_ <;> intro hcmp <;> try (exfalso; first | omega | exact hcmp (by decide) | exact absurd hcmp (by decide))) | refine move_o_l S rfl rfl ?_ | refine run_block ?_ | refine run_cond_true rfl ?_ | refine thenQ_n ?_)
    refine callL (insert_seg (f := f) (l2 := l2) hc S hcl (by omega) (hdp hp) (x := av) (y := av + 20) (by omega) hlt) rfl rfl ?_
    clear S
    rintro e1 w ⟨rfl, ys, hyl, hyp, hyk, hys, S⟩
    refine ⟨_, rfl, ?_⟩
    repeat' (first | refine move_i_l S rfl rfl ?_ | refine assign_i_l S rfl rfl ?_ | refine nilL ?_ | refine run_seq ?_ | refine run_region ?_ | refine add_l S rfl rfl (wrap_in (by omega)) rfl ?_ | refine thenQ_n ?_ | refine blockQ_n ?_)
    refine ⟨(av + 20, ys), ?_, ⟨⟨⟨by show 20 ∣ av + 20; omega, hlt⟩, hyl, hyp.trans hp, blk_step (by decide) hdv hb hyk hys⟩, S⟩, by show N - (av + 20) < N - av; omega⟩
    dsimp only
    rw [show ((av + 20 + 20 : Nat) : Int) = ((av + 20 : Nat) : Int) + 20 from by omega]
    (repeat (first | exact agree_refl | refine agree_r rfl ?_ | refine agree_l rfl ?_ | refine agree_hv rfl ?_))
  · repeat' (first | refine move_i_l S rfl rfl ?_ | refine move_s_l S rfl rfl ?_ | refine nilL ?_ | refine run_seq ?_ | refine run_region ?_ | (refine leq_l S rfl rfl rfl ?_ ?_ <;> intro hcmp <;> try (exfalso; first | omega | exact hcmp (by decide) | exact absurd hcmp (by decide))) | refine move_o_l S rfl rfl ?_ | refine run_exit ?_ | refine run_cond_false rfl ?_ | refine thenQ_n ?_ | refine thenQ_e ?_ | refine blockQ_s rfl ?_)
    refine callL (insert_seg (f := f) (l2 := l2) hc S hcl (by omega) (hdp hp) (x := av) (y := N) hav (Nat.le_refl _)) rfl rfl ?_
    clear S
    rintro e1 w ⟨rfl, ys, hyl, hyp, hyk, hys, S⟩
    have hb2 : BlkS key ys 20 N := blk_last (by decide) hdv hb (fun k hk => hyk k (.inl hk)) hys
    have hp2 := hyp.trans hp
    clear hb hp hcl hyk hys hyp cs
    refine ⟨_, rfl, ?_⟩
    repeat' (first | refine nilL ?_ | refine run_block ?_ | refine thenQ_n ?_)
    refine run_while [7, 8, 9, 28, 29, 30, 31, 32, 33, 34, 35, 36, 37, 38, 39, 40, 41, 42, 43, 44, 45, 46, 47, 48, 49, 50, 51, 52, 53, 54, 55, 56, 57, 58, 59, 60, 61, 62] (fun (q : Nat × List Int) t => upd t 6 (.int .i64 (q.1 : Nat))) (fun q w' => ((20 ≤ q.1 ∧ q.1 ≤ 300000) ∧ q.2.length = N ∧ q.2.Perm zs ∧ BlkS key q.2 q.1 N) ∧ Sat F w₀ w' (row a N cap e 1 (gL encI 0 q.2) :: R :: L)) (fun q => N - q.1) (20, ys) ?_ ?_ ?_
    · (repeat (first | exact agree_refl | refine agree_r rfl ?_ | refine agree_l rfl ?_ | refine agree_hv rfl ?_))
    · exact ⟨⟨⟨Nat.le_refl _, by show 20 ≤ 300000; omega⟩, hyl, hp2, hb2⟩, S⟩
    clear S hb2 hp2 hyl ys
    rintro ⟨bs, cs⟩ j2 w ⟨⟨⟨hbs, hbm⟩, hcl, hp, hb⟩, S⟩
    replace hbs : 20 ≤ bs := hbs
    replace hbm : bs ≤ 300000 := hbm
    replace hcl : cs.length = N := hcl
    replace hp : cs.Perm zs := hp
    replace hb : BlkS key cs bs N := hb
    replace S : Sat F w₀ w (row a N cap e 1 (gL encI 0 cs) :: R :: L) := S
    dsimp only
    by_cases hbn : bs < N
    · repeat' (first | refine move_i_l S rfl rfl ?_ | refine assign_i_l S rfl rfl ?_ | refine nilL ?_ | refine run_seq ?_ | refine run_skip ?_ | refine run_region ?_ | refine mul_l S rfl rfl (wrap_in (by omega)) rfl ?_ | (refine lss_l S rfl rfl rfl ?_ ?_ <;> intro hcmp <;> try (exfalso; first | omega | exact hcmp (by decide) | exact absurd hcmp (by decide))) | refine run_block ?_ | refine run_cond_true rfl ?_ | refine thenQ_n ?_)
      refine run_while [33, 34, 35, 36, 37, 38, 39, 40, 41, 42, 43, 44, 45, 46, 47, 48] (fun (q : Nat × List Int) t => upd (upd t 7 (.int .i64 (q.1 : Nat))) 8 (.int .i64 (q.1 + 2 * bs : Nat))) (fun q w' => ((2 * bs ∣ q.1 ∧ q.1 ≤ N) ∧ q.2.length = N ∧ q.2.Perm zs ∧ BlkS key q.2 (2 * bs) q.1 ∧ RstS key q.2 bs q.1 N) ∧ Sat F w₀ w' (row a N cap e 1 (gL encI 0 q.2) :: R :: L)) (fun q => N - q.1) (0, cs) ?_ ?_ ?_
      · dsimp only
        rw [show ((0 + 2 * bs : Nat) : Int) = 2 * (bs : Nat) from by omega]
        (repeat (first | exact agree_refl | refine agree_r rfl ?_ | refine agree_l rfl ?_ | refine agree_hv rfl ?_))
      · exact ⟨⟨⟨Nat.dvd_zero _, Nat.zero_le _⟩, hcl, hp, fun t i j _ _ _ _ h => absurd h (Nat.not_lt_zero j), fun t i j h1 _ h2 h3 h4 h5 => hb t i j h1 h2 h3 h4 h5⟩, S⟩
      clear S hb hp hcl cs
      rintro ⟨av, cs⟩ j3 w ⟨⟨⟨hdv, hav⟩, hcl, hp, hb, hr⟩, S⟩
      replace hdv : 2 * bs ∣ av := hdv
      replace hav : av ≤ N := hav
      replace hcl : cs.length = N := hcl
      replace hp : cs.Perm zs := hp
      replace hb : BlkS key cs (2 * bs) av := hb
      replace hr : RstS key cs bs av N := hr
      replace S : Sat F w₀ w (row a N cap e 1 (gL encI 0 cs) :: R :: L) := S
      have hdb : bs ∣ av := Nat.dvd_trans (Nat.dvd_mul_left bs 2) hdv
      dsimp only
      by_cases hlt : av + 2 * bs ≤ N
      · repeat' (first | refine move_i_l S rfl rfl ?_ | refine move_s_l S rfl rfl ?_ | refine nilL ?_ | refine run_seq ?_ | refine run_skip ?_ | refine run_region ?_ | refine add_l S rfl rfl (wrap_in (by omega)) rfl ?_ | (refine leq_l S rfl rfl rfl ?_ ?_ <;> intro hcmp <;> try (exfalso; first | omega | exact hcmp (by decide) | exact absurd hcmp (by decide))) | refine move_o_l S rfl rfl ?_ | refine run_block ?_ | refine run_cond_true rfl ?_ | refine thenQ_n ?_)
        refine callL (merge_seg (f := f) (l2 := l2) hc S hcl (by omega) (hdp hp) (x := av) (m := av + bs) (y := av + 2 * bs) (by omega) (by omega) hlt (fun i j h1 h2 h3 => hr av i j hdb (Nat.le_refl _) h1 h2 h3 (by omega)) (fun i j h1 h2 h3 => hr (av + bs) i j (Nat.dvd_add hdb (Nat.dvd_refl _)) (by omega) h1 h2 (by omega) (by omega))) rfl rfl ?_
        clear S
        rintro e1 w ⟨rfl, ys, hyl, hyp, hyk, hys, S⟩
        refine ⟨_, rfl, ?_⟩
        repeat' (first | refine move_i_l S rfl rfl ?_ | refine assign_i_l S rfl rfl ?_ | refine nilL ?_ | refine run_seq ?_ | refine run_region ?_ | refine add_l S rfl rfl (wrap_in (by omega)) rfl ?_ | refine mul_l S rfl rfl (wrap_in (by omega)) rfl ?_ | refine thenQ_n ?_ | refine blockQ_n ?_)
        refine ⟨(av + 2 * bs, ys), ?_, ⟨⟨⟨Nat.dvd_add hdv (Nat.dvd_refl _), hlt⟩, hyl, hyp.trans hp, blk_step (by omega) hdv hb hyk hys, fun t i j h1 h2 h3 h4 h5 h6 => ?_⟩, S⟩, by show N - (av + 2 * bs) < N - av; omega⟩
        · dsimp only
          rw [show ((av + 2 * bs + 2 * bs : Nat) : Int) = ((av + 2 * bs : Nat) : Int) + 2 * (bs : Nat) from by omega]
          (repeat (first | exact agree_refl | refine agree_r rfl ?_ | refine agree_l rfl ?_ | refine agree_hv rfl ?_))
        · replace h2 : av + 2 * bs ≤ t := h2
          show key (ys.getD i 0) ≤ key (ys.getD j 0)
          rw [hyk i (.inr (by omega)), hyk j (.inr (by omega))]
          exact hr t i j h1 (by omega) h3 h4 h5 h6
      · by_cases hm : av + bs < N
        · repeat' (first | refine move_i_l S rfl rfl ?_ | refine assign_i_l S rfl rfl ?_ | refine move_s_l S rfl rfl ?_ | refine nilL ?_ | refine run_seq ?_ | refine run_region ?_ | refine add_l S rfl rfl (wrap_in (by omega)) rfl ?_ | (refine leq_l S rfl rfl rfl ?_ ?_ <;> intro hcmp <;> try (exfalso; first | omega | exact hcmp (by decide) | exact absurd hcmp (by decide))) | (refine lss_l S rfl rfl rfl ?_ ?_ <;> intro hcmp <;> try (exfalso; first | omega | exact hcmp (by decide) | exact absurd hcmp (by decide))) | refine move_o_l S rfl rfl ?_ | refine run_exit ?_ | refine run_cond_true rfl ?_ | refine run_cond_false rfl ?_ | refine thenQ_n ?_ | refine thenQ_e ?_ | refine blockQ_s rfl ?_)
          refine callL (merge_seg (f := f) (l2 := l2) hc S hcl (by omega) (hdp hp) (x := av) (m := av + bs) (y := N) (by omega) hm (Nat.le_refl _) (fun i j h1 h2 h3 => hr av i j hdb (Nat.le_refl _) h1 h2 h3 (by omega)) (fun i j h1 h2 h3 => hr (av + bs) i j (Nat.dvd_add hdb (Nat.dvd_refl _)) (by omega) h1 h2 (by omega) (by omega))) rfl rfl ?_
          clear S
          rintro e1 w ⟨rfl, ys, hyl, hyp, hyk, hys, S⟩
          have hb2 : BlkS key ys (2 * bs) N := blk_last (by omega) hdv hb (fun k hk => hyk k (.inl hk)) hys
          refine ⟨_, rfl, ?_⟩
          repeat' (first | refine move_i_l S rfl rfl ?_ | refine assign_i_l S rfl rfl ?_ | refine nilL ?_ | refine run_region ?_ | refine mul_l S rfl rfl (wrap_in (by omega)) rfl ?_ | refine thenQ_n ?_ | refine blockQ_n ?_)
          refine ⟨(2 * bs, ys), ?_, ⟨⟨⟨by show 20 ≤ 2 * bs; omega, by show 2 * bs ≤ 300000; omega⟩, hyl, hyp.trans hp, hb2⟩, S⟩, by show N - 2 * bs < N - bs; omega⟩
          dsimp only
          rw [show ((2 * bs : Nat) : Int) = (bs : Nat) * 2 from by omega]
          (repeat (first | exact agree_refl | refine agree_r rfl ?_ | refine agree_l rfl ?_ | refine agree_hv rfl ?_))
        · have hb2 : BlkS key cs (2 * bs) N := blk_last (by omega) hdv hb (fun _ _ => rfl) (fun i j h1 h2 h3 => hr av i j hdb (Nat.le_refl _) h1 h2 (by omega) h3)
          repeat' (first | refine move_i_l S rfl rfl ?_ | refine assign_i_l S rfl rfl ?_ | refine nilL ?_ | refine run_seq ?_ | refine run_skip ?_ | refine run_region ?_ | refine add_l S rfl rfl (wrap_in (by omega)) rfl ?_ | refine mul_l S rfl rfl (wrap_in (by omega)) rfl ?_ | (refine leq_l S rfl rfl rfl ?_ ?_ <;> intro hcmp <;> try (exfalso; first | omega | exact hcmp (by decide) | exact absurd hcmp (by decide))) | (refine lss_l S rfl rfl rfl ?_ ?_ <;> intro hcmp <;> try (exfalso; first | omega | exact hcmp (by decide) | exact absurd hcmp (by decide))) | refine run_exit ?_ | refine run_cond_false rfl ?_ | refine thenQ_n ?_ | refine thenQ_e ?_ | refine blockQ_n ?_ | refine blockQ_s rfl ?_)
          refine ⟨(2 * bs, cs), ?_, ⟨⟨⟨by show 20 ≤ 2 * bs; omega, by show 2 * bs ≤ 300000; omega⟩, hcl, hp, hb2⟩, S⟩, by show N - 2 * bs < N - bs; omega⟩
          dsimp only
          rw [show ((2 * bs : Nat) : Int) = (bs : Nat) * 2 from by omega]
          (repeat (first | exact agree_refl | refine agree_r rfl ?_ | refine agree_l rfl ?_ | refine agree_hv rfl ?_))
    · repeat' (first | refine move_i_l S rfl rfl ?_ | refine nilL ?_ | refine run_seq ?_ | refine run_region ?_ | (refine lss_l S rfl rfl rfl ?_ ?_ <;> intro hcmp <;> try (exfalso; first | omega | exact hcmp (by decide) | exact absurd hcmp (by decide))) | refine run_exit ?_ | refine run_cond_false rfl ?_ | refine thenQ_n ?_ | refine thenQ_e ?_ | refine blockQ_s rfl ?_ | refine ret0_n ?_)
      exact ⟨rfl, cs, hcl, hp, fun i j _ h2 h3 => hb 0 i j (Nat.dvd_zero _) (Nat.zero_le _) h2 (by omega) h3, S⟩
end
end Go.Proofs.Ytciehimnhnbipaa
