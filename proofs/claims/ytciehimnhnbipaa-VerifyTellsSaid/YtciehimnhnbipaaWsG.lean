/- witness: memory in each gap between writers. -/
import Derived.Test.YtciehimnhnbipaaWsF
import Derived.Test.YtciehimnhnbipaaRetK
namespace Go.Proofs.Ytciehimnhnbipaa
open Go.RowKit Go.Lib
set_option linter.unusedVariables false
set_option maxHeartbeats 8000000
set_option maxRecDepth 100000
/-- Memory behind the first g writers. -/
def memG (init : List Int) (l : List AtS) (W : List Int) (g : Nat) : List Int := (W.take g).foldl (fun m u => wrtM m (l.getD u.toNat atD).ws) init
theorem memG_len (init : List Int) (l : List AtS) (W : List Int) (g : Nat) : (memG init l W g).length = init.length := by
  unfold memG
  generalize W.take g = X
  induction X generalizing init with
  | nil => rfl
  | cons u X ih => rw [List.foldl_cons, ih, wrtM_len]
theorem memG_succ {init : List Int} {l : List AtS} {W : List Int} {g : Nat} (h : g < W.length) : memG init l W (g + 1) = wrtM (memG init l W g) (l.getD (W.getD g 0).toNat atD).ws := by
  unfold memG
  have e : W.getD g 0 = W[g] := by rw [List.getD_eq_getElem?_getD, List.getElem?_eq_getElem h]; rfl
  rw [List.take_succ_eq_append_getElem h, List.foldl_append, e]
  rfl
theorem wrtM_succ (m : List Int) {ws : List (Int × Int)} {q : Nat} (h : q < ws.length) : wrtM m (ws.take (q + 1)) = (wrtM m (ws.take q)).set (ws.getD q (0, 0)).1.toNat (ws.getD q (0, 0)).2 := by
  unfold wrtM
  have e : ws.getD q (0, 0) = ws[q] := by rw [List.getD_eq_getElem?_getD, List.getElem?_eq_getElem h]; rfl
  rw [List.take_succ_eq_append_getElem h, List.foldl_append, e]
  rfl
abbrev gapL (b1 b2 b3 : Nat) (ai aw a : Option Addr) (ci cw cap : Nat) (init : List Int) (W : List Int) (l : List AtS) : List Res :=
  [roR (blk b1 1 (fun _ => .slice ai init.length ci) 23), roR (blk b2 1 (fun _ => .slice aw W.length cw) 24), roR (blk b3 1 (fun _ => .slice a l.length cap) 27), slL ai ci 1 encI 0 init, slL aw cw 1 encI 0 W, hisR a cap l]
theorem gaps1_i {ai aw a : Option Addr} {ci cw cap : Nat} {init W : List Int} {l : List AtS} {b1 b2 b3 : Nat} (hn : init.length ≤ 1000000) (hW : W.length ≤ 100000) (hWm : ∀ u ∈ W, 0 ≤ u ∧ u < l.length)
    (hok : ∀ u ∈ W, ∀ p ∈ (l.getD u.toNat atD).ws, 0 ≤ p.1 ∧ p.1 < init.length)
    {σ : Type} (T : σ → List Res) (R : Nat → σ → Prop) (Z : World → Prop) (S₀ : Nat → Prop) (w₀ : World) (ly : Nat) (w : World) (s0 : σ) (S : Sat S₀ w₀ w (T s0))
    (hT : ∀ s, ∀ r ∈ gapL b1 b2 b3 ai aw a ci cw cap init W l, r ∈ T s) (h0 : R 0 s0)
    (hY : ∀ g s am cm w, g ≤ W.length → R g s → Sat S₀ w₀ w (slL am cm 1 encI 0 (memG init l W g) :: T s) → Yields1 Try.prog ly [.int .i64 (g : Nat), .slice am init.length cm] w fun e w' =>
      (e = .returned (.bool true) ∧ ∃ s', R (g + 1) s' ∧ Sat S₀ w₀ w' (slL am cm 1 encI 0 (memG init l W g) :: T s')) ∨ (e = .returned (.bool false) ∧ Z w')) :
    Calls Try.prog 68 (Value.func (.yield ly) #[] #[] :: [.pointer (some ⟨b1, 0, none⟩), .pointer (some ⟨b2, 0, none⟩), .pointer (some ⟨b3, 0, none⟩)]).toArray w fun e w' => (∃ v, e = .returned v) ∧ ((∃ s, R (W.length + 1) s ∧ Sat S₀ w₀ w' (T s)) ∨ Z w') := by
  have i1 : ∀ s, PickB (T s) b1 1 (fun _ => .slice ai init.length ci) 23 := fun s => ⟨fun w h => h (roR (blk b1 1 (fun _ => .slice ai init.length ci) 23)) (hT s _ (by simp))⟩
  have i2 : ∀ s, PickB (T s) b2 1 (fun _ => .slice aw W.length cw) 24 := fun s => ⟨fun w h => h (roR (blk b2 1 (fun _ => .slice aw W.length cw) 24)) (hT s _ (by simp))⟩
  have i3 : ∀ s, PickB (T s) b3 1 (fun _ => .slice a l.length cap) 27 := fun s => ⟨fun w h => h (roR (blk b3 1 (fun _ => .slice a l.length cap) 27)) (hT s _ (by simp))⟩
  have i4 : ∀ s, PickSl (T s) aw W.length cw 1 (gL encI 0 W) := fun s => ⟨fun w h => h (slL aw cw 1 encI 0 W) (hT s _ (by simp))⟩
  have i5 : ∀ s, PickE (T s) aw W.length cw 1 (gL encI 0 W) := fun s => ⟨fun w h => h (slL aw cw 1 encI 0 W) (hT s _ (by simp))⟩
  have i6 : ∀ s, PickSl (T s) a l.length cap 9 (gL encAt atD l) := fun s => ⟨fun w h => (show (hisR a cap l).holds w from h (hisR a cap l) (hT s _ (by simp))).1⟩
  have i7 : ∀ s, PickE (T s) a l.length cap 9 (gL encAt atD l) := fun s => ⟨fun w h => (show (hisR a cap l).holds w from h (hisR a cap l) (hT s _ (by simp))).1⟩
  have i8 : ∀ s i, PickSl (T s) (l.getD i atD).wa (l.getD i atD).ws.length (l.getD i atD).wc 2 (gL encPr (0, 0) (l.getD i atD).ws) := fun s i => ⟨fun w h => ((show (hisR a cap l).holds w from h (hisR a cap l) (hT s _ (by simp))).2 i).2⟩
  have i9 : ∀ s i, PickE (T s) (l.getD i atD).wa (l.getD i atD).ws.length (l.getD i atD).wc 2 (gL encPr (0, 0) (l.getD i atD).ws) := fun s i => ⟨fun w h => ((show (hisR a cap l).holds w from h (hisR a cap l) (hT s _ (by simp))).2 i).2⟩
  have hin : SlOk w ai init.length ci 1 (gL encI 0 init) := S.all (slL ai ci 1 encI 0 init) (hT s0 _ (by simp))
  refine enterM0 Try.func68 rfl Try.ntmps68 rfl Try.results68 ?_
  repeat' (first | refine nilL ?_ | refine runM_seq ?_ | refine runM_regionY ?_ | refine y_one (by rfl) (by rfl) ?_ | refine load_o_l S rfl rfl rfl rfl ?_)
  refine callL (wclone_at ai ci init hn _ hin) rfl rfl ?_
  rintro e w ⟨_, rfl, ⟨am, cm, rfl, hh, hf⟩, hb⟩
  replace S := Sat.freshRow S hb hh hf
  clear hb hh hf
  refine ⟨_, rfl, ?_⟩
  repeat' (first | refine nilL ?_ | refine runM_seq ?_ | refine runM_regionY ?_ | refine y_nil ?_ | refine y_one (by rfl) (by rfl) ?_ | refine assign_s_l S rfl rfl ?_ | refine assign_i_l S rfl rfl ?_ | refine runM_block ?_ | refine thenQ_n ?_)
  refine runM_while [8, 11, 12, 13, 14, 15, 16, 17, 18, 19, 20, 21, 22, 23, 24, 25, 26, 27, 28, 29, 30, 31, 32, 33, 34, 35, 36, 37, 38, 39, 40, 41, 42, 43, 44] (fun (q : Nat × Option Addr × Nat × σ) t => upd (upd t 5 (.slice q.2.1 init.length q.2.2.1)) 6 (.int .i64 (q.1 : Nat))) (fun q w' => q.1 ≤ W.length ∧ R q.1 q.2.2.2 ∧ Sat S₀ w₀ w' (row q.2.1 init.length q.2.2.1 2 1 (gL encI 0 (memG init l W q.1)) :: T q.2.2.2)) (fun q => W.length - q.1) (0, am, cm, s0) ?_ ?_ ?_
  · (repeat (first | exact agree_refl | refine agree_r rfl ?_ | refine agree_l rfl ?_ | refine agree_hv rfl ?_))
  · exact ⟨Nat.zero_le _, h0, S⟩
  clear S hin
  rintro ⟨g, am, cm, s⟩ j w ⟨hg, hR, S⟩
  replace hg : g ≤ W.length := hg
  replace hR : R g s := hR
  replace S : Sat S₀ w₀ w (row am init.length cm 2 1 (gL encI 0 (memG init l W g)) :: T s) := S
  dsimp only
  have hml := memG_len init l W g
  rw [← hml] at S
  replace S := S.freeze
  repeat' (first | refine move_i_l S rfl rfl ?_ | refine move_s_l S rfl rfl ?_ | refine nilL ?_ | refine runM_seq ?_ | refine runM_regionY ?_ | refine y_one (by rfl) (by rfl) ?_ | refine move_o_l S rfl rfl ?_)
  refine y_yield rfl rfl (hY g s am cm _ hg hR S) rfl ?_
  rintro e w' (⟨rfl, s', hR', S'⟩ | ⟨rfl, hZ⟩)
  · clear S
    have S := S'
    clear S'
    refine ⟨_, rfl, ?_⟩
    repeat' (first | refine move_i_l S rfl rfl ?_ | refine move_s_l S rfl rfl ?_ | refine nilL ?_ | refine runM_seq ?_ | refine runM_skip ?_ | refine runM_regionY ?_ | refine y_nil ?_ | refine y_one (by rfl) (by rfl) ?_ | refine onL rfl rfl ?_ | (refine lss_l S rfl rfl rfl ?_ ?_ <;> intro hcmp <;> try (exfalso; first | omega | exact hcmp (by decide) | exact absurd hcmp (by decide))) | refine move_b_l S rfl rfl ?_ | refine len_l S rfl rfl ?_ | refine pick_tb_l S rfl rfl rfl ?_ | refine load_o_l S rfl rfl rfl rfl ?_ | refine runM_block ?_ | refine runM_exit ?_ | refine runM_cond_true rfl ?_ | refine runM_cond_false rfl ?_ | refine thenQ_n ?_ | refine thenQ_e ?_ | refine blockQ_s rfl ?_ | refine endM_nil ?_ | refine ret0_n ?_)
    · have hlt : g < W.length := by omega
      have hsucc := memG_succ (init := init) (l := l) hlt
      have hgm : W.getD g 0 ∈ W := getD_mem hlt
      obtain ⟨hu0, hu1⟩ := hWm _ hgm
      refine callL (wclone_at am cm (memG init l W g) (by omega) _ S.got1) (by rw [hml]; rfl) rfl ?_
      rintro e w ⟨_, rfl, ⟨am2, cm2, rfl, hh, hf⟩, hb⟩
      replace S := Sat.freshRow S hb hh hf
      clear hb hh hf
      refine ⟨_, rfl, ?_⟩
      repeat' (first | refine nilL ?_ | refine runM_seq ?_ | refine y_nil ?_ | refine y_one (by rfl) (by rfl) ?_ | refine assign_s_l S rfl rfl ?_ | refine thenQ_n ?_)
      repeat' (first | refine runM_block ?_ | refine thenQ_n ?_ | (refine runM_draws (id := 5) (by rfl) S mixed ?_ ?_; · kernel_rfl) | (refine nilQ ?_; clear S; intro w S) | refine move_i_q rfl rfl ?_ | refine indexAddr_q rfl rfl (idx_cast _) (by first | omega | decide | (simp; done) | (simp; omega)) rfl ?_ | refine indexAddr_q rfl rfl (idx_eq _) (by first | omega | decide | (simp; done) | (simp; omega)) rfl ?_ | refine loadE_i_q rfl (by first | omega | decide | (simp; done) | (simp; omega)) rfl rfl rfl ?_ | refine fieldAddrE_q rfl (by first | omega | decide | (simp; done) | (simp; omega)) rfl rfl ?_ | refine len_q rfl rfl ?_ | refine load_o_q rfl rfl rfl rfl ?_ | refine loadE_o_q rfl (by first | omega | decide | (simp; done) | (simp; omega)) rfl rfl rfl ?_)
      have hwl := (((show (hisR a cap l).holds w from S.all (hisR a cap l) (List.mem_cons_of_mem _ (List.mem_cons_of_mem _ (hT s' _ (by simp))))).2 (W.getD g 0).toNat).2).small
      have hkk := hok _ hgm
      generalize hm : memG init l W g = m at S hml hsucc ⊢
      refine runM_while [8, 35, 36, 37, 38, 39, 40, 41, 42, 43, 44] (fun (q : Nat) t => upd t 34 (.int .i64 (q : Nat))) (fun q w' => q ≤ (l.getD (W.getD g 0).toNat atD).ws.length ∧ Sat S₀ w₀ w' (row am2 m.length cm2 2 1 (gL encI 0 (wrtM m ((l.getD (W.getD g 0).toNat atD).ws.take q))) :: slL am cm 1 encI 0 m :: T s')) (fun q => (l.getD (W.getD g 0).toNat atD).ws.length - q) 0 ?_ ?_ ?_
      · (repeat (first | exact agree_refl | refine agree_r rfl ?_ | refine agree_l rfl ?_ | refine agree_hv rfl ?_))
      · exact ⟨Nat.zero_le _, S⟩
      clear S
      rintro q j w ⟨hq, S⟩
      repeat' (first | refine move_i_l S rfl rfl ?_ | refine move_s_l S rfl rfl ?_ | refine nilL ?_ | refine runM_seq ?_ | refine runM_skip ?_ | refine runM_region (by rfl) ?_ | refine assign_i_l S rfl rfl ?_ | (refine lss_l S rfl rfl rfl ?_ ?_ <;> intro hcmp <;> try (exfalso; first | omega | exact hcmp (by decide) | exact absurd hcmp (by decide))) | refine indexAddr_l S rfl rfl (idx_cast _) (by first | omega | decide | (simp; done) | (simp; omega)) rfl ?_ | refine fieldAddr_l S rfl rfl rfl ?_ | refine load_i_l S rfl rfl rfl rfl ?_ | refine add_l S rfl rfl (wrap_in (by omega)) rfl ?_ | refine loadEN_l S rfl (by first | omega | decide | (simp; done) | (simp; omega)) rfl rfl ?_ | (refine allocZ_l S rfl rfl ?_; clear S; intro b w S) | (refine storeN_l S rfl rfl ⟨rfl, rfl⟩ rfl ?_; clear S; intro w S) | refine runM_block ?_ | refine runM_exit ?_ | refine runM_cond_true rfl ?_ | refine runM_cond_false rfl ?_ | refine thenQ_n ?_ | refine thenQ_e ?_ | refine blockQ_n ?_ | refine blockQ_s rfl ?_)
      · have hql : q < (l.getD (W.getD g 0).toNat atD).ws.length := by omega
        have hpm := hkk _ (getD_mem (d := (0, 0)) hql)
        repeat' (first | refine move_i_l S rfl rfl ?_ | refine nilL ?_ | refine runM_region (by rfl) ?_ | refine indexAddr_l S rfl rfl (idx_eq _) (by first | omega | decide | (simp; done) | (simp; omega)) rfl ?_ | refine add_l S rfl rfl (wrap_in (by omega)) rfl ?_ | (refine storeE_i S rfl rfl (by omega) rfl ?_; clear S; intro w S) | refine thenQ_n ?_ | refine blockQ_n ?_)
        refine ⟨rfl, q + 1, ?_, ⟨by omega, ?_⟩, by omega⟩
        · rw [Int.natCast_add]
          (repeat (first | exact agree_refl | refine agree_r rfl ?_ | refine agree_l rfl ?_ | refine agree_hv rfl ?_))
        · have hl := wrtM_len m ((l.getD (W.getD g 0).toNat atD).ws.take q)
          have S2 := S.tail
          refine S2.turn1 (r' := row am2 m.length cm2 2 1 (gL encI 0 (wrtM m ((l.getD (W.getD g 0).toNat atD).ws.take (q + 1))))) (RowOk.congr S2.got1 (fun i hi j hj => ?_)) rfl (fun k e => e)
          rw [wrtM_succ m hql]
          exact encI_set2 _ _ _ (by omega) _ (by omega) _ hj
      · rw [List.take_of_length_le (by omega), ← hsucc] at S
        rw [hml] at S
        refine ⟨rfl, (g + 1, am2, cm2, s'), ?_, ⟨by omega, hR', ?_⟩, by dsimp only; omega⟩
        · rw [Int.natCast_add, hml]
          (repeat (first | exact agree_refl | refine agree_r rfl ?_ | refine agree_l rfl ?_ | refine agree_hv rfl ?_))
        · exact S.sub (L' := row am2 init.length cm2 2 1 (gL encI 0 (memG init l W (g + 1))) :: T s')
    · obtain rfl : g = W.length := by omega
      exact ⟨⟨_, rfl⟩, .inl ⟨s', hR', S.tail⟩⟩
  · clear S
    have S := Sat.start (fun _ => False) w'
    refine ⟨_, rfl, ?_⟩
    repeat' (first | refine nilL ?_ | refine y_nil ?_ | refine y_one (by rfl) (by rfl) ?_ | refine offL rfl rfl rfl rfl ?_ | refine move_b_l S rfl rfl ?_ | refine pick_fb_l S rfl rfl rfl ?_ | refine runM_exit ?_ | refine runM_cond_false rfl ?_ | refine thenQ_n ?_ | refine thenQ_e ?_ | refine blockQ_s rfl ?_ | refine endM_nil ?_ | refine ret0_n ?_)
    all_goals exact ⟨⟨_, rfl⟩, .inr hZ⟩
end Go.Proofs.Ytciehimnhnbipaa
