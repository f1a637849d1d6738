/- witness: Judge, whole. -/
import Derived.Test.YtciehimnhnbipaaWsJ
namespace Go.Proofs.Ytciehimnhnbipaa
open Go.RowKit Go.Lib
set_option linter.unusedVariables false
set_option maxHeartbeats 16000000
set_option maxRecDepth 100000
/-- What Judge tells. -/
def JFail (init : List Int) (l : List AtS) : Prop := ∃ W, IsWrs l W ∧ ((∃ g, g < W.length ∧ ¬ standP init l W g) ∨
  ((∀ g, g < W.length → standP init l W g) ∧ ∃ G i, i < l.length ∧ ¬ 0 < (l.getD i atD).wv ∧ (∀ k, k < i → ¬ 0 < (l.getD k atD).wv → GapMin init l W G k) ∧ ∀ x, ¬ GapP init l W G i x))
def JOk (init : List Int) (l : List AtS) (ord : List Int) : Prop := ∃ W G, IsWrs l W ∧ (∀ g, g < W.length → standP init l W g) ∧ (∀ k, k < l.length → ¬ 0 < (l.getD k atD).wv → GapMin init l W G k) ∧ ord = ordL l W G (W.length + 1)
theorem judge_at {ai a : Option Addr} {ci cap : Nat} {init : List Int} {l : List AtS} {w0 : World} (hi : (slL ai ci 1 encI 0 init).holds w0) (hl : (hisR a cap l).holds w0) (hn : init.length ≤ 1000000) (hll : l.length ≤ 100000) :
    Calls Try.prog 20 #[.slice ai init.length ci, .slice a l.length cap] w0 fun e w' => Below w0.heap.size w0 w' ∧
      ((¬ MayP init.length l ∧ e = .returned (.tuple #[.slice none 0 0, .bool false, .int .i64 4])) ∨
       (MayP init.length l ∧ JFail init l ∧ e = .returned (.tuple #[.slice none 0 0, .bool false, .int .i64 0])) ∨
       (MayP init.length l ∧ ∃ ord v, JOk init l ord ∧ e = .returned (.tuple #[v, .bool true, .int .i64 0]) ∧ NewRow w0 w' 3 1 encI 0 ord v)) := by
  have S := ((Sat.start (fun _ => False) w0).ro (r := hisR a cap l) hl rfl rfl).ro (r := slL ai ci 1 encI 0 init) hi rfl rfl
  refine enter3 Try.func20 rfl Try.ntmps20 rfl Try.results20 ?_
  repeat' (first | refine move_s_l S rfl rfl ?_ | refine assign_i_l S rfl rfl ?_ | refine nilL ?_ | refine run_seq ?_ | refine run_region ?_ | refine assign_s_l S rfl rfl ?_ | refine assign_b_l S rfl rfl ?_ | refine thenQ_n ?_)
  refine callL (may_at hl) rfl rfl ?_
  rintro e w ⟨rfl, hb⟩
  replace S := S.below hb
  clear hb
  refine ⟨_, rfl, ?_⟩
  by_cases hM : MayP init.length l
  · rw [decide_eq_true hM]
    repeat' (first | refine move_s_l S rfl rfl ?_ | refine nilL ?_ | refine run_seq ?_ | refine run_skip ?_ | refine run_region ?_ | refine not_l S rfl rfl ?_ | refine run_cond_false rfl ?_ | refine thenQ_n ?_)
    refine callL (writers_at (S.all (hisR a cap l) (by simp)) hll) rfl rfl ?_
    rintro e w ⟨_, W, rfl, hW, ⟨aw, cw, rfl, hh, hf⟩, hb⟩
    replace S := Sat.freshRow S hb hh hf
    clear hb hh hf
    replace S := S.freeze
    refine ⟨_, rfl, ?_⟩
    repeat' (first | refine move_s_l S rfl rfl ?_ | refine nilL ?_ | refine run_seq ?_ | refine run_region ?_ | refine assign_s_l S rfl rfl ?_ | refine thenQ_n ?_)
    have hWl : ∀ u ∈ W, 0 ≤ u ∧ u < l.length ∧ 0 < (l.getD u.toNat atD).wv := fun u hu => wrsL_mem (hW.1.mem_iff.1 hu)
    have hWn : W.length ≤ l.length := by rw [hW.1.length_eq]; exact wrsL_len l l.length
    have hrs : ∀ i, i < l.length → ∀ p ∈ (l.getD i atD).rs, 0 ≤ p.1 ∧ p.1 < init.length := fun i hi => (hM.2 i hi).2.2.2.2.2.2.1
    have hws : ∀ i, i < l.length → ∀ p ∈ (l.getD i atD).ws, 0 ≤ p.1 ∧ p.1 < init.length := fun i hi => (hM.2 i hi).2.2.2.2.2.2.2.1
    refine callL (stand_at (by have := hM.1; omega) (by omega) (fun u hu => ⟨(hWl u hu).1, (hWl u hu).2.1⟩) (fun u hu => hws _ (by have := hWl u hu; omega)) (fun u hu => hrs _ (by have := hWl u hu; omega)) (S.all (slL ai ci 1 encI 0 init) (by simp)) (S.all (slL aw cw 1 encI 0 W) (by simp)) (S.all (hisR a cap l) (by simp))) rfl rfl ?_
    rintro e w ⟨hb, ⟨hg, rfl⟩ | ⟨hst, am, cm, zs, rfl, hzs, hsl, hms⟩⟩
    · replace S := S.below hb
      refine ⟨_, rfl, ?_⟩
      repeat' (first | refine assign_i_l S rfl rfl ?_ | refine nilL ?_ | refine run_seq ?_ | refine run_region ?_ | refine assign_s_l S rfl rfl ?_ | refine assign_b_l S rfl rfl ?_ | refine not_l S rfl rfl ?_ | refine extract_b_l S rfl rfl rfl ?_ | refine extract_s_l S rfl rfl rfl ?_ | refine move_b_l S rfl rfl ?_ | refine move_o_l S rfl rfl ?_ | refine run_ret ?_ | refine run_cond_true rfl ?_ | refine thenQ_n ?_ | refine thenQ_r ?_ | refine ret3_l rfl rfl rfl ?_)
      exact ⟨S.chg.below, .inr (.inl ⟨hM, ⟨W, hW, .inl hg⟩, rfl⟩)⟩
    replace S := S.below hb
    have hmc : zs.length ≤ cm := hsl.2.1
    replace S := (S.ro (r := slL am cm 1 encSx sxD zs) hsl rfl rfl).ro (r := memsR zs) hms rfl rfl
    clear hb hsl hms
    refine ⟨_, rfl, ?_⟩
    have hzl : zs.length = W.length + 1 := by have := congrArg List.length hzs; simpa using this
    have hzm : ∀ i, i < W.length + 1 → (zs.getD i sxD).zs = memG init l W i := zs_at hzs
    repeat' (first | refine move_s_l S rfl rfl ?_ | refine nilL ?_ | refine run_seq ?_ | refine run_skip ?_ | refine run_region ?_ | refine assign_s_l S rfl rfl ?_ | refine add_l S rfl rfl (wrap_in (by omega)) rfl ?_ | refine assign_b_l S rfl rfl ?_ | refine len_l S rfl rfl ?_ | refine not_l S rfl rfl ?_ | refine extract_b_l S rfl rfl rfl ?_ | refine extract_s_l S rfl rfl rfl ?_ | refine move_b_l S rfl rfl ?_ | refine move_o_l S rfl rfl ?_ | refine run_cond_false rfl ?_ | refine thenQ_n ?_)
    refine makeSlice_l (k := W.length + 1) S rfl (by omega) rfl (by omega) rfl ?_
    clear S
    intro b9 w S
    repeat' (first | refine nilL ?_ | refine run_seq ?_ | refine run_region ?_ | refine assign_s_l S rfl rfl ?_ | refine thenQ_n ?_)
    refine makeMap_l S encIv rfl ?_
    clear S
    intro bm w S
    repeat' (first | refine move_i_l S rfl rfl ?_ | refine move_s_l S rfl rfl ?_ | refine nilL ?_ | refine run_seq ?_ | refine run_region ?_ | refine len_l S rfl rfl ?_ | refine assign_o_l S rfl rfl ?_ | refine run_block ?_ | refine thenQ_n ?_)
    have S2 := S.sw
    replace S := (S2.turn1 (r' := row (some ⟨b9, 0, none⟩) (W.length + 1) (W.length + 1) 24 1 (gL encSx sxD (List.replicate (W.length + 1) sxD))) (RowOk.congr S2.got1 (fun i hi j hj => by
      obtain rfl : j = 0 := by omega
      unfold gL
      rw [List.getD_eq_getElem?_getD, List.getElem?_replicate, if_pos hi]
      rfl)) rfl (fun k e => e)).sw
    clear S2
    replace S := S.push (r := rowsR (List.replicate (W.length + 1) sxD)) (rowsR_nil _ _) (fun x hx => .inr fun k e _ => by
      obtain ⟨z, hz, y, hy, _⟩ := e
      rw [List.eq_of_mem_replicate hz] at hy
      cases hy) (fun _ k e => by
      obtain ⟨z, hz, y, hy, _⟩ := e
      rw [List.eq_of_mem_replicate hz] at hy
      cases hy)
    refine run_while [5, 6, 11, 12, 13, 14, 15, 16, 17, 18, 19, 45, 46, 47, 48, 49, 50, 51, 52, 53, 54, 55, 56, 57, 58, 59, 60, 61, 62, 63, 64, 65, 66, 67, 68, 69, 70, 71, 72, 73, 74, 75, 76, 77, 78, 79, 80, 81, 82, 83, 84, 85, 86, 87, 88, 89, 90, 91, 92, 93, 94, 95, 96, 97, 98, 99, 100, 101, 102, 103, 104, 105, 106, 107, 108, 109, 110, 111, 112, 113, 114, 115, 116, 117, 118, 119, 120, 121, 122, 123, 124, 125] (fun (s : JS) t => upd (upd t 44 (.int .i64 (s.q : Nat))) 4 (.slice none 0 0)) (fun s w' => JInv init l W s ∧ Sat (fun _ => False) w0 w' [rowsR s.X, mapR bm encIv s.m, row (some ⟨b9, 0, none⟩) (W.length + 1) (W.length + 1) 24 1 (gL encSx sxD s.X), memsR zs, slL am cm 1 encSx sxD zs, slL aw cw 1 encI 0 W, slL ai ci 1 encI 0 init, hisR a cap l]) (fun s => l.length - s.q) ⟨0, fun _ => 0, [], List.replicate (W.length + 1) sxD⟩ ?_ ?_ ?_
    · (repeat (first | exact agree_refl | refine agree_r rfl ?_ | refine agree_l rfl ?_ | refine agree_hv rfl ?_))
    · exact ⟨JInv.start init l W, S⟩
    clear S
    rintro ⟨q, G, m, X⟩ j w ⟨hJ, S⟩
    replace S : Sat (fun _ => False) w0 w [rowsR X, mapR bm encIv m, row (some ⟨b9, 0, none⟩) (W.length + 1) (W.length + 1) 24 1 (gL encSx sxD X), memsR zs, slL am cm 1 encSx sxD zs, slL aw cw 1 encI 0 W, slL ai ci 1 encI 0 init, hisR a cap l] := S
    have hql : q ≤ l.length := hJ.q
    dsimp only
    by_cases hq : q < l.length
    · repeat' (first | refine move_i_l S rfl rfl ?_ | refine assign_i_l S rfl rfl ?_ | refine nilL ?_ | refine run_seq ?_ | refine run_skip ?_ | refine run_region ?_ | refine indexAddr_l S rfl rfl (idx_cast _) (by first | omega | decide | (simp; done) | (simp; omega)) rfl ?_ | (refine lss_l S rfl rfl rfl ?_ ?_ <;> intro hcmp <;> try (exfalso; first | omega | exact hcmp (by decide) | exact absurd hcmp (by decide))) | refine loadN_l S rfl rfl rfl ?_ | refine loadEN_l S rfl (by first | omega | decide | (simp; done) | (simp; omega)) rfl rfl ?_ | (refine allocZ_l S rfl rfl ?_; clear S; intro b w S) | (refine storeN_l S rfl rfl ⟨rfl, rfl⟩ rfl ?_; clear S; intro w S) | refine run_block ?_ | refine run_cond_true rfl ?_ | refine thenQ_n ?_)
      obtain ⟨b12, hb12⟩ : ∃ x, x = b := ⟨_, rfl⟩
      subst hb12
      replace S := S.turn1 (r' := blk b12 9 (encAt (l.getD q atD)) 32) S.got1 rfl (fun k e => e)
      refine callL (writer_at (l.getD q atD) _) rfl rfl ?_
      rintro e w ⟨rfl, hb⟩
      replace S := S.below hb
      clear hb
      refine ⟨_, rfl, ?_⟩
      by_cases hwr : 0 < (l.getD q atD).wv
      · rw [decide_eq_true hwr]
        repeat' (first | refine move_i_l S rfl rfl ?_ | refine nilL ?_ | refine run_region ?_ | refine add_l S rfl rfl (wrap_in (by omega)) rfl ?_ | refine run_exit ?_ | refine run_cond_true rfl ?_ | refine thenQ_n ?_ | refine thenQ_e ?_ | refine blockQ_s rfl ?_)
        refine ⟨⟨q + 1, G, m, X⟩, ?_, ⟨hJ.skip hq hwr, S.tail⟩, by show l.length - (q + 1) < l.length - q; omega⟩
        rw [Int.natCast_add]
        (repeat (first | exact agree_refl | refine agree_r rfl ?_ | refine agree_l rfl ?_ | refine agree_hv rfl ?_))
      · rw [decide_eq_false hwr]
        repeat' (first | refine move_i_l S rfl rfl ?_ | refine move_s_l S rfl rfl ?_ | refine assign_i_l S rfl rfl ?_ | refine nilL ?_ | refine run_seq ?_ | refine run_skip ?_ | refine run_region ?_ | refine len_l S rfl rfl ?_ | refine run_block ?_ | refine run_cond_false rfl ?_ | refine thenQ_n ?_)
        refine run_while [15, 16, 56, 57, 58, 59, 60, 61, 62, 63, 64, 65, 66, 67, 68, 69, 70, 71, 72, 73, 74, 75, 76, 77] (fun (s : Nat × Nat × Nat) t => upd (upd (upd t 55 (.int .i64 (s.1 : Nat))) 13 (.int .i64 (s.2.1 : Nat))) 14 (.int .i64 (s.2.2 : Nat)))
          (fun s w' => s.1 ≤ W.length ∧ s.2.1 ≤ s.1 ∧ LowI l W q s.1 s.2.1 ∧ s.2.2 ≤ W.length ∧ HighI l W q s.1 s.2.2 ∧ Sat (fun _ => False) w0 w' [blk b12 9 (encAt (l.getD q atD)) 32, rowsR X, mapR bm encIv m, row (some ⟨b9, 0, none⟩) (W.length + 1) (W.length + 1) 24 1 (gL encSx sxD X), memsR zs, slL am cm 1 encSx sxD zs, slL aw cw 1 encI 0 W, slL ai ci 1 encI 0 init, hisR a cap l])
          (fun s => W.length - s.1) (0, 0, W.length) ?_ ?_ ?_
        · (repeat (first | exact agree_refl | refine agree_r rfl ?_ | refine agree_l rfl ?_ | refine agree_hv rfl ?_))
        · exact ⟨Nat.zero_le _, Nat.le_refl _, fun x => ⟨fun _ j hj => absurd hj (Nat.not_lt_zero j), fun _ => Nat.zero_le _⟩, Nat.le_refl _, fun x => ⟨fun h => ⟨h, fun j hj => absurd hj (Nat.not_lt_zero j)⟩, fun h => h.1⟩, S⟩
        clear S
        rintro ⟨k, low, high⟩ j w ⟨hk, hlk, hlo, hhw, hhi, S⟩
        replace hk : k ≤ W.length := hk
        replace hlk : low ≤ k := hlk
        replace hhw : high ≤ W.length := hhw
        replace hlo : LowI l W q k low := hlo
        replace hhi : HighI l W q k high := hhi
        replace S : Sat (fun _ => False) w0 w [blk b12 9 (encAt (l.getD q atD)) 32, rowsR X, mapR bm encIv m, row (some ⟨b9, 0, none⟩) (W.length + 1) (W.length + 1) 24 1 (gL encSx sxD X), memsR zs, slL am cm 1 encSx sxD zs, slL aw cw 1 encI 0 W, slL ai ci 1 encI 0 init, hisR a cap l] := S
        dsimp only
        by_cases hkl : k < W.length
        · have hgm : W.getD k 0 ∈ W := getD_mem hkl
          obtain ⟨hu0, hu1, _⟩ := hWl _ hgm
          -- {{
          repeat' (first | refine move_i_l S rfl rfl ?_ | refine assign_i_l S rfl rfl ?_ | refine nilL ?_ | refine run_seq ?_ | refine run_skip ?_ | refine run_region ?_ | refine indexAddr_l S rfl rfl (idx_cast _) (by first | omega | decide | (simp; done) | (simp; omega)) rfl ?_ | (refine lss_l S rfl rfl rfl ?_ ?_ <;> intro hcmp <;> try (exfalso; first | omega | exact hcmp (by decide) | exact absurd hcmp (by decide))) | refine loadE_i_l S rfl (by first | omega | decide | (simp; done) | (simp; omega)) rfl rfl rfl ?_ | refine run_block ?_ | refine run_cond_true rfl ?_ | refine thenQ_n ?_)
          refine run_any S (L' := [blk b12 9 (encAt (l.getD q atD)) 32, hisR a cap l]) (f := 6) mixed rfl ?_
          clear S
          intro w S1
          have S : Sat _ _ w [blk b12 9 (encAt (l.getD q atD)) 32, hisR a cap l] := S1.sub
          all_goals (refine any_pure (i := 0) rfl (by kernel_rfl) S ?_; refine move_s_x rfl rfl ?_)
          all_goals (refine any_pure (i := 1) rfl (by kernel_rfl) S ?_; refine move_i_x rfl rfl ?_)
          all_goals (refine any_pure (i := 2) rfl (by kernel_rfl) S ?_; (first | refine indexAddr_x rfl rfl (idx_cast _) (by first | omega | decide | (simp; done) | (simp; omega)) rfl ?_ | refine indexAddr_x rfl rfl (idx_eq _) (by first | omega | decide | (simp; done) | (simp; omega)) rfl ?_))
          all_goals (refine any_pure (i := 3) rfl (by kernel_rfl) S ?_; (first | refine loadN_x rfl rfl rfl ?_ | refine loadEN_x rfl (by first | omega | decide | (simp; done) | (simp; omega)) rfl rfl ?_))
          all_goals (refine any_pure (i := 4) rfl (by kernel_rfl) S ?_; (first | refine loadN_x rfl rfl rfl ?_ | refine loadEN_x rfl (by first | omega | decide | (simp; done) | (simp; omega)) rfl rfl ?_))
          all_goals refine any_step (i := 5) rfl (by kernel_rfl) ?_
          all_goals replace S := S1
          all_goals clear S1
          refine callL (ahead_at (l.getD (W.getD k 0).toNat atD) (l.getD q atD) _) rfl rfl ?_
          rintro e w ⟨rfl, hb⟩
          replace S := S.below hb
          clear hb
          refine ⟨_, rfl, ?_⟩
          all_goals try refine nilL ?_
          all_goals refine ⟨S.sub, ?_⟩
          all_goals (have S1 := S; replace S : Sat _ _ _ [blk b12 9 (encAt (l.getD q atD)) 32, hisR a cap l] := S1.sub)
          all_goals refine any_end (by kernel_rfl) ?_
          all_goals replace S := S1
          all_goals clear S1
          cases hA1 : aheadB (l.getD (W.getD k 0).toNat atD) (l.getD q atD) with
          | true =>
            repeat' (first | refine move_i_l S rfl rfl ?_ | refine assign_i_l S rfl rfl ?_ | refine nilL ?_ | refine run_seq ?_ | refine run_region ?_ | refine add_l S rfl rfl (wrap_in (by omega)) rfl ?_ | refine run_cond_true rfl ?_ | refine thenQ_n ?_)
            refine run_any S (L' := [blk b12 9 (encAt (l.getD q atD)) 32, hisR a cap l]) (f := 6) mixed rfl ?_
            clear S
            intro w S1
            have S : Sat _ _ w [blk b12 9 (encAt (l.getD q atD)) 32, hisR a cap l] := S1.sub
            all_goals (refine any_pure (i := 0) rfl (by kernel_rfl) S ?_; (first | refine loadN_x rfl rfl rfl ?_ | refine loadEN_x rfl (by first | omega | decide | (simp; done) | (simp; omega)) rfl rfl ?_))
            all_goals (refine any_pure (i := 1) rfl (by kernel_rfl) S ?_; refine move_s_x rfl rfl ?_)
            all_goals (refine any_pure (i := 2) rfl (by kernel_rfl) S ?_; refine move_i_x rfl rfl ?_)
            all_goals (refine any_pure (i := 3) rfl (by kernel_rfl) S ?_; (first | refine indexAddr_x rfl rfl (idx_cast _) (by first | omega | decide | (simp; done) | (simp; omega)) rfl ?_ | refine indexAddr_x rfl rfl (idx_eq _) (by first | omega | decide | (simp; done) | (simp; omega)) rfl ?_))
            all_goals (refine any_pure (i := 4) rfl (by kernel_rfl) S ?_; (first | refine loadN_x rfl rfl rfl ?_ | refine loadEN_x rfl (by first | omega | decide | (simp; done) | (simp; omega)) rfl rfl ?_))
            all_goals refine any_step (i := 5) rfl (by kernel_rfl) ?_
            all_goals replace S := S1
            all_goals clear S1
            refine callL (ahead_at (l.getD q atD) (l.getD (W.getD k 0).toNat atD) _) rfl rfl ?_
            rintro e w ⟨rfl, hb⟩
            replace S := S.below hb
            clear hb
            refine ⟨_, rfl, ?_⟩
            all_goals try refine nilL ?_
            all_goals refine ⟨S.sub, ?_⟩
            all_goals (have S1 := S; replace S : Sat _ _ _ [blk b12 9 (encAt (l.getD q atD)) 32, hisR a cap l] := S1.sub)
            all_goals refine any_end (by kernel_rfl) ?_
            all_goals replace S := S1
            all_goals clear S1
            cases hA2 : aheadB (l.getD q atD) (l.getD (W.getD k 0).toNat atD) with
            | true =>
              repeat' (first | refine move_i_l S rfl rfl ?_ | refine assign_i_l S rfl rfl ?_ | refine nilL ?_ | refine run_region ?_ | refine add_l S rfl rfl (wrap_in (by omega)) rfl ?_ | refine minI_l S rfl rfl rfl ?_ | refine run_cond_true rfl ?_ | refine thenQ_n ?_ | refine blockQ_n ?_)
              have hmin : min (high : Int) (k : Int) = ((min high k : Nat) : Int) := by omega
              rw [hmin]
              refine ⟨(k + 1, (k + 1), min high k), ?_, ⟨by show k + 1 ≤ _; omega, by show (k + 1) ≤ k + 1; omega, low_t hlo hA1 (by omega), by show min high k ≤ _; omega, high_t hhi hA2 (by omega), S⟩, by show W.length - (k + 1) < W.length - k; omega⟩
              rw [Int.natCast_add]
              (repeat (first | exact agree_refl | refine agree_r rfl ?_ | refine agree_l rfl ?_ | refine agree_hv rfl ?_))
            | false =>
              repeat' (first | refine move_i_l S rfl rfl ?_ | refine nilL ?_ | refine run_skip ?_ | refine run_region ?_ | refine add_l S rfl rfl (wrap_in (by omega)) rfl ?_ | refine run_cond_false rfl ?_ | refine thenQ_n ?_ | refine blockQ_n ?_)
              refine ⟨(k + 1, (k + 1), high), ?_, ⟨by show k + 1 ≤ _; omega, by show (k + 1) ≤ k + 1; omega, low_t hlo hA1 (by omega), hhw, high_f hhi hA2, S⟩, by show W.length - (k + 1) < W.length - k; omega⟩
              rw [Int.natCast_add]
              (repeat (first | exact agree_refl | refine agree_r rfl ?_ | refine agree_l rfl ?_ | refine agree_hv rfl ?_))
          | false =>
            repeat' (first | refine run_seq ?_ | refine run_skip ?_ | refine run_cond_false rfl ?_ | refine thenQ_n ?_)
            refine run_any S (L' := [blk b12 9 (encAt (l.getD q atD)) 32, hisR a cap l]) (f := 6) mixed rfl ?_
            clear S
            intro w S1
            have S : Sat _ _ w [blk b12 9 (encAt (l.getD q atD)) 32, hisR a cap l] := S1.sub
            all_goals (refine any_pure (i := 0) rfl (by kernel_rfl) S ?_; (first | refine loadN_x rfl rfl rfl ?_ | refine loadEN_x rfl (by first | omega | decide | (simp; done) | (simp; omega)) rfl rfl ?_))
            all_goals (refine any_pure (i := 1) rfl (by kernel_rfl) S ?_; refine move_s_x rfl rfl ?_)
            all_goals (refine any_pure (i := 2) rfl (by kernel_rfl) S ?_; refine move_i_x rfl rfl ?_)
            all_goals (refine any_pure (i := 3) rfl (by kernel_rfl) S ?_; (first | refine indexAddr_x rfl rfl (idx_cast _) (by first | omega | decide | (simp; done) | (simp; omega)) rfl ?_ | refine indexAddr_x rfl rfl (idx_eq _) (by first | omega | decide | (simp; done) | (simp; omega)) rfl ?_))
            all_goals (refine any_pure (i := 4) rfl (by kernel_rfl) S ?_; (first | refine loadN_x rfl rfl rfl ?_ | refine loadEN_x rfl (by first | omega | decide | (simp; done) | (simp; omega)) rfl rfl ?_))
            all_goals refine any_step (i := 5) rfl (by kernel_rfl) ?_
            all_goals replace S := S1
            all_goals clear S1
            refine callL (ahead_at (l.getD q atD) (l.getD (W.getD k 0).toNat atD) _) rfl rfl ?_
            rintro e w ⟨rfl, hb⟩
            replace S := S.below hb
            clear hb
            refine ⟨_, rfl, ?_⟩
            all_goals try refine nilL ?_
            all_goals refine ⟨S.sub, ?_⟩
            all_goals (have S1 := S; replace S : Sat _ _ _ [blk b12 9 (encAt (l.getD q atD)) 32, hisR a cap l] := S1.sub)
            all_goals refine any_end (by kernel_rfl) ?_
            all_goals replace S := S1
            all_goals clear S1
            cases hA2 : aheadB (l.getD q atD) (l.getD (W.getD k 0).toNat atD) with
            | true =>
              repeat' (first | refine move_i_l S rfl rfl ?_ | refine assign_i_l S rfl rfl ?_ | refine nilL ?_ | refine run_region ?_ | refine add_l S rfl rfl (wrap_in (by omega)) rfl ?_ | refine minI_l S rfl rfl rfl ?_ | refine run_cond_true rfl ?_ | refine thenQ_n ?_ | refine blockQ_n ?_)
              have hmin : min (high : Int) (k : Int) = ((min high k : Nat) : Int) := by omega
              rw [hmin]
              refine ⟨(k + 1, low, min high k), ?_, ⟨by show k + 1 ≤ _; omega, by show low ≤ k + 1; omega, low_f hlo hA1 (by omega), by show min high k ≤ _; omega, high_t hhi hA2 (by omega), S⟩, by show W.length - (k + 1) < W.length - k; omega⟩
              rw [Int.natCast_add]
              (repeat (first | exact agree_refl | refine agree_r rfl ?_ | refine agree_l rfl ?_ | refine agree_hv rfl ?_))
            | false =>
              repeat' (first | refine move_i_l S rfl rfl ?_ | refine nilL ?_ | refine run_skip ?_ | refine run_region ?_ | refine add_l S rfl rfl (wrap_in (by omega)) rfl ?_ | refine run_cond_false rfl ?_ | refine thenQ_n ?_ | refine blockQ_n ?_)
              refine ⟨(k + 1, low, high), ?_, ⟨by show k + 1 ≤ _; omega, by show low ≤ k + 1; omega, low_f hlo hA1 (by omega), hhw, high_f hhi hA2, S⟩, by show W.length - (k + 1) < W.length - k; omega⟩
              rw [Int.natCast_add]
              (repeat (first | exact agree_refl | refine agree_r rfl ?_ | refine agree_l rfl ?_ | refine agree_hv rfl ?_))
          -- }}
        · obtain rfl : k = W.length := by omega
          repeat' (first | refine nilL ?_ | refine run_seq ?_ | refine run_region ?_ | (refine lss_l S rfl rfl rfl ?_ ?_ <;> intro hcmp <;> try (exfalso; first | omega | exact hcmp (by decide) | exact absurd hcmp (by decide))) | refine move_o_l S rfl rfl ?_ | refine run_exit ?_ | refine run_cond_false rfl ?_ | refine thenQ_n ?_ | refine thenQ_e ?_ | refine blockQ_s rfl ?_)
          obtain ⟨es, clock, hE, hback, S2⟩ := Sat.mapEnts2 (b := bm) (enc := encIv) (m := m) S
          clear S
          have S : Sat (fun _ => False) w0 w [blk b12 9 (encAt (l.getD q atD)) 32, rowsR X, mapE bm es clock, row (some ⟨b9, 0, none⟩) (W.length + 1) (W.length + 1) 24 1 (gL encSx sxD X), memsR zs, slL am cm 1 encSx sxD zs, slL aw cw 1 encI 0 W, slL ai ci 1 encI 0 init, hisR a cap l] := S2
          clear S2
          refine range_l S rfl rfl ?_
          clear S
          intro r w S
          repeat' (first | refine nilL ?_ | refine run_block ?_ | refine thenQ_n ?_)
          refine run_while [17, 18, 80, 81, 82, 83, 84, 85, 86, 87, 88, 89, 90, 91, 92, 93] (fun (s : List (Int × Int) × List (Int × Int) × Array Nat × Nat) t => upd t 13 (.int .i64 (s.2.2.2 : Nat)))
            (fun s w' => WkOk encIv m es clock s.2.2.1 s.1 s.2.1 ∧ MapLow l q s.1 low s.2.2.2 ∧ s.2.2.2 ≤ W.length + 100000 ∧ Sat (fun _ => False) w0 w' [wkR r bm clock s.2.2.1, blk b12 9 (encAt (l.getD q atD)) 32, rowsR X, mapE bm es clock, row (some ⟨b9, 0, none⟩) (W.length + 1) (W.length + 1) 24 1 (gL encSx sxD X), memsR zs, slL am cm 1 encSx sxD zs, slL aw cw 1 encI 0 W, slL ai ci 1 encI 0 init, hisR a cap l])
            (fun s => s.2.1.length) ([], m, #[], low) ?_ ?_ ?_
          · (repeat (first | exact agree_refl | refine agree_r rfl ?_ | refine agree_l rfl ?_ | refine agree_hv rfl ?_))
          · exact ⟨WkOk.start hE, fun x => ⟨fun h => ⟨h, fun p hp => (by cases hp)⟩, fun h => h.1⟩, by show low ≤ _; omega, S⟩
          clear S
          rintro ⟨pre, post, seen, lw⟩ j w ⟨hwk, hml, hlw, S⟩
          replace hwk : WkOk encIv m es clock seen pre post := hwk
          replace hml : MapLow l q pre low lw := hml
          replace hlw : lw ≤ W.length + 100000 := hlw
          replace S : Sat (fun _ => False) w0 w [wkR r bm clock seen, blk b12 9 (encAt (l.getD q atD)) 32, rowsR X, mapE bm es clock, row (some ⟨b9, 0, none⟩) (W.length + 1) (W.length + 1) 24 1 (gL encSx sxD X), memsR zs, slL am cm 1 encSx sxD zs, slL aw cw 1 encI 0 W, slL ai ci 1 encI 0 init, hisR a cap l] := S
          dsimp only
          repeat' (first | refine run_seq ?_ | refine run_region ?_)
          refine next_l S rfl hwk rfl ?_ ?_
          · rintro rfl
            have hpm := hwk.perm
            rw [List.append_nil] at hpm
            replace S := S.tail
            have S2 := Sat.turn (r := mapE bm es clock) (r' := mapR bm encIv m) S (hback w (S.all (mapE bm es clock) (by simp))) rfl (fun k e => e)
            clear S
            have S : Sat (fun _ => False) w0 w [blk b12 9 (encAt (l.getD q atD)) 32, rowsR X, mapR bm encIv m, row (some ⟨b9, 0, none⟩) (W.length + 1) (W.length + 1) 24 1 (gL encSx sxD X), memsR zs, slL am cm 1 encSx sxD zs, slL aw cw 1 encI 0 W, slL ai ci 1 encI 0 init, hisR a cap l] := S2
            clear S2
            have hgap : ∀ x, GapP init l W G q x ↔ (lw ≤ x ∧ x ≤ high) ∧ fitsB (l.getD q atD) (memG init l W x) = true := fun x => gap_iff hJ hlo hhi hpm hml
            clear hlo hhi hml hwk hback hE hpm
            repeat' (first | refine move_i_l S rfl rfl ?_ | refine move_s_l S rfl rfl ?_ | refine assign_i_l S rfl rfl ?_ | refine nilL ?_ | refine run_seq ?_ | refine run_skip ?_ | refine run_region ?_ | refine assign_s_l S rfl rfl ?_ | refine add_l S rfl rfl (wrap_in (by omega)) rfl ?_ | refine assign_b_l S rfl rfl ?_ | (refine lss_l S rfl rfl rfl ?_ ?_ <;> intro hcmp <;> try (exfalso; first | omega | exact hcmp (by decide) | exact absurd hcmp (by decide))) | refine extract_b_l S rfl rfl rfl ?_ | (refine leq_l S rfl rfl rfl ?_ ?_ <;> intro hcmp <;> try (exfalso; first | omega | exact hcmp (by decide) | exact absurd hcmp (by decide))) | refine run_ret ?_ | refine run_exit ?_ | refine run_cond_true rfl ?_ | refine run_cond_false rfl ?_ | refine thenQ_n ?_ | refine thenQ_r ?_ | refine thenQ_e ?_ | refine blockQ_r ?_ | refine blockQ_s rfl ?_ | refine ret3_l rfl rfl rfl ?_)
            · refine sliceMid_l (l := lw) (h := high + 1) S rfl rfl (sl_eqN (by omega)) (by omega) rfl ?_
              repeat' (first | refine makeFunc_l S rfl rfl rfl ?_)
              have hlen : ((zs.drop lw).take (high + 1 - lw)).length = high + 1 - lw := by rw [List.length_take, List.length_drop]; omega
              refine callL (indexS_at (f := 43) (l2 := [.pointer (some ⟨b12, 0, none⟩)]) (p := fun z => fitsB (l.getD q atD) z.zs) (I := fun w => (blk b12 9 (encAt (l.getD q atD)) 32).holds w ∧ (hisR a cap l).holds w ∧ (memsR zs).holds w)
                (zs := (zs.drop lw).take (high + 1 - lw)) ?_ ?_ _ _ _ ⟨S.got1, S.all (hisR a cap l) (by simp), S.all (memsR zs) (by simp)⟩ (slOk_mid (S.all (slL am cm 1 encSx sxD zs) (by simp)) lw (high + 1 - lw) (by omega))) (by rw [hlen]; rfl) rfl ?_
              · exact fun w w' h hb => ⟨holds_below h.1 hb, holds_below h.2.1 hb, holds_below h.2.2 hb⟩
              · intro x w hx h
                have hx2 : x ∈ zs := List.mem_of_mem_drop (List.mem_of_mem_take hx)
                have hxl : x.zs.length = init.length := by
                  have h1 : x.zs ∈ zs.map SlX.zs := List.mem_map.2 ⟨x, hx2, rfl⟩
                  rw [hzs] at h1
                  obtain ⟨i, _, hi2⟩ := List.mem_map.1 h1
                  rw [← hi2, memG_len]
                exact judge1_at w h.1 (h.2.1.2 q) (h.2.2 x hx2) (by rw [hxl]; exact hrs q hq)
              rintro e w ⟨rfl, hb⟩
              replace S := S.below hb
              clear hb
              refine ⟨_, rfl, ?_⟩
              rcases idxG_spec (fun z => fitsB (l.getD q atD) z.zs) ((zs.drop lw).take (high + 1 - lw)) with ⟨hr, hno⟩ | ⟨d, hr, hd, hfit, hmin⟩
              · rw [hr]
                repeat' (first | refine move_i_l S rfl rfl ?_ | refine assign_i_l S rfl rfl ?_ | refine nilL ?_ | refine run_seq ?_ | refine run_region ?_ | refine assign_s_l S rfl rfl ?_ | refine assign_b_l S rfl rfl ?_ | (refine lss_l S rfl rfl rfl ?_ ?_ <;> intro hcmp <;> try (exfalso; first | omega | exact hcmp (by decide) | exact absurd hcmp (by decide))) | refine run_ret ?_ | refine run_cond_true rfl ?_ | refine thenQ_n ?_ | refine thenQ_r ?_ | refine blockQ_r ?_ | refine ret3_l rfl rfl rfl ?_)
                refine ⟨S.chg.below, .inr (.inl ⟨hM, ⟨W, hW, .inr ⟨hst, G, q, hq, hwr, hJ.gap, fun x hx => ?_⟩⟩, rfl⟩)⟩
                obtain ⟨⟨h1, h2⟩, h3⟩ := (hgap x).1 hx
                have h4 := hno (x - lw) (by omega)
                rw [mid_at (by omega), show lw + (x - lw) = x from by omega, hzm x (by omega), h3] at h4
                cases h4
              · rw [hr]
                rw [hlen] at hd
                rw [mid_at hd, hzm _ (by omega)] at hfit
                have hgm : GapMin init l W (fun k => if k = q then lw + d else G k) q := by
                  have hc : ∀ k, k < q → G k = (fun k => if k = q then lw + d else G k) k := fun k hk => by dsimp only; rw [if_neg (by omega)]
                  refine ⟨?_, fun x hx => ?_⟩
                  · dsimp only
                    rw [if_pos rfl]
                    exact ((hgap (lw + d)).2 ⟨⟨by omega, by omega⟩, hfit⟩).congr hc
                  · dsimp only
                    rw [if_pos rfl]
                    obtain ⟨⟨h1, h2⟩, h3⟩ := (hgap x).1 (hx.congr fun k hk => (hc k hk).symm)
                    refine Nat.le_of_not_lt fun hlt => ?_
                    have h4 := hmin (x - lw) (by omega)
                    rw [mid_at (by omega), show lw + (x - lw) = x from by omega, hzm x (by omega), h3] at h4
                    cases h4
                clear hgap hmin hfit
                repeat' (first | refine move_i_l S rfl rfl ?_ | refine assign_i_l S rfl rfl ?_ | refine nilL ?_ | refine run_seq ?_ | refine run_skip ?_ | refine run_region ?_ | refine add_l S rfl rfl (wrap_in (by omega)) rfl ?_ | (refine lss_l S rfl rfl rfl ?_ ?_ <;> intro hcmp <;> try (exfalso; first | omega | exact hcmp (by decide) | exact absurd hcmp (by decide))) | refine move_o_l S rfl rfl ?_ | refine run_cond_false rfl ?_ | refine thenQ_n ?_)
                refine mapPut_l (b := bm) (m := m) (enc := encIv) (k := (q : Int)) (a := (lw : Int) + (d : Int)) S rfl rfl rfl ?_
                clear S
                intro w S
                have hXl : X.length = W.length + 1 := hJ.len
                have hgi2 : ((lw : Int) + (d : Int)).toNat = lw + d := by omega
                have hzlen : (X.getD ((lw : Int) + (d : Int)).toNat sxD).zs.length ≤ 100000 := by
                  rw [hJ.rows _ (by omega)]
                  exact Nat.le_trans (inG_len l G q _) (by omega)
                replace S := (Sat.sw S).rowsSplit (z := X.getD ((lw : Int) + (d : Int)).toNat sxD) (Y := X.eraseIdx ((lw : Int) + (d : Int)).toNat) (perm_split (by omega))
                repeat' (first | refine move_i_l S rfl rfl ?_ | refine move_s_l S rfl rfl ?_ | refine nilL ?_ | refine run_region ?_ | refine add_l S rfl rfl (wrap_in (by omega)) rfl ?_ | refine indexAddr_l S rfl rfl (idx_cast _) (by first | omega | decide | (simp; done) | (simp; omega)) rfl ?_ | (refine buildSlice_l S rfl rfl rfl rfl rfl ?_; clear S; intro b w S) | refine loadE_o_l S rfl (by first | omega | decide | (simp; done) | (simp; omega)) rfl rfl rfl ?_ | refine thenQ_n ?_)
                refine append1_i (a := (X.getD ((lw : Int) + (d : Int)).toNat sxD).a) (cap := (X.getD ((lw : Int) + (d : Int)).toNat sxD).cap) (dd := 0) (z := (q : Int)) (zs := (X.getD ((lw : Int) + (d : Int)).toNat sxD).zs) S rfl rfl rfl (by omega) rfl ?_
                clear S
                intro a' cap' w S
                replace S := S.tail
                repeat' (first | refine move_i_l S rfl rfl ?_ | refine nilL ?_ | refine run_region ?_ | refine add_l S rfl rfl (wrap_in (by omega)) rfl ?_ | refine indexAddr_l S rfl rfl (idx_cast _) (by first | omega | decide | (simp; done) | (simp; omega)) rfl ?_ | (refine storeE_s S rfl rfl (by omega) rfl ?_; clear S; intro w S) | refine thenQ_n ?_ | refine blockQ_n ?_)
                have hjp : (SlX.mk a' cap' ((X.getD ((lw : Int) + (d : Int)).toNat sxD).zs ++ [(q : Int)]) :: X.eraseIdx ((lw : Int) + (d : Int)).toNat).Perm (X.set (lw + d) ⟨a', cap', (X.getD ((lw : Int) + (d : Int)).toNat sxD).zs ++ [(q : Int)]⟩) := by
                  rw [hgi2]; exact perm_join (by omega) _
                replace S := Sat.rowsJoin (z := ⟨a', cap', (X.getD ((lw : Int) + (d : Int)).toNat sxD).zs ++ [(q : Int)]⟩) (X := X.set (lw + d) ⟨a', cap', (X.getD ((lw : Int) + (d : Int)).toNat sxD).zs ++ [(q : Int)]⟩) (Y := X.eraseIdx ((lw : Int) + (d : Int)).toNat) hjp S
                refine ⟨⟨q + 1, fun k => if k = q then lw + d else G k, putM m q (lw + d : Nat), X.set (lw + d) ⟨a', cap', (X.getD ((lw : Int) + (d : Int)).toNat sxD).zs ++ [(q : Int)]⟩⟩, ?_, ⟨hJ.add hq hwr (lw + d) hgm _ (by rw [hgi2]) (by omega), ?_⟩, by show l.length - (q + 1) < l.length - q; omega⟩
                · dsimp only
                  rw [Int.natCast_add q 1]
                  (repeat (first | exact agree_refl | refine agree_r rfl ?_ | refine agree_l rfl ?_ | refine agree_hv rfl ?_))
                · have S2 := S.tail.sub (L' := [row (some ⟨b9, 0, none⟩) (W.length + 1) (W.length + 1) 24 1 (gset (gL encSx sxD X) (lw + d) 0 (Value.slice a' ((X.getD ((lw : Int) + (d : Int)).toNat sxD).zs ++ [(q : Int)]).length cap'))])
                  have hrow := S2.got1
                  clear S2
                  show Sat (fun _ => False) w0 w [rowsR (X.set (lw + d) ⟨a', cap', (X.getD ((lw : Int) + (d : Int)).toNat sxD).zs ++ [(q : Int)]⟩), mapR bm encIv (putM m q ((lw : Int) + (d : Int))), row (some ⟨b9, 0, none⟩) (W.length + 1) (W.length + 1) 24 1 (gL encSx sxD (X.set (lw + d) ⟨a', cap', (X.getD ((lw : Int) + (d : Int)).toNat sxD).zs ++ [(q : Int)]⟩)), memsR zs, slL am cm 1 encSx sxD zs, slL aw cw 1 encI 0 W, slL ai ci 1 encI 0 init, hisR a cap l]
                  refine Sat.sub (L' := _) (Sat.turn (r := row (some ⟨b9, 0, none⟩) (W.length + 1) (W.length + 1) 24 1 (gset (gL encSx sxD X) (lw + d) 0 (Value.slice a' ((X.getD ((lw : Int) + (d : Int)).toNat sxD).zs ++ [(q : Int)]).length cap'))) (r' := row (some ⟨b9, 0, none⟩) (W.length + 1) (W.length + 1) 24 1 (gL encSx sxD (X.set (lw + d) ⟨a', cap', (X.getD ((lw : Int) + (d : Int)).toNat sxD).zs ++ [(q : Int)]⟩))) S (RowOk.congr hrow (fun i hi j hj => encSx_set X (lw + d) ⟨a', cap', (X.getD ((lw : Int) + (d : Int)).toNat sxD).zs ++ [(q : Int)]⟩ (by omega) i (by omega) j hj)) rfl (fun k e => e))
            · exact ⟨S.chg.below, .inr (.inl ⟨hM, ⟨W, hW, .inr ⟨hst, G, q, hq, hwr, hJ.gap, fun x hx => by have := ((hgap x).1 hx).1; omega⟩⟩, rfl⟩)⟩
          · clear S
            intro p post' seen' w hk' S
            replace S : Sat (fun _ => False) w0 w [wkR r bm clock seen', blk b12 9 (encAt (l.getD q atD)) 32, rowsR X, mapE bm es clock, row (some ⟨b9, 0, none⟩) (W.length + 1) (W.length + 1) 24 1 (gL encSx sxD X), memsR zs, slL am cm 1 encSx sxD zs, slL aw cw 1 encI 0 W, slL ai ci 1 encI 0 init, hisR a cap l] := S
            have hpm : p ∈ m := hk'.perm.mem_iff.1 (by simp)
            have hl2 : pre.length + 1 + post'.length = pre.length + post.length := by
              have h1 := hk'.perm.length_eq
              have h2 := hwk.perm.length_eq
              rw [List.length_append, List.length_append] at h1
              rw [List.length_append] at h2
              simp only [List.length_singleton] at h1
              omega
            obtain ⟨k0, hk0, hk0n, rfl⟩ := (hJ.mem p).1 hpm
            replace hk0 : k0 < q := hk0
            have hG0 : G k0 ≤ W.length := (hJ.gap k0 hk0 hk0n).1.2.1.1
            repeat' (first | refine nilL ?_ | refine run_seq ?_ | refine run_skip ?_ | refine run_region ?_ | refine extract_b_l S rfl rfl rfl ?_ | refine run_block ?_ | refine run_cond_true rfl ?_ | refine thenQ_n ?_)
            -- {{
            refine entry_l S rfl hk' rfl ?_
            repeat' (first | refine assign_i_l S rfl rfl ?_ | refine nilL ?_ | refine run_seq ?_ | refine extract_i_l S rfl rfl rfl ?_ | refine thenQ_n ?_)
            refine run_any S (L' := [blk b12 9 (encAt (l.getD q atD)) 32, hisR a cap l]) (f := 6) mixed rfl ?_
            clear S
            intro w S1
            have S : Sat _ _ w [blk b12 9 (encAt (l.getD q atD)) 32, hisR a cap l] := S1.sub
            all_goals (refine any_pure (i := 0) rfl (by kernel_rfl) S ?_; refine move_s_x rfl rfl ?_)
            all_goals (refine any_pure (i := 1) rfl (by kernel_rfl) S ?_; refine move_i_x rfl rfl ?_)
            all_goals (refine any_pure (i := 2) rfl (by kernel_rfl) S ?_; (first | refine indexAddr_x rfl rfl (idx_cast _) (by first | omega | decide | (simp; done) | (simp; omega)) rfl ?_ | refine indexAddr_x rfl rfl (idx_eq _) (by first | omega | decide | (simp; done) | (simp; omega)) rfl ?_))
            all_goals (refine any_pure (i := 3) rfl (by kernel_rfl) S ?_; (first | refine loadN_x rfl rfl rfl ?_ | refine loadEN_x rfl (by first | omega | decide | (simp; done) | (simp; omega)) rfl rfl ?_))
            all_goals (refine any_pure (i := 4) rfl (by kernel_rfl) S ?_; (first | refine loadN_x rfl rfl rfl ?_ | refine loadEN_x rfl (by first | omega | decide | (simp; done) | (simp; omega)) rfl rfl ?_))
            all_goals refine any_step (i := 5) rfl (by kernel_rfl) ?_
            all_goals replace S := S1
            all_goals clear S1
            refine callL (ahead_at (l.getD k0 atD) (l.getD q atD) _) rfl rfl ?_
            rintro e w ⟨rfl, hb⟩
            replace S := S.below hb
            clear hb
            refine ⟨_, rfl, ?_⟩
            all_goals try refine nilL ?_
            all_goals refine ⟨S.sub, ?_⟩
            all_goals (have S1 := S; replace S : Sat _ _ _ [blk b12 9 (encAt (l.getD q atD)) 32, hisR a cap l] := S1.sub)
            all_goals refine any_end (by kernel_rfl) ?_
            all_goals replace S := S1
            all_goals clear S1
            cases hA : aheadB (l.getD k0 atD) (l.getD q atD) with
            | true =>
              repeat' (first | refine move_i_l S rfl rfl ?_ | refine assign_i_l S rfl rfl ?_ | refine nilL ?_ | refine run_region ?_ | refine maxI_l S rfl rfl rfl ?_ | refine run_cond_true rfl ?_ | refine thenQ_n ?_ | refine blockQ_n ?_)
              have hmax : max (lw : Int) (G k0 : Int) = ((max lw (G k0) : Nat) : Int) := by omega
              refine ⟨(pre ++ [((k0 : Int), (G k0 : Int))], post', seen', max lw (G k0)), ?_, ⟨hk', maplow_t hml hA, by show max lw (G k0) ≤ _; omega, S⟩, by show post'.length < post.length; omega⟩
              dsimp only
              rw [← hmax]
              (repeat (first | exact agree_refl | refine agree_r rfl ?_ | refine agree_l rfl ?_ | refine agree_hv rfl ?_))
            | false =>
              repeat' (first | refine run_skip ?_ | refine run_cond_false rfl ?_ | refine thenQ_n ?_ | refine blockQ_n ?_)
              refine ⟨(pre ++ [((k0 : Int), (G k0 : Int))], post', seen', lw), ?_, ⟨hk', maplow_f hml hA, hlw, S⟩, by show post'.length < post.length; omega⟩
              (repeat (first | exact agree_refl | refine agree_r rfl ?_ | refine agree_l rfl ?_ | refine agree_hv rfl ?_))
            -- }}
    · obtain rfl : q = l.length := by omega
      repeat' (first | refine move_i_l S rfl rfl ?_ | refine move_s_l S rfl rfl ?_ | refine nilL ?_ | refine run_seq ?_ | refine run_region ?_ | refine len_l S rfl rfl ?_ | (refine lss_l S rfl rfl rfl ?_ ?_ <;> intro hcmp <;> try (exfalso; first | omega | exact hcmp (by decide) | exact absurd hcmp (by decide))) | refine run_block ?_ | refine run_exit ?_ | refine run_cond_false rfl ?_ | refine thenQ_n ?_ | refine thenQ_e ?_ | refine blockQ_s rfl ?_)
      replace S := S.nilRow 3 1 encI 0 (by decide)
      refine run_while [20, 21, 129, 130, 131, 132, 133, 134, 135, 136, 137, 138, 139, 140, 141, 142, 143, 144, 145, 146] (fun (s : Nat × Option Addr × Nat) t => upd (upd t 128 (.int .i64 (s.1 : Nat))) 4 (.slice s.2.1 (ordL l W G s.1).length s.2.2)) (fun s w' => s.1 ≤ W.length + 1 ∧ Sat (fun _ => False) w0 w' [rowL s.2.1 s.2.2 3 1 encI 0 (ordL l W G s.1), rowsR X, mapR bm encIv m, row (some ⟨b9, 0, none⟩) (W.length + 1) (W.length + 1) 24 1 (gL encSx sxD X), memsR zs, slL am cm 1 encSx sxD zs, slL aw cw 1 encI 0 W, slL ai ci 1 encI 0 init, hisR a cap l]) (fun s => W.length + 1 - s.1) (0, none, 0) ?_ ?_ ?_
      · (repeat (first | exact agree_refl | refine agree_r rfl ?_ | refine agree_l rfl ?_ | refine agree_hv rfl ?_))
      · exact ⟨Nat.zero_le _, S⟩
      clear S
      rintro ⟨g, ao, co⟩ j w ⟨hg, S⟩
      replace hg : g ≤ W.length + 1 := hg
      replace S : Sat (fun _ => False) w0 w [rowL ao co 3 1 encI 0 (ordL l W G g), rowsR X, mapR bm encIv m, row (some ⟨b9, 0, none⟩) (W.length + 1) (W.length + 1) 24 1 (gL encSx sxD X), memsR zs, slL am cm 1 encSx sxD zs, slL aw cw 1 encI 0 W, slL ai ci 1 encI 0 init, hisR a cap l] := S
      dsimp only
      have hol : (ordL l W G g).length ≤ 10000200001 := Nat.le_trans (ordL_len l W G g) (Nat.le_trans (Nat.mul_le_mul (show g ≤ 100001 by omega) (show l.length + 1 ≤ 100001 by omega)) (by decide))
      by_cases hgl : g < W.length + 1
      · have hzlen : (X.getD g sxD).zs.length ≤ 100000 := by
          rw [hJ.rows _ hgl]
          exact Nat.le_trans (inG_len l G l.length _) (by omega)
        have hsucc : ordL l W G (g + 1) = ordL l W G g ++ ((if 0 < g then [W.getD (g - 1) 0] else []) ++ (X.getD g sxD).zs) := by
          rw [ordL_succ, hJ.rows _ hgl]; rfl
        repeat' (first | refine move_i_l S rfl rfl ?_ | refine move_s_l S rfl rfl ?_ | refine assign_i_l S rfl rfl ?_ | refine nilL ?_ | refine run_seq ?_ | refine run_skip ?_ | refine run_region ?_ | refine assign_s_l S rfl rfl ?_ | refine add_l S rfl rfl (wrap_in (by omega)) rfl ?_ | refine indexAddr_l S rfl rfl (idx_cast _) (by first | omega | decide | (simp; done) | (simp; omega)) rfl ?_ | refine indexAddr_l S rfl rfl (idx_eq _) (by first | omega | decide | (simp; done) | (simp; omega)) rfl ?_ | (refine lss_l S rfl rfl rfl ?_ ?_ <;> intro hcmp <;> try (exfalso; first | omega | exact hcmp (by decide) | exact absurd hcmp (by decide))) | (refine append_l S rfl rfl (by omega) rfl ?_; clear S; intro a' cap' w S) | (refine append1_i S rfl rfl rfl (by omega) rfl ?_; clear S; intro a' cap' w S) | refine loadE_i_l S rfl (by first | omega | decide | (simp; done) | (simp; omega)) rfl rfl rfl ?_ | (refine buildSlice_l S rfl rfl rfl rfl rfl ?_; clear S; intro b w S) | (refine gtr_l S rfl rfl rfl ?_ ?_ <;> intro hcmp <;> try (exfalso; first | omega | exact hcmp (by decide) | exact absurd hcmp (by decide))) | refine sub_l S rfl rfl (wrap_in (by omega)) rfl ?_ | refine loadE_o_l S rfl (by first | omega | decide | (simp; done) | (simp; omega)) rfl rfl rfl ?_ | refine run_block ?_ | refine run_cond_true rfl ?_ | refine run_cond_false rfl ?_ | refine thenQ_n ?_ | refine blockQ_n ?_)
        · rw [if_pos (by omega)] at hsucc
          have hg1 : ((g : Int) - 1).toNat = g - 1 := by omega
          refine append_l (ys := (X.getD g sxD).zs) (dd := 0) (zs := ordL l W G g ++ [W.getD ((g : Int) - 1).toNat 0]) S rfl rfl (by rw [List.length_append]; simp only [List.length_singleton]; omega) rfl ?_
          clear S
          intro a' cap' w S
          repeat' (first | refine move_i_l S rfl rfl ?_ | refine nilL ?_ | refine run_region ?_ | refine assign_s_l S rfl rfl ?_ | refine add_l S rfl rfl (wrap_in (by omega)) rfl ?_ | refine thenQ_n ?_ | refine blockQ_n ?_)
          rw [List.append_assoc, hg1, ← hsucc] at S
          refine ⟨(g + 1, a', cap'), ?_, ⟨by show g + 1 ≤ _; omega, S.sub⟩, by show W.length + 1 - (g + 1) < W.length + 1 - g; omega⟩
          rw [List.append_assoc, hg1, ← hsucc]
          dsimp only
          rw [Int.natCast_add g 1]
          (repeat (first | exact agree_refl | refine agree_r rfl ?_ | refine agree_l rfl ?_ | refine agree_hv rfl ?_))
        · rw [if_neg (by omega), List.nil_append] at hsucc
          rw [← hsucc] at S
          refine ⟨(g + 1, a', cap'), ?_, ⟨by show g + 1 ≤ _; omega, S⟩, by show W.length + 1 - (g + 1) < W.length + 1 - g; omega⟩
          rw [← hsucc]
          dsimp only
          rw [Int.natCast_add g 1]
          (repeat (first | exact agree_refl | refine agree_r rfl ?_ | refine agree_l rfl ?_ | refine agree_hv rfl ?_))
      · obtain rfl : g = W.length + 1 := by omega
        repeat' (first | refine move_s_l S rfl rfl ?_ | refine assign_i_l S rfl rfl ?_ | refine nilL ?_ | refine run_seq ?_ | refine run_region ?_ | refine assign_s_l S rfl rfl ?_ | refine assign_b_l S rfl rfl ?_ | (refine lss_l S rfl rfl rfl ?_ ?_ <;> intro hcmp <;> try (exfalso; first | omega | exact hcmp (by decide) | exact absurd hcmp (by decide))) | refine run_ret ?_ | refine run_exit ?_ | refine run_cond_false rfl ?_ | refine thenQ_n ?_ | refine thenQ_e ?_ | refine blockQ_s rfl ?_ | refine ret3_l rfl rfl rfl ?_)
        exact ⟨S.chg.below, .inr (.inr ⟨hM, ordL l W G (W.length + 1), _, ⟨W, G, hW, hst, hJ.gap, rfl⟩, rfl, S.newRow⟩)⟩
  · rw [decide_eq_false hM]
    repeat' (first | refine assign_i_l S rfl rfl ?_ | refine nilL ?_ | refine run_seq ?_ | refine run_region ?_ | refine assign_s_l S rfl rfl ?_ | refine assign_b_l S rfl rfl ?_ | refine not_l S rfl rfl ?_ | refine run_ret ?_ | refine run_cond_true rfl ?_ | refine thenQ_n ?_ | refine thenQ_r ?_ | refine ret3_l rfl rfl rfl ?_)
    exact ⟨S.chg.below, .inl ⟨hM, rfl⟩⟩
end Go.Proofs.Ytciehimnhnbipaa
