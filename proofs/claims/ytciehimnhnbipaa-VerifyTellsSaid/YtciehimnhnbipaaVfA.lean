/- verify: slices.Values, Sorted, Contains. verify: follows, behind. -/
import Derived.Test.YtciehimnhnbipaaSeq
import Derived.Test.YtciehimnhnbipaaShSort
import Derived.Test.YtciehimnhnbipaaWsO
namespace Go.Proofs.Ytciehimnhnbipaa
open Go.RowKit Go.Lib
set_option linter.unusedVariables false
set_option linter.unusedSimpArgs false
set_option maxHeartbeats 4000000
set_option maxRecDepth 100000
theorem values1_i {zs : List Int} {a : Option Addr} {cap cc : Nat} :
    Iter Try.prog 47 [.pointer (some ⟨cc, 0, none⟩)] (fun x : Int => [.int .i64 x]) zs.length (fun xs => xs = zs) [roR (blk cc 1 (fun _ => .slice a zs.length cap) 24), slL a cap 1 encI 0 zs] := by
  intro σ T R Z S₀ w₀ l w s0 S hT h0 hY
  have i1 : ∀ s, PickB (T s) cc 1 (fun _ => .slice a zs.length cap) 24 := fun s => ⟨fun w h => h (roR (blk cc 1 (fun _ => .slice a zs.length cap) 24)) (hT s _ (by simp))⟩
  have i2 : ∀ s, PickSl (T s) a zs.length cap 1 (gL encI 0 zs) := fun s => ⟨fun w h => h (slL a cap 1 encI 0 zs) (hT s _ (by simp))⟩
  have i3 : ∀ s, PickE (T s) a zs.length cap 1 (gL encI 0 zs) := fun s => ⟨fun w h => h (slL a cap 1 encI 0 zs) (hT s _ (by simp))⟩
  have hzl : zs.length ≤ 9223372036854775807 := SlOk.small (S.all (slL a cap 1 encI 0 zs) (hT s0 _ (by simp)))
  refine enterM0 Try.func47 rfl Try.ntmps47 rfl Try.results47 ?_
  repeat' (first | refine move_i_l S rfl rfl ?_ | refine nilL ?_ | refine runM_seq ?_ | refine runM_regionY ?_ | refine y_nil ?_ | refine y_one (by rfl) (by rfl) ?_ | refine len_l S rfl rfl ?_ | refine load_o_l S rfl rfl rfl rfl ?_ | refine runM_block ?_ | refine thenQ_n ?_)
  refine runM_while [4, 8, 9, 10, 11, 12, 13, 14, 15] (fun (q : Nat × σ) t => upd t 7 (.int .i64 (q.1 : Nat))) (fun q w' => q.1 ≤ zs.length ∧ R (zs.take q.1) q.2 ∧ Sat S₀ w₀ w' (T q.2)) (fun q => zs.length - q.1) (0, s0) ?_ ?_ ?_
  · (repeat (first | exact agree_refl | refine agree_r rfl ?_ | refine agree_l rfl ?_ | refine agree_hv rfl ?_))
  · exact ⟨Nat.zero_le _, h0, S⟩
  clear S
  rintro ⟨q, s⟩ j w ⟨hq, hR, S⟩
  replace hq : q ≤ zs.length := hq
  replace hR : R (zs.take q) s := hR
  replace S : Sat S₀ w₀ w (T s) := S
  dsimp only
  by_cases hql : q < zs.length
  · repeat' (first | refine move_i_l S rfl rfl ?_ | refine nilL ?_ | refine runM_seq ?_ | refine runM_skip ?_ | refine runM_regionY ?_ | refine y_nil ?_ | refine y_one (by rfl) (by rfl) ?_ | (refine lss_l S rfl rfl rfl ?_ ?_ <;> intro hcmp <;> try (exfalso; first | omega | exact hcmp (by decide) | exact absurd hcmp (by decide))) | refine indexAddr_l S rfl rfl (idx_cast _) (by first | omega | decide | (simp; done) | (simp; omega)) rfl ?_ | refine loadE_i_l S rfl (by first | omega | decide | (simp; done) | (simp; omega)) rfl rfl rfl ?_ | refine assign_i_l S rfl rfl ?_ | refine move_o_l S rfl rfl ?_ | refine runM_block ?_ | refine runM_cond_true rfl ?_ | refine thenQ_n ?_)
    refine y_yield rfl rfl (hY (zs.take q) (zs.getD q 0) s (memsR []) _ (by rw [List.length_take]; omega) hR (S.push (r := memsR []) (fun _ h => by cases h) (fun x hx => .inr fun k e _ => by obtain ⟨_, h, _⟩ := e; cases h) (fun e => by cases e))) rfl ?_
    rintro e w' (⟨rfl, s', hR', S'⟩ | ⟨rfl, hZ⟩)
    · clear S
      have S := S'.tail
      clear S'
      refine ⟨_, rfl, ?_⟩
      repeat' (first | refine move_i_l S rfl rfl ?_ | refine nilL ?_ | refine runM_skip ?_ | refine runM_regionY ?_ | refine y_nil ?_ | refine y_one (by rfl) (by rfl) ?_ | refine not_l S rfl rfl ?_ | refine add_l S rfl rfl (wrap_in (by omega)) rfl ?_ | refine runM_cond_false rfl ?_ | refine thenQ_n ?_ | refine blockQ_n ?_)
      refine ⟨rfl, (q + 1, s'), ?_, ⟨by show q + 1 ≤ _; omega, by show R (zs.take (q + 1)) s'; rw [take_snoc hql]; exact hR', S⟩, by show zs.length - (q + 1) < zs.length - q; omega⟩
      dsimp only
      rw [Int.natCast_add q 1]
      (repeat (first | exact agree_refl | refine agree_r rfl ?_ | refine agree_l rfl ?_ | refine agree_hv rfl ?_))
    · clear S
      have S := Sat.start (fun _ => False) w'
      refine ⟨_, rfl, ?_⟩
      repeat' (first | refine nilL ?_ | refine y_nil ?_ | refine y_one (by rfl) (by rfl) ?_ | refine not_l S rfl rfl ?_ | refine runM_ret ?_ | refine runM_cond_true rfl ?_ | refine thenQ_n ?_ | refine thenQ_r ?_ | refine blockQ_r ?_ | refine endM_nil ?_ | refine ret0_l ?_)
      all_goals exact ⟨⟨_, rfl⟩, .inr hZ⟩
  · obtain rfl : q = zs.length := by omega
    rw [List.take_length] at hR
    repeat' (first | refine nilL ?_ | refine runM_seq ?_ | refine runM_regionY ?_ | refine y_nil ?_ | refine y_one (by rfl) (by rfl) ?_ | (refine lss_l S rfl rfl rfl ?_ ?_ <;> intro hcmp <;> try (exfalso; first | omega | exact hcmp (by decide) | exact absurd hcmp (by decide))) | refine runM_exit ?_ | refine runM_cond_false rfl ?_ | refine thenQ_n ?_ | refine thenQ_e ?_ | refine blockQ_s rfl ?_ | refine endM_nil ?_ | refine ret0_n ?_)
    exact ⟨⟨_, rfl⟩, .inl ⟨s, zs, rfl, hR, S⟩⟩
theorem sorted_at {gf : FuncId} [FnOk Try.prog gf] {lb : List Value} {N : Nat} {ok : List Int → Prop} {Lit : List Res} (hI : Iter Try.prog gf lb (fun x : Int => [.int .i64 x]) N ok Lit) (hN : N ≤ 1000000) (hok : ∀ xs, ok xs → xs.length ≤ 1000000) {w0 : World} (S : Sat (fun _ => False) w0 w0 Lit) :
    Calls Try.prog 23 #[.func (.func gf) #[] lb.toArray] w0 fun e w' => ∃ v xs, e = .returned v ∧ ok xs ∧ NewRow w0 w' 3 1 encI 0 (sortL xs) v ∧ Below w0.heap.size w0 w' := by
  have HC := collect_i hI hN S
  replace S := Sat.start (fun _ => False) w0
  refine enter1 Try.func23 rfl Try.ntmps23 rfl Try.results23 ?_
  repeat' (first | refine assign_s_l S rfl rfl ?_ | refine move_o_l S rfl rfl ?_ | refine nilL ?_ | refine run_seq ?_ | refine run_region ?_ | refine thenQ_n ?_)
  refine callL HC rfl rfl ?_
  rintro e w' ⟨v, xs, rfl, hx, ⟨a, cap, rfl, g1, g2⟩, hb⟩
  have hxl := hok xs hx
  replace S := Sat.freshRow S hb g1 g2
  clear hb g1 g2
  refine ⟨_, rfl, ?_⟩
  repeat' (first | refine assign_s_l S rfl rfl ?_ | refine move_s_l S rfl rfl ?_ | refine nilL ?_ | refine run_seq ?_ | refine run_region ?_ | refine thenQ_n ?_)
  refine callL (sort_at (by omega) S.got1) rfl rfl ?_
  rintro e w' ⟨rfl, hr, hc⟩
  have hsl : (sortL xs).length = xs.length := List.length_mergeSort _
  have S2 := S.swap (r := rowL a cap 3 1 encI 0 xs) (r' := rowL a cap 3 1 encI 0 (sortL xs)) rfl hc hr rfl (fun j e => .inl e)
  clear S
  have S := S2
  clear S2
  refine ⟨_, rfl, ?_⟩
  rw [← hsl]
  repeat' (first | refine assign_s_l S rfl rfl ?_ | refine move_s_l S rfl rfl ?_ | refine nilL ?_ | refine run_seq ?_ | refine run_region ?_ | refine run_ret ?_ | refine thenQ_n ?_ | refine ret1_s rfl ?_)
  exact ⟨_, xs, rfl, hx, S.newRow, S.chg.below⟩
theorem vindex_at (a : Option Addr) (cap : Nat) (zs : List Int) (x : Int) (w0 : World) (h : SlOk w0 a zs.length cap 1 (gL encI 0 zs)) :
    Calls Try.prog 52 #[.slice a zs.length cap, .int .i64 x] w0 fun e w' => (∃ i, e = .returned (.int .i64 i) ∧ (0 ≤ i ↔ x ∈ zs)) ∧ Below w0.heap.size w0 w' := by
  have hm := h.small
  have S := Sat.reads (r := slL a cap 1 encI 0 zs) h
  refine enter1 Try.func52 rfl Try.ntmps52 rfl Try.results52 ?_
  repeat' (first | refine move_i_l S rfl rfl ?_ | refine assign_i_l S rfl rfl ?_ | refine move_s_l S rfl rfl ?_ | refine nilL ?_ | refine run_seq ?_ | refine run_region ?_ | refine len_l S rfl rfl ?_ | refine run_block ?_ | refine thenQ_n ?_)
  refine run_while [4, 5, 9, 10, 11, 12, 13, 14, 15, 16, 17, 18] (fun (q : Nat) t => upd t 8 (.int .i64 q)) (fun q w' => q ≤ zs.length ∧ x ∉ zs.take q ∧ Sat (fun _ => False) w0 w' [roR (slL a cap 1 encI 0 zs)]) (fun q => zs.length - q) 0 ?_ ?_ ?_
  · (repeat (first | exact agree_refl | refine agree_r rfl ?_ | refine agree_l rfl ?_ | refine agree_hv rfl ?_))
  · exact ⟨Nat.zero_le _, by simp, S⟩
  clear S
  rintro q j w ⟨hq, hn, S⟩
  by_cases hql : q < zs.length
  · repeat' (first | refine move_i_l S rfl rfl ?_ | refine assign_i_l S rfl rfl ?_ | refine move_s_l S rfl rfl ?_ | refine nilL ?_ | refine run_seq ?_ | refine run_skip ?_ | refine run_region ?_ | (refine lss_l S rfl rfl rfl ?_ ?_ <;> intro hcmp <;> try (exfalso; first | omega | exact hcmp (by decide) | exact absurd hcmp (by decide))) | refine indexAddr_l S rfl rfl (idx_cast _) (by first | omega | decide | (simp; done) | (simp; omega)) rfl ?_ | refine loadE_i_l S rfl (by first | omega | decide | (simp; done) | (simp; omega)) rfl rfl rfl ?_ | (refine eql_l S rfl rfl rfl ?_ ?_ <;> intro hcmp <;> try (exfalso; first | omega | exact hcmp (by decide) | exact absurd hcmp (by decide))) | refine add_l S rfl rfl (wrap_in (by omega)) rfl ?_ | refine run_block ?_ | refine run_ret ?_ | refine run_cond_true rfl ?_ | refine run_cond_false rfl ?_ | refine thenQ_n ?_ | refine thenQ_r ?_ | refine blockQ_n ?_ | refine blockQ_r ?_ | refine ret1_i rfl ?_)
    · exact ⟨⟨q, rfl, ⟨fun _ => by rw [hcmp]; exact getD_mem hql, fun _ => by omega⟩⟩, S.chg.below⟩
    · refine ⟨q + 1, ?_, ⟨by omega, ?_, S⟩, by omega⟩
      · rw [Int.natCast_add]
        (repeat (first | exact agree_refl | refine agree_r rfl ?_ | refine agree_l rfl ?_ | refine agree_hv rfl ?_))
      · rw [take_snoc hql]
        intro h2
        rcases List.mem_append.1 h2 with h2 | h2
        · exact hn h2
        · exact hcmp (List.mem_singleton.1 h2)
  · repeat' (first | refine assign_i_l S rfl rfl ?_ | refine nilL ?_ | refine run_seq ?_ | refine run_region ?_ | (refine lss_l S rfl rfl rfl ?_ ?_ <;> intro hcmp <;> try (exfalso; first | omega | exact hcmp (by decide) | exact absurd hcmp (by decide))) | refine run_ret ?_ | refine run_exit ?_ | refine run_cond_false rfl ?_ | refine thenQ_n ?_ | refine thenQ_e ?_ | refine blockQ_s rfl ?_ | refine ret1_i rfl ?_)
    rw [List.take_of_length_le (by omega)] at hn
    exact ⟨⟨-1, rfl, ⟨fun h => absurd h (by decide), fun h => absurd h hn⟩⟩, S.chg.below⟩
theorem vcontains_at (a : Option Addr) (cap : Nat) (zs : List Int) (x : Int) (w0 : World) (h : SlOk w0 a zs.length cap 1 (gL encI 0 zs)) :
    Calls Try.prog 32 #[.slice a zs.length cap, .int .i64 x] w0 fun e w' => e = .returned (.bool (decide (x ∈ zs))) ∧ Below w0.heap.size w0 w' := by
  have S := Sat.reads (r := slL a cap 1 encI 0 zs) h
  refine enter1 Try.func32 rfl Try.ntmps32 rfl Try.results32 ?_
  repeat' (first | refine assign_b_l S rfl rfl ?_ | refine move_s_l S rfl rfl ?_ | refine move_i_l S rfl rfl ?_ | refine nilL ?_ | refine run_seq ?_ | refine run_region ?_ | refine thenQ_n ?_)
  refine callL (vindex_at a cap zs x _ (S.all (roR (slL a cap 1 encI 0 zs)) (by simp))) rfl rfl ?_
  rintro e w ⟨⟨i, rfl, hi⟩, hb⟩
  replace S := S.below hb
  refine ⟨_, rfl, ?_⟩
  repeat' (first | refine assign_b_l S rfl rfl ?_ | refine nilL ?_ | (refine geq_l S rfl rfl rfl ?_ ?_ <;> intro hcmp <;> try (exfalso; first | omega | exact hcmp (by decide) | exact absurd hcmp (by decide))) | refine run_ret ?_ | refine thenQ_n ?_ | refine ret1_b rfl ?_)
  · exact ⟨by rw [decide_eq_true (hi.1 hcmp)], S.chg.below⟩
  · exact ⟨by rw [decide_eq_false (fun h => hcmp (hi.2 h))], S.chg.below⟩
end Go.Proofs.Ytciehimnhnbipaa
namespace Go.Proofs.Ytciehimnhnbipaa
open Go.RowKit Go.Lib
set_option linter.unusedVariables false
set_option linter.unusedSimpArgs false
set_option maxHeartbeats 8000000
set_option maxRecDepth 100000
/-- Who may not stand ahead of an attempt. -/
def barB (a b : AtS) : Bool := aheadB a b || (decide (0 < a.wv) && decide (a.wv < b.wv))
theorem follows1_at {b4 b9 : Nat} {a : Option Addr} {cap : Nat} {l : List AtS} {z : AtS} (k : Int) (w0 : World) (h4 : (blk b4 1 (fun _ => .slice a l.length cap) 27).holds w0) (h9 : (blk b9 9 (encAt z) 32).holds w0) (hl : (hisR a cap l).holds w0) (hk : 0 ≤ k ∧ k < l.length) :
    Calls Try.prog 49 ([] ++ [Value.int .i64 k] ++ [Value.pointer (some ⟨b9, 0, none⟩), Value.pointer (some ⟨b4, 0, none⟩)]).toArray w0 fun e w' => e = .returned (.bool (barB z (l.getD k.toNat atD))) ∧ Below w0.heap.size w0 w' := by
  have S := (Sat.reads2 (r := blk b4 1 (fun _ => .slice a l.length cap) 27) (r' := blk b9 9 (encAt z) 32) h4 h9).ro (r := roR (hisR a cap l)) hl rfl rfl
  have hls := hl.1.small
  obtain ⟨q, rfl⟩ : ∃ q : Nat, k = q := ⟨k.toNat, by omega⟩
  refine enter1 Try.func49 rfl Try.ntmps49 rfl Try.results49 ?_
  repeat' (first | refine assign_b_l S rfl rfl ?_ | refine nilL ?_ | refine run_seq ?_ | refine run_region ?_ | refine thenQ_n ?_)
  refine run_any S (L' := [roR (hisR a cap l), roR (blk b4 1 (fun _ => .slice a l.length cap) 27), roR (blk b9 9 (encAt z) 32)]) (f := 22) mixed rfl ?_
  clear S
  intro w S1
  have S : Sat _ _ w [roR (hisR a cap l), roR (blk b4 1 (fun _ => .slice a l.length cap) 27), roR (blk b9 9 (encAt z) 32)] := S1.sub
  all_goals (refine any_pure (i := 0) rfl (by kernel_rfl) S ?_; (first | refine loadN_x rfl rfl rfl ?_ | refine loadEN_x rfl (by first | omega | decide | (simp; done) | (simp; omega)) rfl rfl ?_))
  all_goals (refine any_pure (i := 1) rfl (by kernel_rfl) S ?_; (first | refine load_s_x rfl rfl rfl rfl ?_ | refine load_o_x rfl rfl rfl rfl ?_ | refine loadE_s_x rfl (by first | omega | decide | (simp; done) | (simp; omega)) rfl rfl rfl ?_ | refine loadE_o_x rfl (by first | omega | decide | (simp; done) | (simp; omega)) rfl rfl rfl ?_))
  all_goals (refine any_pure (i := 2) rfl (by kernel_rfl) S ?_; refine move_i_x rfl rfl ?_)
  all_goals (refine any_pure (i := 3) rfl (by kernel_rfl) S ?_; (first | refine indexAddr_x rfl rfl (idx_cast _) (by first | omega | decide | (simp; done) | (simp; omega)) rfl ?_ | refine indexAddr_x rfl rfl (idx_eq _) (by first | omega | decide | (simp; done) | (simp; omega)) rfl ?_))
  all_goals (refine any_pure (i := 4) rfl (by kernel_rfl) S ?_; (first | refine loadN_x rfl rfl rfl ?_ | refine loadEN_x rfl (by first | omega | decide | (simp; done) | (simp; omega)) rfl rfl ?_))
  all_goals refine any_step (i := 5) rfl (by kernel_rfl) ?_
  all_goals replace S := S1
  all_goals clear S1
  refine callL (ahead_at z (l.getD q atD) _) rfl rfl ?_
  rintro e w ⟨rfl, hb⟩
  replace S := S.below hb
  refine ⟨_, rfl, ?_⟩
  have hbar : barB z (l.getD (q : Int).toNat atD) = (aheadB z (l.getD q atD) || (decide (0 < z.wv) && decide (z.wv < (l.getD q atD).wv))) := rfl
  rw [hbar]
  cases hA : aheadB z (l.getD q atD) with
  | true =>
    all_goals try refine nilL ?_
    all_goals refine ⟨S.sub, ?_⟩
    all_goals (have S1 := S; replace S : Sat _ _ _ [roR (hisR a cap l), roR (blk b4 1 (fun _ => .slice a l.length cap) 27), roR (blk b9 9 (encAt z) 32)] := S1.sub)
    all_goals (refine any_pure (i := 6) rfl (by kernel_rfl) S ?_; refine move_b_x rfl rfl ?_)
    all_goals (refine any_pure (i := 7) rfl (by kernel_rfl) S ?_; first | (refine onX rfl rfl ?_; (first | refine fieldAddr_x rfl rfl rfl ?_ | refine fieldAddrE_x rfl (by first | omega | decide | (simp; done) | (simp; omega)) rfl rfl ?_)) | first | refine offX rfl rfl rfl rfl ?_ | refine offXU rfl rfl rfl ?_)
    all_goals (refine any_pure (i := 8) rfl (by kernel_rfl) S ?_; first | (refine onX rfl rfl ?_; (first | refine load_i_x rfl rfl rfl rfl ?_ | refine load_o_x rfl rfl rfl rfl ?_ | refine loadE_i_x rfl (by first | omega | decide | (simp; done) | (simp; omega)) rfl rfl rfl ?_ | refine loadE_o_x rfl (by first | omega | decide | (simp; done) | (simp; omega)) rfl rfl rfl ?_)) | first | refine offX rfl rfl rfl rfl ?_ | refine offXU rfl rfl rfl ?_)
    all_goals (refine any_pure (i := 9) rfl (by kernel_rfl) S ?_; first | (refine onX rfl rfl ?_; (refine gtr_x rfl rfl rfl ?_ ?_ <;> intro hcmp <;> try (exfalso; first | omega | exact hcmp (by decide) | exact absurd hcmp (by decide)))) | first | refine offX rfl rfl rfl rfl ?_ | refine offXU rfl rfl rfl ?_)
    all_goals (refine any_pure (i := 10) rfl (by kernel_rfl) S ?_; first | (refine onX rfl rfl ?_; refine move_b_x rfl rfl ?_) | first | refine offX rfl rfl rfl rfl ?_ | refine offXU rfl rfl rfl ?_)
    all_goals (refine any_pure (i := 11) rfl (by kernel_rfl) S ?_; first | (refine onX rfl rfl ?_; (first | refine load_s_x rfl rfl rfl rfl ?_ | refine load_o_x rfl rfl rfl rfl ?_ | refine loadE_s_x rfl (by first | omega | decide | (simp; done) | (simp; omega)) rfl rfl rfl ?_ | refine loadE_o_x rfl (by first | omega | decide | (simp; done) | (simp; omega)) rfl rfl rfl ?_)) | first | refine offX rfl rfl rfl rfl ?_ | refine offXU rfl rfl rfl ?_)
    all_goals (refine any_pure (i := 12) rfl (by kernel_rfl) S ?_; first | (refine onX rfl rfl ?_; refine move_i_x rfl rfl ?_) | first | refine offX rfl rfl rfl rfl ?_ | refine offXU rfl rfl rfl ?_)
    all_goals (refine any_pure (i := 13) rfl (by kernel_rfl) S ?_; first | (refine onX rfl rfl ?_; (first | refine indexAddr_x rfl rfl (idx_cast _) (by first | omega | decide | (simp; done) | (simp; omega)) rfl ?_ | refine indexAddr_x rfl rfl (idx_eq _) (by first | omega | decide | (simp; done) | (simp; omega)) rfl ?_)) | first | refine offX rfl rfl rfl rfl ?_ | refine offXU rfl rfl rfl ?_)
    all_goals (refine any_pure (i := 14) rfl (by kernel_rfl) S ?_; first | (refine onX rfl rfl ?_; (first | refine fieldAddr_x rfl rfl rfl ?_ | refine fieldAddrE_x rfl (by first | omega | decide | (simp; done) | (simp; omega)) rfl rfl ?_)) | first | refine offX rfl rfl rfl rfl ?_ | refine offXU rfl rfl rfl ?_)
    all_goals (refine any_pure (i := 15) rfl (by kernel_rfl) S ?_; first | (refine onX rfl rfl ?_; (first | refine load_i_x rfl rfl rfl rfl ?_ | refine load_o_x rfl rfl rfl rfl ?_ | refine loadE_i_x rfl (by first | omega | decide | (simp; done) | (simp; omega)) rfl rfl rfl ?_ | refine loadE_o_x rfl (by first | omega | decide | (simp; done) | (simp; omega)) rfl rfl rfl ?_)) | first | refine offX rfl rfl rfl rfl ?_ | refine offXU rfl rfl rfl ?_)
    all_goals (refine any_pure (i := 16) rfl (by kernel_rfl) S ?_; first | (refine onX rfl rfl ?_; (first | refine fieldAddr_x rfl rfl rfl ?_ | refine fieldAddrE_x rfl (by first | omega | decide | (simp; done) | (simp; omega)) rfl rfl ?_)) | first | refine offX rfl rfl rfl rfl ?_ | refine offXU rfl rfl rfl ?_)
    all_goals (refine any_pure (i := 17) rfl (by kernel_rfl) S ?_; first | (refine onX rfl rfl ?_; (first | refine load_i_x rfl rfl rfl rfl ?_ | refine load_o_x rfl rfl rfl rfl ?_ | refine loadE_i_x rfl (by first | omega | decide | (simp; done) | (simp; omega)) rfl rfl rfl ?_ | refine loadE_o_x rfl (by first | omega | decide | (simp; done) | (simp; omega)) rfl rfl rfl ?_)) | first | refine offX rfl rfl rfl rfl ?_ | refine offXU rfl rfl rfl ?_)
    all_goals (refine any_pure (i := 18) rfl (by kernel_rfl) S ?_; first | (refine onX rfl rfl ?_; (refine gtr_x rfl rfl rfl ?_ ?_ <;> intro hcmp <;> try (exfalso; first | omega | exact hcmp (by decide) | exact absurd hcmp (by decide)))) | first | refine offX rfl rfl rfl rfl ?_ | refine offXU rfl rfl rfl ?_)
    all_goals (refine any_pure (i := 19) rfl (by kernel_rfl) S ?_; first | (refine onX rfl rfl ?_; (first | refine pick_tb_x rfl rfl rfl ?_ | refine pick_fb_x rfl rfl rfl ?_)) | first | refine offX rfl rfl rfl rfl ?_ | refine offXU rfl rfl rfl ?_)
    all_goals (refine any_pure (i := 20) rfl (by kernel_rfl) S ?_; (first | refine pick_tb_x rfl rfl rfl ?_ | refine pick_fb_x rfl rfl rfl ?_))
    all_goals (refine any_pure (i := 21) rfl (by kernel_rfl) S ?_; refine assign_b_x rfl rfl ?_)
    all_goals refine any_end (by kernel_rfl) ?_
    all_goals replace S := S1
    repeat' (first | refine run_ret ?_ | refine thenQ_n ?_ | refine ret1_b rfl ?_)
    all_goals exact ⟨rfl, S.chg.below⟩
  | false =>
    all_goals try refine nilL ?_
    all_goals refine ⟨S.sub, ?_⟩
    all_goals (have S1 := S; replace S : Sat _ _ _ [roR (hisR a cap l), roR (blk b4 1 (fun _ => .slice a l.length cap) 27), roR (blk b9 9 (encAt z) 32)] := S1.sub)
    all_goals (refine any_pure (i := 6) rfl (by kernel_rfl) S ?_; refine move_b_x rfl rfl ?_)
    all_goals (refine any_pure (i := 7) rfl (by kernel_rfl) S ?_; first | (refine onX rfl rfl ?_; (first | refine fieldAddr_x rfl rfl rfl ?_ | refine fieldAddrE_x rfl (by first | omega | decide | (simp; done) | (simp; omega)) rfl rfl ?_)) | first | refine offX rfl rfl rfl rfl ?_ | refine offXU rfl rfl rfl ?_)
    all_goals (refine any_pure (i := 8) rfl (by kernel_rfl) S ?_; first | (refine onX rfl rfl ?_; (first | refine load_i_x rfl rfl rfl rfl ?_ | refine load_o_x rfl rfl rfl rfl ?_ | refine loadE_i_x rfl (by first | omega | decide | (simp; done) | (simp; omega)) rfl rfl rfl ?_ | refine loadE_o_x rfl (by first | omega | decide | (simp; done) | (simp; omega)) rfl rfl rfl ?_)) | first | refine offX rfl rfl rfl rfl ?_ | refine offXU rfl rfl rfl ?_)
    all_goals (refine any_pure (i := 9) rfl (by kernel_rfl) S ?_; first | (refine onX rfl rfl ?_; (refine gtr_x rfl rfl rfl ?_ ?_ <;> intro hcmp <;> try (exfalso; first | omega | exact hcmp (by decide) | exact absurd hcmp (by decide)))) | first | refine offX rfl rfl rfl rfl ?_ | refine offXU rfl rfl rfl ?_)
    all_goals (refine any_pure (i := 10) rfl (by kernel_rfl) S ?_; first | (refine onX rfl rfl ?_; refine move_b_x rfl rfl ?_) | first | refine offX rfl rfl rfl rfl ?_ | refine offXU rfl rfl rfl ?_)
    all_goals (refine any_pure (i := 11) rfl (by kernel_rfl) S ?_; first | (refine onX rfl rfl ?_; (first | refine load_s_x rfl rfl rfl rfl ?_ | refine load_o_x rfl rfl rfl rfl ?_ | refine loadE_s_x rfl (by first | omega | decide | (simp; done) | (simp; omega)) rfl rfl rfl ?_ | refine loadE_o_x rfl (by first | omega | decide | (simp; done) | (simp; omega)) rfl rfl rfl ?_)) | first | refine offX rfl rfl rfl rfl ?_ | refine offXU rfl rfl rfl ?_)
    all_goals (refine any_pure (i := 12) rfl (by kernel_rfl) S ?_; first | (refine onX rfl rfl ?_; refine move_i_x rfl rfl ?_) | first | refine offX rfl rfl rfl rfl ?_ | refine offXU rfl rfl rfl ?_)
    all_goals (refine any_pure (i := 13) rfl (by kernel_rfl) S ?_; first | (refine onX rfl rfl ?_; (first | refine indexAddr_x rfl rfl (idx_cast _) (by first | omega | decide | (simp; done) | (simp; omega)) rfl ?_ | refine indexAddr_x rfl rfl (idx_eq _) (by first | omega | decide | (simp; done) | (simp; omega)) rfl ?_)) | first | refine offX rfl rfl rfl rfl ?_ | refine offXU rfl rfl rfl ?_)
    all_goals (refine any_pure (i := 14) rfl (by kernel_rfl) S ?_; first | (refine onX rfl rfl ?_; (first | refine fieldAddr_x rfl rfl rfl ?_ | refine fieldAddrE_x rfl (by first | omega | decide | (simp; done) | (simp; omega)) rfl rfl ?_)) | first | refine offX rfl rfl rfl rfl ?_ | refine offXU rfl rfl rfl ?_)
    all_goals (refine any_pure (i := 15) rfl (by kernel_rfl) S ?_; first | (refine onX rfl rfl ?_; (first | refine load_i_x rfl rfl rfl rfl ?_ | refine load_o_x rfl rfl rfl rfl ?_ | refine loadE_i_x rfl (by first | omega | decide | (simp; done) | (simp; omega)) rfl rfl rfl ?_ | refine loadE_o_x rfl (by first | omega | decide | (simp; done) | (simp; omega)) rfl rfl rfl ?_)) | first | refine offX rfl rfl rfl rfl ?_ | refine offXU rfl rfl rfl ?_)
    all_goals (refine any_pure (i := 16) rfl (by kernel_rfl) S ?_; first | (refine onX rfl rfl ?_; (first | refine fieldAddr_x rfl rfl rfl ?_ | refine fieldAddrE_x rfl (by first | omega | decide | (simp; done) | (simp; omega)) rfl rfl ?_)) | first | refine offX rfl rfl rfl rfl ?_ | refine offXU rfl rfl rfl ?_)
    all_goals (refine any_pure (i := 17) rfl (by kernel_rfl) S ?_; first | (refine onX rfl rfl ?_; (first | refine load_i_x rfl rfl rfl rfl ?_ | refine load_o_x rfl rfl rfl rfl ?_ | refine loadE_i_x rfl (by first | omega | decide | (simp; done) | (simp; omega)) rfl rfl rfl ?_ | refine loadE_o_x rfl (by first | omega | decide | (simp; done) | (simp; omega)) rfl rfl rfl ?_)) | first | refine offX rfl rfl rfl rfl ?_ | refine offXU rfl rfl rfl ?_)
    all_goals (refine any_pure (i := 18) rfl (by kernel_rfl) S ?_; first | (refine onX rfl rfl ?_; (refine gtr_x rfl rfl rfl ?_ ?_ <;> intro hcmp <;> try (exfalso; first | omega | exact hcmp (by decide) | exact absurd hcmp (by decide)))) | first | refine offX rfl rfl rfl rfl ?_ | refine offXU rfl rfl rfl ?_)
    all_goals (refine any_pure (i := 19) rfl (by kernel_rfl) S ?_; first | (refine onX rfl rfl ?_; (first | refine pick_tb_x rfl rfl rfl ?_ | refine pick_fb_x rfl rfl rfl ?_)) | first | refine offX rfl rfl rfl rfl ?_ | refine offXU rfl rfl rfl ?_)
    all_goals (refine any_pure (i := 20) rfl (by kernel_rfl) S ?_; (first | refine pick_tb_x rfl rfl rfl ?_ | refine pick_fb_x rfl rfl rfl ?_))
    all_goals (refine any_pure (i := 21) rfl (by kernel_rfl) S ?_; refine assign_b_x rfl rfl ?_)
    all_goals refine any_end (by kernel_rfl) ?_
    all_goals replace S := S1
    repeat' (first | refine run_ret ?_ | refine thenQ_n ?_ | refine ret1_b rfl ?_)
    all_goals first
      | exact ⟨by rw [decide_eq_true (p := 0 < z.wv) (by omega), decide_eq_true (p := z.wv < (l.getD q atD).wv) (by omega)]; rfl, S.chg.below⟩
      | exact ⟨by rw [decide_eq_true (p := 0 < z.wv) (by omega), decide_eq_false (p := z.wv < (l.getD q atD).wv) (by omega)]; rfl, S.chg.below⟩
      | exact ⟨by rw [decide_eq_false (p := 0 < z.wv) (by omega)]; rfl, S.chg.below⟩
def followsB (l : List AtS) (o : List Int) (m : List Int) (z : AtS) : Bool := fitsB z m && !(o.any fun k => barB z (l.getD k.toNat atD))
theorem follows_at {a ao am : Option Addr} {cap co cm : Nat} {l : List AtS} {o m : List Int} (i : Nat) {w0 : World} (hl : (hisR a cap l).holds w0) (ho : (slL ao co 1 encI 0 o).holds w0) (hm : (slL am cm 1 encI 0 m).holds w0) (hi : i < l.length) (hr : ∀ k ∈ o, 0 ≤ k ∧ k < l.length) (hrs : ∀ p ∈ (l.getD i atD).rs, 0 ≤ p.1 ∧ p.1 < m.length) :
    Calls Try.prog 27 #[.slice a l.length cap, .slice ao o.length co, .slice am m.length cm, .int .i64 (i : Nat)] w0 fun e w' => e = .returned (.bool (followsB l o m (l.getD i atD))) ∧ Below w0.heap.size w0 w' := by
  have hls := hl.1.small
  have hrl := (hl.2 i).1.small
  have S := (((Sat.start (fun _ => False) w0).ro (r := hisR a cap l) hl rfl rfl).ro (r := slL ao co 1 encI 0 o) ho rfl rfl).ro (r := slL am cm 1 encI 0 m) hm rfl rfl
  refine enter1 Try.func27 rfl Try.ntmps27 rfl Try.results27 ?_
  repeat' (first | refine assign_b_l S rfl rfl ?_ | refine move_i_l S rfl rfl ?_ | refine nilL ?_ | refine run_seq ?_ | refine run_region ?_ | refine indexAddr_l S rfl rfl (idx_cast _) (by first | omega | decide | (simp; done) | (simp; omega)) rfl ?_ | refine loadEN_l S rfl (by first | omega | decide | (simp; done) | (simp; omega)) rfl rfl ?_ | (refine allocZ_l S rfl rfl ?_; clear S; intro b w S) | (refine storeN_l S rfl rfl ⟨rfl, rfl⟩ rfl ?_; clear S; intro w S) | (refine box_s S rfl rfl ?_; clear S; intro b w S) | refine fieldAddr_l S rfl rfl rfl ?_ | refine len_l S rfl rfl ?_ | refine load_o_l S rfl rfl rfl rfl ?_ | refine run_block ?_ | refine thenQ_n ?_)
  obtain ⟨b9, hb9⟩ : ∃ x, x = b := ⟨_, rfl⟩
  subst hb9
  obtain ⟨b4, hb4⟩ : ∃ x, x = b := ⟨_, rfl⟩
  subst hb4
  replace S := S.turn1 (r' := blk b9 9 (encAt (l.getD i atD)) 32) S.got1 rfl (fun k e => e)
  refine run_while [8, 11, 20, 21, 22, 23, 24, 25, 26, 27, 28, 29, 30, 31] (fun (q : Nat) t => upd t 19 (.int .i64 (q : Nat))) (fun q w' => (q ≤ (l.getD i atD).rs.length ∧ ∀ j, j < q → m.getD ((l.getD i atD).rs.getD j (0, 0)).1.toNat 0 = ((l.getD i atD).rs.getD j (0, 0)).2) ∧ Sat (fun _ => False) w0 w' [blk b9 9 (encAt (l.getD i atD)) 32, blk b4 1 (fun _ => .slice a l.length cap) 27, slL am cm 1 encI 0 m, slL ao co 1 encI 0 o, hisR a cap l]) (fun q => (l.getD i atD).rs.length - q) 0 ?_ ?_ ?_
  · (repeat (first | exact agree_refl | refine agree_r rfl ?_ | refine agree_l rfl ?_ | refine agree_hv rfl ?_))
  · exact ⟨⟨Nat.zero_le _, fun j hj => absurd hj (Nat.not_lt_zero j)⟩, S⟩
  clear S
  rintro q j w ⟨⟨hq, hf⟩, S⟩
  by_cases hql : q < (l.getD i atD).rs.length
  · have hp := hrs _ (getD_mem (d := (0, 0)) hql)
    repeat' (first | refine assign_b_l S rfl rfl ?_ | refine move_i_l S rfl rfl ?_ | refine nilL ?_ | refine run_seq ?_ | refine run_skip ?_ | refine run_region ?_ | refine indexAddr_l S rfl rfl (idx_cast _) (by first | omega | decide | (simp; done) | (simp; omega)) rfl ?_ | refine loadEN_l S rfl (by first | omega | decide | (simp; done) | (simp; omega)) rfl rfl ?_ | (refine allocZ_l S rfl rfl ?_; clear S; intro b w S) | (refine storeN_l S rfl rfl ⟨rfl, rfl⟩ rfl ?_; clear S; intro w S) | (refine lss_l S rfl rfl rfl ?_ ?_ <;> intro hcmp <;> try (exfalso; first | omega | exact hcmp (by decide) | exact absurd hcmp (by decide))) | refine add_l S rfl rfl (wrap_in (by omega)) rfl ?_ | refine run_block ?_ | refine run_ret ?_ | refine run_cond_true rfl ?_ | refine run_cond_false rfl ?_ | refine thenQ_n ?_ | refine thenQ_r ?_ | refine blockQ_n ?_ | refine blockQ_r ?_ | (refine run_draws (id := 5) S mixed ?_ ?_; · kernel_rfl) | (refine nilQ ?_; clear S; intro w S) | refine move_s_q rfl rfl ?_ | refine fieldAddr_q rfl rfl rfl ?_ | refine load_i_q rfl rfl rfl rfl ?_ | refine loadE_i_q rfl (by first | omega | decide | (simp; done) | (simp; omega)) rfl rfl rfl ?_ | refine indexAddr_q rfl rfl (idx_eq _) (by first | omega | decide | (simp; done) | (simp; omega)) rfl ?_ | (refine neq_q rfl rfl rfl ?_ ?_ <;> intro hcmp <;> try (exfalso; first | omega | exact hcmp (by decide) | exact absurd hcmp (by decide))) | refine ret1_b rfl ?_)
    · refine ⟨?_, S.chg.below⟩
      have : fitsB (l.getD i atD) m = false := by
        unfold fitsB
        rw [List.all_eq_false]
        exact ⟨_, getD_mem (d := (0, 0)) hql, by rw [decide_eq_true_eq]; assumption⟩
      unfold followsB
      rw [this]
      rfl
    · refine ⟨q + 1, ?_, ⟨⟨by omega, fun j hj => ?_⟩, S.tail⟩, by omega⟩
      · rw [Int.natCast_add]
        (repeat (first | exact agree_refl | refine agree_r rfl ?_ | refine agree_l rfl ?_ | refine agree_hv rfl ?_))
      · rcases Nat.lt_or_ge j q with e | e
        · exact hf j e
        · obtain rfl : j = q := by omega
          assumption
  · obtain rfl : q = (l.getD i atD).rs.length := by omega
    have hfit : fitsB (l.getD i atD) m = true := by
      unfold fitsB
      refine List.all_eq_true.2 fun p hp => ?_
      obtain ⟨j, hj, rfl⟩ := List.mem_iff_getElem.1 hp
      have := hf j hj
      rw [List.getD_eq_getElem?_getD (l := (l.getD i atD).rs), List.getElem?_eq_getElem hj] at this
      exact decide_eq_true this
    repeat' (first | refine nilL ?_ | refine run_seq ?_ | refine run_region ?_ | (refine lss_l S rfl rfl rfl ?_ ?_ <;> intro hcmp <;> try (exfalso; first | omega | exact hcmp (by decide) | exact absurd hcmp (by decide))) | refine move_s_l S rfl rfl ?_ | refine makeFunc_l S rfl rfl rfl ?_ | refine run_exit ?_ | refine run_cond_false rfl ?_ | refine thenQ_n ?_ | refine thenQ_e ?_ | refine blockQ_s rfl ?_)
    refine callL (containsJ_at (f := 49) (l2 := [.pointer (some ⟨b9, 0, none⟩), .pointer (some ⟨b4, 0, none⟩)]) (p := fun k => barB (l.getD i atD) (l.getD k.toNat atD))
      (I := fun w => (blk b4 1 (fun _ => .slice a l.length cap) 27).holds w ∧ (blk b9 9 (encAt (l.getD i atD)) 32).holds w ∧ (hisR a cap l).holds w) (zs := o) ?_ ?_ _ _ _ ⟨S.all (blk b4 1 (fun _ => .slice a l.length cap) 27) (by simp), S.got1, S.all (hisR a cap l) (by simp)⟩ (S.all (slL ao co 1 encI 0 o) (by simp))) rfl rfl ?_
    · exact fun w w' h hb => ⟨holds_below h.1 hb, holds_below h.2.1 hb, holds_below h.2.2 hb⟩
    · exact fun x w hx h => follows1_at x w h.1 h.2.1 h.2.2 (hr x hx)
    rintro e w ⟨rfl, hb⟩
    replace S := S.below hb
    refine ⟨_, rfl, ?_⟩
    repeat' (first | refine assign_b_l S rfl rfl ?_ | refine nilL ?_ | refine not_l S rfl rfl ?_ | refine run_ret ?_ | refine thenQ_n ?_ | refine ret1_b rfl ?_)
    refine ⟨?_, S.chg.below⟩
    unfold followsB
    rw [hfit]
    rfl
theorem behind_at {am : Option Addr} {cm : Nat} {m : List Int} {z : AtS} {w0 : World} (hm : (slL am cm 1 encI 0 m).holds w0) (hz : (atR z).holds w0) (hn : m.length ≤ 1000000) (hws : ∀ p ∈ z.ws, 0 ≤ p.1 ∧ p.1 < m.length) :
    Calls Try.prog 28 #[.slice am m.length cm, atV z] w0 fun e w' => ∃ v, e = .returned v ∧ NewRow w0 w' 2 1 encI 0 (wrtM m z.ws) v ∧ Below w0.heap.size w0 w' := by
  have hwl := hz.2.small
  have S := ((Sat.start (fun _ => False) w0).ro (r := atR z) hz rfl rfl).ro (r := slL am cm 1 encI 0 m) hm rfl rfl
  refine enter1 Try.func28 rfl Try.ntmps28 rfl Try.results28 ?_
  repeat' (first | refine assign_s_l S rfl rfl ?_ | refine move_s_l S rfl rfl ?_ | refine nilL ?_ | refine run_seq ?_ | refine run_region ?_ | (refine box_a S rfl rfl rfl ?_; clear S; intro b w S) | refine thenQ_n ?_)
  replace S := S.turn1 (r' := blk b 9 (encAt z) 32) S.got1 rfl (fun k e => e)
  refine callL (wclone_at am cm m hn _ (S.all (slL am cm 1 encI 0 m) (by simp))) rfl rfl ?_
  rintro e w ⟨_, rfl, ⟨a2, c2, rfl, hh, hf⟩, hb⟩
  replace S := Sat.freshRow S hb hh hf
  clear hb hh hf
  refine ⟨_, rfl, ?_⟩
  repeat' (first | refine assign_s_l S rfl rfl ?_ | refine fieldAddr_l S rfl rfl rfl ?_ | refine nilL ?_ | refine run_seq ?_ | refine run_region ?_ | refine move_i_l S rfl rfl ?_ | refine len_l S rfl rfl ?_ | refine load_o_l S rfl rfl rfl rfl ?_ | refine run_block ?_ | refine thenQ_n ?_)
  refine run_while [7, 14, 15, 16, 17, 18, 19, 20, 21, 22, 23] (fun (q : Nat) t => upd t 13 (.int .i64 (q : Nat))) (fun q w' => q ≤ z.ws.length ∧ Sat (fun _ => False) w0 w' [row a2 m.length c2 2 1 (gL encI 0 (wrtM m (z.ws.take q))), blk b 9 (encAt z) 32, slL am cm 1 encI 0 m, atR z]) (fun q => z.ws.length - q) 0 ?_ ?_ ?_
  · (repeat (first | exact agree_refl | refine agree_r rfl ?_ | refine agree_l rfl ?_ | refine agree_hv rfl ?_))
  · exact ⟨Nat.zero_le _, S⟩
  clear S
  rintro q j w ⟨hq, S⟩
  by_cases hql : q < z.ws.length
  · have hpm := hws _ (getD_mem (d := (0, 0)) hql)
    repeat' (first | refine move_s_l S rfl rfl ?_ | refine fieldAddr_l S rfl rfl rfl ?_ | refine nilL ?_ | refine run_seq ?_ | refine run_skip ?_ | refine run_region ?_ | refine move_i_l S rfl rfl ?_ | refine indexAddr_l S rfl rfl (idx_cast _) (by first | omega | decide | (simp; done) | (simp; omega)) rfl ?_ | refine indexAddr_l S rfl rfl (idx_eq _) (by first | omega | decide | (simp; done) | (simp; omega)) rfl ?_ | refine load_i_l S rfl rfl rfl rfl ?_ | (refine lss_l S rfl rfl rfl ?_ ?_ <;> intro hcmp <;> try (exfalso; first | omega | exact hcmp (by decide) | exact absurd hcmp (by decide))) | refine loadEN_l S rfl (by first | omega | decide | (simp; done) | (simp; omega)) rfl rfl ?_ | (refine allocZ_l S rfl rfl ?_; clear S; intro b w S) | (refine storeN_l S rfl rfl ⟨rfl, rfl⟩ rfl ?_; clear S; intro w S) | (refine storeE_i S rfl rfl (by omega) rfl ?_; clear S; intro w S) | refine add_l S rfl rfl (wrap_in (by omega)) rfl ?_ | refine run_block ?_ | refine run_cond_true rfl ?_ | refine thenQ_n ?_ | refine blockQ_n ?_)
    have hl := wrtM_len m (z.ws.take q)
    have S2 := S.tail
    refine ⟨q + 1, ?_, ⟨by omega, S2.turn1 (r' := row a2 m.length c2 2 1 (gL encI 0 (wrtM m (z.ws.take (q + 1))))) (RowOk.congr S2.got1 (fun i hi j hj => ?_)) rfl (fun k e => e)⟩, by omega⟩
    · rw [Int.natCast_add]
      (repeat (first | exact agree_refl | refine agree_r rfl ?_ | refine agree_l rfl ?_ | refine agree_hv rfl ?_))
    · rw [wrtM_succ m hql]
      exact encI_set2 _ _ _ (by omega) _ (by omega) _ hj
  · obtain rfl : q = z.ws.length := by omega
    rw [List.take_length] at S
    repeat' (first | refine assign_s_l S rfl rfl ?_ | refine move_s_l S rfl rfl ?_ | refine nilL ?_ | refine run_seq ?_ | refine run_region ?_ | (refine lss_l S rfl rfl rfl ?_ ?_ <;> intro hcmp <;> try (exfalso; first | omega | exact hcmp (by decide) | exact absurd hcmp (by decide))) | refine run_ret ?_ | refine run_exit ?_ | refine run_cond_false rfl ?_ | refine thenQ_n ?_ | refine thenQ_e ?_ | refine blockQ_s rfl ?_ | refine ret1_s rfl ?_)
    exact ⟨_, rfl, S.newRowG (wrtM_len m z.ws) (fun _ _ _ _ => rfl), S.chg.below⟩
end Go.Proofs.Ytciehimnhnbipaa
