/- witness: slices.ContainsFunc of ints among which are known; the iterator of gaps, made; the closure that stand hands on. -/
import Derived.Test.YtciehimnhnbipaaWsG
namespace Go.Proofs.Ytciehimnhnbipaa
open Go.RowKit Go.Lib
set_option linter.unusedVariables false
set_option maxHeartbeats 8000000
section
variable {f : FuncId} [FnOk Try.prog f] {l2 : List Value} {p : Int → Bool} {I : World → Prop} {zs : List Int}
theorem indexJ_at (hI : ∀ w w', I w → Below w.heap.size w w' → I w') (hf : ∀ x w, x ∈ zs → I w → Calls Try.prog f ([] ++ [Value.int .i64 x] ++ l2).toArray w fun e w' => e = .returned (.bool (p x)) ∧ Below w.heap.size w w')
    (a : Option Addr) (cap : Nat) (w0 : World) (hi : I w0) (hs : SlOk w0 a zs.length cap 1 (gL encI 0 zs)) :
    Calls Try.prog 64 #[.slice a zs.length cap, .func (.func f) #[] l2.toArray] w0 fun e w' => e = .returned (.int .i64 (idxG p zs)) ∧ Below w0.heap.size w0 w' := by
  have hm := hs.small
  have S := Sat.reads (r := slL a cap 1 encI 0 zs) hs
  refine enter1 Try.func64 rfl Try.ntmps64 rfl Try.results64 ?_
  repeat' (first | refine move_i_l S rfl rfl ?_ | refine assign_i_l S rfl rfl ?_ | refine move_s_l S rfl rfl ?_ | refine nilL ?_ | refine run_seq ?_ | refine run_region ?_ | refine len_l S rfl rfl ?_ | refine run_block ?_ | refine thenQ_n ?_)
  refine run_while [4, 5, 9, 10, 11, 12, 13, 14, 15, 16, 17, 18] (fun (q : Nat) t => upd t 8 (.int .i64 q)) (fun q w' => q ≤ zs.length ∧ (zs.take q).any p = false ∧ Sat (fun _ => False) w0 w' [roR (slL a cap 1 encI 0 zs)]) (fun q => zs.length - q) 0 ?_ ?_ ?_
  · (repeat (first | exact agree_refl | refine agree_r rfl ?_ | refine agree_l rfl ?_ | refine agree_hv rfl ?_))
  · exact ⟨Nat.zero_le _, rfl, S⟩
  clear S
  rintro q j w ⟨hq, hn, S⟩
  by_cases hql : q < zs.length
  · have hsucc := any_take_succG (p := p) (d := (0 : Int)) (l := zs) hql
    rw [hn] at hsucc
    repeat' (first | refine move_i_l S rfl rfl ?_ | refine assign_i_l S rfl rfl ?_ | refine move_s_l S rfl rfl ?_ | refine nilL ?_ | refine run_seq ?_ | refine run_skip ?_ | refine run_region ?_ | (refine lss_l S rfl rfl rfl ?_ ?_ <;> intro hcmp <;> try (exfalso; first | omega | exact hcmp (by decide) | exact absurd hcmp (by decide))) | refine indexAddr_l S rfl rfl (idx_cast _) (by first | omega | decide | (simp; done) | (simp; omega)) rfl ?_ | refine loadE_i_l S rfl (by first | omega | decide | (simp; done) | (simp; omega)) rfl rfl rfl ?_ | refine move_o_l S rfl rfl ?_ | refine run_block ?_ | refine run_cond_true rfl ?_ | refine thenQ_n ?_)
    refine callV (f := f) (l1 := []) (l2 := l2) (l := [Value.int .i64 (zs.getD q 0)]) rfl (hf (zs.getD q 0) _ (getD_mem hql) (hI _ _ hi S.chg.below)) rfl rfl ?_
    rintro e w ⟨rfl, hb⟩
    replace S := S.below hb
    clear hb
    refine ⟨_, rfl, ?_⟩
    obtain ⟨r, hr⟩ : ∃ r, p (zs.getD q 0) = r := ⟨_, rfl⟩
    rw [hr] at hsucc ⊢
    cases r with
    | true =>
      repeat' (first | refine move_i_l S rfl rfl ?_ | refine assign_i_l S rfl rfl ?_ | refine nilL ?_ | refine run_seq ?_ | refine run_region ?_ | refine run_ret ?_ | refine run_cond_true rfl ?_ | refine thenQ_n ?_ | refine thenQ_r ?_ | refine blockQ_r ?_ | refine ret1_i rfl ?_)
      exact ⟨by rw [idxG_at hql hn hr], S.chg.below⟩
    | false =>
      repeat' (first | refine move_i_l S rfl rfl ?_ | refine nilL ?_ | refine run_skip ?_ | refine run_region ?_ | refine add_l S rfl rfl (wrap_in (by omega)) rfl ?_ | refine run_cond_false rfl ?_ | refine thenQ_n ?_ | refine blockQ_n ?_)
      refine ⟨q + 1, ?_, ⟨by omega, hsucc, S⟩, by omega⟩
      rw [Int.natCast_add]
      (repeat (first | exact agree_refl | refine agree_r rfl ?_ | refine agree_l rfl ?_ | refine agree_hv rfl ?_))
  · repeat' (first | refine assign_i_l S rfl rfl ?_ | refine nilL ?_ | refine run_seq ?_ | refine run_region ?_ | (refine lss_l S rfl rfl rfl ?_ ?_ <;> intro hcmp <;> try (exfalso; first | omega | exact hcmp (by decide) | exact absurd hcmp (by decide))) | refine run_ret ?_ | refine run_exit ?_ | refine run_cond_false rfl ?_ | refine thenQ_n ?_ | refine thenQ_e ?_ | refine blockQ_s rfl ?_ | refine ret1_i rfl ?_)
    rw [List.take_of_length_le (by omega)] at hn
    refine ⟨?_, S.chg.below⟩
    unfold idxG
    rw [hn]
    rfl
theorem containsJ_at (hI : ∀ w w', I w → Below w.heap.size w w' → I w') (hf : ∀ x w, x ∈ zs → I w → Calls Try.prog f ([] ++ [Value.int .i64 x] ++ l2).toArray w fun e w' => e = .returned (.bool (p x)) ∧ Below w.heap.size w w')
    (a : Option Addr) (cap : Nat) (w0 : World) (hi : I w0) (hs : SlOk w0 a zs.length cap 1 (gL encI 0 zs)) :
    Calls Try.prog 48 #[.slice a zs.length cap, .func (.func f) #[] l2.toArray] w0 fun e w' => e = .returned (.bool (zs.any p)) ∧ Below w0.heap.size w0 w' := by
  have S := Sat.reads (r := slL a cap 1 encI 0 zs) hs
  refine enter1 Try.func48 rfl Try.ntmps48 rfl Try.results48 ?_
  repeat' (first | refine assign_b_l S rfl rfl ?_ | refine move_s_l S rfl rfl ?_ | refine nilL ?_ | refine run_seq ?_ | refine run_region ?_ | refine move_o_l S rfl rfl ?_ | refine thenQ_n ?_)
  refine callL (indexJ_at hI hf a cap w0 hi hs) rfl rfl ?_
  rintro e w' ⟨rfl, hb⟩
  replace S := S.below hb
  clear hb
  have hr := idxG_le p zs
  obtain ⟨r, hrr⟩ : ∃ r, idxG p zs = r := ⟨_, rfl⟩
  rw [hrr] at hr ⊢
  refine ⟨_, rfl, ?_⟩
  repeat' (first | refine assign_b_l S rfl rfl ?_ | (refine geq_l S rfl rfl rfl ?_ ?_ <;> intro hcmp <;> try (exfalso; first | omega | exact hcmp (by decide) | exact absurd hcmp (by decide))) | refine nilL ?_ | refine run_ret ?_ | refine thenQ_n ?_ | refine ret1_b rfl ?_)
  · rw [← hr, decide_eq_true hcmp]; exact ⟨rfl, S.chg.below⟩
  · rw [← hr, decide_eq_false hcmp]; exact ⟨rfl, S.chg.below⟩
end
theorem Sat.unand {S : Nat → Prop} {w₀ w : World} {L : List Res} {r r' : Res} (h : Sat S w₀ w (Ytciehimnhnbipaa.andR r r' :: L)) (h1 : r.ro = true) (h2 : r'.ro = true) : Sat S w₀ w (r :: r' :: L) := by
  have hs := List.pairwise_cons.1 h.sep
  have hh : r.holds w ∧ r'.holds w := h.got1
  refine ⟨h.chg, fun x hx => ?_, List.pairwise_cons.2 ⟨fun x hx => ?_, List.pairwise_cons.2 ⟨fun x hx => ?_, hs.2⟩⟩, fun x hx => ?_⟩
  · rcases List.mem_cons.1 hx with rfl | hx
    · exact hh.1
    · rcases List.mem_cons.1 hx with rfl | hx
      · exact hh.2
      · exact h.all x (by simp [hx])
  · rcases List.mem_cons.1 hx with rfl | hx
    · exact .inl ⟨h1, h2⟩
    · rcases hs.1 x hx with ⟨_, e⟩ | e
      · exact .inl ⟨h1, e⟩
      · exact .inr fun k e1 e2 => e k (.inl e1) e2
  · rcases hs.1 x hx with ⟨_, e⟩ | e
    · exact .inl ⟨h2, e⟩
    · exact .inr fun k e1 e2 => e k (.inr e1) e2
  · rcases List.mem_cons.1 hx with rfl | hx
    · intro h0; rw [h1] at h0; cases h0
    · rcases List.mem_cons.1 hx with rfl | hx
      · intro h0; rw [h2] at h0; cases h0
      · exact h.own x (by simp [hx])
/-- The memories: each is only read. -/
def memsR (zs : List SlX) : Res where
  foot k := ∃ z ∈ zs, (slL z.a z.cap 1 encI 0 z.zs).foot k
  ro := true
  holds w := ∀ z ∈ zs, (slL z.a z.cap 1 encI 0 z.zs).holds w
  lt w k h e := let ⟨z, hz, hk⟩ := e; (slL z.a z.cap 1 encI 0 z.zs).lt w k (h z hz) hk
  loc w w' h e := fun z hz => (slL z.a z.cap 1 encI 0 z.zs).loc w w' (h z hz) fun k hk => e k ⟨z, hz, hk⟩
theorem Sat.mems {S : Nat → Prop} {w₀ w : World} {L : List Res} {zs : List SlX} {z : SlX} (h : Sat S w₀ w (memsR zs :: slL z.a z.cap 1 encI 0 z.zs :: L)) : Sat S w₀ w (memsR (zs ++ [z]) :: L) := by
  have h2 := h.andR
  refine h2.turn1 (r' := memsR (zs ++ [z])) ?_ rfl ?_
  · intro y hy
    rcases List.mem_append.1 hy with hy | hy
    · exact (h2.got1 : (Ytciehimnhnbipaa.andR _ _).holds w).1 y hy
    · obtain rfl : y = z := by simpa using hy
      exact (h2.got1 : (Ytciehimnhnbipaa.andR _ _).holds w).2
  · rintro k ⟨y, hy, hk⟩
    rcases List.mem_append.1 hy with hy | hy
    · exact .inl ⟨y, hy, hk⟩
    · obtain rfl : y = z := by simpa using hy
      exact .inr hk
abbrev boxR (b : Nat) (v : Value) (T : TypeId) : Res := roR (blk b 1 (fun _ => v) T)
theorem gaps_at (ai aw a : Option Addr) (ni nw nl ci cw cap : Nat) (w : World) : Calls Try.prog 58 #[.slice ai ni ci, .slice a nl cap, .slice aw nw cw] w fun e w' =>
    ∃ b1 b2 b3, e = .returned (.func (.func 68) #[] #[.pointer (some ⟨b1, 0, none⟩), .pointer (some ⟨b2, 0, none⟩), .pointer (some ⟨b3, 0, none⟩)]) ∧
      (andR (boxR b1 (.slice ai ni ci) 23) (andR (boxR b2 (.slice aw nw cw) 24) (boxR b3 (.slice a nl cap) 27))).holds w' ∧ (w.heap.size ≤ b1 ∧ w.heap.size ≤ b2 ∧ w.heap.size ≤ b3) ∧ Below w.heap.size w w' := by
  have S := Sat.start (fun _ => False) w
  refine enter1 Try.func58 rfl Try.ntmps58 rfl Try.results58 ?_
  repeat' (first | (refine box_s S rfl rfl ?_; clear S; intro b w S) | refine makeFunc_l S rfl rfl rfl ?_ | refine assign_o_l S rfl rfl ?_ | refine nilL ?_ | refine run_seq ?_ | refine run_region ?_ | refine run_ret ?_ | refine thenQ_n ?_ | refine ret1_o rfl ?_)
  exact ⟨_, _, _, rfl, ⟨S.third, S.got1, S.second⟩, ⟨Nat.le_of_not_lt fun hlt => S.own (blk _ 1 (fun _ => .slice ai ni ci) 23) (by simp) rfl _ rfl hlt, Nat.le_of_not_lt fun hlt => S.own (blk _ 1 (fun _ => .slice aw nw cw) 24) (by simp) rfl _ rfl hlt, Nat.le_of_not_lt fun hlt => S.own (blk _ 1 (fun _ => .slice a nl cap) 27) (by simp) rfl _ rfl hlt⟩, S.chg.below⟩
theorem stand1_at {b4 b10 : Nat} {a : Option Addr} {cap : Nat} {l : List AtS} {z : AtS} (k : Int) (w0 : World) (h4 : (blk b4 1 (fun _ => .slice a l.length cap) 27).holds w0) (h10 : (blk b10 9 (encAt z) 32).holds w0) (hl : (hisR a cap l).holds w0) (hk : 0 ≤ k ∧ k < l.length) :
    Calls Try.prog 59 ([] ++ [Value.int .i64 k] ++ [Value.pointer (some ⟨b4, 0, none⟩), Value.pointer (some ⟨b10, 0, none⟩)]).toArray w0 fun e w' => e = .returned (.bool (aheadB (l.getD k.toNat atD) z)) ∧ Below w0.heap.size w0 w' := by
  have S := (Sat.reads2 (r := blk b4 1 (fun _ => .slice a l.length cap) 27) (r' := blk b10 9 (encAt z) 32) h4 h10).ro (r := roR (hisR a cap l)) hl rfl rfl
  have hls := hl.1.small
  obtain ⟨q, rfl⟩ : ∃ q : Nat, k = q := ⟨k.toNat, by omega⟩
  refine enter1 Try.func59 rfl Try.ntmps59 rfl Try.results59 ?_
  repeat' (first | refine assign_b_l S rfl rfl ?_ | refine nilL ?_ | refine run_seq ?_ | refine run_region ?_ | refine thenQ_n ?_)
  refine run_any S (L' := [roR (hisR a cap l), roR (blk b4 1 (fun _ => .slice a l.length cap) 27), roR (blk b10 9 (encAt z) 32)]) (f := 7) mixed rfl ?_
  clear S
  intro w S1
  have S : Sat _ _ w [roR (hisR a cap l), roR (blk b4 1 (fun _ => .slice a l.length cap) 27), roR (blk b10 9 (encAt z) 32)] := S1.sub
  all_goals (refine any_pure (i := 0) rfl (by kernel_rfl) S ?_; (first | refine load_s_x rfl rfl rfl rfl ?_ | refine load_o_x rfl rfl rfl rfl ?_ | refine loadE_s_x rfl (by first | omega | decide | (simp; done) | (simp; omega)) rfl rfl rfl ?_ | refine loadE_o_x rfl (by first | omega | decide | (simp; done) | (simp; omega)) rfl rfl rfl ?_))
  all_goals (refine any_pure (i := 1) rfl (by kernel_rfl) S ?_; refine move_i_x rfl rfl ?_)
  all_goals (refine any_pure (i := 2) rfl (by kernel_rfl) S ?_; (first | refine indexAddr_x rfl rfl (idx_cast _) (by first | omega | decide | (simp; done) | (simp; omega)) rfl ?_ | refine indexAddr_x rfl rfl (idx_eq _) (by first | omega | decide | (simp; done) | (simp; omega)) rfl ?_))
  all_goals (refine any_pure (i := 3) rfl (by kernel_rfl) S ?_; (first | refine loadN_x rfl rfl rfl ?_ | refine loadEN_x rfl (by first | omega | decide | (simp; done) | (simp; omega)) rfl rfl ?_))
  all_goals (refine any_pure (i := 4) rfl (by kernel_rfl) S ?_; (first | refine loadN_x rfl rfl rfl ?_ | refine loadEN_x rfl (by first | omega | decide | (simp; done) | (simp; omega)) rfl rfl ?_))
  all_goals refine any_step (i := 5) rfl (by kernel_rfl) ?_
  all_goals replace S := S1
  all_goals clear S1
  refine callL (ahead_at (l.getD q atD) z _) rfl rfl ?_
  rintro e w ⟨rfl, hb⟩
  replace S := S.below hb
  refine ⟨_, rfl, ?_⟩
  all_goals try refine nilL ?_
  all_goals refine ⟨S.sub, ?_⟩
  all_goals (have S1 := S; replace S : Sat _ _ _ [roR (hisR a cap l), roR (blk b4 1 (fun _ => .slice a l.length cap) 27), roR (blk b10 9 (encAt z) 32)] := S1.sub)
  all_goals (refine any_pure (i := 6) rfl (by kernel_rfl) S ?_; refine assign_b_x rfl rfl ?_)
  all_goals refine any_end (by kernel_rfl) ?_
  all_goals replace S := S1
  repeat' (first | refine run_ret ?_ | refine thenQ_n ?_ | refine ret1_b rfl ?_)
  all_goals exact ⟨rfl, S.chg.below⟩
end Go.Proofs.Ytciehimnhnbipaa
