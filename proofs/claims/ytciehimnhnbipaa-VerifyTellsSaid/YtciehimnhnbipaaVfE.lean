/- verify: the search of Brute. verify: Brute, whole. -/
import Derived.Test.YtciehimnhnbipaaVfC
import Derived.Test.YtciehimnhnbipaaWsR
import Derived.Test.YtciehimnhnbipaaRetK
namespace Go.Proofs.Ytciehimnhnbipaa
open Go.RowKit Go.Lib
set_option linter.unusedVariables false
set_option linter.unusedSimpArgs false
set_option maxHeartbeats 16000000
set_option maxRecDepth 100000
/-- An order is less than another one. -/
def lessP (a b : List Int) : Prop := ∃ k, k < a.length ∧ k < b.length ∧ (∀ i, i < k → a.getD i 0 = b.getD i 0) ∧ a.getD k 0 < b.getD k 0
/-- The least of those that may be, with some ahead. -/
def Least (init : List Int) (l : List AtS) (p o : List Int) : Prop := (p <+: o ∧ ValidO init l o) ∧ ∀ o', p <+: o' → ValidO init l o' → ¬ lessP o' o
theorem valid_len {init : List Int} {l : List AtS} {o : List Int} (h : ValidO init l o) : o.length = l.length := by
  have := h.1.length_eq
  unfold plL at this
  rwa [List.length_map, List.length_range] at this
theorem least_full {init : List Int} {l : List AtS} {p : List Int} (hp : p.length = l.length) (hv : ValidO init l p) : Least init l p p := by
  refine ⟨⟨List.prefix_refl _, hv⟩, fun o' h1 h2 h3 => ?_⟩
  obtain ⟨t, rfl⟩ := h1
  have h4 := valid_len h2
  rw [List.length_append] at h4
  obtain rfl : t = [] := List.eq_nil_of_length_eq_zero (by omega)
  obtain ⟨k, _, _, _, h5⟩ := h3
  rw [List.append_nil] at h5
  omega
theorem pre_at {p o : List Int} {x : Int} (h : p ++ [x] <+: o) : o.getD p.length 0 = x ∧ ∀ i, i < p.length → o.getD i 0 = p.getD i 0 := by
  obtain ⟨t, rfl⟩ := h
  refine ⟨?_, fun i hi => ?_⟩
  · rw [List.getD_eq_getElem?_getD, List.append_assoc, List.getElem?_append_right (Nat.le_refl _)]
    simp
  · rw [List.getD_eq_getElem?_getD, List.getD_eq_getElem?_getD, List.append_assoc, List.getElem?_append_left hi]
theorem least_next {init : List Int} {l : List AtS} {p o : List Int} {i : Nat} (hp : p.length < l.length) (hno : ∀ j : Nat, j < i → ¬ SomeP init l (p ++ [(j : Int)])) (h : Least init l (p ++ [(i : Int)]) o) : Least init l p o := by
  obtain ⟨⟨h1, h2⟩, h3⟩ := h
  have hp2 : p <+: o := by obtain ⟨t, rfl⟩ := h1; exact ⟨(i : Int) :: t, by simp⟩
  refine ⟨⟨hp2, h2⟩, fun o' g1 g2 g3 => ?_⟩
  obtain ⟨t, rfl⟩ := g1
  match t with
  | [] =>
    have := valid_len g2
    rw [List.append_nil] at this
    omega
  | u :: t =>
    obtain ⟨u0, u1⟩ := valid_in g2 (u := u) (by simp)
    have hpu : p ++ [u] <+: p ++ u :: t := ⟨t, by simp⟩
    rcases Int.lt_trichotomy u i with e | e | e
    · exact hno u.toNat (by omega) ⟨_, by rw [show ((u.toNat : Nat) : Int) = u from by omega]; exact hpu, g2⟩
    · subst e
      exact h3 _ hpu g2 g3
    · obtain ⟨k, k1, k2, k3, k4⟩ := g3
      obtain ⟨a1, a2⟩ := pre_at hpu
      obtain ⟨b1, b2⟩ := pre_at h1
      rcases Nat.lt_trichotomy k p.length with ek | ek | ek
      · rw [a2 k ek, b2 k ek] at k4
        omega
      · subst ek
        rw [a1, b1] at k4
        omega
      · have := k3 p.length ek
        rw [a1, b1] at this
        omega
theorem some_follows {n : Nat} {init : List Int} {l : List AtS} {p : List Int} {i : Nat} (hM : MayP n l) (hi : i < l.length) (hr : ∀ u ∈ p, 0 ≤ u ∧ u < l.length) (hn : (i : Int) ∉ p) (hv : VOrd init (p.map (atI l))) (h : SomeP init l (p ++ [(i : Int)])) : followsB l p (memA init (p.map (atI l))) (l.getD i atD) = true := by
  obtain ⟨o, ⟨t, rfl⟩, h2⟩ := h
  have h3 := h2.2
  rw [List.map_append, List.map_append] at h3
  exact (follows_iff hM hi hr hn hv).2 (vord_pre h3)
theorem no_step {init : List Int} {l : List AtS} {p : List Int} {i : Nat} (hno : ∀ j : Nat, j < i → ¬ SomeP init l (p ++ [(j : Int)])) (h : ¬ SomeP init l (p ++ [(i : Int)])) : ∀ j : Nat, j < i + 1 → ¬ SomeP init l (p ++ [(j : Int)]) := fun j hj => by
  rcases Nat.lt_or_ge j i with e | e
  · exact hno j e
  · obtain rfl : j = i := by omega
    exact h
theorem memA_snoc (init : List Int) (l : List AtS) (p : List Int) (i : Nat) : memA init ((p ++ [(i : Int)]).map (atI l)) = wrtM (memA init (p.map (atI l))) (l.getD i atD).ws := by
  rw [List.map_append]
  unfold memA
  rw [List.foldl_append]
  rfl
theorem row_pre {w : World} {a : Option Addr} {cap e : Nat} {p : List Int} {x : Int} (h : RowOk w a (p ++ [x]).length cap e 1 (gL encI 0 (p ++ [x]))) : RowOk w a p.length cap e 1 (gL encI 0 p) := by
  have h1 : RowOk w a p.length cap e 1 (gL encI 0 (p ++ [x])) := by
    obtain ⟨h0, ⟨rfl, h1, h2⟩ | ⟨b, cur, rfl, h1, h2, h3, h4, h5⟩⟩ := h
    · simp at h1
    · rw [List.length_append] at h2
      exact ⟨h0, .inr ⟨b, cur, rfl, h1, by omega, h3, h4, fun i hi => h5 i (by rw [List.length_append]; omega)⟩⟩
  refine h1.congr fun i hi j hj => ?_
  unfold gL
  rw [List.getD_eq_getElem?_getD, List.getD_eq_getElem?_getD, List.getElem?_append_left hi]
theorem Sat.front6 {S : Nat → Prop} {w₀ w : World} {L : List Res} {x a b c d e f : Res} (h : Sat S w₀ w (a :: b :: c :: d :: e :: f :: x :: L)) : Sat S w₀ w (x :: a :: b :: c :: d :: e :: f :: L) :=
  h.perm (List.perm_middle (l₁ := [a, b, c, d, e, f]) (a := x) (l₂ := L)).symm
theorem Sat.rot25 {S : Nat → Prop} {w₀ w : World} {L : List Res} {x y a b c d e : Res} (h : Sat S w₀ w (x :: y :: a :: b :: c :: d :: e :: L)) : Sat S w₀ w (a :: b :: c :: d :: e :: x :: y :: L) :=
  h.perm (List.Perm.append_right L (List.perm_append_comm (l₁ := [a, b, c, d, e]) (l₂ := [x, y])))
abbrev seaV (b4 b3 b7 : Nat) : Value := .func (.func 31) #[] #[.pointer (some ⟨b4, 0, none⟩), .pointer (some ⟨b3, 0, none⟩), .pointer (some ⟨b7, 0, none⟩)]
abbrev seaL (b4 b3 b7 : Nat) (a : Option Addr) (cap : Nat) (l : List AtS) (ao : Option Addr) (co : Nat) (p : List Int) (L : List Res) : List Res :=
  blk b4 1 (fun _ => .slice ao p.length co) 24 :: rowL ao co 3 1 encI 0 p :: blk b3 1 (fun _ => .slice a l.length cap) 27 :: blk b7 1 (fun _ => seaV b4 b3 b7) 52 :: hisR a cap l :: L
theorem search_at {b4 b3 b7 : Nat} {a : Option Addr} {cap : Nat} {init : List Int} {l : List AtS} (hM : MayP init.length l) (hll : l.length ≤ 1000) : ∀ (d : Nat) (ao : Option Addr) (co : Nat) (p : List Int) (am : Option Addr) (cm : Nat) (S : Nat → Prop) (w₀ w : World) (L : List Res), l.length - p.length = d → p.Nodup → (∀ u ∈ p, 0 ≤ u ∧ u < l.length) → VOrd init (p.map (atI l)) →
    slL am cm 1 encI 0 (memA init (p.map (atI l))) ∈ L → Sat S w₀ w (seaL b4 b3 b7 a cap l ao co p L) →
    Calls Try.prog 31 ([] ++ [Value.slice am init.length cm] ++ [Value.pointer (some ⟨b4, 0, none⟩), Value.pointer (some ⟨b3, 0, none⟩), Value.pointer (some ⟨b7, 0, none⟩)]).toArray w fun e w' =>
      (e = .returned (.bool true) ∧ ∃ ao' co' o, Least init l p o ∧ Sat S w₀ w' (seaL b4 b3 b7 a cap l ao' co' o L)) ∨ (e = .returned (.bool false) ∧ ¬ SomeP init l p ∧ ∃ ao' co', Sat S w₀ w' (seaL b4 b3 b7 a cap l ao' co' p L)) := by
  intro d
  induction d with
  | zero =>
    intro ao co p am cm S₀ w₀ w L hd hn hr hv hmL S
    have hpl := nodup_len hn hr
    refine enter1 Try.func31 rfl Try.ntmps31 rfl Try.results31 ?_
    repeat' (first | refine nilL ?_ | refine run_seq ?_ | refine run_region ?_ | refine assign_b_l S rfl rfl ?_ | refine len_l S rfl rfl ?_ | (refine eql_l S rfl rfl rfl ?_ ?_ <;> intro hcmp <;> try (exfalso; first | omega | exact hcmp (by decide) | exact absurd hcmp (by decide))) | refine load_o_l S rfl rfl rfl rfl ?_ | refine run_ret ?_ | refine run_cond_true rfl ?_ | refine thenQ_n ?_ | refine thenQ_r ?_ | refine ret1_b rfl ?_)
    refine .inl ⟨rfl, ao, co, p, least_full (by omega) ⟨?_, hv⟩, S⟩
    refine perm_of_sub hn (fun u hu => ?_) (by unfold plL; rw [List.length_map, List.length_range]; omega)
    obtain ⟨a1, a2⟩ := hr u hu
    unfold plL
    exact List.mem_map.2 ⟨u.toNat, List.mem_range.2 (by omega), by omega⟩
  | succ d ih =>
    intro ao co p am cm S₀ w₀ w L hd hn hr hv hmL S
    have hpl := nodup_len hn hr
    have hls := (S.all (hisR a cap l) (by simp) : (hisR a cap l).holds w).1.small
    refine enter1 Try.func31 rfl Try.ntmps31 rfl Try.results31 ?_
    repeat' (first | refine move_i_l S rfl rfl ?_ | refine nilL ?_ | refine run_seq ?_ | refine run_skip ?_ | refine run_region ?_ | refine assign_b_l S rfl rfl ?_ | refine len_l S rfl rfl ?_ | (refine eql_l S rfl rfl rfl ?_ ?_ <;> intro hcmp <;> try (exfalso; first | omega | exact hcmp (by decide) | exact absurd hcmp (by decide))) | refine load_o_l S rfl rfl rfl rfl ?_ | refine run_block ?_ | refine run_cond_false rfl ?_ | refine thenQ_n ?_)
    refine run_while [5, 6, 7, 16, 17, 18, 19, 20, 21, 22, 23, 24, 25, 26, 27, 28, 29, 30, 31, 32, 33, 34, 35, 36, 37, 38, 39, 40, 41, 42, 43, 44, 45] (fun (s : Nat × Option Addr × Nat) t => upd t 15 (.int .i64 (s.1 : Nat))) (fun s w' => (s.1 ≤ l.length ∧ ∀ j : Nat, j < s.1 → ¬ SomeP init l (p ++ [(j : Int)])) ∧ Sat S₀ w₀ w' (seaL b4 b3 b7 a cap l s.2.1 s.2.2 p L)) (fun s => l.length - s.1) (0, ao, co) ?_ ?_ ?_
    · (repeat (first | exact agree_refl | refine agree_r rfl ?_ | refine agree_l rfl ?_ | refine agree_hv rfl ?_))
    · exact ⟨⟨Nat.zero_le _, fun j hj => absurd hj (Nat.not_lt_zero j)⟩, S⟩
    clear S
    rintro ⟨i, a1, c1⟩ j w ⟨⟨hi, hno⟩, S⟩
    replace hi : i ≤ l.length := hi
    replace hno : ∀ j : Nat, j < i → ¬ SomeP init l (p ++ [(j : Int)]) := hno
    replace S : Sat S₀ w₀ w (seaL b4 b3 b7 a cap l a1 c1 p L) := S
    dsimp only
    by_cases hil : i < l.length
    · repeat' (first | refine move_i_l S rfl rfl ?_ | refine nilL ?_ | refine run_seq ?_ | refine run_skip ?_ | refine run_region ?_ | (refine lss_l S rfl rfl rfl ?_ ?_ <;> intro hcmp <;> try (exfalso; first | omega | exact hcmp (by decide) | exact absurd hcmp (by decide))) | refine indexAddr_l S rfl rfl (idx_cast _) (by first | omega | decide | (simp; done) | (simp; omega)) rfl ?_ | refine loadEN_l S rfl (by first | omega | decide | (simp; done) | (simp; omega)) rfl rfl ?_ | (refine allocZ_l S rfl rfl ?_; clear S; intro b w S) | refine assign_i_l S rfl rfl ?_ | (refine storeN_l S rfl rfl ⟨rfl, rfl⟩ rfl ?_; clear S; intro w S) | refine load_o_l S rfl rfl rfl rfl ?_ | refine run_block ?_ | refine run_cond_true rfl ?_ | refine thenQ_n ?_)
      obtain ⟨bt, hbt⟩ : ∃ x, x = b := ⟨_, rfl⟩
      subst hbt
      replace S := S.turn1 (r' := blk bt 9 (encAt (l.getD i atD)) 32) S.got1 rfl (fun k e => e)
      have hml := memA_len init (p.map (atI l))
      have hM1 := hM.1
      have hrs := (hM.2 i hil).2.2.2.2.2.2.1
      have hws := (hM.2 i hil).2.2.2.2.2.2.2.1
      refine callL (vcontains_at a1 c1 p i _ (RowOk.sl (S.all (rowL a1 c1 3 1 encI 0 p) (by simp)))) rfl rfl ?_
      rintro e w ⟨rfl, hb⟩
      replace S := S.below hb
      clear hb
      refine ⟨_, rfl, ?_⟩
      by_cases him : (i : Int) ∈ p
      · rw [decide_eq_true him]
        repeat' (first | refine move_i_l S rfl rfl ?_ | refine nilL ?_ | refine run_region ?_ | refine offL rfl rfl rfl rfl ?_ | refine move_b_l S rfl rfl ?_ | refine pick_tb_l S rfl rfl rfl ?_ | refine add_l S rfl rfl (wrap_in (by omega)) rfl ?_ | refine run_exit ?_ | refine run_cond_true rfl ?_ | refine thenQ_n ?_ | refine thenQ_e ?_ | refine blockQ_s rfl ?_)
        refine ⟨(i + 1, a1, c1), ?_, ⟨⟨by show i + 1 ≤ _; omega, no_step hno (some_in him)⟩, S.tail⟩, by show l.length - (i + 1) < l.length - i; omega⟩
        dsimp only
        rw [Int.natCast_add i 1]
        (repeat (first | exact agree_refl | refine agree_r rfl ?_ | refine agree_l rfl ?_ | refine agree_hv rfl ?_))
      rw [decide_eq_false him]
      repeat' (first | refine move_i_l S rfl rfl ?_ | refine onL rfl rfl ?_ | refine move_b_l S rfl rfl ?_ | refine move_s_l S rfl rfl ?_ | refine load_o_l S rfl rfl rfl rfl ?_)
      refine callL (follows_at i (S.all (hisR a cap l) (by simp)) (RowOk.sl (S.all (rowL a1 c1 3 1 encI 0 p) (by simp))) (S.all (slL am cm 1 encI 0 (memA init (p.map (atI l)))) (by simp [hmL])) hil hr (by rw [hml]; exact hrs)) (by rw [hml]; rfl) rfl ?_
      rintro e w ⟨rfl, hb⟩
      replace S := S.below hb
      clear hb
      refine ⟨_, rfl, ?_⟩
      cases hfo : followsB l p (memA init (p.map (atI l))) (l.getD i atD) with
      | false =>
        repeat' (first | refine move_i_l S rfl rfl ?_ | refine nilL ?_ | refine run_region ?_ | refine onL rfl rfl ?_ | refine not_l S rfl rfl ?_ | refine pick_fb_l S rfl rfl rfl ?_ | refine add_l S rfl rfl (wrap_in (by omega)) rfl ?_ | refine run_exit ?_ | refine run_cond_true rfl ?_ | refine thenQ_n ?_ | refine thenQ_e ?_ | refine blockQ_s rfl ?_)
        refine ⟨(i + 1, a1, c1), ?_, ⟨⟨by show i + 1 ≤ _; omega, no_step hno (fun h => by rw [some_follows hM hil hr him hv h] at hfo; cases hfo)⟩, S.tail⟩, by show l.length - (i + 1) < l.length - i; omega⟩
        dsimp only
        rw [Int.natCast_add i 1]
        (repeat (first | exact agree_refl | refine agree_r rfl ?_ | refine agree_l rfl ?_ | refine agree_hv rfl ?_))
      | true =>
        have hv2 := (follows_iff (init := init) hM hil hr him hv).1 hfo
        repeat' (first | refine move_i_l S rfl rfl ?_ | refine nilL ?_ | refine run_seq ?_ | refine run_skip ?_ | refine run_region ?_ | refine onL rfl rfl ?_ | (refine store_s S rfl rfl rfl ?_; clear S; intro w S) | refine not_l S rfl rfl ?_ | refine pick_fb_l S rfl rfl rfl ?_ | (refine buildSlice_l S rfl rfl rfl rfl rfl ?_; clear S; intro b w S) | (refine append1_i S rfl rfl rfl (by omega) rfl ?_; clear S; intro a' cap' w S) | refine load_o_l S rfl rfl rfl rfl ?_ | refine run_cond_false rfl ?_ | refine thenQ_n ?_)
        replace S := S.tail
        have S2 := S.sw
        replace S := (S2.turn1 (r' := blk b4 1 (fun _ => .slice a' (p ++ [(i : Int)]).length cap') 24) S2.got1 rfl (fun k e => e)).sw
        clear S2
        refine run_any S (L' := [blk bt 9 (encAt (l.getD i atD)) 32, blk b7 1 (fun _ => seaV b4 b3 b7) 52]) (f := 5) mixed rfl ?_
        clear S
        intro w S1
        have S : Sat _ _ w [blk bt 9 (encAt (l.getD i atD)) 32, blk b7 1 (fun _ => seaV b4 b3 b7) 52] := S1.sub
        all_goals (refine any_pure (i := 0) rfl (by kernel_rfl) S ?_; (first | refine load_o_x rfl rfl rfl rfl ?_ | refine loadE_o_x rfl (by first | omega | decide | (simp; done) | (simp; omega)) rfl rfl rfl ?_))
        all_goals (refine any_pure (i := 1) rfl (by kernel_rfl) S ?_; refine move_s_x rfl rfl ?_)
        all_goals (refine any_pure (i := 2) rfl (by kernel_rfl) S ?_; (first | refine loadN_x rfl rfl rfl ?_ | refine loadEN_x rfl (by first | omega | decide | (simp; done) | (simp; omega)) rfl rfl ?_))
        all_goals refine any_step (i := 3) rfl (by kernel_rfl) ?_
        all_goals replace S := S1
        all_goals clear S1
        refine callL (behind_at (m := memA init (p.map (atI l))) (am := am) (cm := cm) (z := l.getD i atD) (S.all (slL am cm 1 encI 0 (memA init (p.map (atI l)))) (by simp [hmL])) ((S.all (hisR a cap l) (by simp) : (hisR a cap l).holds w).2 i) (by omega) (by rw [hml]; exact hws)) (by rw [hml]; rfl) rfl ?_
        rintro e w ⟨_, rfl, ⟨a3, c3, rfl, hh, hf⟩, hb⟩
        replace S := Sat.freshRow S hb hh hf
        clear hb hh hf
        replace S := S.freeze
        refine ⟨_, rfl, ?_⟩
        all_goals try refine nilL ?_
        all_goals refine ⟨S.sub, ?_⟩
        all_goals (have S1 := S; replace S : Sat _ _ _ [blk bt 9 (encAt (l.getD i atD)) 32, blk b7 1 (fun _ => seaV b4 b3 b7) 52] := S1.sub)
        all_goals refine any_step (i := 4) rfl (by kernel_rfl) ?_
        all_goals replace S := S1
        all_goals clear S1
        replace S : Sat S₀ w₀ w (seaL b4 b3 b7 a cap l a' cap' (p ++ [(i : Int)]) (slL a3 c3 1 encI 0 (wrtM (memA init (p.map (atI l))) (l.getD i atD).ws) :: blk bt 9 (encAt (l.getD i atD)) 32 :: L)) := S.rot25
        have hwl := wrtM_len (memA init (p.map (atI l))) (l.getD i atD).ws
        have hc := ih a' cap' (p ++ [(i : Int)]) a3 c3 S₀ w₀ _ (slL a3 c3 1 encI 0 (wrtM (memA init (p.map (atI l))) (l.getD i atD).ws) :: blk bt 9 (encAt (l.getD i atD)) 32 :: L) (by rw [List.length_append, List.length_singleton]; omega) (List.nodup_append.2 ⟨hn, List.pairwise_singleton .., fun u hu v hv e => by
          obtain rfl : v = (i : Int) := by simpa using hv
          exact him (e ▸ hu)⟩) (fun u hu => by
          rcases List.mem_append.1 hu with h | h
          · exact hr u h
          · obtain rfl : u = (i : Int) := by simpa using h
            omega) (by rw [List.map_append]; exact hv2) (by rw [memA_snoc]; exact List.mem_cons_self ..) S
        rw [← hml, ← hwl] at hc
        refine callV (f := 31) (l1 := []) (l2 := [.pointer (some ⟨b4, 0, none⟩), .pointer (some ⟨b3, 0, none⟩), .pointer (some ⟨b7, 0, none⟩)]) (l := [.slice a3 (wrtM (memA init (p.map (atI l))) (l.getD i atD).ws).length c3]) rfl hc rfl rfl ?_
        clear S hc
        rintro e w (⟨rfl, a4, c4, o, hL, S⟩ | ⟨rfl, hno2, a4, c4, S⟩)
        · replace S := S.front6
          refine ⟨_, rfl, ?_⟩
          all_goals try refine nilL ?_
          all_goals refine ⟨S.sub, ?_⟩
          all_goals (have S1 := S; replace S : Sat _ _ _ [blk bt 9 (encAt (l.getD i atD)) 32, blk b7 1 (fun _ => seaV b4 b3 b7) 52] := S1.sub)
          all_goals refine any_end (by kernel_rfl) ?_
          all_goals replace S := S1
          all_goals clear S1
          repeat' (first | refine nilL ?_ | refine run_seq ?_ | refine run_region ?_ | refine assign_b_l S rfl rfl ?_ | refine run_ret ?_ | refine run_cond_true rfl ?_ | refine thenQ_n ?_ | refine thenQ_r ?_ | refine blockQ_r ?_ | refine ret1_b rfl ?_)
          exact .inl ⟨rfl, a4, c4, o, least_next (by omega) hno hL, S.sub⟩
        · have hpc : (p ++ [(i : Int)]).length ≤ c4 := (RowOk.sl (S.all (rowL a4 c4 3 1 encI 0 (p ++ [(i : Int)])) (by simp)) : SlOk w a4 (p ++ [(i : Int)]).length c4 1 (gL encI 0 (p ++ [(i : Int)]))).2.1
          have hpl2 : (p ++ [(i : Int)]).length = p.length + 1 := by rw [List.length_append, List.length_singleton]
          replace S := S.front6
          refine ⟨_, rfl, ?_⟩
          all_goals try refine nilL ?_
          all_goals refine ⟨S.sub, ?_⟩
          all_goals (have S1 := S; replace S : Sat _ _ _ [blk bt 9 (encAt (l.getD i atD)) 32, blk b7 1 (fun _ => seaV b4 b3 b7) 52] := S1.sub)
          all_goals refine any_end (by kernel_rfl) ?_
          all_goals replace S := S1
          all_goals clear S1
          replace S := S.tail
          repeat' (first | refine run_skip ?_ | refine run_region ?_ | refine len_l S rfl rfl ?_ | refine sub_l S rfl rfl (wrap_in (by omega)) rfl ?_ | refine load_o_l S rfl rfl rfl rfl ?_ | refine run_cond_false rfl ?_ | refine thenQ_n ?_)
          refine slicePre_l (h := p.length) S rfl (sl_eqN (by omega)) (by omega) rfl ?_
          repeat' (first | refine move_i_l S rfl rfl ?_ | refine nilL ?_ | refine run_region ?_ | (refine store_s S rfl rfl rfl ?_; clear S; intro w S) | refine add_l S rfl rfl (wrap_in (by omega)) rfl ?_ | refine thenQ_n ?_ | refine blockQ_n ?_)
          replace S := S.turn1 (r' := blk b4 1 (fun _ => .slice a4 p.length c4) 24) S.got1 rfl (fun k e => e)
          have S2 := S.sw
          replace S := (S2.turn1 (r' := rowL a4 c4 3 1 encI 0 p) (row_pre S2.got1) rfl (fun k e => e)).sw
          clear S2
          refine ⟨(i + 1, a4, c4), ?_, ⟨⟨by show i + 1 ≤ _; omega, no_step hno hno2⟩, S.sub⟩, by show l.length - (i + 1) < l.length - i; omega⟩
          dsimp only
          rw [Int.natCast_add i 1]
          (repeat (first | exact agree_refl | refine agree_r rfl ?_ | refine agree_l rfl ?_ | refine agree_hv rfl ?_))
    · obtain rfl : i = l.length := by omega
      repeat' (first | refine nilL ?_ | refine run_seq ?_ | refine run_region ?_ | refine assign_b_l S rfl rfl ?_ | (refine lss_l S rfl rfl rfl ?_ ?_ <;> intro hcmp <;> try (exfalso; first | omega | exact hcmp (by decide) | exact absurd hcmp (by decide))) | refine run_ret ?_ | refine run_exit ?_ | refine run_cond_false rfl ?_ | refine thenQ_n ?_ | refine thenQ_e ?_ | refine blockQ_s rfl ?_ | refine ret1_b rfl ?_)
      refine .inr ⟨rfl, fun h => ?_, a1, c1, S⟩
      obtain ⟨j, h1, h2⟩ := (some_next (by omega)).1 h
      exact hno j h1 h2
end Go.Proofs.Ytciehimnhnbipaa
namespace Go.Proofs.Ytciehimnhnbipaa
open Go.RowKit Go.Lib
set_option linter.unusedVariables false
set_option linter.unusedSimpArgs false
set_option maxHeartbeats 16000000
set_option maxRecDepth 100000
def retQC3 (r r' r'' : Nat) (R : Ending → World → Prop) : Exit → Tm → World → Prop
  | .normal, t, w | .ret, t, w => ∃ b v, t r = .pointer (some ⟨b, 0, none⟩) ∧ w.cell? ⟨b, 0, none⟩ = some v ∧ R (.returned (.tuple #[v, t r', t r''])) w
  | _, _, _ => False
section
variable {P : Program} {f : FuncId} {fn : Func} {c : Code} {l : List Value} {w : World} {R : Ending → World → Prop}
theorem enterC3 {r r' r'' : Nat} {T : TypeId} [hA : TyAgg P T false] (hf : P.funcs[f]? = some fn) (hb : fn.body = some c) {n : Nat} (hn : fn.ntmps = n) (hl : Nat.ble l.length n = true) (hr : fn.results = #[.cell r T, .tmp r', .tmp r'']) (h : Run P n c (argF l) w (retQC3 r r' r'' R)) : Calls P f l.toArray w R := by
  subst hn
  refine calls_run hf hb hl ?_ h
  intro e a w t ha hq
  have key : (∃ b v, t r = .pointer (some ⟨b, 0, none⟩) ∧ w.cell? ⟨b, 0, none⟩ = some v ∧ R (.returned (.tuple #[v, t r', t r''])) w) → a.defers = [] ∧ ∃ v, (results fn a.tmps).run P w = .ok v w ∧ R (.returned v) w := by
    rintro ⟨b, v, h1, h3, h4⟩
    refine ⟨ha.defers, .tuple #[v, t r', t r''], ?_, h4⟩
    have h6 := ha.get r
    rw [h1, Array.getD_eq_getD_getElem?] at h6
    simp [results, hr, h6, asAddr, load_cell1 (P := P) (T := T) h3, ← ha.get r', ← ha.get r'']
  cases e with
  | normal => exact key hq
  | ret => exact key hq
  | _ => exact hq.elim
theorem retC3_l {S : Nat → Prop} {w₀ : World} {L : List Res} {t : Tm} {r r' r'' b m : Nat} {c : Tm} {T : TypeId} {v' v'' : Value} (hS : Sat S w₀ w L) (h : t r = .pointer (some ⟨b, 0, none⟩)) (h' : t r' = v') (h'' : t r'' = v'') [hp : PickB L b m c T] (hm : Nat.blt 0 m = true) (k : R (.returned (.tuple #[c 0, v', v''])) w) : retQC3 r r' r'' R .ret t w :=
  ⟨b, c 0, h, blk_cell (hp.ok w hS.all) 0 (by simpa [Nat.blt_eq] using hm), by rw [h', h'']; exact k⟩
end
theorem Sat.arr {S : Nat → Prop} {w₀ w : World} {L : List Res} {r m b7 b4 b3 h : Res} (hS : Sat S w₀ w (r :: m :: b7 :: b4 :: b3 :: h :: L)) : Sat S w₀ w (b4 :: r :: b3 :: b7 :: h :: m :: L) := by
  refine (hS.perm (List.perm_middle (l₁ := [r, m, b7]) (a := b4) (l₂ := b3 :: h :: L)).symm).perm ?_
  refine List.Perm.cons _ (List.Perm.cons _ ?_)
  show (b3 :: b7 :: h :: m :: L).Perm (m :: b7 :: b3 :: h :: L)
  refine (List.Perm.swap b7 b3 (h :: m :: L)).trans ?_
  refine ((List.Perm.cons b7 (List.Perm.cons b3 (List.Perm.swap m h L)))).trans ?_
  refine (List.Perm.cons b7 (List.Perm.swap m b3 (h :: L))).trans ?_
  exact List.Perm.swap m b7 (b3 :: h :: L)
theorem vbrute_at {ai a : Option Addr} {ci cap : Nat} {init : List Int} {l : List AtS} {w0 : World} (hi : (slL ai ci 1 encI 0 init).holds w0) (hl : (hisR a cap l).holds w0) :
    Calls Try.prog 13 #[.slice ai init.length ci, .slice a l.length cap] w0 fun e w' => Below w0.heap.size w0 w' ∧
      ((8 < l.length ∧ e = .returned (.tuple #[.slice none 0 0, .bool false, .int .i64 40])) ∨
       (l.length ≤ 8 ∧ ¬ MayP init.length l ∧ e = .returned (.tuple #[.slice none 0 0, .bool false, .int .i64 4])) ∨
       (l.length ≤ 8 ∧ MayP init.length l ∧ ¬ SomeP init l [] ∧ e = .returned (.tuple #[.slice none 0 0, .bool false, .int .i64 0])) ∨
       (l.length ≤ 8 ∧ MayP init.length l ∧ ∃ o v, Least init l [] o ∧ e = .returned (.tuple #[v, .bool true, .int .i64 0]) ∧ NewRow w0 w' 3 1 encI 0 o v)) := by
  have S := ((Sat.start (fun _ => False) w0).ro (r := slL ai ci 1 encI 0 init) hi rfl rfl).ro (r := hisR a cap l) hl rfl rfl
  refine enterC3 Try.func13 rfl Try.ntmps13 rfl Try.results13 ?_
  repeat' (first | refine assign_b_l S rfl rfl ?_ | refine assign_i_l S rfl rfl ?_ | (refine store_s S rfl rfl rfl ?_; clear S; intro w S) | refine nilL ?_ | refine run_seq ?_ | refine run_region ?_ | (refine allocZ_l S rfl rfl ?_; clear S; intro b w S) | (refine box_s S rfl rfl ?_; clear S; intro b w S) | refine len_l S rfl rfl ?_ | (refine gtr_l S rfl rfl rfl ?_ ?_ <;> intro hcmp <;> try (exfalso; first | omega | exact hcmp (by decide) | exact absurd hcmp (by decide))) | refine move_s_l S rfl rfl ?_ | refine load_o_l S rfl rfl rfl rfl ?_ | refine run_block ?_ | refine run_ret ?_ | refine run_cond_true rfl ?_ | refine run_cond_false rfl ?_ | refine thenQ_n ?_ | refine thenQ_r ?_ | refine blockQ_r ?_)
  · refine retC3_l S rfl rfl rfl rfl ?_
    exact ⟨S.chg.below, .inl ⟨by omega, rfl⟩⟩
  obtain ⟨b4, hb4⟩ : ∃ x, x = b := ⟨_, rfl⟩
  subst hb4
  obtain ⟨b3, hb3⟩ : ∃ x, x = b := ⟨_, rfl⟩
  subst hb3
  refine callL (may_at (S.all (hisR a cap l) (by simp))) rfl rfl ?_
  rintro e w ⟨rfl, hb⟩
  replace S := S.below hb
  clear hb
  refine ⟨_, rfl, ?_⟩
  by_cases hM : MayP init.length l
  · rw [decide_eq_true hM]
    have hM1 := hM.1
    repeat' (first | refine assign_b_l S rfl rfl ?_ | refine nilL ?_ | refine run_seq ?_ | refine run_skip ?_ | refine run_region ?_ | (refine allocZ_l S rfl rfl ?_; clear S; intro b w S) | refine not_l S rfl rfl ?_ | refine makeFunc_l S rfl rfl rfl ?_ | (refine store_l S rfl rfl rfl rfl ?_; clear S; intro w S) | refine run_cond_false rfl ?_ | refine thenQ_n ?_ | refine blockQ_n ?_)
    obtain ⟨b7, hb7⟩ : ∃ x, x = b := ⟨_, rfl⟩
    subst hb7
    replace S := S.turn1 (r' := blk b7 1 (fun _ => seaV b4 b3 b7) 52) S.got1 rfl (fun k e => e)
    have S2 := S.sw
    replace S := (S2.turn1 (r' := blk b4 1 (fun _ => .slice none 0 0) 24) S2.got1 rfl (fun k e => e)).sw
    clear S2
    refine run_any S (L' := [blk b7 1 (fun _ => seaV b4 b3 b7) 52]) (f := 5) mixed rfl ?_
    clear S
    intro w S1
    have S : Sat _ _ w [blk b7 1 (fun _ => seaV b4 b3 b7) 52] := S1.sub
    all_goals (refine any_pure (i := 0) rfl (by kernel_rfl) S ?_; (first | refine load_o_x rfl rfl rfl rfl ?_ | refine loadE_o_x rfl (by first | omega | decide | (simp; done) | (simp; omega)) rfl rfl rfl ?_))
    all_goals (refine any_pure (i := 1) rfl (by kernel_rfl) S ?_; refine move_s_x rfl rfl ?_)
    all_goals refine any_step (i := 2) rfl (by kernel_rfl) ?_
    all_goals replace S := S1
    all_goals clear S1
    refine callL (wclone_at ai ci init (by omega) _ (S.all (slL ai ci 1 encI 0 init) (by simp))) rfl rfl ?_
    rintro e w ⟨_, rfl, ⟨a3, c3, rfl, hh, hf⟩, hb⟩
    replace S := Sat.freshRow S hb hh hf
    clear hb hh hf
    replace S := S.freeze
    refine ⟨_, rfl, ?_⟩
    all_goals try refine nilL ?_
    all_goals refine ⟨S.sub, ?_⟩
    all_goals (have S1 := S; replace S : Sat _ _ _ [blk b7 1 (fun _ => seaV b4 b3 b7) 52] := S1.sub)
    all_goals refine any_step (i := 3) rfl (by kernel_rfl) ?_
    all_goals replace S := S1
    all_goals clear S1
    replace S := (S.nilRow 3 1 encI 0 (by decide)).arr
    have hc := search_at (b4 := b4) (b3 := b3) (b7 := b7) (a := a) (cap := cap) hM (by omega) (l.length - 0) none 0 [] a3 c3 (fun _ => False) w0 _ [slL a3 c3 1 encI 0 init, slL ai ci 1 encI 0 init] rfl .nil (fun u hu => by cases hu) ⟨.nil, .nil, fun pre u post e => by cases pre <;> cases e⟩ (by show slL a3 c3 1 encI 0 init ∈ _; simp) S
    refine callV (f := 31) (l1 := []) (l2 := [.pointer (some ⟨b4, 0, none⟩), .pointer (some ⟨b3, 0, none⟩), .pointer (some ⟨b7, 0, none⟩)]) (l := [.slice a3 init.length c3]) rfl hc rfl rfl ?_
    clear S hc
    rintro e w (⟨rfl, a4, c4, o, hL, S⟩ | ⟨rfl, hno, a4, c4, S⟩)
    · refine ⟨_, rfl, ?_⟩
      all_goals try refine nilL ?_
      all_goals refine ⟨S.sub, ?_⟩
      all_goals (have S1 := S; replace S : Sat _ _ _ [blk b7 1 (fun _ => seaV b4 b3 b7) 52] := S1.sub)
      all_goals (refine any_pure (i := 4) rfl (by kernel_rfl) S ?_; refine not_x rfl rfl ?_)
      all_goals refine any_end (by kernel_rfl) ?_
      all_goals replace S := S1
      all_goals clear S1
      repeat' (first | refine assign_b_l S rfl rfl ?_ | refine assign_i_l S rfl rfl ?_ | (refine store_s S rfl rfl rfl ?_; clear S; intro w S) | refine nilL ?_ | refine run_seq ?_ | refine run_skip ?_ | refine run_region ?_ | refine load_o_l S rfl rfl rfl rfl ?_ | refine run_ret ?_ | refine run_cond_false rfl ?_ | refine thenQ_n ?_)
      refine retC3_l S rfl rfl rfl rfl ?_
      exact ⟨S.chg.below, .inr (.inr (.inr ⟨by omega, hM, o, _, hL, rfl, (S.sub (L' := [rowL a4 c4 3 1 encI 0 o])).newRow⟩))⟩
    · refine ⟨_, rfl, ?_⟩
      all_goals try refine nilL ?_
      all_goals refine ⟨S.sub, ?_⟩
      all_goals (have S1 := S; replace S : Sat _ _ _ [blk b7 1 (fun _ => seaV b4 b3 b7) 52] := S1.sub)
      all_goals (refine any_pure (i := 4) rfl (by kernel_rfl) S ?_; refine not_x rfl rfl ?_)
      all_goals refine any_end (by kernel_rfl) ?_
      all_goals replace S := S1
      all_goals clear S1
      repeat' (first | refine assign_b_l S rfl rfl ?_ | refine assign_i_l S rfl rfl ?_ | (refine store_s S rfl rfl rfl ?_; clear S; intro w S) | refine nilL ?_ | refine run_seq ?_ | refine run_region ?_ | refine run_ret ?_ | refine run_cond_true rfl ?_ | refine thenQ_n ?_ | refine thenQ_r ?_)
      refine retC3_l S rfl rfl rfl rfl ?_
      exact ⟨S.chg.below, .inr (.inr (.inl ⟨by omega, hM, hno, rfl⟩))⟩
  · rw [decide_eq_false hM]
    repeat' (first | refine assign_b_l S rfl rfl ?_ | refine assign_i_l S rfl rfl ?_ | (refine store_s S rfl rfl rfl ?_; clear S; intro w S) | refine nilL ?_ | refine run_seq ?_ | refine run_region ?_ | refine not_l S rfl rfl ?_ | refine run_ret ?_ | refine run_cond_true rfl ?_ | refine thenQ_n ?_ | refine thenQ_r ?_ | refine blockQ_r ?_)
    refine retC3_l S rfl rfl rfl rfl ?_
    exact ⟨S.chg.below, .inr (.inl ⟨by omega, hM, rfl⟩)⟩
end Go.Proofs.Ytciehimnhnbipaa
