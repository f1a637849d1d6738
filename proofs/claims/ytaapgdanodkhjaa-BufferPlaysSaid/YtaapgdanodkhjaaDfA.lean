/- The document's buffer: what lies there; New, Push. -/
import Derived.Test.YtaapgdanodkhjaaBfOp
namespace Go.Proofs.Ytaapgdanodkhjaa
open Go.RowKit Go.Lib
set_option linter.unusedVariables false
set_option maxHeartbeats 2000000
/-- A level of the document's: what was put, and where it lies. -/
structure PrS where
  a : Option Addr
  cap : Nat
  zs : LvM
abbrev prD : PrS := ⟨none, 0, []⟩
def encD (p : PrS) : Nat → Value := fun _ => .slice p.a p.zs.length p.cap
instance plainD : Plain encD := ⟨fun _ _ => rfl⟩
abbrev rowD (a : Option Addr) (cap : Nat) (D : List PrS) : Res := rowL a cap 32 1 encD prD D
def prsR (D : List PrS) : Res where
  foot k := ∃ z ∈ D, (slR z.a z.zs.length z.cap 2 (gL encQ (0, 0) z.zs)).foot k
  ro := true
  holds w := ∀ z ∈ D, SlOk w z.a z.zs.length z.cap 2 (gL encQ (0, 0) z.zs)
  lt w k h e := by
    obtain ⟨z, hz, hk⟩ := e
    exact (slR z.a z.zs.length z.cap 2 (gL encQ (0, 0) z.zs)).lt w _ (h z hz) hk
  loc w w' h e := fun z hz => (slR z.a z.zs.length z.cap 2 (gL encQ (0, 0) z.zs)).loc w w' (h z hz) fun k hk => e k ⟨z, hz, hk⟩
def dC (a : Option Addr) (cap n : Nat) : Tm := fun _ => .slice a n cap
abbrev dL (b : Nat) (a : Option Addr) (cap : Nat) (D : List PrS) : List Res := [blk b 1 (dC a cap D.length) 46, rowD a cap D, prsR D]
section
variable {F : Nat → Prop} {w₀ w w' : World} {L : List Res}
theorem Sat.joinRo {x y z : Res} (S : Sat F w₀ w (x :: y :: L)) (hx : x.ro = true) (hy : y.ro = true) (hz : z.ro = true) (hh : z.holds w) (hf : ∀ k, z.foot k → x.foot k ∨ y.foot k) : Sat F w₀ w (z :: L) := by
  have s1 := List.pairwise_cons.1 S.sep
  have s2 := List.pairwise_cons.1 s1.2
  refine ⟨S.chg, fun u hu => ?_, .cons (fun u hu => ?_) s2.2, fun u hu hro => ?_⟩
  · rcases List.mem_cons.1 hu with rfl | hu
    · exact hh
    · exact S.all u (by simp [hu])
  · have h1 := s1.1 u (by simp [hu])
    have h2 := s2.1 u hu
    rcases h1 with e | e
    · exact .inl ⟨hz, e.2⟩
    · rcases h2 with e2 | e2
      · exact .inl ⟨hz, e2.2⟩
      · exact .inr fun k h3 h4 => (hf k h3).elim (fun h => e k h h4) (fun h => e2 k h h4)
  · rcases List.mem_cons.1 hu with rfl | hu
    · rw [hz] at hro; cases hro
    · exact S.own u (by simp [hu]) hro
/-- An own row is read from now on, and is one of the levels. -/
theorem Sat.toPrs {D D' : List PrS} {p : PrS} (S : Sat F w₀ w (rowL p.a p.cap 35 2 encQ (0, 0) p.zs :: prsR D :: L)) (hD : ∀ z ∈ D', z ∈ D ∨ z = p) : Sat F w₀ w (prsR D' :: L) := by
  have S2 := S.toRo (y := roR (slL p.a p.cap 2 encQ (0, 0) p.zs)) (RowOk.sl S.got1) rfl rfl (fun k e => e.2)
  refine S2.joinRo (z := prsR D') rfl rfl rfl (fun z hz => ?_) (fun k ⟨z, hz, hk⟩ => ?_)
  · rcases hD z hz with h | rfl
    · exact S.second z h
    · exact RowOk.sl S.got1
  · rcases hD z hz with h | rfl
    · exact .inr ⟨z, h, hk⟩
    · exact .inl hk
theorem Sat.prsSub {D D' : List PrS} (S : Sat F w₀ w (prsR D :: L)) (hD : ∀ z ∈ D', z ∈ D ∨ z = prD) : Sat F w₀ w (prsR D' :: L) := by
  have S2 := S.fresh (r := rowL none 0 35 2 encQ (0, 0) []) (Below.refl _ _) ⟨by decide, .inl ⟨rfl, rfl, rfl⟩⟩ (fun k ⟨x, hx, _⟩ => by cases hx)
  exact Sat.toPrs (p := prD) S2 hD
theorem Sat.dnew (S : Sat F w₀ w L) : Calls Try.prog 17 #[] w fun e w' => ∃ b a cap, e = .returned (.pointer (some ⟨b, 0, none⟩)) ∧ Sat F w₀ w' (dL b a cap [prD] ++ L) := by
  refine enter1 Try.func17 rfl Try.ntmps17 rfl Try.results17 ?_
  repeat' (first | refine assign_p_l S rfl rfl ?_ | refine assign_e_l S rfl rfl ?_ | (refine buildSlice_l S rfl rfl rfl rfl rfl ?_; clear S; intro b w S) | refine nilL ?_ | refine run_seq ?_ | refine run_skip ?_ | refine run_region ?_ | (apply buildSliceN_l S; (· repeat (first | exact vsN | apply vsC rfl)); (· rfl); (· rfl); (· rfl); (· rfl); (· rfl); clear S; intro b w S) | (apply build1_l S; (· repeat (first | exact mapN | apply mapC_i rfl | apply mapC_b rfl | apply mapC_p rfl | apply mapC_s rfl | apply mapC_e rfl | apply mapC_a rfl | apply mapC_o rfl)); (· rfl); (· rfl)) | (refine box_a S rfl rfl rfl ?_; clear S; intro b w S) | refine assign_o_l S rfl rfl ?_ | refine run_block ?_ | refine run_ret ?_ | refine run_exit ?_ | refine run_cond_true rfl ?_ | refine run_cond_false rfl ?_ | refine thenQ_n ?_ | refine thenQ_r ?_ | refine thenQ_e ?_ | refine blockQ_n ?_ | refine blockQ_r ?_ | refine blockQ_s rfl ?_ | refine blockQ_o rfl ?_ | refine ret1_i rfl ?_ | refine ret1_b rfl ?_ | refine ret1_p rfl ?_ | refine ret1_s rfl ?_ | refine ret1_e rfl ?_ | refine ret1_a rfl ?_ | refine ret1_o rfl ?_ | refine ret1n_i rfl ?_ | refine ret1n_b rfl ?_ | refine ret1n_p rfl ?_ | refine ret1n_s rfl ?_ | refine ret1n_o rfl ?_)
  obtain ⟨b2, hb2⟩ : ∃ x, x = b := ⟨_, rfl⟩
  subst hb2
  obtain ⟨b1, hb1⟩ : ∃ x, x = b := ⟨_, rfl⟩
  subst hb1
  replace S := S.turn1 (r' := blk b2 1 (dC (some ⟨b1, 0, none⟩) 1 1) 46) S.got1 rfl (fun k e => e)
  replace S := S.sw.turn1 (r' := rowD (some ⟨b1, 0, none⟩) 1 [prD]) (RowOk.congr S.second (fun i hi j hj => by
    obtain rfl : i = 0 := by have : i < 1 := hi; omega
    rfl)) rfl (fun k e => e)
  have S2 := S.fresh (r := prsR [prD]) (Below.refl _ _) (fun z hz => by
    obtain rfl : z = prD := by simpa using hz
    exact ⟨by decide, Nat.zero_le _, Nat.zero_le _, fun _ => rfl, .inl rfl⟩) (fun k ⟨z, hz, hk⟩ => by
    obtain rfl : z = prD := by simpa using hz
    exact absurd rfl hk.1)
  exact ⟨b2, _, _, rfl, Sat.rev3 S2⟩
theorem Sat.dpush {b : Nat} {a : Option Addr} {cap : Nat} {D : List PrS} (S : Sat F w₀ w (dL b a cap D ++ L)) (hn : D.length ≤ 10000) : Calls Try.prog 22 #[.pointer (some ⟨b, 0, none⟩)] w fun e w' => e = .returned (.int .i64 0) ∧ ∃ a' cap', Sat F w₀ w' (dL b a' cap' (D ++ [prD]) ++ L) := by
  replace S : Sat F w₀ w (blk b 1 (dC a cap D.length) 46 :: rowD a cap D :: prsR D :: L) := S
  obtain ⟨bb, hbb⟩ : ∃ x, x = b := ⟨_, rfl⟩
  subst hbb
  refine enter1 Try.func22 rfl Try.ntmps22 rfl Try.results22 ?_
  repeat' (first | refine assign_i_l S rfl rfl ?_ | refine move_p_l S rfl rfl ?_ | refine move_e_l S rfl rfl ?_ | refine nilL ?_ | refine run_seq ?_ | refine run_skip ?_ | refine run_region ?_ | refine nilCheck_l S rfl rfl ?_ | refine nilCheckE_l S rfl (by first | omega | decide | (simp; done) | (simp; omega)) rfl ?_ | refine fieldAddr_l S rfl rfl rfl ?_ | refine fieldAddrE_l S rfl (by first | omega | decide | (simp; done) | (simp; omega)) rfl rfl ?_ | (refine append_l S rfl rfl (by omega) rfl ?_; clear S; intro a' cap' w S) | (refine append0_l S rfl rfl (by omega) rfl ?_; clear S; intro a' cap' w S) | (refine append1_i S rfl rfl rfl (by omega) rfl ?_; clear S; intro a' cap' w S) | (refine append2_i S rfl rfl rfl rfl (by omega) rfl ?_; clear S; intro a' cap' w S) | (refine appendPre_i S rfl rfl (by omega) (by omega) rfl ?_; clear S; intro a' cap' w S) | (refine appendSuf_i S rfl rfl (by omega) (by omega) rfl ?_; clear S; intro a' cap' w S) | (refine buildSliceN_l S (vs := []) rfl rfl rfl rfl rfl rfl ?_; clear S; intro b w S) | refine load_s_l S rfl rfl rfl rfl ?_ | refine loadE_s_l S rfl (by first | omega | decide | (simp; done) | (simp; omega)) rfl rfl rfl ?_ | (refine buildSlice_l S rfl rfl rfl rfl rfl ?_; clear S; intro b w S) | (apply buildSliceN_l S; (· repeat (first | exact vsN | apply vsC rfl)); (· rfl); (· rfl); (· rfl); (· rfl); (· rfl); clear S; intro b w S) | (refine store_s S rfl rfl rfl ?_; clear S; intro w S) | (refine storeE_s S rfl rfl (by omega) rfl ?_; clear S; intro w S) | refine move_o_l S rfl rfl ?_ | refine load_o_l S rfl rfl rfl rfl ?_ | refine loadE_o_l S rfl (by first | omega | decide | (simp; done) | (simp; omega)) rfl rfl rfl ?_ | refine run_block ?_ | refine run_ret ?_ | refine run_exit ?_ | refine run_cond_true rfl ?_ | refine run_cond_false rfl ?_ | refine thenQ_n ?_ | refine thenQ_r ?_ | refine thenQ_e ?_ | refine blockQ_n ?_ | refine blockQ_r ?_ | refine blockQ_s rfl ?_ | refine blockQ_o rfl ?_ | refine ret1_i rfl ?_ | refine ret1_b rfl ?_ | refine ret1_p rfl ?_ | refine ret1_s rfl ?_ | refine ret1_e rfl ?_ | refine ret1_a rfl ?_ | refine ret1_o rfl ?_ | refine ret1n_i rfl ?_ | refine ret1n_b rfl ?_ | refine ret1n_p rfl ?_ | refine ret1n_s rfl ?_ | refine ret1n_o rfl ?_)
  refine append1_l (enc := encD) (z := prD) (zs := D) S rfl rfl (fun j hj => by
    obtain rfl : j = 0 := by omega
    rfl) (by omega) rfl ?_
  clear S
  intro a2 cap2 w S
  repeat' (first | refine assign_i_l S rfl rfl ?_ | refine move_p_l S rfl rfl ?_ | refine move_e_l S rfl rfl ?_ | refine nilL ?_ | refine run_seq ?_ | refine run_skip ?_ | refine run_region ?_ | refine nilCheck_l S rfl rfl ?_ | refine nilCheckE_l S rfl (by first | omega | decide | (simp; done) | (simp; omega)) rfl ?_ | refine fieldAddr_l S rfl rfl rfl ?_ | refine fieldAddrE_l S rfl (by first | omega | decide | (simp; done) | (simp; omega)) rfl rfl ?_ | (refine append_l S rfl rfl (by omega) rfl ?_; clear S; intro a' cap' w S) | (refine append0_l S rfl rfl (by omega) rfl ?_; clear S; intro a' cap' w S) | (refine append1_i S rfl rfl rfl (by omega) rfl ?_; clear S; intro a' cap' w S) | (refine append2_i S rfl rfl rfl rfl (by omega) rfl ?_; clear S; intro a' cap' w S) | (refine appendPre_i S rfl rfl (by omega) (by omega) rfl ?_; clear S; intro a' cap' w S) | (refine appendSuf_i S rfl rfl (by omega) (by omega) rfl ?_; clear S; intro a' cap' w S) | (refine buildSliceN_l S (vs := []) rfl rfl rfl rfl rfl rfl ?_; clear S; intro b w S) | refine load_s_l S rfl rfl rfl rfl ?_ | refine loadE_s_l S rfl (by first | omega | decide | (simp; done) | (simp; omega)) rfl rfl rfl ?_ | (refine buildSlice_l S rfl rfl rfl rfl rfl ?_; clear S; intro b w S) | (apply buildSliceN_l S; (· repeat (first | exact vsN | apply vsC rfl)); (· rfl); (· rfl); (· rfl); (· rfl); (· rfl); clear S; intro b w S) | (refine store_s S rfl rfl rfl ?_; clear S; intro w S) | (refine storeE_s S rfl rfl (by omega) rfl ?_; clear S; intro w S) | refine move_o_l S rfl rfl ?_ | refine load_o_l S rfl rfl rfl rfl ?_ | refine loadE_o_l S rfl (by first | omega | decide | (simp; done) | (simp; omega)) rfl rfl rfl ?_ | refine run_block ?_ | refine run_ret ?_ | refine run_exit ?_ | refine run_cond_true rfl ?_ | refine run_cond_false rfl ?_ | refine thenQ_n ?_ | refine thenQ_r ?_ | refine thenQ_e ?_ | refine blockQ_n ?_ | refine blockQ_r ?_ | refine blockQ_s rfl ?_ | refine blockQ_o rfl ?_ | refine ret1_i rfl ?_ | refine ret1_b rfl ?_ | refine ret1_p rfl ?_ | refine ret1_s rfl ?_ | refine ret1_e rfl ?_ | refine ret1_a rfl ?_ | refine ret1_o rfl ?_ | refine ret1n_i rfl ?_ | refine ret1n_b rfl ?_ | refine ret1n_p rfl ?_ | refine ret1n_s rfl ?_ | refine ret1n_o rfl ?_)
  have S2 := (Sat.rev3 S.tail).tail
  have S3 := S2.turn1 (r' := blk bb 1 (dC a2 cap2 (D ++ [prD]).length) 46) S2.got1 rfl (fun k e => e)
  exact ⟨rfl, a2, cap2, Sat.rev3 (Sat.prsSub (Sat.rev3 S3) (D' := D ++ [prD]) (fun z hz => by
    rcases List.mem_append.1 hz with h | h
    · exact .inl h
    · exact .inr (by simpa using h)))⟩
theorem Sat.ddrop1 {b : Nat} {a : Option Addr} {cap : Nat} {D : List PrS} (S : Sat F w₀ w (dL b a cap D ++ L)) (hn : D.length < 2) : Calls Try.prog 23 #[.pointer (some ⟨b, 0, none⟩)] w fun e w' => e = .returned (.int .i64 7) ∧ Sat F w₀ w' (dL b a cap D ++ L) := by
  replace S : Sat F w₀ w (blk b 1 (dC a cap D.length) 46 :: rowD a cap D :: prsR D :: L) := S
  refine enter1 Try.func23 rfl Try.ntmps23 rfl Try.results23 ?_
  repeat' (first | refine assign_i_l S rfl rfl ?_ | refine move_p_l S rfl rfl ?_ | refine move_e_l S rfl rfl ?_ | refine nilL ?_ | refine run_seq ?_ | refine run_skip ?_ | refine run_region (id := 0) ?_ | refine run_region (id := 1) ?_ | refine run_region (id := 2) ?_ | refine run_region (id := 4) ?_ | refine nilCheck_l S rfl rfl ?_ | refine nilCheckE_l S rfl (by first | omega | decide | (simp; done) | (simp; omega)) rfl ?_ | refine fieldAddr_l S rfl rfl rfl ?_ | refine fieldAddrE_l S rfl (by first | omega | decide | (simp; done) | (simp; omega)) rfl rfl ?_ | refine load_s_l S rfl rfl rfl rfl ?_ | refine loadE_s_l S rfl (by first | omega | decide | (simp; done) | (simp; omega)) rfl rfl rfl ?_ | refine len_l S rfl rfl ?_ | (refine lss_l S rfl rfl rfl ?_ ?_ <;> intro hcmp <;> try (exfalso; first | omega | exact hcmp (by decide) | exact absurd hcmp (by decide))) | refine move_o_l S rfl rfl ?_ | refine load_o_l S rfl rfl rfl rfl ?_ | refine loadE_o_l S rfl (by first | omega | decide | (simp; done) | (simp; omega)) rfl rfl rfl ?_ | refine run_block ?_ | refine run_ret ?_ | refine run_exit ?_ | refine run_cond_true rfl ?_ | refine run_cond_false rfl ?_ | refine thenQ_n ?_ | refine thenQ_r ?_ | refine thenQ_e ?_ | refine blockQ_n ?_ | refine blockQ_r ?_ | refine blockQ_s rfl ?_ | refine blockQ_o rfl ?_ | refine ret1_i rfl ?_ | refine ret1_b rfl ?_ | refine ret1_p rfl ?_ | refine ret1_s rfl ?_ | refine ret1_e rfl ?_ | refine ret1_a rfl ?_ | refine ret1_o rfl ?_ | refine ret1n_i rfl ?_ | refine ret1n_b rfl ?_ | refine ret1n_p rfl ?_ | refine ret1n_s rfl ?_ | refine ret1n_o rfl ?_)
  exact ⟨rfl, S⟩
theorem Sat.dmerge1 {b : Nat} {a : Option Addr} {cap : Nat} {D : List PrS} (S : Sat F w₀ w (dL b a cap D ++ L)) (hn : D.length < 2) : Calls Try.prog 25 #[.pointer (some ⟨b, 0, none⟩)] w fun e w' => e = .returned (.int .i64 7) ∧ Sat F w₀ w' (dL b a cap D ++ L) := by
  replace S : Sat F w₀ w (blk b 1 (dC a cap D.length) 46 :: rowD a cap D :: prsR D :: L) := S
  refine enter1 Try.func25 rfl Try.ntmps25 rfl Try.results25 ?_
  repeat' (first | refine assign_i_l S rfl rfl ?_ | refine move_p_l S rfl rfl ?_ | refine move_e_l S rfl rfl ?_ | refine nilL ?_ | refine run_seq ?_ | refine run_skip ?_ | refine run_region (id := 0) ?_ | refine run_region (id := 1) ?_ | refine run_region (id := 2) ?_ | refine run_region (id := 5) ?_ | refine run_region (id := 7) ?_ | refine nilCheck_l S rfl rfl ?_ | refine nilCheckE_l S rfl (by first | omega | decide | (simp; done) | (simp; omega)) rfl ?_ | refine fieldAddr_l S rfl rfl rfl ?_ | refine fieldAddrE_l S rfl (by first | omega | decide | (simp; done) | (simp; omega)) rfl rfl ?_ | refine load_s_l S rfl rfl rfl rfl ?_ | refine loadE_s_l S rfl (by first | omega | decide | (simp; done) | (simp; omega)) rfl rfl rfl ?_ | refine len_l S rfl rfl ?_ | (refine lss_l S rfl rfl rfl ?_ ?_ <;> intro hcmp <;> try (exfalso; first | omega | exact hcmp (by decide) | exact absurd hcmp (by decide))) | refine sub_l S rfl rfl (wrap_in (by omega)) rfl ?_ | refine sub_l S rfl rfl rfl rfl ?_ | refine move_o_l S rfl rfl ?_ | refine load_o_l S rfl rfl rfl rfl ?_ | refine loadE_o_l S rfl (by first | omega | decide | (simp; done) | (simp; omega)) rfl rfl rfl ?_ | refine run_block ?_ | refine run_ret ?_ | refine run_exit ?_ | refine run_cond_true rfl ?_ | refine run_cond_false rfl ?_ | refine thenQ_n ?_ | refine thenQ_r ?_ | refine thenQ_e ?_ | refine blockQ_n ?_ | refine blockQ_r ?_ | refine blockQ_s rfl ?_ | refine blockQ_o rfl ?_ | refine ret1_i rfl ?_ | refine ret1_b rfl ?_ | refine ret1_p rfl ?_ | refine ret1_s rfl ?_ | refine ret1_e rfl ?_ | refine ret1_a rfl ?_ | refine ret1_o rfl ?_ | refine ret1n_i rfl ?_ | refine ret1n_b rfl ?_ | refine ret1n_p rfl ?_ | refine ret1n_s rfl ?_ | refine ret1n_o rfl ?_)
  exact ⟨rfl, S⟩
theorem rowD_pop {a : Option Addr} {cap : Nat} {D : List PrS} {p : PrS} (h : (rowD a cap (D ++ [p])).holds w) : (rowD a cap D).holds w :=
  RowOk.congr (RowOk.shorter (len' := D.length) h (by simp)) (fun i hi j hj => by
    unfold gL
    rw [List.getD_eq_getElem?_getD, List.getD_eq_getElem?_getD, List.getElem?_append_left hi])
theorem Sat.ddrop {b : Nat} {a : Option Addr} {cap : Nat} {D : List PrS} {p : PrS} (S : Sat F w₀ w (dL b a cap (D ++ [p]) ++ L)) (hn : D.length ≤ 10000) (h0 : 0 < D.length) : Calls Try.prog 23 #[.pointer (some ⟨b, 0, none⟩)] w fun e w' => e = .returned (.int .i64 0) ∧ Sat F w₀ w' (dL b a cap D ++ L) := by
  replace S : Sat F w₀ w (blk b 1 (dC a cap (D ++ [p]).length) 46 :: rowD a cap (D ++ [p]) :: prsR (D ++ [p]) :: L) := S
  have hl : (D ++ [p]).length = D.length + 1 := by simp
  have hcap : D.length + 1 ≤ cap := by
    have := (RowOk.sl S.second).2.1
    rwa [hl] at this
  refine enter1 Try.func23 rfl Try.ntmps23 rfl Try.results23 ?_
  repeat' (first | refine assign_i_l S rfl rfl ?_ | refine move_p_l S rfl rfl ?_ | refine move_e_l S rfl rfl ?_ | refine nilL ?_ | refine run_seq ?_ | refine run_skip ?_ | refine run_region (id := 0) ?_ | refine run_region (id := 1) ?_ | refine run_region (id := 2) ?_ | refine run_region (id := 4) ?_ | refine nilCheck_l S rfl rfl ?_ | refine nilCheckE_l S rfl (by first | omega | decide | (simp; done) | (simp; omega)) rfl ?_ | refine fieldAddr_l S rfl rfl rfl ?_ | refine fieldAddrE_l S rfl (by first | omega | decide | (simp; done) | (simp; omega)) rfl rfl ?_ | refine load_s_l S rfl rfl rfl rfl ?_ | refine loadE_s_l S rfl (by first | omega | decide | (simp; done) | (simp; omega)) rfl rfl rfl ?_ | refine len_l S rfl rfl ?_ | (refine lss_l S rfl rfl rfl ?_ ?_ <;> intro hcmp <;> try (exfalso; first | omega | exact hcmp (by decide) | exact absurd hcmp (by decide))) | refine move_o_l S rfl rfl ?_ | refine load_o_l S rfl rfl rfl rfl ?_ | refine loadE_o_l S rfl (by first | omega | decide | (simp; done) | (simp; omega)) rfl rfl rfl ?_ | refine run_block ?_ | refine run_ret ?_ | refine run_exit ?_ | refine run_cond_true rfl ?_ | refine run_cond_false rfl ?_ | refine thenQ_n ?_ | refine thenQ_r ?_ | refine thenQ_e ?_ | refine blockQ_n ?_ | refine blockQ_r ?_ | refine blockQ_s rfl ?_ | refine blockQ_o rfl ?_ | refine ret1_i rfl ?_ | refine ret1_b rfl ?_ | refine ret1_p rfl ?_ | refine ret1_s rfl ?_ | refine ret1_e rfl ?_ | refine ret1_a rfl ?_ | refine ret1_o rfl ?_ | refine ret1n_i rfl ?_ | refine ret1n_b rfl ?_ | refine ret1n_p rfl ?_ | refine ret1n_s rfl ?_ | refine ret1n_o rfl ?_)
  refine run_anyB_at (c := 14) (f := 15) (L' := [blk b 1 (dC a cap (D ++ [p]).length) 46]) [9, 10, 11, 12, 13, 14, 15, 16, 17, 18, 19, 20, 21, 22] (fun (s : Unit) t => t) (fun s w' => Sat F w₀ w' (blk b 1 (dC a cap D.length) 46 :: rowD a cap (D ++ [p]) :: prsR (D ++ [p]) :: L)) S mixed rfl ?_ ?_
  · clear S
    intro w S1
    have S : Sat _ _ w [blk b 1 (dC a cap (D ++ [p]).length) 46] := S1.sub
    (refine anyB_pure (i := 0) rfl (by kernel_rfl) S ?_; (first | refine move_p_x rfl rfl ?_ | refine move_e_x rfl rfl ?_ | refine move_o_x rfl rfl ?_))
    (refine anyB_pure (i := 1) rfl (by kernel_rfl) S ?_; (first | refine move_p_x rfl rfl ?_ | refine move_e_x rfl rfl ?_ | refine move_o_x rfl rfl ?_))
    (refine anyB_pure (i := 2) rfl (by kernel_rfl) S ?_; (first | refine nilCheck_x rfl rfl ?_ | refine nilCheckE_x rfl (by first | omega | decide | (simp; done) | (simp; omega)) rfl ?_))
    (refine anyB_pure (i := 3) rfl (by kernel_rfl) S ?_; (first | refine fieldAddr_x rfl rfl rfl ?_ | refine fieldAddrE_x rfl (by first | omega | decide | (simp; done) | (simp; omega)) rfl rfl ?_))
    (refine anyB_pure (i := 4) rfl (by kernel_rfl) S ?_; (first | refine load_s_x rfl rfl rfl rfl ?_ | refine load_o_x rfl rfl rfl rfl ?_ | refine loadE_s_x rfl (by first | omega | decide | (simp; done) | (simp; omega)) rfl rfl rfl ?_ | refine loadE_o_x rfl (by first | omega | decide | (simp; done) | (simp; omega)) rfl rfl rfl ?_))
    (refine anyB_pure (i := 5) rfl (by kernel_rfl) S ?_; (first | refine move_p_x rfl rfl ?_ | refine move_e_x rfl rfl ?_ | refine move_o_x rfl rfl ?_))
    (refine anyB_pure (i := 6) rfl (by kernel_rfl) S ?_; (first | refine nilCheck_x rfl rfl ?_ | refine nilCheckE_x rfl (by first | omega | decide | (simp; done) | (simp; omega)) rfl ?_))
    (refine anyB_pure (i := 7) rfl (by kernel_rfl) S ?_; (first | refine fieldAddr_x rfl rfl rfl ?_ | refine fieldAddrE_x rfl (by first | omega | decide | (simp; done) | (simp; omega)) rfl rfl ?_))
    (refine anyB_pure (i := 8) rfl (by kernel_rfl) S ?_; (first | refine load_s_x rfl rfl rfl rfl ?_ | refine load_o_x rfl rfl rfl rfl ?_ | refine loadE_s_x rfl (by first | omega | decide | (simp; done) | (simp; omega)) rfl rfl rfl ?_ | refine loadE_o_x rfl (by first | omega | decide | (simp; done) | (simp; omega)) rfl rfl rfl ?_))
    (refine anyB_pure (i := 9) rfl (by kernel_rfl) S ?_; refine len_x rfl rfl ?_)
    (refine anyB_pure (i := 10) rfl (by kernel_rfl) S ?_; (first | refine sub_x rfl rfl (wrap_in (by omega)) rfl ?_ | refine sub_x rfl rfl rfl rfl ?_))
    (refine anyB_pure (i := 11) rfl (by kernel_rfl) S ?_; refine slicePre_x rfl (sl_eq (h := D.length) (by omega)) (by omega) rfl ?_)
    refine anyB_all (l := [12]) (by kernel_rfl) (by decide) ?_
    intro i hi
    simp only [List.mem_cons, List.not_mem_nil, or_false] at hi
    subst hi
    (refine ⟨_, rfl, ?_⟩; replace S := S1; clear S1; (first | refine nilCheck_l S rfl rfl ?_ | refine nilCheckE_l S rfl (by first | omega | decide | (simp; done) | (simp; omega)) rfl ?_); refine nilL ?_; refine ⟨fun _ => S.sub, ?_⟩; have S1 := S; replace S : Sat _ _ _ [blk b 1 (dC a cap (D ++ [p]).length) 46] := S1.sub)
    (refine anyB_pure (i := 13) rfl (by kernel_rfl) S ?_; (first | refine fieldAddr_x rfl rfl rfl ?_ | refine fieldAddrE_x rfl (by first | omega | decide | (simp; done) | (simp; omega)) rfl rfl ?_))
    refine anyB_all (l := [14]) (by kernel_rfl) (by decide) ?_
    intro i hi
    simp only [List.mem_cons, List.not_mem_nil, or_false] at hi
    subst hi
    (refine ⟨_, rfl, ?_⟩; replace S := S1; clear S1; (first | (refine store_s S rfl rfl rfl ?_; clear S; intro w S) | (refine storeE_s S rfl rfl (by omega) rfl ?_; clear S; intro w S)); refine nilL ?_; refine ⟨nope (by kernel_rfl), ?_⟩; have S1 := S)
    refine anyB_end (by kernel_rfl) ?_
    exact ⟨(), (by (repeat (first | exact agree_refl | refine agree_r rfl ?_ | refine agree_l rfl ?_ | refine agree_hv rfl ?_))), S1.turn1 (r' := blk b 1 (dC a cap D.length) 46) S1.got1 rfl (fun k e => e)⟩
  · clear S
    rintro ⟨⟩ j w S
    repeat' (first | refine assign_i_l S rfl rfl ?_ | refine move_p_l S rfl rfl ?_ | refine move_e_l S rfl rfl ?_ | refine nilL ?_ | refine run_seq ?_ | refine run_skip ?_ | refine run_region (id := 0) ?_ | refine run_region (id := 1) ?_ | refine run_region (id := 2) ?_ | refine run_region (id := 4) ?_ | refine nilCheck_l S rfl rfl ?_ | refine nilCheckE_l S rfl (by first | omega | decide | (simp; done) | (simp; omega)) rfl ?_ | refine fieldAddr_l S rfl rfl rfl ?_ | refine fieldAddrE_l S rfl (by first | omega | decide | (simp; done) | (simp; omega)) rfl rfl ?_ | refine load_s_l S rfl rfl rfl rfl ?_ | refine loadE_s_l S rfl (by first | omega | decide | (simp; done) | (simp; omega)) rfl rfl rfl ?_ | refine len_l S rfl rfl ?_ | (refine lss_l S rfl rfl rfl ?_ ?_ <;> intro hcmp <;> try (exfalso; first | omega | exact hcmp (by decide) | exact absurd hcmp (by decide))) | refine move_o_l S rfl rfl ?_ | refine load_o_l S rfl rfl rfl rfl ?_ | refine loadE_o_l S rfl (by first | omega | decide | (simp; done) | (simp; omega)) rfl rfl rfl ?_ | refine run_block ?_ | refine run_ret ?_ | refine run_exit ?_ | refine run_cond_true rfl ?_ | refine run_cond_false rfl ?_ | refine thenQ_n ?_ | refine thenQ_r ?_ | refine thenQ_e ?_ | refine blockQ_n ?_ | refine blockQ_r ?_ | refine blockQ_s rfl ?_ | refine blockQ_o rfl ?_ | refine ret1_i rfl ?_ | refine ret1_b rfl ?_ | refine ret1_p rfl ?_ | refine ret1_s rfl ?_ | refine ret1_e rfl ?_ | refine ret1_a rfl ?_ | refine ret1_o rfl ?_ | refine ret1n_i rfl ?_ | refine ret1n_b rfl ?_ | refine ret1n_p rfl ?_ | refine ret1n_s rfl ?_ | refine ret1n_o rfl ?_)
    have S2 := (S.sw.turn1 (r' := rowD a cap D) (rowD_pop S.second) rfl (fun k e => e)).sw
    have S3 := S2.rev3
    exact ⟨rfl, Sat.rev3 (Sat.prsSub S3 (D' := D) (fun z hz => .inl (by simp [hz])))⟩
end
end Go.Proofs.Ytaapgdanodkhjaa
