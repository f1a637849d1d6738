/- The document's buffer: Put. -/
import Derived.Test.YtaapgdanodkhjaaDfA
namespace Go.Proofs.Ytaapgdanodkhjaa
open Go.RowKit Go.Lib
set_option linter.unusedVariables false
set_option maxHeartbeats 2000000
section
variable {F : Nat → Prop} {w₀ w w' : World} {L : List Res}
theorem Sat.prsAt {D : List PrS} (S : Sat F w₀ w (prsR D :: L)) {z : PrS} (hz : z ∈ D) : Sat F w₀ w (roR (slL z.a z.cap 2 encQ (0, 0) z.zs) :: prsR D :: L) := by
  have s1 := List.pairwise_cons.1 S.sep
  refine ⟨S.chg, fun u hu => ?_, .cons (fun u hu => ?_) S.sep, fun u hu hro => ?_⟩
  · rcases List.mem_cons.1 hu with rfl | hu
    · exact S.got1 z hz
    · exact S.all u hu
  · rcases List.mem_cons.1 hu with rfl | hu
    · exact .inl ⟨rfl, rfl⟩
    · rcases s1.1 u hu with e | e
      · exact .inl ⟨rfl, e.2⟩
      · exact .inr fun k h1 h2 => e k ⟨z, hz, h1⟩ h2
  · rcases List.mem_cons.1 hu with rfl | hu
    · cases hro
    · exact S.own u hu hro
theorem row_set {a : Option Addr} {cap : Nat} {D : List PrS} {k : Nat} (hk : k < D.length) (p : PrS) (h : (row a D.length cap 32 1 (gset (gL encD prD D) k 0 (.slice p.a p.zs.length p.cap))).holds w) : (rowD a cap (D.set k p)).holds w := by
  have h2 : RowOk w a (D.set k p).length cap 32 1 (gset (gL encD prD D) k 0 (.slice p.a p.zs.length p.cap)) := by rw [List.length_set]; exact h
  refine RowOk.congr h2 fun i hi j hj => ?_
  rw [List.length_set] at hi
  obtain rfl : j = 0 := by omega
  unfold gset gL
  by_cases e : i = k
  · subst e
    rw [if_pos ⟨rfl, rfl⟩, List.getD_eq_getElem?_getD, List.getElem?_set_self hk]
    rfl
  · rw [if_neg (fun h => e h.1), List.getD_eq_getElem?_getD, List.getD_eq_getElem?_getD, List.getElem?_set_ne (fun h => e h.symm)]
theorem Sat.dput {b : Nat} {a : Option Addr} {cap : Nat} {D : List PrS} (S : Sat F w₀ w (dL b a cap D ++ L)) (hn : D.length ≤ 10000) (h0 : 0 < D.length) (hz : (D.getD (D.length - 1) prD).zs.length ≤ 10000) (v x : Int) :
    Calls Try.prog 21 #[.pointer (some ⟨b, 0, none⟩), .int .i64 v, .int .i64 x] w fun e w' => e = .returned (.int .i64 0) ∧ ∃ p, p.zs = (D.getD (D.length - 1) prD).zs ++ [(v, x)] ∧ Sat F w₀ w' (dL b a cap (D.set (D.length - 1) p) ++ L) := by
  obtain ⟨bb, hbb⟩ : ∃ x, x = b := ⟨_, rfl⟩
  subst hbb
  obtain ⟨k, hk⟩ : ∃ k, k = D.length - 1 := ⟨_, rfl⟩
  rw [← hk] at hz ⊢
  have hzm : D.getD k prD ∈ D := by rw [List.getD_eq_getElem?_getD, List.getElem?_eq_getElem (show k < D.length by omega)]; exact List.getElem_mem _
  have hkl : k < D.length := by omega
  replace S : Sat F w₀ w (prsR D :: rowD a cap D :: blk bb 1 (dC a cap D.length) 46 :: L) := Sat.rev3 S
  replace S : Sat F w₀ w (roR (slL (D.getD k prD).a (D.getD k prD).cap 2 encQ (0, 0) (D.getD k prD).zs) :: prsR D :: rowD a cap D :: blk bb 1 (dC a cap D.length) 46 :: L) := S.prsAt hzm
  refine enter1 Try.func21 rfl Try.ntmps21 rfl Try.results21 ?_
  repeat' (first | refine assign_i_l S rfl rfl ?_ | refine move_p_l S rfl rfl ?_ | refine move_e_l S rfl rfl ?_ | refine nilL ?_ | refine run_seq ?_ | refine run_skip ?_ | refine run_region (id := 0) ?_ | refine run_region (id := 1) ?_ | refine run_region (id := 3) ?_ | refine nilCheck_l S rfl rfl ?_ | refine nilCheckE_l S rfl (by first | omega | decide | (simp; done) | (simp; omega)) rfl ?_ | refine fieldAddr_l S rfl rfl rfl ?_ | refine fieldAddrE_l S rfl (by first | omega | decide | (simp; done) | (simp; omega)) rfl rfl ?_ | refine load_s_l S rfl rfl rfl rfl ?_ | refine loadE_s_l S rfl (by first | omega | decide | (simp; done) | (simp; omega)) rfl rfl rfl ?_ | refine len_l S rfl rfl ?_ | refine sub_l S rfl rfl (wrap_in (by omega)) rfl ?_ | refine sub_l S rfl rfl rfl rfl ?_ | refine move_o_l S rfl rfl ?_ | refine load_o_l S rfl rfl rfl rfl ?_ | refine loadE_o_l S rfl (by first | omega | decide | (simp; done) | (simp; omega)) rfl rfl rfl ?_ | refine run_block ?_ | refine run_ret ?_ | refine run_exit ?_ | refine run_cond_true rfl ?_ | refine run_cond_false rfl ?_ | refine thenQ_n ?_ | refine thenQ_r ?_ | refine thenQ_e ?_ | refine blockQ_n ?_ | refine blockQ_r ?_ | refine blockQ_s rfl ?_ | refine blockQ_o rfl ?_ | refine ret1_i rfl ?_ | refine ret1_b rfl ?_ | refine ret1_p rfl ?_ | refine ret1_s rfl ?_ | refine ret1_e rfl ?_ | refine ret1_a rfl ?_ | refine ret1_o rfl ?_ | refine ret1n_i rfl ?_ | refine ret1n_b rfl ?_ | refine ret1n_p rfl ?_ | refine ret1n_s rfl ?_ | refine ret1n_o rfl ?_)
  rw [show ((D.length : Int) - 1) = (k : Nat) from by omega]
  refine run_anyB_at (c := 20) (f := 21) (L' := [roR (slL (D.getD k prD).a (D.getD k prD).cap 2 encQ (0, 0) (D.getD k prD).zs), rowD a cap D, blk bb 1 (dC a cap D.length) 46]) [14, 15, 16, 17, 18, 19, 20, 21, 22, 23, 24, 25, 26, 27, 28, 29, 30, 31, 32, 33] (fun (s : Unit) t => t) (fun s w' => ∃ a5 cap5, Sat F w₀ w' (rowL a5 cap5 35 2 encQ (0, 0) ((D.getD k prD).zs ++ [(v, x)]) :: prsR D :: row a D.length cap 32 1 (gset (gL encD prD D) k 0 (.slice a5 ((D.getD k prD).zs ++ [(v, x)]).length cap5)) :: blk bb 1 (dC a cap D.length) 46 :: L)) S mixed rfl ?_ ?_
  · clear S
    intro w S1
    have S : Sat _ _ w [roR (slL (D.getD k prD).a (D.getD k prD).cap 2 encQ (0, 0) (D.getD k prD).zs), rowD a cap D, blk bb 1 (dC a cap D.length) 46] := S1.sub
    (refine anyB_pure (i := 0) rfl (by kernel_rfl) S ?_; (first | refine move_p_x rfl rfl ?_ | refine move_e_x rfl rfl ?_ | refine move_o_x rfl rfl ?_))
    (refine anyB_pure (i := 1) rfl (by kernel_rfl) S ?_; (first | refine nilCheck_x rfl rfl ?_ | refine nilCheckE_x rfl (by first | omega | decide | (simp; done) | (simp; omega)) rfl ?_))
    (refine anyB_pure (i := 2) rfl (by kernel_rfl) S ?_; (first | refine fieldAddr_x rfl rfl rfl ?_ | refine fieldAddrE_x rfl (by first | omega | decide | (simp; done) | (simp; omega)) rfl rfl ?_))
    (refine anyB_pure (i := 3) rfl (by kernel_rfl) S ?_; (first | refine load_s_x rfl rfl rfl rfl ?_ | refine load_o_x rfl rfl rfl rfl ?_ | refine loadE_s_x rfl (by first | omega | decide | (simp; done) | (simp; omega)) rfl rfl rfl ?_ | refine loadE_o_x rfl (by first | omega | decide | (simp; done) | (simp; omega)) rfl rfl rfl ?_))
    (refine anyB_pure (i := 4) rfl (by kernel_rfl) S ?_; refine move_i_x rfl rfl ?_)
    (refine anyB_pure (i := 6) rfl (by kernel_rfl) S ?_; (first | refine move_p_x rfl rfl ?_ | refine move_e_x rfl rfl ?_ | refine move_o_x rfl rfl ?_))
    (refine anyB_pure (i := 7) rfl (by kernel_rfl) S ?_; (first | refine nilCheck_x rfl rfl ?_ | refine nilCheckE_x rfl (by first | omega | decide | (simp; done) | (simp; omega)) rfl ?_))
    (refine anyB_pure (i := 8) rfl (by kernel_rfl) S ?_; (first | refine fieldAddr_x rfl rfl rfl ?_ | refine fieldAddrE_x rfl (by first | omega | decide | (simp; done) | (simp; omega)) rfl rfl ?_))
    (refine anyB_pure (i := 9) rfl (by kernel_rfl) S ?_; (first | refine load_s_x rfl rfl rfl rfl ?_ | refine load_o_x rfl rfl rfl rfl ?_ | refine loadE_s_x rfl (by first | omega | decide | (simp; done) | (simp; omega)) rfl rfl rfl ?_ | refine loadE_o_x rfl (by first | omega | decide | (simp; done) | (simp; omega)) rfl rfl rfl ?_))
    (refine anyB_pure (i := 10) rfl (by kernel_rfl) S ?_; refine move_i_x rfl rfl ?_)
    (refine anyB_pure (i := 11) rfl (by kernel_rfl) S ?_; (first | refine indexAddr_x rfl rfl (idx_cast _) (by first | omega | decide | (simp; done) | (simp; omega)) rfl ?_ | refine indexAddr_x rfl rfl (idx_eq _) (by first | omega | decide | (simp; done) | (simp; omega)) rfl ?_))
    (refine anyB_pure (i := 12) rfl (by kernel_rfl) S ?_; (first | refine load_s_x rfl rfl rfl rfl ?_ | refine load_o_x rfl rfl rfl rfl ?_ | refine loadE_s_x rfl (by first | omega | decide | (simp; done) | (simp; omega)) rfl rfl rfl ?_ | refine loadE_o_x rfl (by first | omega | decide | (simp; done) | (simp; omega)) rfl rfl rfl ?_))
    (refine anyB_pure (i := 14) rfl (by kernel_rfl) S ?_; refine move_i_x rfl rfl ?_)
    (refine anyB_pure (i := 15) rfl (by kernel_rfl) S ?_; refine move_i_x rfl rfl ?_)
    (refine anyB_pure (i := 16) rfl (by kernel_rfl) S ?_; (apply build2_x; (· repeat (first | exact mapN | apply mapC_i rfl | apply mapC_b rfl | apply mapC_p rfl | apply mapC_s rfl | apply mapC_e rfl | apply mapC_a rfl | apply mapC_o rfl)); (· rfl); (· rfl)))
    refine anyB_all (l := [5, 17]) (by kernel_rfl) (by decide) ?_
    intro i hi
    simp only [List.mem_cons, List.not_mem_nil, or_false] at hi
    rcases hi with rfl | rfl
    · (refine ⟨_, rfl, ?_⟩; replace S := S1; clear S1; (refine buildSliceN_l S (vs := []) rfl rfl rfl rfl rfl rfl ?_; clear S; intro b w S); refine nilL ?_; refine ⟨fun _ => S.sub, ?_⟩; have S1 := S; replace S : Sat _ _ _ [roR (slL (D.getD k prD).a (D.getD k prD).cap 2 encQ (0, 0) (D.getD k prD).zs), rowD a cap D, blk bb 1 (dC a cap D.length) 46] := S1.sub)
      refine anyB_all (l := [13, 17]) (by kernel_rfl) (by decide) ?_
      intro i hi
      simp only [List.mem_cons, List.not_mem_nil, or_false] at hi
      rcases hi with rfl | rfl
      · (refine ⟨_, rfl, ?_⟩; replace S := S1; clear S1; (first | (refine append_l S rfl rfl (by omega) rfl ?_; clear S; intro a' cap' w S) | (refine append0_l S rfl rfl (by omega) rfl ?_; clear S; intro a' cap' w S) | (refine append1_i S rfl rfl rfl (by omega) rfl ?_; clear S; intro a' cap' w S) | (refine append2_i S rfl rfl rfl rfl (by omega) rfl ?_; clear S; intro a' cap' w S) | (refine appendPre_i S rfl rfl (by omega) (by omega) rfl ?_; clear S; intro a' cap' w S) | (refine appendSuf_i S rfl rfl (by omega) (by omega) rfl ?_; clear S; intro a' cap' w S)); refine nilL ?_; refine ⟨fun _ => S.sub, ?_⟩; have S1 := S; replace S : Sat _ _ _ [roR (slL (D.getD k prD).a (D.getD k prD).cap 2 encQ (0, 0) (D.getD k prD).zs), rowD a cap D, blk bb 1 (dC a cap D.length) 46] := S1.sub)
        refine anyB_all (l := [17]) (by kernel_rfl) (by decide) ?_
        intro i hi
        simp only [List.mem_cons, List.not_mem_nil, or_false] at hi
        subst hi
        (refine ⟨_, rfl, ?_⟩; replace S := S1; clear S1; (first | (refine buildSlice_l S rfl rfl rfl rfl rfl ?_; clear S; intro b w S) | (apply buildSliceN_l S; (· repeat (first | exact vsN | apply vsC rfl)); (· rfl); (· rfl); (· rfl); (· rfl); (· rfl); clear S; intro b w S)); refine nilL ?_; refine ⟨fun _ => S.sub, ?_⟩; have S1 := S; replace S : Sat _ _ _ [roR (slL (D.getD k prD).a (D.getD k prD).cap 2 encQ (0, 0) (D.getD k prD).zs), rowD a cap D, blk bb 1 (dC a cap D.length) 46] := S1.sub)
        refine anyB_all (l := [18]) (by kernel_rfl) (by decide) ?_
        intro i hi
        simp only [List.mem_cons, List.not_mem_nil, or_false] at hi
        subst hi
        (refine ⟨_, rfl, ?_⟩; replace S := S1; clear S1; (refine append1_l (enc := encQ) (z := (v, x)) (zs := (D.getD k prD).zs) S rfl rfl (fun j hj => by match j, hj with | 0, _ => rfl | 1, _ => rfl) (by omega) rfl ?_; clear S; intro a5 cap5 w S); refine nilL ?_; refine ⟨fun _ => S.sub, ?_⟩; have S1 := S; replace S : Sat _ _ _ [roR (slL (D.getD k prD).a (D.getD k prD).cap 2 encQ (0, 0) (D.getD k prD).zs), rowD a cap D, blk bb 1 (dC a cap D.length) 46] := S1.sub)
        (refine anyB_pure (i := 19) rfl (by kernel_rfl) S ?_; (first | refine indexAddr_x rfl rfl (idx_cast _) (by first | omega | decide | (simp; done) | (simp; omega)) rfl ?_ | refine indexAddr_x rfl rfl (idx_eq _) (by first | omega | decide | (simp; done) | (simp; omega)) rfl ?_))
        refine anyB_all (l := [20]) (by kernel_rfl) (by decide) ?_
        intro i hi
        simp only [List.mem_cons, List.not_mem_nil, or_false] at hi
        subst hi
        (refine ⟨_, rfl, ?_⟩; replace S := S1; clear S1; (first | (refine store_s S rfl rfl rfl ?_; clear S; intro w S) | (refine storeE_s S rfl rfl (by omega) rfl ?_; clear S; intro w S)); refine nilL ?_; refine ⟨nope (by kernel_rfl), ?_⟩; have S1 := S)
        refine anyB_end (by kernel_rfl) ?_
        exact ⟨(), (by (repeat (first | exact agree_refl | refine agree_r rfl ?_ | refine agree_l rfl ?_ | refine agree_hv rfl ?_))), a5, cap5, S1.sub⟩
      · (refine ⟨_, rfl, ?_⟩; replace S := S1; clear S1; (first | (refine buildSlice_l S rfl rfl rfl rfl rfl ?_; clear S; intro b w S) | (apply buildSliceN_l S; (· repeat (first | exact vsN | apply vsC rfl)); (· rfl); (· rfl); (· rfl); (· rfl); (· rfl); clear S; intro b w S)); refine nilL ?_; refine ⟨fun _ => S.sub, ?_⟩; have S1 := S; replace S : Sat _ _ _ [roR (slL (D.getD k prD).a (D.getD k prD).cap 2 encQ (0, 0) (D.getD k prD).zs), rowD a cap D, blk bb 1 (dC a cap D.length) 46] := S1.sub)
        refine anyB_all (l := [13]) (by kernel_rfl) (by decide) ?_
        intro i hi
        simp only [List.mem_cons, List.not_mem_nil, or_false] at hi
        subst hi
        (refine ⟨_, rfl, ?_⟩; replace S := S1; clear S1; (first | (refine append_l S rfl rfl (by omega) rfl ?_; clear S; intro a' cap' w S) | (refine append0_l S rfl rfl (by omega) rfl ?_; clear S; intro a' cap' w S) | (refine append1_i S rfl rfl rfl (by omega) rfl ?_; clear S; intro a' cap' w S) | (refine append2_i S rfl rfl rfl rfl (by omega) rfl ?_; clear S; intro a' cap' w S) | (refine appendPre_i S rfl rfl (by omega) (by omega) rfl ?_; clear S; intro a' cap' w S) | (refine appendSuf_i S rfl rfl (by omega) (by omega) rfl ?_; clear S; intro a' cap' w S)); refine nilL ?_; refine ⟨fun _ => S.sub, ?_⟩; have S1 := S; replace S : Sat _ _ _ [roR (slL (D.getD k prD).a (D.getD k prD).cap 2 encQ (0, 0) (D.getD k prD).zs), rowD a cap D, blk bb 1 (dC a cap D.length) 46] := S1.sub)
        refine anyB_all (l := [18]) (by kernel_rfl) (by decide) ?_
        intro i hi
        simp only [List.mem_cons, List.not_mem_nil, or_false] at hi
        subst hi
        (refine ⟨_, rfl, ?_⟩; replace S := S1; clear S1; (refine append1_l (enc := encQ) (z := (v, x)) (zs := (D.getD k prD).zs) S rfl rfl (fun j hj => by match j, hj with | 0, _ => rfl | 1, _ => rfl) (by omega) rfl ?_; clear S; intro a5 cap5 w S); refine nilL ?_; refine ⟨fun _ => S.sub, ?_⟩; have S1 := S; replace S : Sat _ _ _ [roR (slL (D.getD k prD).a (D.getD k prD).cap 2 encQ (0, 0) (D.getD k prD).zs), rowD a cap D, blk bb 1 (dC a cap D.length) 46] := S1.sub)
        (refine anyB_pure (i := 19) rfl (by kernel_rfl) S ?_; (first | refine indexAddr_x rfl rfl (idx_cast _) (by first | omega | decide | (simp; done) | (simp; omega)) rfl ?_ | refine indexAddr_x rfl rfl (idx_eq _) (by first | omega | decide | (simp; done) | (simp; omega)) rfl ?_))
        refine anyB_all (l := [20]) (by kernel_rfl) (by decide) ?_
        intro i hi
        simp only [List.mem_cons, List.not_mem_nil, or_false] at hi
        subst hi
        (refine ⟨_, rfl, ?_⟩; replace S := S1; clear S1; (first | (refine store_s S rfl rfl rfl ?_; clear S; intro w S) | (refine storeE_s S rfl rfl (by omega) rfl ?_; clear S; intro w S)); refine nilL ?_; refine ⟨nope (by kernel_rfl), ?_⟩; have S1 := S)
        refine anyB_end (by kernel_rfl) ?_
        exact ⟨(), (by (repeat (first | exact agree_refl | refine agree_r rfl ?_ | refine agree_l rfl ?_ | refine agree_hv rfl ?_))), a5, cap5, S1.sub⟩
    · (refine ⟨_, rfl, ?_⟩; replace S := S1; clear S1; (first | (refine buildSlice_l S rfl rfl rfl rfl rfl ?_; clear S; intro b w S) | (apply buildSliceN_l S; (· repeat (first | exact vsN | apply vsC rfl)); (· rfl); (· rfl); (· rfl); (· rfl); (· rfl); clear S; intro b w S)); refine nilL ?_; refine ⟨fun _ => S.sub, ?_⟩; have S1 := S; replace S : Sat _ _ _ [roR (slL (D.getD k prD).a (D.getD k prD).cap 2 encQ (0, 0) (D.getD k prD).zs), rowD a cap D, blk bb 1 (dC a cap D.length) 46] := S1.sub)
      refine anyB_all (l := [5]) (by kernel_rfl) (by decide) ?_
      intro i hi
      simp only [List.mem_cons, List.not_mem_nil, or_false] at hi
      subst hi
      (refine ⟨_, rfl, ?_⟩; replace S := S1; clear S1; (refine buildSliceN_l S (vs := []) rfl rfl rfl rfl rfl rfl ?_; clear S; intro b w S); refine nilL ?_; refine ⟨fun _ => S.sub, ?_⟩; have S1 := S; replace S : Sat _ _ _ [roR (slL (D.getD k prD).a (D.getD k prD).cap 2 encQ (0, 0) (D.getD k prD).zs), rowD a cap D, blk bb 1 (dC a cap D.length) 46] := S1.sub)
      refine anyB_all (l := [13]) (by kernel_rfl) (by decide) ?_
      intro i hi
      simp only [List.mem_cons, List.not_mem_nil, or_false] at hi
      subst hi
      (refine ⟨_, rfl, ?_⟩; replace S := S1; clear S1; (first | (refine append_l S rfl rfl (by omega) rfl ?_; clear S; intro a' cap' w S) | (refine append0_l S rfl rfl (by omega) rfl ?_; clear S; intro a' cap' w S) | (refine append1_i S rfl rfl rfl (by omega) rfl ?_; clear S; intro a' cap' w S) | (refine append2_i S rfl rfl rfl rfl (by omega) rfl ?_; clear S; intro a' cap' w S) | (refine appendPre_i S rfl rfl (by omega) (by omega) rfl ?_; clear S; intro a' cap' w S) | (refine appendSuf_i S rfl rfl (by omega) (by omega) rfl ?_; clear S; intro a' cap' w S)); refine nilL ?_; refine ⟨fun _ => S.sub, ?_⟩; have S1 := S; replace S : Sat _ _ _ [roR (slL (D.getD k prD).a (D.getD k prD).cap 2 encQ (0, 0) (D.getD k prD).zs), rowD a cap D, blk bb 1 (dC a cap D.length) 46] := S1.sub)
      refine anyB_all (l := [18]) (by kernel_rfl) (by decide) ?_
      intro i hi
      simp only [List.mem_cons, List.not_mem_nil, or_false] at hi
      subst hi
      (refine ⟨_, rfl, ?_⟩; replace S := S1; clear S1; (refine append1_l (enc := encQ) (z := (v, x)) (zs := (D.getD k prD).zs) S rfl rfl (fun j hj => by match j, hj with | 0, _ => rfl | 1, _ => rfl) (by omega) rfl ?_; clear S; intro a5 cap5 w S); refine nilL ?_; refine ⟨fun _ => S.sub, ?_⟩; have S1 := S; replace S : Sat _ _ _ [roR (slL (D.getD k prD).a (D.getD k prD).cap 2 encQ (0, 0) (D.getD k prD).zs), rowD a cap D, blk bb 1 (dC a cap D.length) 46] := S1.sub)
      (refine anyB_pure (i := 19) rfl (by kernel_rfl) S ?_; (first | refine indexAddr_x rfl rfl (idx_cast _) (by first | omega | decide | (simp; done) | (simp; omega)) rfl ?_ | refine indexAddr_x rfl rfl (idx_eq _) (by first | omega | decide | (simp; done) | (simp; omega)) rfl ?_))
      refine anyB_all (l := [20]) (by kernel_rfl) (by decide) ?_
      intro i hi
      simp only [List.mem_cons, List.not_mem_nil, or_false] at hi
      subst hi
      (refine ⟨_, rfl, ?_⟩; replace S := S1; clear S1; (first | (refine store_s S rfl rfl rfl ?_; clear S; intro w S) | (refine storeE_s S rfl rfl (by omega) rfl ?_; clear S; intro w S)); refine nilL ?_; refine ⟨nope (by kernel_rfl), ?_⟩; have S1 := S)
      refine anyB_end (by kernel_rfl) ?_
      exact ⟨(), (by (repeat (first | exact agree_refl | refine agree_r rfl ?_ | refine agree_l rfl ?_ | refine agree_hv rfl ?_))), a5, cap5, S1.sub⟩
  · clear S
    rintro ⟨⟩ j w ⟨a5, cap5, S⟩
    repeat' (first | refine assign_i_l S rfl rfl ?_ | refine move_p_l S rfl rfl ?_ | refine move_e_l S rfl rfl ?_ | refine nilL ?_ | refine run_seq ?_ | refine run_skip ?_ | refine run_region (id := 0) ?_ | refine run_region (id := 1) ?_ | refine run_region (id := 3) ?_ | refine nilCheck_l S rfl rfl ?_ | refine nilCheckE_l S rfl (by first | omega | decide | (simp; done) | (simp; omega)) rfl ?_ | refine fieldAddr_l S rfl rfl rfl ?_ | refine fieldAddrE_l S rfl (by first | omega | decide | (simp; done) | (simp; omega)) rfl rfl ?_ | refine load_s_l S rfl rfl rfl rfl ?_ | refine loadE_s_l S rfl (by first | omega | decide | (simp; done) | (simp; omega)) rfl rfl rfl ?_ | refine len_l S rfl rfl ?_ | refine sub_l S rfl rfl (wrap_in (by omega)) rfl ?_ | refine sub_l S rfl rfl rfl rfl ?_ | refine move_o_l S rfl rfl ?_ | refine load_o_l S rfl rfl rfl rfl ?_ | refine loadE_o_l S rfl (by first | omega | decide | (simp; done) | (simp; omega)) rfl rfl rfl ?_ | refine run_block ?_ | refine run_ret ?_ | refine run_exit ?_ | refine run_cond_true rfl ?_ | refine run_cond_false rfl ?_ | refine thenQ_n ?_ | refine thenQ_r ?_ | refine thenQ_e ?_ | refine blockQ_n ?_ | refine blockQ_r ?_ | refine blockQ_s rfl ?_ | refine blockQ_o rfl ?_ | refine ret1_i rfl ?_ | refine ret1_b rfl ?_ | refine ret1_p rfl ?_ | refine ret1_s rfl ?_ | refine ret1_e rfl ?_ | refine ret1_a rfl ?_ | refine ret1_o rfl ?_ | refine ret1n_i rfl ?_ | refine ret1n_b rfl ?_ | refine ret1n_p rfl ?_ | refine ret1n_s rfl ?_ | refine ret1n_o rfl ?_)
    refine ⟨rfl, ⟨a5, cap5, (D.getD k prD).zs ++ [(v, x)]⟩, rfl, ?_⟩
    have S2 := Sat.toPrs (p := ⟨a5, cap5, (D.getD k prD).zs ++ [(v, x)]⟩) (D' := D.set k ⟨a5, cap5, (D.getD k prD).zs ++ [(v, x)]⟩) S (fun z hz => List.mem_or_eq_of_mem_set hz)
    have S3 := S2.rev3
    have S4 := (S3.sw.turn1 (r' := rowD a cap (D.set k ⟨a5, cap5, (D.getD k prD).zs ++ [(v, x)]⟩)) (row_set hkl ⟨a5, cap5, (D.getD k prD).zs ++ [(v, x)]⟩ S3.second) rfl (fun k e => e)).sw
    have e : (D.set k ⟨a5, cap5, (D.getD k prD).zs ++ [(v, x)]⟩).length = D.length := List.length_set
    show Sat F w₀ w (blk bb 1 (dC a cap (D.set k ⟨a5, cap5, (D.getD k prD).zs ++ [(v, x)]⟩).length) 46 :: rowD a cap (D.set k ⟨a5, cap5, (D.getD k prD).zs ++ [(v, x)]⟩) :: prsR (D.set k ⟨a5, cap5, (D.getD k prD).zs ++ [(v, x)]⟩) :: L)
    rw [e]
    exact S4
end
end Go.Proofs.Ytaapgdanodkhjaa
