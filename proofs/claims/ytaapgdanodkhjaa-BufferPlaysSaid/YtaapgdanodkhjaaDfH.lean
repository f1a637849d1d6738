/- The document's buffer, next to the program's: what both are behind each call. -/
import Derived.Test.YtaapgdanodkhjaaDfG
namespace Go.Proofs.Ytaapgdanodkhjaa
open Go.RowKit Go.Lib
set_option linter.unusedVariables false
set_option maxHeartbeats 4000000
theorem dOf_snoc (D : List PrS) (p : PrS) : dOf (D ++ [p]) = dOf D ++ [norm p.zs] := by simp [dOf]
theorem dOf_len (D : List PrS) : (dOf D).length = D.length := by simp [dOf]
theorem flatD_snoc (D : List PrS) (p : PrS) : flatD (D ++ [p]) = flatD D ++ p.zs := by simp [flatD]
theorem dOf_ne {D : List PrS} (h : 0 < D.length) : dOf D ≠ [] := fun e => by
  have := dOf_len D
  rw [e] at this
  simp at this
  omega
theorem snoc_set {α : Type} (l : List α) (x y : α) : (l ++ [x]).set ((l ++ [x]).length - 1) y = l ++ [y] := by simp
theorem getD_last (D : List PrS) (p : PrS) : (D ++ [p]).getD ((D ++ [p]).length - 1) prD = p := by simp [List.getD_eq_getElem?_getD]
theorem mem_flat {D : List PrS} {z : PrS} (h : z ∈ D) : z.zs.length ≤ (flatD D).length := by
  obtain ⟨i, hi, rfl⟩ := List.getElem_of_mem h
  have := flatD_le (List.getElem?_eq_getElem hi)
  omega
section
variable {F : Nat → Prop} {w₀ w w' : World} {L : List Res} {b : Nat} {a : Option Addr} {cap : Nat} {D : List PrS}
theorem Sat.dput2 (S : Sat F w₀ w (dL b a cap D ++ L)) (h0 : 0 < D.length) (hn : D.length ≤ 10000) (ht : (flatD D).length ≤ 9999) (v x : Int) :
    Calls Try.prog 21 #[.pointer (some ⟨b, 0, none⟩), .int .i64 v, .int .i64 x] w fun e w' => e = .returned (.int .i64 0) ∧ ∃ a' cap' D', (0 < D'.length ∧ D'.length ≤ D.length + 1) ∧ (flatD D').length ≤ (flatD D).length + 1 ∧ dOf D' = putB (dOf D) v x ∧ Sat F w₀ w' (dL b a' cap' D' ++ L) := by
  obtain ⟨E, z, rfl⟩ := snoc_of (show D ≠ [] from fun e => by rw [e] at h0; simp at h0)
  have hz := mem_flat (D := E ++ [z]) (z := z) (by simp)
  refine (S.dput hn h0 (by rw [getD_last]; omega) v x).mono ?_
  rintro e w' ⟨rfl, p, hp, S'⟩
  rw [getD_last] at hp
  rw [snoc_set] at S'
  refine ⟨rfl, a, cap, _, ⟨by simp, by simp⟩, ?_, ?_, S'⟩
  · rw [flatD_snoc, flatD_snoc, hp]
    simp
    omega
  · rw [dOf_snoc, dOf_snoc, putB_snoc, hp, norm_add]
theorem Sat.dpush2 (S : Sat F w₀ w (dL b a cap D ++ L)) (hn : D.length ≤ 10000) :
    Calls Try.prog 22 #[.pointer (some ⟨b, 0, none⟩)] w fun e w' => e = .returned (.int .i64 0) ∧ ∃ a' cap' D', (0 < D'.length ∧ D'.length ≤ D.length + 1) ∧ (flatD D').length ≤ (flatD D).length + 1 ∧ dOf D' = dOf D ++ [[]] ∧ Sat F w₀ w' (dL b a' cap' D' ++ L) := by
  refine (S.dpush hn).mono ?_
  rintro e w' ⟨rfl, a', cap', S'⟩
  exact ⟨rfl, a', cap', _, ⟨by simp, by simp⟩, by rw [flatD_snoc]; simp, by rw [dOf_snoc]; rfl, S'⟩
theorem Sat.ddrop2 (S : Sat F w₀ w (dL b a cap D ++ L)) (h0 : 0 < D.length) (hn : D.length ≤ 10000) :
    Calls Try.prog 23 #[.pointer (some ⟨b, 0, none⟩)] w fun e w' => e = .returned (.int .i64 (stE (dOf D))) ∧ ∃ a' cap' D', (0 < D'.length ∧ D'.length ≤ D.length + 1) ∧ (flatD D').length ≤ (flatD D).length + 1 ∧ dOf D' = dropB (dOf D) ∧ Sat F w₀ w' (dL b a' cap' D' ++ L) := by
  by_cases h2 : D.length < 2
  · refine (S.ddrop1 h2).mono ?_
    rintro e w' ⟨rfl, S'⟩
    exact ⟨by rw [stE, dOf_len, if_pos h2], a, cap, D, ⟨h0, by omega⟩, by omega, by rw [dropB, dOf_len, if_pos h2], S'⟩
  · obtain ⟨E, z, rfl⟩ := snoc_of (show D ≠ [] from fun e => by rw [e] at h0; simp at h0)
    have hl : (E ++ [z]).length = E.length + 1 := by simp
    refine (S.ddrop (by omega) (by omega)).mono ?_
    rintro e w' ⟨rfl, S'⟩
    exact ⟨by rw [stE, dOf_len, if_neg h2], a, cap, E, ⟨by omega, by omega⟩, by rw [flatD_snoc, List.length_append]; omega, by rw [dOf_snoc, dropB_snoc _ _ (by rw [dOf_len]; omega)], S'⟩
theorem Sat.dmerge2 (S : Sat F w₀ w (dL b a cap D ++ L)) (h0 : 0 < D.length) (hn : D.length ≤ 10000) (ht : (flatD D).length ≤ 9999) :
    Calls Try.prog 25 #[.pointer (some ⟨b, 0, none⟩)] w fun e w' => e = .returned (.int .i64 (stE (dOf D))) ∧ ∃ a' cap' D', (0 < D'.length ∧ D'.length ≤ D.length + 1) ∧ (flatD D').length ≤ (flatD D).length + 1 ∧ dOf D' = mergeB (dOf D) ∧ Sat F w₀ w' (dL b a' cap' D' ++ L) := by
  by_cases h2 : D.length < 2
  · refine (S.dmerge1 h2).mono ?_
    rintro e w' ⟨rfl, S'⟩
    exact ⟨by rw [stE, dOf_len, if_pos h2], a, cap, D, ⟨h0, by omega⟩, by omega, by rw [mergeB, dOf_len, if_pos h2], S'⟩
  · obtain ⟨E, p, rfl⟩ := snoc_of (show D ≠ [] from fun e => by rw [e] at h0; simp at h0)
    have hl : (E ++ [p]).length = E.length + 1 := by simp
    obtain ⟨G, z, rfl⟩ := snoc_of (show E ≠ [] from fun e => by rw [e] at h2; simp at h2)
    have hl2 : (G ++ [z]).length = G.length + 1 := by simp
    have hz := mem_flat (D := (G ++ [z]) ++ [p]) (z := z) (by simp)
    have hp := mem_flat (D := (G ++ [z]) ++ [p]) (z := p) (by simp)
    refine (S.dmerge (by omega) (by omega) (by rw [getD_last]; omega) (by omega)).mono ?_
    rintro e w' ⟨rfl, a', cap', q, hq, S'⟩
    rw [getD_last] at hq
    rw [snoc_set] at S'
    refine ⟨by rw [stE, dOf_len, if_neg h2], a', cap', _, ⟨by simp, by simp⟩, ?_, ?_, S'⟩
    · rw [flatD_snoc, flatD_snoc, flatD_snoc, hq]
      simp
    · rw [dOf_snoc, dOf_snoc, dOf_snoc, mergeB_snoc, hq, norm_append]
theorem Sat.dcopy2 (S : Sat F w₀ w (dL b a cap D ++ L)) (hn : D.length ≤ 10000) (ht : (flatD D).length ≤ 9999) :
    Calls Try.prog 19 #[.pointer (some ⟨b, 0, none⟩)] w fun e w' => ∃ b2 a2 cap2 Z, e = .returned (.pointer (some ⟨b2, 0, none⟩)) ∧ dOf Z = dOf D ∧ Z.length = D.length ∧ flatD Z = flatD D ∧ Sat F w₀ w' (dL b2 a2 cap2 Z ++ (dL b a cap D ++ L)) := by
  refine (S.dcopy hn (fun z hz => by have := mem_flat hz; omega)).mono ?_
  rintro e w' ⟨b2, a2, cap2, Z, rfl, hZ, S'⟩
  have h1 : dOf Z = dOf D := by
    have e : ∀ D : List PrS, dOf D = (D.map (·.zs)).map norm := fun D => by unfold dOf; rw [List.map_map]; rfl
    rw [e, e, hZ]
  exact ⟨b2, a2, cap2, Z, rfl, h1, by rw [← dOf_len, h1, dOf_len], by unfold flatD; rw [hZ], S'⟩
theorem Sat.pull {A B C : List Res} (S : Sat F w₀ w (B ++ (A ++ C))) : Sat F w₀ w (A ++ (B ++ C)) := S.perm (List.perm_append_comm_assoc A B C)
end
section
variable {P : Program} {n : Nat} {a b y : Code} {σ : Type} {Q : Exit → Tm → World → Prop} {t : Tm} {w : World}
/-- A state behind the part b, which stands behind a. -/
theorem run_reg_cut (J : List Nat) (F : σ → Tm → Tm) (I : σ → World → Prop) (h1 : Run P n a t w (thenQ (fun t' w' => Run P n b t' w' (midQ J (fun s => F s t) I Q)) Q)) (h2 : ∀ s j w, I s w → Run P n y (hv J j (F s t)) w Q) : Run P n a t w (thenQ (fun t' w' => Run P n (.seq b y) t' w' Q) Q) := by
  refine run_mono h1 fun e t' w' h => ?_
  by_cases he : e = .normal
  · subst he
    refine thenQ_n (run_seq (run_mono (thenQ_inv_n h) fun e t2 w2 h => ?_))
    by_cases he : e = .normal
    · subst he
      unfold midQ at h
      obtain ⟨s, g1, g2⟩ := h
      refine thenQ_n ?_
      rw [agree_hv' g1]
      exact h2 s t2 w2 g2
    · exact thenQ_out he (midQ_inv he h)
  · exact thenQ_out he (thenQ_inv he h)
end
section
variable {S : Nat → Prop} {w₀ : World} {L : List Res} {P : Program} {ops : Array Oper} {n : Nat} {t : Tm} {KQ : Tm → Prop} {d : Nat} {ty : TypeId} {pos : String} {af : Array Edge}
theorem neqBs_x {T T' : TypeId} [hT : TyBool P T] {x y : Operand} {c : Bool} (hx : ev t x = .bool c) (hy : ev t y = .bool c) (hd : Nat.blt d n = true) (kk : KQ (upd t d (.bool false))) : QX P ops n S w₀ L ⟨some d, .binOp .neq T x y T', ty, pos, af, none⟩ t KQ := by
  refine neqB_x hx hy hd ?_
  rw [show (!(c == c)) = false from by cases c <;> rfl]
  exact kk
end
end Go.Proofs.Ytaapgdanodkhjaa
