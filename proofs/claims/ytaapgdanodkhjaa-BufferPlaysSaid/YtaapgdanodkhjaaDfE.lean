/- The document's buffer: All. -/
import Derived.Test.YtaapgdanodkhjaaDfD
namespace Go.Proofs.Ytaapgdanodkhjaa
open Go.RowKit Go.Lib
set_option linter.unusedVariables false
set_option maxHeartbeats 4000000
theorem putM_ins (k x : Int) : ∀ (M : LvM) (at_ : Nat), (∀ i, i < at_ → (M.getD i (0, 0)).1 < k) → at_ ≤ M.length → (at_ < M.length → k < (M.getD at_ (0, 0)).1) → putM M k x = M.take at_ ++ (k, x) :: M.drop at_
  | [], n, _, h2, _ => by
    obtain rfl : n = 0 := by simpa using h2
    rfl
  | p :: M, 0, _, _, h3 => by
    have : k < p.1 := h3 (by simp)
    simp [putM, this]
  | p :: M, n + 1, h1, h2, h3 => by
    have h0 : p.1 < k := h1 0 (by omega)
    have ih := putM_ins k x M n (fun i hi => h1 (i + 1) (by omega)) (by simpa using h2) (fun h => h3 (by simpa using h))
    show (if k < p.1 then _ else if k = p.1 then _ else p :: putM M k x) = _
    rw [if_neg (by omega), if_neg (by omega), ih]
    rfl
theorem putM_upd (k x : Int) : ∀ (M : LvM) (at_ : Nat), (∀ i, i < at_ → (M.getD i (0, 0)).1 < k) → at_ < M.length → (M.getD at_ (0, 0)).1 = k → putM M k x = M.set at_ (k, x)
  | [], n, _, h2, _ => by simp at h2
  | p :: M, 0, _, _, h3 => by
    have : p.1 = k := h3
    show (if k < p.1 then _ else if k = p.1 then _ else p :: putM M k x) = _
    rw [if_neg (by omega), if_pos (by omega)]
    rfl
  | p :: M, n + 1, h1, h2, h3 => by
    have h0 : p.1 < k := h1 0 (by omega)
    have ih := putM_upd k x M n (fun i hi => h1 (i + 1) (by omega)) (by simpa using h2) h3
    show (if k < p.1 then _ else if k = p.1 then _ else p :: putM M k x) = _
    rw [if_neg (by omega), if_neg (by omega), ih]
    rfl
def flatD (D : List PrS) : LvM := (D.map (·.zs)).flatten
theorem allB_dOf (D : List PrS) : allB (dOf D) = norm (flatD D) := by
  rw [flatD, ← allB_norm]
  unfold dOf
  rw [List.map_map]
  rfl
theorem norm_le (d : LvM) : (norm d).length ≤ d.length := by
  have := putAll_le (M := []) .nil d
  simpa [norm] using this
theorem flatD_at {D : List PrS} {i : Nat} {z : PrS} (h : D[i]? = some z) : flatD (D.take (i + 1)) = flatD (D.take i) ++ z.zs := by
  unfold flatD
  rw [List.take_add_one, h]
  simp
theorem flatD_le {D : List PrS} {i : Nat} {z : PrS} (h : D[i]? = some z) : (flatD (D.take i)).length + z.zs.length ≤ (flatD D).length := by
  have e : flatD D = flatD (D.take (i + 1)) ++ flatD (D.drop (i + 1)) := by
    unfold flatD
    rw [← List.flatten_append, ← List.map_append, List.take_append_drop]
  rw [e, flatD_at h]
  simp
section
variable {F : Nat → Prop} {w₀ w w' : World} {L : List Res}
theorem Sat.addRo {x y : Res} (S : Sat F w₀ w (x :: L)) (hx : x.ro = true) (hy : y.ro = true) (hh : y.holds w) (hf : ∀ k, y.foot k → x.foot k) : Sat F w₀ w (y :: x :: L) := by
  have s1 := List.pairwise_cons.1 S.sep
  refine ⟨S.chg, fun u hu => ?_, .cons (fun u hu => ?_) S.sep, fun u hu hro => ?_⟩
  · rcases List.mem_cons.1 hu with rfl | hu
    · exact hh
    · exact S.all u hu
  · rcases List.mem_cons.1 hu with rfl | hu
    · exact .inl ⟨hy, hx⟩
    · rcases s1.1 u hu with e | e
      · exact .inl ⟨hy, e.2⟩
      · exact .inr fun k h1 h2 => e k (hf k h1) h2
  · rcases List.mem_cons.1 hu with rfl | hu
    · rw [hy] at hro; cases hro
    · exact S.own u hu hro
/-- An own row is read from now on, in two parts. -/
theorem Sat.cut2 {a : Option Addr} {cap e : Nat} {M : LvM} {m : Nat} (S : Sat F w₀ w (rowL a cap e 2 encQ (0, 0) M :: L)) (hm : m ≤ M.length) :
    Sat F w₀ w (roR (slL a cap 2 encQ (0, 0) (M.take m)) :: roR (slL (subA a m cap 2) (cap - m) 2 encQ (0, 0) (M.drop m)) :: L) := by
  have hs := RowOk.sl S.got1
  have hpre : SlOk w a (M.take m).length cap 2 (gL encQ (0, 0) (M.take m)) := by
    rw [List.length_take, Nat.min_eq_left hm]
    refine (hs.pre hm).congr fun i hi j hj => ?_
    unfold gL
    rw [List.getD_eq_getElem?_getD, List.getD_eq_getElem?_getD, List.getElem?_take, if_pos hi]
  have hsuf : SlOk w (subA a m cap 2) (M.drop m).length (cap - m) 2 (gL encQ (0, 0) (M.drop m)) := by
    rw [List.length_drop]
    refine (hs.sub (lo := m) (n := M.length - m) (by omega)).congr fun i hi j hj => ?_
    unfold gL
    rw [List.getD_eq_getElem?_getD, List.getD_eq_getElem?_getD, List.getElem?_drop]
  have S3 := S.toRo (y := roR (slL a cap 2 encQ (0, 0) M)) hs rfl rfl (fun k e => e.2)
  have ha : ∀ k, (roR (slL (subA a m cap 2) (cap - m) 2 encQ (0, 0) (M.drop m))).foot k → (roR (slL a cap 2 encQ (0, 0) M)).foot k := fun k hk => by
    obtain ⟨h0, x, hx, rfl⟩ := hk
    rw [List.length_drop] at h0
    refine ⟨by omega, ?_⟩
    unfold subA at hx
    split at hx
    · exact ⟨x, hx, rfl⟩
    · cases a with
      | none => cases hx
      | some y => obtain rfl := Option.some.inj hx; exact ⟨y, rfl, by cases y; simp only [Addr.add]; split <;> rfl⟩
  have S4 := S3.addRo (y := roR (slL (subA a m cap 2) (cap - m) 2 encQ (0, 0) (M.drop m))) rfl rfl hsuf ha
  have S5 := S4.sw.addRo (y := roR (slL a cap 2 encQ (0, 0) (M.take m))) rfl rfl hpre (fun k hk => ⟨by have := hk.1; rw [List.length_take] at this; omega, hk.2⟩)
  exact (S5.sw.tail)
end
end Go.Proofs.Ytaapgdanodkhjaa
