/- slices.SortStableFunc of ints. -/
import Derived.Test.YtciehimnhnbipaaStbF
namespace Go.Proofs.Ytciehimnhnbipaa
open Go.RowKit Go.Lib
set_option linter.unusedVariables false
set_option maxHeartbeats 8000000
/-- Sorted between two places. -/
def SegS (key : Int → Int) (cs : List Int) (x y : Nat) : Prop := ∀ i j, x ≤ i → i ≤ j → j < y → key (cs.getD i 0) ≤ key (cs.getD j 0)
/-- Each block of so many is sorted, below lim. -/
def BlkS (key : Int → Int) (cs : List Int) (bs lim : Nat) : Prop := ∀ t i j, bs ∣ t → t ≤ i → i ≤ j → j < t + bs → j < lim → key (cs.getD i 0) ≤ key (cs.getD j 0)
theorem mult_gap {bs t u : Nat} (h1 : bs ∣ t) (h2 : bs ∣ u) (h : t < u) : t + bs ≤ u := by
  obtain ⟨p, rfl⟩ := h1
  obtain ⟨q, rfl⟩ := h2
  have : p < q := Nat.lt_of_mul_lt_mul_left h
  calc bs * p + bs = bs * (p + 1) := by rw [Nat.mul_add, Nat.mul_one]
    _ ≤ bs * q := Nat.mul_le_mul_left _ this
theorem srtK_seg {key : Int → Int} {P C Q : List Int} (h : SrtK key C) : SegS key (P ++ (C ++ Q)) P.length (P.length + C.length) := by
  intro i j h1 h2 h3
  obtain ⟨u, rfl⟩ : ∃ u, i = P.length + u := ⟨i - P.length, by omega⟩
  obtain ⟨v, rfl⟩ : ∃ v, j = P.length + v := ⟨j - P.length, by omega⟩
  rw [getD_in (by omega), getD_in (by omega)]
  exact srtK_get h (by omega) (by omega)
theorem seg_srtK {key : Int → Int} {P C Q : List Int} (h : SegS key (P ++ (C ++ Q)) P.length (P.length + C.length)) : SrtK key C := by
  refine List.pairwise_iff_getElem.2 fun i j hi hj hij => ?_
  have := h (P.length + i) (P.length + j) (by omega) (by omega) (by omega)
  rw [getD_in hi, getD_in hj, List.getD_eq_getElem?_getD, List.getD_eq_getElem?_getD, List.getElem?_eq_getElem hi, List.getElem?_eq_getElem hj] at this
  exact this
theorem out_same {P A C Q : List Int} (hl : C.length = A.length) {k : Nat} (h : k < P.length ∨ P.length + A.length ≤ k) : (P ++ (C ++ Q)).getD k 0 = (P ++ (A ++ Q)).getD k 0 := by
  simp only [getD_app]
  repeat' split
  all_goals first | (exfalso; omega) | rfl | (rw [hl])
theorem cut3 (cs : List Int) {x y : Nat} (h1 : x ≤ y) : cs = cs.take x ++ ((cs.drop x).take (y - x) ++ cs.drop y) := by
  conv => lhs; rw [← List.take_append_drop x cs, ← List.take_append_drop (y - x) (cs.drop x)]
  rw [List.drop_drop, show x + (y - x) = y from by omega]
section
variable {F : Nat → Prop} {w₀ w : World} {L : List Res} {a : Option Addr} {cap e : Nat} {R : Res} {key : Int → Int} {dom : Int → Prop} {f : FuncId} [FnOk Try.prog f] {l2 : List Value}
theorem insert_seg (hc : CmpOk f l2 R key dom) {N : Nat} {cs : List Int} (S : Sat F w₀ w (row a N cap e 1 (gL encI 0 cs) :: R :: L)) (hl : cs.length = N) (hn : N ≤ 1000000) (hd : ∀ u ∈ cs, dom u) {x y : Nat} (h1 : x ≤ y) (h2 : y ≤ N) :
    Calls Try.prog 80 #[.slice a N cap, .int .i64 x, .int .i64 y, .func (.func f) #[] l2.toArray] w fun r w' => r = .returned (.tuple #[]) ∧
      ∃ ys, ys.length = N ∧ ys.Perm cs ∧ (∀ k, k < x ∨ y ≤ k → ys.getD k 0 = cs.getD k 0) ∧ SegS key ys x y ∧ Sat F w₀ w' (row a N cap e 1 (gL encI 0 ys) :: R :: L) := by
  have e0 := cut3 cs h1
  have l1 : (cs.take x).length = x := by rw [List.length_take]; omega
  have l2' : ((cs.drop x).take (y - x)).length = y - x := by rw [List.length_take, List.length_drop]; omega
  have hlen : (cs.take x ++ (cs.drop x).take (y - x) ++ cs.drop y).length = N := by rw [List.append_assoc, ← e0, hl]
  have S2 : Sat F w₀ w (rowL a cap e 1 encI 0 (cs.take x ++ (cs.drop x).take (y - x) ++ cs.drop y) :: R :: L) := by
    show Sat F w₀ w (row a (cs.take x ++ (cs.drop x).take (y - x) ++ cs.drop y).length cap e 1 (gL encI 0 (cs.take x ++ (cs.drop x).take (y - x) ++ cs.drop y)) :: R :: L)
    rw [hlen, List.append_assoc, ← e0]
    exact S
  have H := insert_at (f := f) (l2 := l2) hc S2 (fun u hu => hd u (List.mem_of_mem_drop (List.mem_of_mem_take hu))) (by rw [hlen]; exact hn)
  rw [hlen, l1, l2', show x + (y - x) = y from by omega] at H
  refine H.mono ?_
  rintro r w' ⟨rfl, C, hp, hs, S'⟩
  have hCl : C.length = y - x := by rw [hp.length_eq, l2']
  have hyl : (cs.take x ++ (C ++ cs.drop y)).length = N := by
    rw [List.length_append, List.length_append, l1, hCl, List.length_drop]; omega
  refine ⟨rfl, cs.take x ++ (C ++ cs.drop y), hyl, ?_, fun k hk => ?_, ?_, ?_⟩
  · refine (List.Perm.append_left (cs.take x) (List.Perm.append_right (cs.drop y) hp)).trans ?_
    rw [← e0]
  · rw [out_same (A := (cs.drop x).take (y - x)) (by rw [hCl, l2']) (by rw [l1, l2']; omega), ← e0]
  · have := srtK_seg (P := cs.take x) (Q := cs.drop y) hs
    rwa [l1, hCl, show x + (y - x) = y from by omega] at this
  · replace S' : Sat F w₀ w' (row a (cs.take x ++ C ++ cs.drop y).length cap e 1 (gL encI 0 (cs.take x ++ C ++ cs.drop y)) :: R :: L) := S'
    rw [List.append_assoc, hyl] at S'
    exact S'
theorem merge_seg (hc : CmpOk f l2 R key dom) {N : Nat} {cs : List Int} (S : Sat F w₀ w (row a N cap e 1 (gL encI 0 cs) :: R :: L)) (hl : cs.length = N) (hn : N ≤ 1000000) (hd : ∀ u ∈ cs, dom u) {x m y : Nat} (h1 : x < m) (h2 : m < y) (h3 : y ≤ N) (hs1 : SegS key cs x m) (hs2 : SegS key cs m y) :
    Calls Try.prog 81 #[.slice a N cap, .int .i64 x, .int .i64 m, .int .i64 y, .func (.func f) #[] l2.toArray] w fun r w' => r = .returned (.tuple #[]) ∧
      ∃ ys, ys.length = N ∧ ys.Perm cs ∧ (∀ k, k < x ∨ y ≤ k → ys.getD k 0 = cs.getD k 0) ∧ SegS key ys x y ∧ Sat F w₀ w' (row a N cap e 1 (gL encI 0 ys) :: R :: L) := by
  obtain ⟨P, hP⟩ : ∃ P, P = cs.take x := ⟨_, rfl⟩
  obtain ⟨A, hA⟩ : ∃ A, A = (cs.drop x).take (m - x) := ⟨_, rfl⟩
  obtain ⟨B, hB⟩ : ∃ B, B = (cs.drop m).take (y - m) := ⟨_, rfl⟩
  obtain ⟨Q, hQ⟩ : ∃ Q, Q = cs.drop y := ⟨_, rfl⟩
  have e0 : cs = P ++ (A ++ (B ++ Q)) := by
    have e1 := cut3 cs (x := x) (y := m) (by omega)
    have e2 := cut3 (cs.drop m) (x := 0) (y := y - m) (by omega)
    rw [List.take_zero, List.nil_append, List.drop_zero, List.drop_drop, show m + (y - m) = y from by omega, Nat.sub_zero] at e2
    rw [hP, hA, hB, hQ, ← e2]
    exact e1
  have l1 : P.length = x := by rw [hP, List.length_take]; omega
  have l3 : A.length = m - x := by rw [hA, List.length_take, List.length_drop]; omega
  have l4 : B.length = y - m := by rw [hB, List.length_take, List.length_drop]; omega
  have l5 : Q.length = N - y := by rw [hQ, List.length_drop]; omega
  clear hP hA hB hQ
  subst e0
  have sA : SrtK key A := seg_srtK (P := P) (Q := B ++ Q) (by rw [l1, l3, show x + (m - x) = m from by omega]; exact hs1)
  have sB : SrtK key B := by
    refine seg_srtK (P := P ++ A) (Q := Q) ?_
    rw [List.append_assoc, List.length_append, l1, l3, l4, show x + (m - x) = m from by omega, show m + (y - m) = y from by omega]
    exact hs2
  refine (symM_all (f := f) (l2 := l2) hc hn (A.length + B.length + 1) w P A B Q x m y (by omega) (by omega) (by omega) (by omega) l1.symm (by omega) (by omega) sA sB (fun u hu => hd u (by simp [hu])) (fun u hu => hd u (by simp [hu])) S).mono ?_
  rintro r w' ⟨rfl, C, hp, hs, S'⟩
  have hCl : C.length = (A ++ B).length := hp.length_eq
  have hlAB : (A ++ B).length = y - x := by rw [List.length_append]; omega
  refine ⟨rfl, P ++ (C ++ Q), ?_, ?_, fun k hk => ?_, ?_, S'⟩
  · rw [List.length_append, List.length_append, hCl, hlAB]; omega
  · refine (List.Perm.append_left P (List.Perm.append_right Q hp)).trans ?_
    rw [List.append_assoc]
  · rw [out_same (A := A ++ B) hCl (by rw [l1, hlAB]; omega), List.append_assoc]
  · have := srtK_seg (P := P) (Q := Q) hs
    rwa [l1, hCl, hlAB, show x + (y - x) = y from by omega] at this
end
end Go.Proofs.Ytciehimnhnbipaa
