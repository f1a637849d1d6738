/- slices.SortStableFunc of ints, its parts: rotate. -/
import Derived.Test.YtjnlcfkdackghaaStbA
namespace Go.Proofs.Ytjnlcfkdackghaa
open Go.RowKit Go.Lib
set_option linter.unusedVariables false
set_option maxHeartbeats 2000000
/-- The row of numbers, turned about m between a and b. -/
def rotF (zs : List Int) (a m b k : Nat) : Int := if a ≤ k ∧ k < a + (b - m) then zs.getD (k - a + m) 0 else if a + (b - m) ≤ k ∧ k < b then zs.getD (k - (b - m)) 0 else zs.getD k 0
def swF (zs : List Int) (x y n k : Nat) : Int := if x ≤ k ∧ k < x + n then zs.getD (k - x + y) 0 else if y ≤ k ∧ k < y + n then zs.getD (k - y + x) 0 else zs.getD k 0
theorem rot_gt {zs ys : List Int} {i j m : Nat} (hi : i ≤ m) (h : j < i) (hy : ∀ k, ys.getD k 0 = swF zs (m - i) m j k) (k : Nat) : rotF ys (m - (i - j)) m (m + j) k = rotF zs (m - i) m (m + j) k := by
  unfold rotF
  rw [hy, hy, hy]
  unfold swF
  repeat' split
  all_goals first | (exfalso; omega) | rfl | (congr 1; omega)
theorem rot_lt {zs ys : List Int} {i j m : Nat} (hi : i ≤ m) (h : i < j) (hy : ∀ k, ys.getD k 0 = swF zs (m - i) (m + j - i) i k) (k : Nat) : rotF ys (m - i) m (m + (j - i)) k = rotF zs (m - i) m (m + j) k := by
  unfold rotF
  rw [hy, hy, hy]
  unfold swF
  repeat' split
  all_goals first | (exfalso; omega) | rfl | (congr 1; omega)
theorem rot_eq {zs ys : List Int} {i m : Nat} (hi : i ≤ m) (hy : ∀ k, ys.getD k 0 = swF zs (m - i) m i k) (k : Nat) : ys.getD k 0 = rotF zs (m - i) m (m + i) k := by
  rw [hy]
  unfold rotF swF
  repeat' split
  all_goals first | (exfalso; omega) | rfl | (congr 1; omega)
section
variable {F : Nat → Prop} {w₀ w : World} {L : List Res} {a : Option Addr} {cap e : Nat}
theorem rotate_at {fv : Value} {zs : List Int} {x m y : Nat} (S : Sat F w₀ w (rowL a cap e 1 encI 0 zs :: L)) (h1 : x < m) (h2 : m < y) (h3 : y ≤ zs.length) (hn : zs.length ≤ 1000000) :
    Calls Try.prog 40 #[.slice a zs.length cap, .int .i64 (x : Nat), .int .i64 (m : Nat), .int .i64 (y : Nat), fv] w fun r w' => r = .returned (.tuple #[]) ∧
      ∃ ys, (ys.length = zs.length ∧ ∀ k, ys.getD k 0 = rotF zs x m y k) ∧ Sat F w₀ w' (rowL a cap e 1 encI 0 ys :: L) := by
  refine enter0 Try.func40 rfl Try.ntmps40 rfl Try.results40 ?_
  repeat' (first | refine move_i_l S rfl rfl ?_ | refine sub_l S rfl rfl (wrap_in (by omega)) rfl ?_ | refine nilL ?_ | refine run_seq ?_ | refine run_region ?_ | refine assign_i_l S rfl rfl ?_ | refine run_block ?_ | refine thenQ_n ?_)
  refine run_while [18, 19, 20, 21, 22, 23, 24, 25, 26, 27, 28, 29, 30, 31, 32, 33, 34, 35, 36, 37, 38, 39, 40, 41, 42, 43, 44, 45, 46, 47, 48, 49] (fun (q : Nat × Nat × List Int) t => upd (upd t 10 (.int .i64 (q.1 : Nat))) 11 (.int .i64 (q.2.1 : Nat))) (fun q w' => (0 < q.1 ∧ q.1 ≤ m - x ∧ 0 < q.2.1 ∧ q.2.1 ≤ y - m ∧ q.2.2.length = zs.length ∧ ∀ k, rotF q.2.2 (m - q.1) m (m + q.2.1) k = rotF zs x m y k) ∧ Sat F w₀ w' (rowL a cap e 1 encI 0 q.2.2 :: L)) (fun q => q.1 + q.2.1) (m - x, y - m, zs) ?_ ?_ ?_
  · rw [show (((m - x : Nat) : Int)) = (m : Int) - x from by omega, show (((y - m : Nat) : Int)) = (y : Int) - m from by omega]
    (repeat (first | exact agree_refl | refine agree_r rfl ?_ | refine agree_l rfl ?_ | refine agree_hv rfl ?_))
  · exact ⟨⟨by show 0 < m - x; omega, Nat.le_refl _, by show 0 < y - m; omega, Nat.le_refl _, rfl, fun k => by rw [show m - (m - x) = x from by omega, show m + (y - m) = y from by omega]⟩, S⟩
  clear S
  rintro ⟨i, j, cs⟩ jj w ⟨⟨hi0, hi, hj0, hj, hl, hr⟩, S⟩
  replace hi0 : 0 < i := hi0
  replace hi : i ≤ m - x := hi
  replace hj0 : 0 < j := hj0
  replace hj : j ≤ y - m := hj
  replace hl : cs.length = zs.length := hl
  replace hr : ∀ k, rotF cs (m - i) m (m + j) k = rotF zs x m y k := hr
  replace S : Sat F w₀ w (rowL a cap e 1 encI 0 cs :: L) := S
  dsimp only
  rw [← hl]
  by_cases hij : i = j
  · subst hij
    repeat' (first | refine move_i_l S rfl rfl ?_ | refine sub_l S rfl rfl (wrap_in (by omega)) rfl ?_ | refine nilL ?_ | refine run_seq ?_ | refine run_region ?_ | refine move_s_l S rfl rfl ?_ | (refine neq_l S rfl rfl rfl ?_ ?_ <;> intro hcmp <;> try (exfalso; first | omega | exact hcmp (by decide) | exact absurd hcmp (by decide))) | refine move_o_l S rfl rfl ?_ | refine run_exit ?_ | refine run_cond_false rfl ?_ | refine thenQ_n ?_ | refine thenQ_e ?_ | refine blockQ_s rfl ?_)
    rw [show ((m : Int) - (i : Int)) = ((m - i : Nat) : Int) from by omega]
    refine callL (swapRange_at S (x := m - i) (y := m) (n := i) (by omega) (by omega) (by omega)) rfl rfl ?_
    clear S
    rintro e w ⟨rfl, ys, ⟨hyl, hy⟩, S⟩
    refine ⟨_, rfl, ?_⟩
    repeat' (first | refine nilL ?_ | refine ret0_n ?_)
    exact ⟨rfl, ys, ⟨by rw [hyl, hl], fun k => by rw [rot_eq (by omega) hy k, hr]⟩, S⟩
  · by_cases hgt : j < i
    · repeat' (first | refine move_i_l S rfl rfl ?_ | refine sub_l S rfl rfl (wrap_in (by omega)) rfl ?_ | refine nilL ?_ | refine run_seq ?_ | refine run_skip ?_ | refine run_region ?_ | refine move_s_l S rfl rfl ?_ | (refine neq_l S rfl rfl rfl ?_ ?_ <;> intro hcmp <;> try (exfalso; first | omega | exact hcmp (by decide) | exact absurd hcmp (by decide))) | (refine gtr_l S rfl rfl rfl ?_ ?_ <;> intro hcmp <;> try (exfalso; first | omega | exact hcmp (by decide) | exact absurd hcmp (by decide))) | refine move_o_l S rfl rfl ?_ | refine run_block ?_ | refine run_cond_true rfl ?_ | refine thenQ_n ?_)
      rw [show ((m : Int) - (i : Int)) = ((m - i : Nat) : Int) from by omega]
      refine callL (swapRange_at S (x := m - i) (y := m) (n := j) (by omega) (by omega) (by omega)) rfl rfl ?_
      clear S
      rintro e w ⟨rfl, ys, ⟨hyl, hy⟩, S⟩
      refine ⟨_, rfl, ?_⟩
      repeat' (first | refine move_i_l S rfl rfl ?_ | refine sub_l S rfl rfl (wrap_in (by omega)) rfl ?_ | refine nilL ?_ | refine run_region ?_ | refine assign_i_l S rfl rfl ?_ | refine thenQ_n ?_ | refine blockQ_n ?_)
      rw [← hyl]
      refine ⟨(i - j, j, ys), ?_, ⟨⟨by show 0 < i - j; omega, by show i - j ≤ m - x; omega, hj0, hj, by show ys.length = _; rw [hyl, hl], fun k => by show rotF ys (m - (i - j)) m (m + j) k = _; rw [rot_gt (by omega) hgt hy, hr]⟩, S⟩, by show i - j + j < i + j; omega⟩
      dsimp only
      rw [show (((i - j : Nat)) : Int) = (i : Int) - j from by omega]
      (repeat (first | exact agree_refl | refine agree_r rfl ?_ | refine agree_l rfl ?_ | refine agree_hv rfl ?_))
    · repeat' (first | refine move_i_l S rfl rfl ?_ | refine sub_l S rfl rfl (wrap_in (by omega)) rfl ?_ | refine nilL ?_ | refine run_seq ?_ | refine run_skip ?_ | refine run_region ?_ | refine move_s_l S rfl rfl ?_ | (refine neq_l S rfl rfl rfl ?_ ?_ <;> intro hcmp <;> try (exfalso; first | omega | exact hcmp (by decide) | exact absurd hcmp (by decide))) | (refine gtr_l S rfl rfl rfl ?_ ?_ <;> intro hcmp <;> try (exfalso; first | omega | exact hcmp (by decide) | exact absurd hcmp (by decide))) | refine add_l S rfl rfl (wrap_in (by omega)) rfl ?_ | refine move_o_l S rfl rfl ?_ | refine run_block ?_ | refine run_cond_true rfl ?_ | refine run_cond_false rfl ?_ | refine thenQ_n ?_)
      rw [show ((m : Int) - (i : Int)) = ((m - i : Nat) : Int) from by omega, show ((m : Int) + (j : Int) - (i : Int)) = ((m + j - i : Nat) : Int) from by omega]
      refine callL (swapRange_at S (x := m - i) (y := m + j - i) (n := i) (by omega) (by omega) (by omega)) rfl rfl ?_
      clear S
      rintro e w ⟨rfl, ys, ⟨hyl, hy⟩, S⟩
      refine ⟨_, rfl, ?_⟩
      repeat' (first | refine move_i_l S rfl rfl ?_ | refine sub_l S rfl rfl (wrap_in (by omega)) rfl ?_ | refine nilL ?_ | refine run_region ?_ | refine assign_i_l S rfl rfl ?_ | refine thenQ_n ?_ | refine blockQ_n ?_)
      rw [← hyl]
      refine ⟨(i, j - i, ys), ?_, ⟨⟨hi0, hi, by show 0 < j - i; omega, by show j - i ≤ y - m; omega, by show ys.length = _; rw [hyl, hl], fun k => by show rotF ys (m - i) m (m + (j - i)) k = _; rw [rot_lt (by omega) (by omega) hy, hr]⟩, S⟩, by show i + (j - i) < i + j; omega⟩
      dsimp only
      rw [show (((j - i : Nat)) : Int) = (j : Int) - i from by omega]
      (repeat (first | exact agree_refl | refine agree_r rfl ?_ | refine agree_l rfl ?_ | refine agree_hv rfl ?_))
end
end Go.Proofs.Ytjnlcfkdackghaa
