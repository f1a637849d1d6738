/- slices.SortStableFunc of ints, its parts: swapRange. slices.SortStableFunc of ints, its parts: rotate. -/
import Derived.Test.YtciehimnhnbipaaGen
import Derived.Test.YtciehimnhnbipaaFacts
import Derived.Test.YtciehimnhnbipaaMap
import Derived.Test.YtciehimnhnbipaaAnyD
import Derived.Test.YtciehimnhnbipaaExch
namespace Go.Proofs.Ytciehimnhnbipaa
open Go.RowKit Go.Lib
set_option linter.unusedVariables false
set_option maxHeartbeats 2000000
/-- Two exchanged. -/
def swp (zs : List Int) (i j : Nat) : List Int := (zs.set i (zs.getD j 0)).set j (zs.getD i 0)
theorem swp_len (zs : List Int) (i j : Nat) : (swp zs i j).length = zs.length := by simp [swp]
theorem lgetD_set_self {zs : List Int} {i : Nat} {v : Int} (h : i < zs.length) : (zs.set i v).getD i 0 = v := by rw [List.getD_eq_getElem?_getD, List.getElem?_set_self h]; rfl
theorem lgetD_set_ne {zs : List Int} {i j : Nat} {v : Int} (h : i ≠ j) : (zs.set i v).getD j 0 = zs.getD j 0 := by rw [List.getD_eq_getElem?_getD, List.getD_eq_getElem?_getD, List.getElem?_set_ne h]
theorem swp_get {zs : List Int} {i j : Nat} (hi : i < zs.length) (hj : j < zs.length) (k : Nat) : (swp zs i j).getD k 0 = if k = j then zs.getD i 0 else if k = i then zs.getD j 0 else zs.getD k 0 := by
  unfold swp
  by_cases h : k = j
  · subst h
    rw [if_pos rfl, lgetD_set_self (by simpa using hj)]
  · rw [if_neg h, lgetD_set_ne (fun e => h e.symm)]
    by_cases h2 : k = i
    · subst h2
      rw [if_pos rfl, lgetD_set_self hi]
    · rw [if_neg h2, lgetD_set_ne (fun e => h2 e.symm)]
theorem row_swp {w : World} {a : Option Addr} {cap e : Nat} {zs : List Int} {i j : Nat} (hi : i < zs.length) (hj : j < zs.length)
    (h : RowOk w a zs.length cap e 1 (gset (gset (gL encI 0 zs) i 0 (.int .i64 (zs.getD j 0))) j 0 (.int .i64 (zs.getD i 0)))) : RowOk w a (swp zs i j).length cap e 1 (gL encI 0 (swp zs i j)) := by
  rw [swp_len]
  refine RowOk.congr h fun k hk c hc => ?_
  obtain rfl : c = 0 := by omega
  unfold gset
  show _ = Value.int .i64 ((swp zs i j).getD k 0)
  rw [swp_get hi hj]
  by_cases h1 : k = j
  · rw [if_pos ⟨h1, rfl⟩, if_pos h1]
  · rw [if_neg (fun h => h1 h.1), if_neg h1]
    by_cases h2 : k = i
    · rw [if_pos ⟨h2, rfl⟩, if_pos h2]
    · rw [if_neg (fun h => h2 h.1), if_neg h2]; rfl
section
variable {F : Nat → Prop} {w₀ w : World} {L : List Res} {a : Option Addr} {cap e : Nat}
theorem swapRange_at {fv : Value} {zs : List Int} {x y n : Nat} (S : Sat F w₀ w (rowL a cap e 1 encI 0 zs :: L)) (h1 : x + n ≤ y) (h2 : y + n ≤ zs.length) (hn : zs.length ≤ 1000000) :
    Calls Try.prog 89 #[.slice a zs.length cap, .int .i64 (x : Nat), .int .i64 (y : Nat), .int .i64 (n : Nat), fv] w fun r w' => r = .returned (.tuple #[]) ∧
      ∃ ys, (ys.length = zs.length ∧ ∀ k, ys.getD k 0 = if x ≤ k ∧ k < x + n then zs.getD (k - x + y) 0 else if y ≤ k ∧ k < y + n then zs.getD (k - y + x) 0 else zs.getD k 0) ∧ Sat F w₀ w' (rowL a cap e 1 encI 0 ys :: L) := by
  refine enter0 Try.func89 rfl Try.ntmps89 rfl Try.results89 ?_
  repeat' (first | refine assign_i_l S rfl rfl ?_ | refine nilL ?_ | refine run_seq ?_ | refine run_region ?_ | refine run_block ?_ | refine thenQ_n ?_)
  refine run_while [11, 12, 13, 14, 15, 16, 17, 18, 19, 20, 21, 22, 23, 24, 25, 26, 27, 28, 29, 30, 31, 32, 33, 34, 35, 36, 37] (fun (q : Nat × List Int) t => upd t 10 (.int .i64 (q.1 : Nat))) (fun q w' => (q.1 ≤ n ∧ q.2.length = zs.length ∧ ∀ k, q.2.getD k 0 = if x ≤ k ∧ k < x + q.1 then zs.getD (k - x + y) 0 else if y ≤ k ∧ k < y + q.1 then zs.getD (k - y + x) 0 else zs.getD k 0) ∧ Sat F w₀ w' (row a zs.length cap e 1 (gL encI 0 q.2) :: L)) (fun q => n - q.1) (0, zs) ?_ ?_ ?_
  · (repeat (first | exact agree_refl | refine agree_r rfl ?_ | refine agree_l rfl ?_ | refine agree_hv rfl ?_))
  · exact ⟨⟨Nat.zero_le _, rfl, fun k => by rw [if_neg (by omega), if_neg (by omega)]⟩, S⟩
  clear S
  rintro ⟨i, ys⟩ j w ⟨⟨hi, hl, hg⟩, S⟩
  replace hi : i ≤ n := hi
  replace hl : ys.length = zs.length := hl
  replace hg : ∀ k, ys.getD k 0 = if x ≤ k ∧ k < x + i then zs.getD (k - x + y) 0 else if y ≤ k ∧ k < y + i then zs.getD (k - y + x) 0 else zs.getD k 0 := hg
  replace S : Sat F w₀ w (row a zs.length cap e 1 (gL encI 0 ys) :: L) := S
  dsimp only
  by_cases hin : i < n
  · repeat' (first | refine move_i_l S rfl rfl ?_ | (refine lss_l S rfl rfl rfl ?_ ?_ <;> intro hcmp <;> try (exfalso; first | omega | exact hcmp (by decide) | exact absurd hcmp (by decide))) | refine nilL ?_ | refine run_seq ?_ | refine run_skip ?_ | refine run_region ?_ | refine run_block ?_ | refine run_cond_true rfl ?_ | refine thenQ_n ?_)
    refine run_anyB_at (c := 21) (f := 24) (L' := [row a zs.length cap e 1 (gL encI 0 ys)]) [16, 17, 18, 19, 20, 21, 22, 23, 24, 25, 26, 27, 28, 29, 30, 31, 32, 33, 34, 35, 36, 37] (fun (s : Unit) t => t) (fun s w' => Sat F w₀ w' (row a zs.length cap e 1 (gset (gset (gL encI 0 ys) ((x : Int) + (i : Int)).toNat 0 (.int .i64 (ys.getD ((y : Int) + (i : Int)).toNat 0))) ((y : Int) + (i : Int)).toNat 0 (.int .i64 (ys.getD ((x : Int) + (i : Int)).toNat 0))) :: L)) S mixed rfl ?_ ?_
    · clear S
      intro w S1
      have S : Sat _ _ w [row a zs.length cap e 1 (gL encI 0 ys)] := S1.sub
      (refine anyB_chain (i := 0) [21] rfl (by kernel_rfl) S ?_; refine move_s_x rfl rfl ?_)
      (refine anyB_chain (i := 1) [21] rfl (by kernel_rfl) S ?_; refine move_i_x rfl rfl ?_)
      (refine anyB_chain (i := 2) [21] rfl (by kernel_rfl) S ?_; refine move_i_x rfl rfl ?_)
      (refine anyB_chain (i := 3) [21] rfl (by kernel_rfl) S ?_; (first | refine add_x rfl rfl (wrap_in (by omega)) rfl ?_ | refine add_x rfl rfl rfl rfl ?_))
      (refine anyB_chain (i := 8) [21] rfl (by kernel_rfl) S ?_; refine move_s_x rfl rfl ?_)
      (refine anyB_chain (i := 9) [21] rfl (by kernel_rfl) S ?_; refine move_i_x rfl rfl ?_)
      (refine anyB_chain (i := 10) [21] rfl (by kernel_rfl) S ?_; refine move_i_x rfl rfl ?_)
      (refine anyB_chain (i := 11) [21] rfl (by kernel_rfl) S ?_; (first | refine add_x rfl rfl (wrap_in (by omega)) rfl ?_ | refine add_x rfl rfl rfl rfl ?_))
      (refine anyB_chain (i := 12) [21] rfl (by kernel_rfl) S ?_; (first | refine indexAddr_x rfl rfl (idx_cast _) (by first | omega | decide | (simp; done) | (simp; omega)) rfl ?_ | refine indexAddr_x rfl rfl (idx_eq _) (by first | omega | decide | (simp; done) | (simp; omega)) rfl ?_))
      (refine anyB_chain (i := 13) [21] rfl (by kernel_rfl) S ?_; (first | refine load_i_x rfl rfl rfl rfl ?_ | refine load_o_x rfl rfl rfl rfl ?_ | refine loadE_i_x rfl (by first | omega | decide | (simp; done) | (simp; omega)) rfl rfl rfl ?_ | refine loadE_o_x rfl (by first | omega | decide | (simp; done) | (simp; omega)) rfl rfl rfl ?_))
      (refine anyB_chain (i := 14) [18, 19, 21] rfl (by kernel_rfl) S ?_; refine move_s_x rfl rfl ?_)
      (refine anyB_chain (i := 15) [17, 18, 19, 21] rfl (by kernel_rfl) S ?_; refine move_i_x rfl rfl ?_)
      (refine anyB_chain (i := 16) [17, 18, 19, 21] rfl (by kernel_rfl) S ?_; refine move_i_x rfl rfl ?_)
      (refine anyB_chain (i := 17) [18, 19, 21] rfl (by kernel_rfl) S ?_; (first | refine add_x rfl rfl (wrap_in (by omega)) rfl ?_ | refine add_x rfl rfl rfl rfl ?_))
      (refine anyB_chain (i := 18) [19, 21] rfl (by kernel_rfl) S ?_; (first | refine indexAddr_x rfl rfl (idx_cast _) (by first | omega | decide | (simp; done) | (simp; omega)) rfl ?_ | refine indexAddr_x rfl rfl (idx_eq _) (by first | omega | decide | (simp; done) | (simp; omega)) rfl ?_))
      (refine anyB_chain (i := 19) [21] rfl (by kernel_rfl) S ?_; (first | refine load_i_x rfl rfl rfl rfl ?_ | refine load_o_x rfl rfl rfl rfl ?_ | refine loadE_i_x rfl (by first | omega | decide | (simp; done) | (simp; omega)) rfl rfl rfl ?_ | refine loadE_o_x rfl (by first | omega | decide | (simp; done) | (simp; omega)) rfl rfl rfl ?_))
      (refine anyB_chain (i := 20) [21] rfl (by kernel_rfl) S ?_; (first | refine indexAddr_x rfl rfl (idx_cast _) (by first | omega | decide | (simp; done) | (simp; omega)) rfl ?_ | refine indexAddr_x rfl rfl (idx_eq _) (by first | omega | decide | (simp; done) | (simp; omega)) rfl ?_))
      (refine anyB_free (i := 4) rfl (by kernel_rfl) (fun _ => S) ?_; (first | refine move0 (v := .int _ _) rfl rfl ?_ | refine move0 (v := .slice _ _ _) rfl rfl ?_ | refine move0 rfl rfl ?_ | refine add0 rfl rfl (wrap_in (by omega)) rfl ?_ | refine sub0 rfl rfl (wrap_in (by omega)) rfl ?_))
      (refine anyB_free (i := 5) rfl (by kernel_rfl) (fun _ => S) ?_; (first | refine move0 (v := .int _ _) rfl rfl ?_ | refine move0 (v := .slice _ _ _) rfl rfl ?_ | refine move0 rfl rfl ?_ | refine add0 rfl rfl (wrap_in (by omega)) rfl ?_ | refine sub0 rfl rfl (wrap_in (by omega)) rfl ?_))
      (refine anyB_free (i := 6) rfl (by kernel_rfl) (fun _ => S) ?_; (first | refine move0 (v := .int _ _) rfl rfl ?_ | refine move0 (v := .slice _ _ _) rfl rfl ?_ | refine move0 rfl rfl ?_ | refine add0 rfl rfl (wrap_in (by omega)) rfl ?_ | refine sub0 rfl rfl (wrap_in (by omega)) rfl ?_))
      (refine anyB_free (i := 7) rfl (by kernel_rfl) (fun _ => S) ?_; (first | refine move0 (v := .int _ _) rfl rfl ?_ | refine move0 (v := .slice _ _ _) rfl rfl ?_ | refine move0 rfl rfl ?_ | refine add0 rfl rfl (wrap_in (by omega)) rfl ?_ | refine sub0 rfl rfl (wrap_in (by omega)) rfl ?_))
      refine anyB_all (l := [21]) (by kernel_rfl) (by decide) ?_
      intro i hi
      simp only [List.mem_cons, List.not_mem_nil, or_false] at hi
      subst hi
      (refine ⟨_, rfl, ?_⟩; replace S := S1; clear S1; (first | (refine store_i S rfl rfl rfl ?_; clear S; intro w S) | (refine storeE_i S rfl rfl (by omega) rfl ?_; clear S; intro w S)); refine nilL ?_; refine ⟨nope (by kernel_rfl), ?_⟩; have S1 := S)
      refine anyB_all (l := [22]) (by kernel_rfl) (by decide) ?_
      intro i hi
      simp only [List.mem_cons, List.not_mem_nil, or_false] at hi
      subst hi
      (refine ⟨_, rfl, ?_⟩; replace S := S1; clear S1; (first | refine indexAddr_l S rfl rfl (idx_cast _) (by first | omega | decide | (simp; done) | (simp; omega)) rfl ?_ | refine indexAddr_l S rfl rfl (idx_eq _) (by first | omega | decide | (simp; done) | (simp; omega)) rfl ?_); refine nilL ?_; refine ⟨nope (by kernel_rfl), ?_⟩; have S1 := S)
      refine anyB_all (l := [23]) (by kernel_rfl) (by decide) ?_
      intro i hi
      simp only [List.mem_cons, List.not_mem_nil, or_false] at hi
      subst hi
      (refine ⟨_, rfl, ?_⟩; replace S := S1; clear S1; (first | (refine store_i S rfl rfl rfl ?_; clear S; intro w S) | (refine storeE_i S rfl rfl (by omega) rfl ?_; clear S; intro w S)); refine nilL ?_; refine ⟨nope (by kernel_rfl), ?_⟩; have S1 := S)
      refine anyB_end (by kernel_rfl) ?_
      exact ⟨(), (by (repeat (first | exact agree_refl | refine agree_r rfl ?_ | refine agree_l rfl ?_ | refine agree_hv rfl ?_))), S1⟩
    · clear S
      rintro ⟨⟩ j w S
      rw [show ((x : Int) + (i : Int)).toNat = x + i from by omega, show ((y : Int) + (i : Int)).toNat = y + i from by omega] at S
      have hr : (rowL a cap e 1 encI 0 (swp ys (x + i) (y + i))).holds w := row_swp (by omega) (by omega) (by rw [hl]; exact S.got1)
      have hl2 : (swp ys (x + i) (y + i)).length = zs.length := by rw [swp_len, hl]
      have hr2 : RowOk w a zs.length cap e 1 (gL encI 0 (swp ys (x + i) (y + i))) := by rw [← hl2]; exact hr
      have S2 := S.turn1 (r' := row a zs.length cap e 1 (gL encI 0 (swp ys (x + i) (y + i)))) hr2 rfl (fun k e => e)
      clear S
      have S := S2
      repeat' (first | refine move_i_l S rfl rfl ?_ | refine assign_i_l S rfl rfl ?_ | refine nilL ?_ | refine run_region ?_ | refine add_l S rfl rfl (wrap_in (by omega)) rfl ?_ | refine thenQ_n ?_ | refine blockQ_n ?_)
      refine ⟨(i + 1, swp ys (x + i) (y + i)), ?_, ⟨⟨by show i + 1 ≤ n; omega, hl2, fun k => ?_⟩, S⟩, by show n - (i + 1) < n - i; omega⟩
      · rw [Int.natCast_add]
        (repeat (first | exact agree_refl | refine agree_r rfl ?_ | refine agree_l rfl ?_ | refine agree_hv rfl ?_))
      · show (swp ys (x + i) (y + i)).getD k 0 = _
        rw [swp_get (by omega) (by omega), hg, hg, hg]
        by_cases c1 : k = y + i
        · subst c1
          rw [if_pos rfl, if_neg (by omega), if_neg (by omega), if_neg (by omega), if_pos (by omega), show y + i - y + x = x + i from by omega]
        · rw [if_neg c1]
          by_cases c2 : k = x + i
          · subst c2
            rw [if_pos rfl, if_neg (by omega), if_neg (by omega), if_pos (by omega), show x + i - x + y = y + i from by omega]
          · rw [if_neg c2]
            by_cases c3 : x ≤ k ∧ k < x + i
            · rw [if_pos c3, if_pos (by omega)]
            · rw [if_neg c3, if_neg (by omega : ¬ (x ≤ k ∧ k < x + (i + 1)))]
              by_cases c4 : y ≤ k ∧ k < y + i
              · rw [if_pos c4, if_pos (by omega)]
              · rw [if_neg c4, if_neg (by omega : ¬ (y ≤ k ∧ k < y + (i + 1)))]
  · repeat' (first | refine move_i_l S rfl rfl ?_ | (refine lss_l S rfl rfl rfl ?_ ?_ <;> intro hcmp <;> try (exfalso; first | omega | exact hcmp (by decide) | exact absurd hcmp (by decide))) | refine nilL ?_ | refine run_seq ?_ | refine run_region ?_ | refine run_exit ?_ | refine run_cond_false rfl ?_ | refine thenQ_n ?_ | refine thenQ_e ?_ | refine blockQ_s rfl ?_ | refine ret0_n ?_)
    obtain rfl : i = n := by omega
    exact ⟨rfl, ys, ⟨hl, hg⟩, by rw [← hl] at S; exact S⟩
end
end Go.Proofs.Ytciehimnhnbipaa
namespace Go.Proofs.Ytciehimnhnbipaa
open Go.RowKit Go.Lib
set_option linter.unusedVariables false
set_option maxHeartbeats 2000000
/-- The row of numbers, turned about m between a and b. -/
def rotF (zs : List Int) (a m b k : Nat) : Int := if a ≤ k ∧ k < a + (b - m) then zs.getD (k - a + m) 0 else if a + (b - m) ≤ k ∧ k < b then zs.getD (k - (b - m)) 0 else zs.getD k 0
def swF (zs : List Int) (x y n k : Nat) : Int := if x ≤ k ∧ k < x + n then zs.getD (k - x + y) 0 else if y ≤ k ∧ k < y + n then zs.getD (k - y + x) 0 else zs.getD k 0
theorem rot_gt {zs ys : List Int} {i j m : Nat} (hi : i ≤ m) (h : j < i) (hy : ∀ k, ys.getD k 0 = swF zs (m - i) m j k) (k : Nat) : rotF ys (m - (i - j)) m (m + j) k = rotF zs (m - i) m (m + j) k := by
  unfold rotF
  rw [hy, hy, hy]
  unfold swF
  repeat' split
  all_goals first | (exfalso; omega) | rfl | (congr 1; omega)
theorem rot_lt {zs ys : List Int} {i j m : Nat} (hi : i ≤ m) (h : i < j) (hy : ∀ k, ys.getD k 0 = swF zs (m - i) (m + j - i) i k) (k : Nat) : rotF ys (m - i) m (m + (j - i)) k = rotF zs (m - i) m (m + j) k := by
  unfold rotF
  rw [hy, hy, hy]
  unfold swF
  repeat' split
  all_goals first | (exfalso; omega) | rfl | (congr 1; omega)
theorem rot_eq {zs ys : List Int} {i m : Nat} (hi : i ≤ m) (hy : ∀ k, ys.getD k 0 = swF zs (m - i) m i k) (k : Nat) : ys.getD k 0 = rotF zs (m - i) m (m + i) k := by
  rw [hy]
  unfold rotF swF
  repeat' split
  all_goals first | (exfalso; omega) | rfl | (congr 1; omega)
section
variable {F : Nat → Prop} {w₀ w : World} {L : List Res} {a : Option Addr} {cap e : Nat}
theorem rotate_at {fv : Value} {zs : List Int} {x m y : Nat} (S : Sat F w₀ w (rowL a cap e 1 encI 0 zs :: L)) (h1 : x < m) (h2 : m < y) (h3 : y ≤ zs.length) (hn : zs.length ≤ 1000000) :
    Calls Try.prog 87 #[.slice a zs.length cap, .int .i64 (x : Nat), .int .i64 (m : Nat), .int .i64 (y : Nat), fv] w fun r w' => r = .returned (.tuple #[]) ∧
      ∃ ys, (ys.length = zs.length ∧ ∀ k, ys.getD k 0 = rotF zs x m y k) ∧ Sat F w₀ w' (rowL a cap e 1 encI 0 ys :: L) := by
  refine enter0 Try.func87 rfl Try.ntmps87 rfl Try.results87 ?_
  repeat' (first | refine move_i_l S rfl rfl ?_ | refine sub_l S rfl rfl (wrap_in (by omega)) rfl ?_ | refine nilL ?_ | refine run_seq ?_ | refine run_region ?_ | refine assign_i_l S rfl rfl ?_ | refine run_block ?_ | refine thenQ_n ?_)
  refine run_while [18, 19, 20, 21, 22, 23, 24, 25, 26, 27, 28, 29, 30, 31, 32, 33, 34, 35, 36, 37, 38, 39, 40, 41, 42, 43, 44, 45, 46, 47, 48, 49] (fun (q : Nat × Nat × List Int) t => upd (upd t 10 (.int .i64 (q.1 : Nat))) 11 (.int .i64 (q.2.1 : Nat))) (fun q w' => (0 < q.1 ∧ q.1 ≤ m - x ∧ 0 < q.2.1 ∧ q.2.1 ≤ y - m ∧ q.2.2.length = zs.length ∧ ∀ k, rotF q.2.2 (m - q.1) m (m + q.2.1) k = rotF zs x m y k) ∧ Sat F w₀ w' (rowL a cap e 1 encI 0 q.2.2 :: L)) (fun q => q.1 + q.2.1) (m - x, y - m, zs) ?_ ?_ ?_
  · rw [show (((m - x : Nat) : Int)) = (m : Int) - x from by omega, show (((y - m : Nat) : Int)) = (y : Int) - m from by omega]
    (repeat (first | exact agree_refl | refine agree_r rfl ?_ | refine agree_l rfl ?_ | refine agree_hv rfl ?_))
  · exact ⟨⟨by show 0 < m - x; omega, Nat.le_refl _, by show 0 < y - m; omega, Nat.le_refl _, rfl, fun k => by rw [show m - (m - x) = x from by omega, show m + (y - m) = y from by omega]⟩, S⟩
  clear S
  rintro ⟨i, j, cs⟩ jj w ⟨⟨hi0, hi, hj0, hj, hl, hr⟩, S⟩
  replace hi0 : 0 < i := hi0
  replace hi : i ≤ m - x := hi
  replace hj0 : 0 < j := hj0
  replace hj : j ≤ y - m := hj
  replace hl : cs.length = zs.length := hl
  replace hr : ∀ k, rotF cs (m - i) m (m + j) k = rotF zs x m y k := hr
  replace S : Sat F w₀ w (rowL a cap e 1 encI 0 cs :: L) := S
  dsimp only
  rw [← hl]
  by_cases hij : i = j
  · subst hij
    repeat' (first | refine move_i_l S rfl rfl ?_ | refine sub_l S rfl rfl (wrap_in (by omega)) rfl ?_ | refine nilL ?_ | refine run_seq ?_ | refine run_region ?_ | refine move_s_l S rfl rfl ?_ | (refine neq_l S rfl rfl rfl ?_ ?_ <;> intro hcmp <;> try (exfalso; first | omega | exact hcmp (by decide) | exact absurd hcmp (by decide))) | refine move_o_l S rfl rfl ?_ | refine run_exit ?_ | refine run_cond_false rfl ?_ | refine thenQ_n ?_ | refine thenQ_e ?_ | refine blockQ_s rfl ?_)
    rw [show ((m : Int) - (i : Int)) = ((m - i : Nat) : Int) from by omega]
    refine callL (swapRange_at S (x := m - i) (y := m) (n := i) (by omega) (by omega) (by omega)) rfl rfl ?_
    clear S
    rintro e w ⟨rfl, ys, ⟨hyl, hy⟩, S⟩
    refine ⟨_, rfl, ?_⟩
    repeat' (first | refine nilL ?_ | refine ret0_n ?_)
    exact ⟨rfl, ys, ⟨by rw [hyl, hl], fun k => by rw [rot_eq (by omega) hy k, hr]⟩, S⟩
  · by_cases hgt : j < i
    · repeat' (first | refine move_i_l S rfl rfl ?_ | refine sub_l S rfl rfl (wrap_in (by omega)) rfl ?_ | refine nilL ?_ | refine run_seq ?_ | refine run_skip ?_ | refine run_region ?_ | refine move_s_l S rfl rfl ?_ | (refine neq_l S rfl rfl rfl ?_ ?_ <;> intro hcmp <;> try (exfalso; first | omega | exact hcmp (by decide) | exact absurd hcmp (by decide))) | (refine gtr_l S rfl rfl rfl ?_ ?_ <;> intro hcmp <;> try (exfalso; first | omega | exact hcmp (by decide) | exact absurd hcmp (by decide))) | refine move_o_l S rfl rfl ?_ | refine run_block ?_ | refine run_cond_true rfl ?_ | refine thenQ_n ?_)
      rw [show ((m : Int) - (i : Int)) = ((m - i : Nat) : Int) from by omega]
      refine callL (swapRange_at S (x := m - i) (y := m) (n := j) (by omega) (by omega) (by omega)) rfl rfl ?_
      clear S
      rintro e w ⟨rfl, ys, ⟨hyl, hy⟩, S⟩
      refine ⟨_, rfl, ?_⟩
      repeat' (first | refine move_i_l S rfl rfl ?_ | refine sub_l S rfl rfl (wrap_in (by omega)) rfl ?_ | refine nilL ?_ | refine run_region ?_ | refine assign_i_l S rfl rfl ?_ | refine thenQ_n ?_ | refine blockQ_n ?_)
      rw [← hyl]
      refine ⟨(i - j, j, ys), ?_, ⟨⟨by show 0 < i - j; omega, by show i - j ≤ m - x; omega, hj0, hj, by show ys.length = _; rw [hyl, hl], fun k => by show rotF ys (m - (i - j)) m (m + j) k = _; rw [rot_gt (by omega) hgt hy, hr]⟩, S⟩, by show i - j + j < i + j; omega⟩
      dsimp only
      rw [show (((i - j : Nat)) : Int) = (i : Int) - j from by omega]
      (repeat (first | exact agree_refl | refine agree_r rfl ?_ | refine agree_l rfl ?_ | refine agree_hv rfl ?_))
    · repeat' (first | refine move_i_l S rfl rfl ?_ | refine sub_l S rfl rfl (wrap_in (by omega)) rfl ?_ | refine nilL ?_ | refine run_seq ?_ | refine run_skip ?_ | refine run_region ?_ | refine move_s_l S rfl rfl ?_ | (refine neq_l S rfl rfl rfl ?_ ?_ <;> intro hcmp <;> try (exfalso; first | omega | exact hcmp (by decide) | exact absurd hcmp (by decide))) | (refine gtr_l S rfl rfl rfl ?_ ?_ <;> intro hcmp <;> try (exfalso; first | omega | exact hcmp (by decide) | exact absurd hcmp (by decide))) | refine add_l S rfl rfl (wrap_in (by omega)) rfl ?_ | refine move_o_l S rfl rfl ?_ | refine run_block ?_ | refine run_cond_true rfl ?_ | refine run_cond_false rfl ?_ | refine thenQ_n ?_)
      rw [show ((m : Int) - (i : Int)) = ((m - i : Nat) : Int) from by omega, show ((m : Int) + (j : Int) - (i : Int)) = ((m + j - i : Nat) : Int) from by omega]
      refine callL (swapRange_at S (x := m - i) (y := m + j - i) (n := i) (by omega) (by omega) (by omega)) rfl rfl ?_
      clear S
      rintro e w ⟨rfl, ys, ⟨hyl, hy⟩, S⟩
      refine ⟨_, rfl, ?_⟩
      repeat' (first | refine move_i_l S rfl rfl ?_ | refine sub_l S rfl rfl (wrap_in (by omega)) rfl ?_ | refine nilL ?_ | refine run_region ?_ | refine assign_i_l S rfl rfl ?_ | refine thenQ_n ?_ | refine blockQ_n ?_)
      rw [← hyl]
      refine ⟨(i, j - i, ys), ?_, ⟨⟨hi0, hi, by show 0 < j - i; omega, by show j - i ≤ y - m; omega, by show ys.length = _; rw [hyl, hl], fun k => by show rotF ys (m - i) m (m + (j - i)) k = _; rw [rot_lt (by omega) (by omega) hy, hr]⟩, S⟩, by show i + (j - i) < i + j; omega⟩
      dsimp only
      rw [show (((j - i : Nat)) : Int) = (j : Int) - i from by omega]
      (repeat (first | exact agree_refl | refine agree_r rfl ?_ | refine agree_l rfl ?_ | refine agree_hv rfl ?_))
end
end Go.Proofs.Ytciehimnhnbipaa
