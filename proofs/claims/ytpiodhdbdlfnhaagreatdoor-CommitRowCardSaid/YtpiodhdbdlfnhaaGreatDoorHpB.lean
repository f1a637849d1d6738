/- heap: the methods that change it. -/
import Derived.Test.YtpiodhdbdlfnhaaGreatDoorHpA
namespace Go.Proofs.YtpiodhdbdlfnhaaGreatDoor
open Go.RowKit Go.Lib
set_option linter.unusedVariables false
/-- What a method that changes the heap leaves. -/
def HeapTo (b : Nat) (ga va : Option Addr) (gc vc : Nat) (H H' : HeapS) (w w' : World) : Prop := (heapR b ga va gc vc H').holds w' ∧ Chg (heapR b ga va gc vc H).foot w w'
theorem heap_shut_locks {S : Nat → Prop} {w₀ w : World} {b : Nat} {ga va : Option Addr} {gc vc : Nat} {H : HeapS} {g : Nat → Nat → Value} (l' : List (Int × Int)) (hl : l'.length = H.locks.length)
    (hg : ∀ i, i < H.locks.length → ∀ j, j < 2 → g i j = gL encP (0, 0) l' i j)
    (h : Sat S w₀ w [blk b 4 (heapC ga va gc vc H) 69, row ga H.locks.length gc 64 2 g, valsR va vc H.vals]) : (heapR b ga va gc vc { H with locks := l' }).holds w := by
  have h2 := h.reRow (a := ga) hg
  refine heap_shut (S := S) (w₀ := w₀) ?_
  have e : heapC ga va gc vc { H with locks := l' } = heapC ga va gc vc H := by
    funext i; unfold heapC; simp only [hl]
  show Sat S w₀ w [blk b 4 (heapC ga va gc vc { H with locks := l' }) 69, row ga l'.length gc 64 2 (gL encP (0, 0) l'), valsR va vc H.vals]
  rw [e, hl]
  exact h2
theorem encP_set (l : List (Int × Int)) (s : Nat) (z : Int × Int) (hs : s < l.length) (i j : Nat) (hi : i < l.length) (hj : j < 2) :
    gL encP (0, 0) (l.set s z) i j = if i = s then encP z j else gL encP (0, 0) l i j := by
  unfold gL
  rw [List.getD_eq_getElem?_getD, List.getD_eq_getElem?_getD, List.getElem?_set]
  by_cases e : s = i
  · subst e; simp [hs]
  · rw [if_neg e, if_neg (fun x => e x.symm)]
theorem heap_shut_lock1 {S : Nat → Prop} {w₀ w : World} {b : Nat} {ga va : Option Addr} {gc vc : Nat} {H : HeapS} {g : Nat → Nat → Value} (s : Nat) (z : Int × Int) (hs : s < H.locks.length)
    (h0 : g s 0 = .int .i64 z.1) (h1 : g s 1 = .int .i64 z.2) (hg : ∀ i, i ≠ s → ∀ j, g i j = gL encP (0, 0) H.locks i j)
    (h : Sat S w₀ w [blk b 4 (heapC ga va gc vc H) 69, row ga H.locks.length gc 64 2 g, valsR va vc H.vals]) : (heapR b ga va gc vc { H with locks := H.locks.set s z }).holds w :=
  heap_shut_locks _ (by simp) (fun i hi j hj => by
    rw [encP_set _ _ _ hs i j hi hj]
    by_cases e : i = s
    · subst e
      rw [if_pos rfl]
      match j, hj with
      | 0, _ => exact h0
      | 1, _ => exact h1
    · rw [if_neg e, hg i e]) h
section
variable {b : Nat} {ga va : Option Addr} {gc vc : Nat} {H : HeapS} {w0 : World} (h : (heapR b ga va gc vc H).holds w0)
include h
theorem none_at : Calls Tryz.prog 40 #[.pointer (some ⟨b, 0, none⟩)] w0 fun e w' => e = .returned (.int .i64 5) ∧ Below w0.heap.size w0 w' := by
  have S := Sat.reads h
  refine enter1 Tryz.func40 rfl Tryz.ntmps40 rfl Tryz.results40 ?_
  repeat' (first | refine assign_i_l S rfl rfl ?_ | refine move_p_l S rfl rfl ?_ | refine nilL ?_ | refine run_seq ?_ | refine run_skip ?_ | refine run_region ?_ | refine eqlP_l S rfl rfl rfl ?_ | refine run_ret ?_ | refine run_cond_false rfl ?_ | refine thenQ_n ?_ | refine ret1_i rfl ?_)
  exact ⟨rfl, S.chg.below⟩
def ownE (H : HeapS) (s who : Int) : Int := if ¬ (0 ≤ s ∧ s < H.locks.length) then 5 else if who < 0 ∨ 6 ≤ who then 1 else if (H.locks.getD s.toNat (0, 0)).1 ≠ -1 then 6 else 0
def ownH (H : HeapS) (s who : Int) : HeapS := if ownE H s who = 0 then { H with locks := H.locks.set s.toNat (who, (H.locks.getD s.toNat (0, 0)).2) } else H
theorem own_at (s who : Int) : Calls Tryz.prog 11 #[.pointer (some ⟨b, 0, none⟩), .int .i64 s, .int .i64 who] w0 fun e w' => e = .returned (.int .i64 (ownE H s who)) ∧ HeapTo b ga va gc vc H (ownH H s who) w0 w' := by
  have S := heap_open h
  refine enter1 Tryz.func11 rfl Tryz.ntmps11 rfl Tryz.results11 ?_
  repeat' (first | refine assign_i_l S rfl rfl ?_ | refine move_p_l S rfl rfl ?_ | refine nilL ?_ | refine run_seq ?_ | refine run_region ?_ | refine move_i_l S rfl rfl ?_ | refine thenQ_n ?_)
  by_cases hs : 0 ≤ s ∧ s < H.locks.length
  · (refine callL (lock_yes (heap_shut S) s hs) rfl rfl ?_; rintro e w ⟨rfl, hb⟩; replace S := S.below hb; clear hb; refine ⟨_, rfl, ?_⟩)
    have hs' : s.toNat < H.locks.length := by omega
    repeat' (first | refine assign_i_l S rfl rfl ?_ | refine move_e_l S rfl rfl ?_ | refine nilL ?_ | refine run_seq ?_ | refine run_skip ?_ | refine run_region ?_ | refine onL rfl rfl ?_ | refine offL rfl rfl rfl rfl ?_ | refine move_i_l S rfl rfl ?_ | refine assign_b_l S rfl rfl ?_ | refine nilCheckE_l S rfl (by first | omega | decide | (simp; done) | (simp; omega)) rfl ?_ | refine fieldAddrE_l S rfl (by first | omega | decide | (simp; done) | (simp; omega)) rfl rfl ?_ | refine assign_e_l S rfl rfl ?_ | refine eqlE_l S rfl rfl (by omega) rfl ?_ | (refine lss_l S rfl rfl rfl ?_ ?_ <;> intro hcmp <;> try (exfalso; first | omega | exact hcmp (by decide) | exact absurd hcmp (by decide))) | refine move_b_l S rfl rfl ?_ | (refine geq_l S rfl rfl rfl ?_ ?_ <;> intro hcmp <;> try (exfalso; first | omega | exact hcmp (by decide) | exact absurd hcmp (by decide))) | refine pick_tb_l S rfl rfl rfl ?_ | refine pick_fb_l S rfl rfl rfl ?_ | refine loadE_i_l S rfl (by first | omega | decide | (simp; done) | (simp; omega)) rfl rfl rfl ?_ | (refine neq_l S rfl rfl rfl ?_ ?_ <;> intro hcmp <;> try (exfalso; first | omega | exact hcmp (by decide) | exact absurd hcmp (by decide))) | (refine storeE_i S rfl rfl (by omega) rfl ?_; clear S; intro w S) | refine run_block ?_ | refine run_ret ?_ | refine run_cond_true rfl ?_ | refine run_cond_false rfl ?_ | refine thenQ_n ?_ | refine thenQ_r ?_ | refine blockQ_n ?_ | refine blockQ_r ?_ | refine ret1_i rfl ?_)
    · have e : ownE H s who = 1 := by rw [ownE, if_neg (by simp [hs]), if_pos (.inl hcmp)]
      exact ⟨by rw [e], by rw [ownH, if_neg (by rw [e]; decide)]; exact heap_shut S, S.chg⟩
    · have e : ownE H s who = 1 := by rw [ownE, if_neg (by simp [hs]), if_pos (.inr hcmp)]
      exact ⟨by rw [e], by rw [ownH, if_neg (by rw [e]; decide)]; exact heap_shut S, S.chg⟩
    · have e : ownE H s who = 6 := by rw [ownE, if_neg (by simp [hs]), if_neg (by omega), if_pos hcmp]
      exact ⟨by rw [e], by rw [ownH, if_neg (by rw [e]; decide)]; exact heap_shut S, S.chg⟩
    · have e : ownE H s who = 0 := by rw [ownE, if_neg (by simp [hs]), if_neg (by omega), if_neg (by simpa using hcmp)]
      exact ⟨by rw [e], by rw [ownH, if_pos e]; exact heap_shut_lock1 _ _ hs' (by simp [gset]) (by simp [gset]; rfl) (fun i hi j => by simp [gset, hi]) S, S.chg⟩
  · (refine callL (lock_no (heap_shut S) s hs) rfl rfl ?_; rintro e w ⟨rfl, hb⟩; replace S := S.below hb; clear hb; refine ⟨_, rfl, ?_⟩)
    repeat' (first | refine move_p_l S rfl rfl ?_ | refine nilL ?_ | refine run_seq ?_ | refine run_region ?_ | refine assign_b_l S rfl rfl ?_ | refine assign_p_l S rfl rfl ?_ | refine eqlP_l S rfl rfl rfl ?_ | refine run_block ?_ | refine run_cond_true rfl ?_ | refine thenQ_n ?_)
    (refine callL (none_at (heap_shut S)) rfl rfl ?_; rintro e w ⟨rfl, hb⟩; replace S := S.below hb; clear hb; refine ⟨_, rfl, ?_⟩)
    repeat' (first | refine assign_i_l S rfl rfl ?_ | refine nilL ?_ | refine run_ret ?_ | refine thenQ_n ?_ | refine thenQ_r ?_ | refine blockQ_r ?_ | refine ret1_i rfl ?_)
    have e : ownE H s who = 5 := by rw [ownE, if_pos hs]
    exact ⟨by rw [e], by rw [ownH, if_neg (by rw [e]; decide)]; exact heap_shut S, S.chg⟩
theorem owned_at (s who : Int) : Calls Tryz.prog 95 #[.pointer (some ⟨b, 0, none⟩), .int .i64 s, .int .i64 who] w0 fun e w' =>
    e = .returned (.tuple #[if 0 ≤ s ∧ s < H.locks.length ∧ 0 ≤ who ∧ (H.locks.getD s.toNat (0, 0)).1 = who then ePtr ga s.toNat 2 0 else .pointer none, .int .i64 (if ¬ (0 ≤ s ∧ s < H.locks.length) then 5 else if who < 0 ∨ (H.locks.getD s.toNat (0, 0)).1 ≠ who then 7 else 0)]) ∧ Below w0.heap.size w0 w' := by
  have S := Sat.reads h
  refine enter2 Tryz.func95 rfl Tryz.ntmps95 rfl Tryz.results95 ?_
  repeat' (first | refine assign_p_l S rfl rfl ?_ | refine move_p_l S rfl rfl ?_ | refine nilL ?_ | refine run_seq ?_ | refine run_region ?_ | refine assign_i_l S rfl rfl ?_ | refine move_i_l S rfl rfl ?_ | refine thenQ_n ?_)
  by_cases hs : 0 ≤ s ∧ s < H.locks.length
  · (refine callL (lock_yes S.got s hs) rfl rfl ?_; rintro e w ⟨rfl, hb⟩; replace S := S.below hb; clear hb; refine ⟨_, rfl, ?_⟩)
    have hs' : s.toNat < H.locks.length := by omega
    repeat' (first | refine assign_p_l S rfl rfl ?_ | refine assign_e_l S rfl rfl ?_ | refine nilL ?_ | refine run_seq ?_ | refine run_skip ?_ | refine run_region ?_ | refine onL rfl rfl ?_ | refine offL rfl rfl rfl rfl ?_ | refine move_e_l S rfl rfl ?_ | refine assign_i_l S rfl rfl ?_ | refine move_i_l S rfl rfl ?_ | refine assign_b_l S rfl rfl ?_ | refine eqlE_l S rfl rfl (by omega) rfl ?_ | (refine lss_l S rfl rfl rfl ?_ ?_ <;> intro hcmp <;> try (exfalso; first | omega | exact hcmp (by decide) | exact absurd hcmp (by decide))) | refine move_b_l S rfl rfl ?_ | refine nilCheckE_l S rfl (by first | omega | decide | (simp; done) | (simp; omega)) rfl ?_ | refine fieldAddrE_l S rfl (by first | omega | decide | (simp; done) | (simp; omega)) rfl rfl ?_ | refine loadE_i_l S rfl (by first | omega | decide | (simp; done) | (simp; omega)) rfl rfl rfl ?_ | (refine neq_l S rfl rfl rfl ?_ ?_ <;> intro hcmp <;> try (exfalso; first | omega | exact hcmp (by decide) | exact absurd hcmp (by decide))) | refine pick_tb_l S rfl rfl rfl ?_ | refine pick_fb_l S rfl rfl rfl ?_ | refine run_block ?_ | refine run_ret ?_ | refine run_cond_true rfl ?_ | refine run_cond_false rfl ?_ | refine thenQ_n ?_ | refine thenQ_r ?_ | refine blockQ_n ?_ | refine blockQ_r ?_ | refine ret2_pi rfl rfl ?_ | refine ret2_ei rfl rfl ?_)
    · refine ⟨?_, S.chg.below⟩
      rw [if_neg (by omega), if_neg (by simp [hs]), if_pos (.inl hcmp)]
    · refine ⟨?_, S.chg.below⟩
      rw [if_neg (by omega), if_neg (by simp [hs]), if_pos (.inr hcmp)]
    · refine ⟨?_, S.chg.below⟩
      rw [if_pos (by omega), if_neg (by simp [hs]), if_neg (by omega)]
  · (refine callL (lock_no S.got s hs) rfl rfl ?_; rintro e w ⟨rfl, hb⟩; replace S := S.below hb; clear hb; refine ⟨_, rfl, ?_⟩)
    repeat' (first | refine assign_p_l S rfl rfl ?_ | refine move_p_l S rfl rfl ?_ | refine nilL ?_ | refine run_seq ?_ | refine run_region ?_ | refine assign_b_l S rfl rfl ?_ | refine eqlP_l S rfl rfl rfl ?_ | refine run_block ?_ | refine run_cond_true rfl ?_ | refine thenQ_n ?_)
    (refine callL (none_at S.got) rfl rfl ?_; rintro e w ⟨rfl, hb⟩; replace S := S.below hb; clear hb; refine ⟨_, rfl, ?_⟩)
    repeat' (first | refine assign_p_l S rfl rfl ?_ | refine nilL ?_ | refine assign_i_l S rfl rfl ?_ | refine run_ret ?_ | refine thenQ_n ?_ | refine thenQ_r ?_ | refine blockQ_r ?_ | refine ret2_pi rfl rfl ?_)
    refine ⟨?_, S.chg.below⟩
    rw [if_neg (by omega), if_pos hs]
def letE (H : HeapS) (s who : Int) : Int := if ¬ (0 ≤ s ∧ s < H.locks.length) then 5 else if who < 0 ∨ (H.locks.getD s.toNat (0, 0)).1 ≠ who then 7 else 0
def letH (H : HeapS) (s who : Int) : HeapS := if letE H s who = 0 then { H with locks := H.locks.set s.toNat (-1, (H.locks.getD s.toNat (0, 0)).2) } else H
theorem let_at (s who : Int) : Calls Tryz.prog 91 #[.pointer (some ⟨b, 0, none⟩), .int .i64 s, .int .i64 who] w0 fun e w' => e = .returned (.int .i64 (letE H s who)) ∧ HeapTo b ga va gc vc H (letH H s who) w0 w' := by
  have S := heap_open h
  refine enter1 Tryz.func91 rfl Tryz.ntmps91 rfl Tryz.results91 ?_
  repeat' (first | refine move_i_l S rfl rfl ?_ | refine assign_i_l S rfl rfl ?_ | refine move_p_l S rfl rfl ?_ | refine nilL ?_ | refine run_seq ?_ | refine run_region ?_ | refine thenQ_n ?_)
  (refine callL (owned_at (heap_shut S) s who) rfl rfl ?_; rintro e w ⟨rfl, hb⟩; replace S := S.below hb; clear hb; refine ⟨_, rfl, ?_⟩)
  by_cases hs : 0 ≤ s ∧ s < H.locks.length ∧ 0 ≤ who ∧ (H.locks.getD s.toNat (0, 0)).1 = who
  · have hs' : s.toNat < H.locks.length := by omega
    have e : letE H s who = 0 := by rw [letE, if_neg (by omega), if_neg (by omega)]
    rw [if_pos hs, if_neg (by omega), if_neg (by omega)]
    repeat' (first | refine move_i_l S rfl rfl ?_ | refine assign_i_l S rfl rfl ?_ | refine nilL ?_ | refine run_seq ?_ | refine run_region ?_ | refine move_e_l S rfl rfl ?_ | refine extract_e_l S rfl rfl rfl ?_ | refine extract_i_l S rfl rfl rfl ?_ | refine assign_e_l S rfl rfl ?_ | (refine eql_l S rfl rfl rfl ?_ ?_ <;> intro hcmp <;> try (exfalso; first | omega | exact hcmp (by decide) | exact absurd hcmp (by decide))) | refine nilCheckE_l S rfl (by first | omega | decide | (simp; done) | (simp; omega)) rfl ?_ | refine fieldAddrE_l S rfl (by first | omega | decide | (simp; done) | (simp; omega)) rfl rfl ?_ | (refine storeE_i S rfl rfl (by omega) rfl ?_; clear S; intro w S) | refine move_o_l S rfl rfl ?_ | refine run_ret ?_ | refine run_cond_true rfl ?_ | refine thenQ_n ?_ | refine ret1_i rfl ?_)
    exact ⟨by rw [e], by rw [letH, if_pos e]; exact heap_shut_lock1 _ _ hs' (by simp [gset]) (by simp [gset]; rfl) (fun i hi j => by simp [gset, hi]) S, S.chg⟩
  · rw [if_neg hs]
    obtain ⟨er, her⟩ : ∃ er, letE H s who = er := ⟨_, rfl⟩
    rw [show (if ¬ (0 ≤ s ∧ s < H.locks.length) then 5 else if who < 0 ∨ (H.locks.getD s.toNat (0, 0)).1 ≠ who then 7 else 0) = er from her]
    have hne : er ≠ 0 := by
      rw [← her, letE]
      split
      · decide
      · rw [if_pos (by omega)]; decide
    repeat' (first | refine move_i_l S rfl rfl ?_ | refine assign_i_l S rfl rfl ?_ | refine nilL ?_ | refine run_seq ?_ | refine run_skip ?_ | refine run_region ?_ | refine extract_p_l S rfl rfl rfl ?_ | refine extract_i_l S rfl rfl rfl ?_ | refine assign_p_l S rfl rfl ?_ | (refine eql_l S rfl rfl rfl ?_ ?_ <;> intro hcmp <;> try (exfalso; first | omega | exact hcmp (by decide) | exact absurd hcmp (by decide))) | refine move_o_l S rfl rfl ?_ | refine run_ret ?_ | refine run_cond_false rfl ?_ | refine thenQ_n ?_ | refine ret1_i rfl ?_)
    exact ⟨by rw [her], by rw [letH, if_neg (by rw [her]; exact hne)]; exact heap_shut S, S.chg⟩
def freeE (H : HeapS) (s who ver : Int) : Int := if letE H s who ≠ 0 then letE H s who else if ver < (H.locks.getD s.toNat (0, 0)).2 ∨ H.clock < ver then 1 else 0
def freeH (H : HeapS) (s who ver : Int) : HeapS := if freeE H s who ver = 0 then { H with locks := H.locks.set s.toNat (-1, ver) } else H
theorem free_at (s who ver : Int) : Calls Tryz.prog 90 #[.pointer (some ⟨b, 0, none⟩), .int .i64 s, .int .i64 who, .int .i64 ver] w0 fun e w' => e = .returned (.int .i64 (freeE H s who ver)) ∧ HeapTo b ga va gc vc H (freeH H s who ver) w0 w' := by
  have S := heap_open h
  refine enter1 Tryz.func90 rfl Tryz.ntmps90 rfl Tryz.results90 ?_
  repeat' (first | refine move_i_l S rfl rfl ?_ | refine assign_i_l S rfl rfl ?_ | refine move_p_l S rfl rfl ?_ | refine nilL ?_ | refine run_seq ?_ | refine run_region ?_ | refine thenQ_n ?_)
  (refine callL (owned_at (heap_shut S) s who) rfl rfl ?_; rintro e w ⟨rfl, hb⟩; replace S := S.below hb; clear hb; refine ⟨_, rfl, ?_⟩)
  by_cases hs : 0 ≤ s ∧ s < H.locks.length ∧ 0 ≤ who ∧ (H.locks.getD s.toNat (0, 0)).1 = who
  · have hs' : s.toNat < H.locks.length := by omega
    have e0 : letE H s who = 0 := by rw [letE, if_neg (by omega), if_neg (by omega)]
    rw [if_pos hs, if_neg (by omega), if_neg (by omega)]
    repeat' (first | refine move_i_l S rfl rfl ?_ | refine assign_i_l S rfl rfl ?_ | refine move_p_l S rfl rfl ?_ | refine nilL ?_ | refine run_seq ?_ | refine run_skip ?_ | refine run_region ?_ | refine onL rfl rfl ?_ | refine offL rfl rfl rfl rfl ?_ | refine move_e_l S rfl rfl ?_ | refine nilCheck_l S rfl rfl ?_ | refine nilCheckE_l S rfl (by first | omega | decide | (simp; done) | (simp; omega)) rfl ?_ | refine fieldAddr_l S rfl rfl rfl ?_ | refine fieldAddrE_l S rfl (by first | omega | decide | (simp; done) | (simp; omega)) rfl rfl ?_ | refine assign_b_l S rfl rfl ?_ | refine load_i_l S rfl rfl rfl rfl ?_ | refine loadE_i_l S rfl (by first | omega | decide | (simp; done) | (simp; omega)) rfl rfl rfl ?_ | refine extract_e_l S rfl rfl rfl ?_ | refine extract_i_l S rfl rfl rfl ?_ | refine assign_e_l S rfl rfl ?_ | (refine neq_l S rfl rfl rfl ?_ ?_ <;> intro hcmp <;> try (exfalso; first | omega | exact hcmp (by decide) | exact absurd hcmp (by decide))) | (refine lss_l S rfl rfl rfl ?_ ?_ <;> intro hcmp <;> try (exfalso; first | omega | exact hcmp (by decide) | exact absurd hcmp (by decide))) | refine move_b_l S rfl rfl ?_ | (refine gtr_l S rfl rfl rfl ?_ ?_ <;> intro hcmp <;> try (exfalso; first | omega | exact hcmp (by decide) | exact absurd hcmp (by decide))) | refine pick_tb_l S rfl rfl rfl ?_ | refine pick_fb_l S rfl rfl rfl ?_ | (apply build2_l S; (· repeat (first | exact mapN | apply mapC_i rfl | apply mapC_b rfl | apply mapC_p rfl | apply mapC_s rfl | apply mapC_e rfl | apply mapC_a rfl | apply mapC_o rfl)); (· rfl); (· rfl)) | (refine storeEN_l S rfl rfl ⟨rfl, rfl⟩ (by omega) rfl rfl ?_; clear S; intro w S) | refine move_o_l S rfl rfl ?_ | refine run_block ?_ | refine run_ret ?_ | refine run_cond_true rfl ?_ | refine run_cond_false rfl ?_ | refine thenQ_n ?_ | refine thenQ_r ?_ | refine blockQ_n ?_ | refine blockQ_r ?_ | refine ret1_i rfl ?_)
    · have e : freeE H s who ver = 1 := by rw [freeE, if_neg (by simp [e0]), if_pos (.inl hcmp)]
      exact ⟨by rw [e], by rw [freeH, if_neg (by rw [e]; decide)]; exact heap_shut S, S.chg⟩
    · have e : freeE H s who ver = 1 := by rw [freeE, if_neg (by simp [e0]), if_pos (.inr hcmp)]
      exact ⟨by rw [e], by rw [freeH, if_neg (by rw [e]; decide)]; exact heap_shut S, S.chg⟩
    · have e : freeE H s who ver = 0 := by rw [freeE, if_neg (by simp [e0]), if_neg (by omega)]
      exact ⟨by rw [e], by rw [freeH, if_pos e]; exact heap_shut_lock1 _ _ hs' (by simp [gset, gsetN]) (by simp [gset, gsetN]) (fun i hi j => by simp [gset, gsetN, hi]) S, S.chg⟩
  · rw [if_neg hs]
    obtain ⟨er, her⟩ : ∃ er, letE H s who = er := ⟨_, rfl⟩
    rw [show (if ¬ (0 ≤ s ∧ s < H.locks.length) then 5 else if who < 0 ∨ (H.locks.getD s.toNat (0, 0)).1 ≠ who then 7 else 0) = er from her]
    have hne : er ≠ 0 := by
      rw [← her, letE]
      split
      · decide
      · rw [if_pos (by omega)]; decide
    repeat' (first | refine move_i_l S rfl rfl ?_ | refine assign_i_l S rfl rfl ?_ | refine nilL ?_ | refine run_seq ?_ | refine run_region ?_ | refine assign_b_l S rfl rfl ?_ | refine extract_p_l S rfl rfl rfl ?_ | refine extract_i_l S rfl rfl rfl ?_ | refine assign_p_l S rfl rfl ?_ | (refine neq_l S rfl rfl rfl ?_ ?_ <;> intro hcmp <;> try (exfalso; first | omega | exact hcmp (by decide) | exact absurd hcmp (by decide))) | refine move_o_l S rfl rfl ?_ | refine run_block ?_ | refine run_ret ?_ | refine run_cond_true rfl ?_ | refine thenQ_n ?_ | refine thenQ_r ?_ | refine blockQ_r ?_ | refine ret1_i rfl ?_)
    have e : freeE H s who ver = er := by rw [freeE, if_pos (by rw [her]; exact hne), her]
    exact ⟨by rw [e], by rw [freeH, if_neg (by rw [e]; exact hne)]; exact heap_shut S, S.chg⟩
end
end Go.Proofs.YtpiodhdbdlfnhaaGreatDoor
