/- witness: seesawref26.Copy. -/
import Derived.Test.YtjnlcfkdackghaaWsO
import Derived.Test.YtjnlcfkdackghaaWsL
namespace Go.Proofs.Ytjnlcfkdackghaa
open Go.RowKit Go.Lib
set_option linter.unusedVariables false
set_option linter.unusedSimpArgs false
set_option maxHeartbeats 16000000
set_option maxRecDepth 100000
instance plainAt : Plain encAt := ⟨fun z j => by unfold encAt; split <;> rfl⟩
instance plainPr : Plain encPr := ⟨fun z j => by unfold encPr; split <;> rfl⟩
/-- The pairs of attempts that lie in a row of one's own. -/
def pairsR (m : List AtS) : Res where
  foot k := ∃ z ∈ m, (atR z).foot k
  ro := true
  holds w := ∀ z ∈ m, (atR z).holds w
  lt w k h e := let ⟨z, hz, hk⟩ := e; (atR z).lt w k (h z hz) hk
  loc w w' h e := fun z hz => (atR z).loc w w' (h z hz) fun k hk => e k ⟨z, hz, hk⟩
theorem Sat.pairs {S : Nat → Prop} {w₀ w : World} {L : List Res} {m : List AtS} {z : AtS} (h : Sat S w₀ w (atR z :: pairsR m :: L)) : Sat S w₀ w (pairsR (m ++ [z]) :: L) := by
  have h2 := h.andR
  have h3 : (atR z).holds w ∧ (pairsR m).holds w := h2.got1
  refine h2.turn1 (r' := pairsR (m ++ [z])) ?_ rfl ?_
  · intro y hy
    rcases List.mem_append.1 hy with hy | hy
    · exact h3.2 y hy
    · obtain rfl : y = z := by simpa using hy
      exact h3.1
  · rintro k ⟨y, hy, hk⟩
    rcases List.mem_append.1 hy with hy | hy
    · exact .inr ⟨y, hy, hk⟩
    · obtain rfl : y = z := by simpa using hy
      exact .inl hk
theorem take_snocA {l : List AtS} {q : Nat} (h : q < l.length) : l.take (q + 1) = l.take q ++ [l.getD q atD] := by
  rw [List.take_succ_eq_append_getElem h, List.getD_eq_getElem?_getD, List.getElem?_eq_getElem h]
  rfl
theorem wcopy_at {a : Option Addr} {cap : Nat} {l : List AtS} {w0 : World} (hl : (hisR a cap l).holds w0) (hll : l.length ≤ 1000) (hrw : ∀ i, i < l.length → (l.getD i atD).rs.length ≤ 100 ∧ (l.getD i atD).ws.length ≤ 100) :
    Calls Try.prog 14 #[.slice a l.length cap] w0 fun e w' => ∃ a' cap' m, e = .returned (.slice a' m.length cap') ∧ RelW l m ∧ (∀ k, (pairsR m).foot k → w0.heap.size ≤ k) ∧ Sat (fun _ => False) w0 w' [rowL a' cap' 26 9 encAt atD m, pairsR m] := by
  have S := (Sat.start (fun _ => False) w0).ro (r := hisR a cap l) hl rfl rfl
  refine enter1 Try.func14 rfl Try.ntmps14 rfl Try.results14 ?_
  repeat' (first | refine assign_s_l S rfl rfl ?_ | refine nilL ?_ | refine run_seq ?_ | refine run_region ?_ | refine assign_i_l S rfl rfl ?_ | refine run_block ?_ | refine thenQ_n ?_)
  replace S := (S.ro (r := pairsR []) (fun z hz => by cases hz) rfl rfl).nilRow 26 9 encAt atD (by decide)
  refine run_while [5, 6, 7, 8, 9, 10, 11, 12, 13, 14, 15, 16, 17, 18, 19, 20, 21, 22, 23, 24, 25, 26, 27, 28, 29] (fun (s : Nat × Option Addr × Nat × List AtS) t => upd (upd t 4 (.int .i64 (s.1 : Nat))) 3 (.slice s.2.1 s.2.2.2.length s.2.2.1)) (fun s w' => s.1 ≤ l.length ∧ RelW (l.take s.1) s.2.2.2 ∧ (∀ k, (pairsR s.2.2.2).foot k → w0.heap.size ≤ k) ∧ Sat (fun _ => False) w0 w' [rowL s.2.1 s.2.2.1 26 9 encAt atD s.2.2.2, pairsR s.2.2.2, hisR a cap l]) (fun s => l.length - s.1) (0, none, 0, []) ?_ ?_ ?_
  · (repeat (first | exact agree_refl | refine agree_r rfl ?_ | refine agree_l rfl ?_ | refine agree_hv rfl ?_))
  · exact ⟨Nat.zero_le _, by show RelW (l.take 0) []; rw [List.take_zero]; exact .nil, fun k ⟨z, hz, _⟩ => (by cases hz), S⟩
  clear S
  rintro ⟨k, a2, c2, m⟩ j w ⟨hk, hR, hF, S⟩
  replace hk : k ≤ l.length := hk
  replace hR : RelW (l.take k) m := hR
  replace hF : ∀ k, (pairsR m).foot k → w0.heap.size ≤ k := hF
  replace S : Sat (fun _ => False) w0 w [rowL a2 c2 26 9 encAt atD m, pairsR m, hisR a cap l] := S
  have hml : m.length = k := by rw [hR.length, List.length_take]; omega
  dsimp only
  by_cases hkl : k < l.length
  · obtain ⟨hr1, hw1⟩ := hrw k hkl
    repeat' (first | refine move_s_l S rfl rfl ?_ | refine fieldAddr_l S rfl rfl rfl ?_ | refine nilL ?_ | refine run_seq ?_ | refine run_skip ?_ | refine run_region ?_ | refine move_i_l S rfl rfl ?_ | (refine append0_l S rfl rfl (by omega) rfl ?_; clear S; intro a' cap' w S) | refine loadN_l S rfl rfl rfl ?_ | refine loadEN_l S rfl (by first | omega | decide | (simp; done) | (simp; omega)) rfl rfl ?_ | (refine buildSliceN_l S (vs := []) rfl rfl rfl rfl rfl rfl ?_; clear S; intro b w S) | (refine store_s S rfl rfl rfl ?_; clear S; intro w S) | refine len_l S rfl rfl ?_ | (refine lss_l S rfl rfl rfl ?_ ?_ <;> intro hcmp <;> try (exfalso; first | omega | exact hcmp (by decide) | exact absurd hcmp (by decide))) | refine indexAddr_l S rfl rfl (idx_cast _) (by first | omega | decide | (simp; done) | (simp; omega)) rfl ?_ | (refine allocZ_l S rfl rfl ?_; clear S; intro b w S) | (refine storeN_l S rfl rfl ⟨rfl, rfl⟩ rfl ?_; clear S; intro w S) | (apply buildSliceN_l S; (· repeat (first | exact vsN | apply vsC rfl)); (· rfl); (· rfl); (· rfl); (· rfl); (· rfl); clear S; intro b w S) | refine load_o_l S rfl rfl rfl rfl ?_ | refine run_block ?_ | refine run_cond_true rfl ?_ | refine thenQ_n ?_)
    obtain ⟨aw, haw⟩ : ∃ x, x = a' := ⟨_, rfl⟩
    subst haw
    obtain ⟨cw, hcw⟩ : ∃ x, x = cap' := ⟨_, rfl⟩
    subst hcw
    obtain ⟨ar, har⟩ : ∃ x, x = a' := ⟨_, rfl⟩
    subst har
    obtain ⟨cr, hcr⟩ : ∃ x, x = cap' := ⟨_, rfl⟩
    subst hcr
    obtain ⟨z, hz⟩ : ∃ z : AtS, z = ⟨(l.getD k atD).thread, (l.getD k atD).tx, (l.getD k atD).frm, (l.getD k atD).to, (l.getD k atD).rv, (l.getD k atD).wv, (l.getD k atD).com, ar, cr, (l.getD k atD).rs, aw, cw, (l.getD k atD).ws⟩ := ⟨_, rfl⟩
    refine append1_l (enc := encAt) (dd := atD) (z := z) (zs := m) S rfl rfl (fun j hj => by
      subst hz
      rcases lt9 hj with rfl | rfl | rfl | rfl | rfl | rfl | rfl | rfl | rfl <;> rfl) (by omega) rfl ?_
    clear S
    intro a' cap' w S
    repeat' (first | refine assign_s_l S rfl rfl ?_ | refine nilL ?_ | refine run_region ?_ | refine move_i_l S rfl rfl ?_ | refine assign_i_l S rfl rfl ?_ | refine add_l S rfl rfl (wrap_in (by omega)) rfl ?_ | refine thenQ_n ?_ | refine blockQ_n ?_)
    have S2 := S.sub (L' := [rowL aw cw 23 2 encPr (0, 0) (l.getD k atD).ws, rowL ar cr 23 2 encPr (0, 0) (l.getD k atD).rs, rowL a' cap' 26 9 encAt atD (m ++ [z]), pairsR m, hisR a cap l])
    have hwf : ∀ k', (rowL aw cw 23 2 encPr (0, 0) (l.getD k atD).ws).foot k' → w0.heap.size ≤ k' := fun k' e => Nat.le_of_not_lt fun h => S2.own (rowL aw cw 23 2 encPr (0, 0) (l.getD k atD).ws) (by simp) rfl k' e h
    have hrf : ∀ k', (rowL ar cr 23 2 encPr (0, 0) (l.getD k atD).rs).foot k' → w0.heap.size ≤ k' := fun k' e => Nat.le_of_not_lt fun h => S2.own (rowL ar cr 23 2 encPr (0, 0) (l.getD k atD).rs) (by simp) rfl k' e h
    have hR2 : RelW (l.take (k + 1)) (m ++ [z]) := by
      rw [take_snocA hkl]
      refine hR.append (.cons ?_ .nil)
      subst hz
      exact ⟨⟨rfl, rfl, rfl, rfl, rfl, rfl⟩, (W1.refl (l.getD k atD)).2⟩
    have hF2 : ∀ k', (pairsR (m ++ [z])).foot k' → w0.heap.size ≤ k' := by
      rintro k' ⟨y, hy, hk'⟩
      rcases List.mem_append.1 hy with hy | hy
      · exact hF k' ⟨y, hy, hk'⟩
      · obtain rfl : y = z := by simpa using hy
        subst hz
        rcases hk' with ⟨_, x, hx, e⟩ | ⟨_, x, hx, e⟩
        · exact hrf k' ⟨x, hx, e⟩
        · exact hwf k' ⟨x, hx, e⟩
    have S3 : Sat (fun _ => False) w0 w (atR z :: rowL a' cap' 26 9 encAt atD (m ++ [z]) :: pairsR m :: [hisR a cap l]) := by
      subst hz
      exact S2.freeze.sw.freeze.andR
    have S4 : Sat (fun _ => False) w0 w [rowL a' cap' 26 9 encAt atD (m ++ [z]), pairsR (m ++ [z]), hisR a cap l] := (S3.perm ((List.Perm.swap _ _ _).cons _)).pairs.sw
    clear S S2 S3
    refine ⟨(k + 1, a', cap', m ++ [z]), ?_, ⟨by show k + 1 ≤ _; omega, hR2, hF2, S4⟩, by show l.length - (k + 1) < l.length - k; omega⟩
    dsimp only
    rw [Int.natCast_add k 1]
    (repeat (first | exact agree_refl | refine agree_r rfl ?_ | refine agree_l rfl ?_ | refine agree_hv rfl ?_))
  · obtain rfl : k = l.length := by omega
    rw [List.take_length] at hR
    repeat' (first | refine assign_s_l S rfl rfl ?_ | refine move_s_l S rfl rfl ?_ | refine nilL ?_ | refine run_seq ?_ | refine run_region ?_ | refine move_i_l S rfl rfl ?_ | refine len_l S rfl rfl ?_ | (refine lss_l S rfl rfl rfl ?_ ?_ <;> intro hcmp <;> try (exfalso; first | omega | exact hcmp (by decide) | exact absurd hcmp (by decide))) | refine run_ret ?_ | refine run_exit ?_ | refine run_cond_false rfl ?_ | refine thenQ_n ?_ | refine thenQ_e ?_ | refine blockQ_s rfl ?_ | refine ret1_s rfl ?_)
    exact ⟨a2, c2, m, rfl, hR, hF, S.sub⟩
end Go.Proofs.Ytjnlcfkdackghaa
