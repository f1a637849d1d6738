/- witness: slices.Clone of numbers; memory behind writes. -/
import Derived.Test.YtciehimnhnbipaaWsD
namespace Go.Proofs.Ytciehimnhnbipaa
open Go.RowKit Go.Lib
set_option linter.unusedVariables false
set_option maxHeartbeats 8000000
theorem wclone_at (a : Option Addr) (cap : Nat) (zs : List Int) (hb : zs.length ≤ 1000000) (w0 : World) (h : SlOk w0 a zs.length cap 1 (gL encI 0 zs)) :
    Calls Try.prog 26 #[.slice a zs.length cap] w0 fun e w' => ∃ v, e = .returned v ∧ NewRow w0 w' 2 1 encI 0 zs v ∧ Below w0.heap.size w0 w' := by
  have S := Sat.reads (r := slL a cap 1 encI 0 zs) h
  refine enter1 Try.func26 rfl Try.ntmps26 rfl Try.results26 ?_
  repeat' (first | refine assign_s_l S rfl rfl ?_ | refine move_s_l S rfl rfl ?_ | (refine eqlS_l S rfl rfl rfl ?_ ?_ <;> intro hcmp <;> try (exfalso; simp at hcmp; done)) | refine nilL ?_ | refine run_seq ?_ | refine run_skip ?_ | refine run_region ?_ | (refine buildSliceN_l S (vs := []) rfl rfl rfl rfl rfl rfl ?_; clear S; intro b w S) | (refine append_l S rfl rfl (by omega) rfl ?_; clear S; intro a' cap' w S) | (refine append0_l S rfl rfl (by omega) rfl ?_; clear S; intro a' cap' w S) | (refine append1_i S rfl rfl rfl (by omega) rfl ?_; clear S; intro a' cap' w S) | (refine append2_i S rfl rfl rfl rfl (by omega) rfl ?_; clear S; intro a' cap' w S) | (refine appendPre_i S rfl rfl (by omega) (by omega) rfl ?_; clear S; intro a' cap' w S) | (refine appendSuf_i S rfl rfl (by omega) (by omega) rfl ?_; clear S; intro a' cap' w S) | refine run_block ?_ | refine run_ret ?_ | refine run_exit ?_ | refine run_cond_true rfl ?_ | refine run_cond_false rfl ?_ | refine thenQ_n ?_ | refine thenQ_r ?_ | refine thenQ_e ?_ | refine blockQ_n ?_ | refine blockQ_r ?_ | refine blockQ_s rfl ?_ | refine blockQ_o rfl ?_ | refine ret1_i rfl ?_ | refine ret1_b rfl ?_ | refine ret1_p rfl ?_ | refine ret1_s rfl ?_ | refine ret1_e rfl ?_ | refine ret1_a rfl ?_ | refine ret1_o rfl ?_ | refine ret1n_i rfl ?_ | refine ret1n_b rfl ?_ | refine ret1n_p rfl ?_ | refine ret1n_s rfl ?_ | refine ret1n_o rfl ?_)
  · have hz : zs = [] := List.eq_nil_of_length_eq_zero (by have := h.2.1; have := h.2.2.2.1 hcmp; omega)
    subst hz
    exact ⟨_, rfl, NewRow.nil (by decide), S.chg.below⟩
  · exact ⟨_, rfl, S.newRow, S.chg.below⟩
/-- Memory behind writes. -/
def wrtM (m : List Int) (ws : List (Int × Int)) : List Int := ws.foldl (fun m p => m.set p.1.toNat p.2) m
theorem wrtM_len (m : List Int) (ws : List (Int × Int)) : (wrtM m ws).length = m.length := by
  induction ws generalizing m with
  | nil => rfl
  | cons p ws ih => show (wrtM (m.set p.1.toNat p.2) ws).length = _; rw [ih, List.length_set]
/-- A row of one's own is only read from now on. -/
theorem Sat.freeze {S : Nat → Prop} {w₀ w : World} {L : List Res} {α : Type} {a : Option Addr} {cap e sz : Nat} {enc : α → Nat → Value} {d : α} {zs : List α} (h : Sat S w₀ w (rowL a cap e sz enc d zs :: L)) : Sat S w₀ w (slL a cap sz enc d zs :: L) := by
  have hs := List.pairwise_cons.1 h.sep
  refine ⟨h.chg, fun x hx => ?_, List.pairwise_cons.2 ⟨fun x hx => ?_, hs.2⟩, fun x hx => ?_⟩
  · rcases List.mem_cons.1 hx with rfl | hx
    · exact (show RowOk w a zs.length cap e sz (gL enc d zs) from h.got1).sl
    · exact h.all x (by simp [hx])
  · rcases hs.1 x hx with ⟨h1, _⟩ | h2
    · cases h1
    · exact .inr fun k e1 e2 => h2 k (by obtain ⟨_, y, hy, hk⟩ := e1; exact ⟨y, hy, hk⟩) e2
  · rcases List.mem_cons.1 hx with rfl | hx
    · intro h0; cases h0
    · exact h.own x (by simp [hx])
/-- What is only read may be named twice. -/
theorem Sat.dup {S : Nat → Prop} {w₀ w : World} {L : List Res} {r : Res} (h : Sat S w₀ w (r :: L)) (hr : r.ro = true) : Sat S w₀ w (r :: r :: L) := by
  have hs := List.pairwise_cons.1 h.sep
  refine ⟨h.chg, fun x hx => ?_, List.pairwise_cons.2 ⟨fun x hx => ?_, h.sep⟩, fun x hx => ?_⟩
  · rcases List.mem_cons.1 hx with rfl | hx
    · exact h.got1
    · exact h.all x hx
  · rcases List.mem_cons.1 hx with rfl | hx
    · exact .inl ⟨hr, hr⟩
    · exact hs.1 x hx
  · rcases List.mem_cons.1 hx with rfl | hx
    · exact h.own _ (List.mem_cons_self ..)
    · exact h.own x hx
end Go.Proofs.Ytciehimnhnbipaa
