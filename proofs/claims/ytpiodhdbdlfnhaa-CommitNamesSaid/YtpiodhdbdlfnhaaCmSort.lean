/- slices.Compact of one's own row of ints. -/
import Derived.Test.YtpiodhdbdlfnhaaCmC
import Derived.Test.YtpiodhdbdlfnhaaShSort
import Derived.Test.YtpiodhdbdlfnhaaShComp
namespace Go.Proofs.Ytpiodhdbdlfnhaa
open Go.RowKit Go.Lib
set_option linter.unusedVariables false
theorem compact_len (zs : List Int) : (Lib.compact zs).length ≤ zs.length := by
  unfold Lib.compact Lib.compactUpTo
  rw [List.length_map]
  exact Nat.le_trans (List.length_filter_le _ _) (by simp)
theorem mem_compact (zs : List Int) (x : Int) : x ∈ Lib.compact zs ↔ x ∈ zs := by
  unfold Lib.compact Lib.compactUpTo
  simp only [List.mem_map, List.mem_filter, List.mem_range, toArr_get]
  constructor
  · rintro ⟨j, ⟨h1, _⟩, rfl⟩
    rw [List.getD_eq_getElem?_getD, List.getElem?_eq_getElem h1]
    exact List.getElem_mem h1
  · intro hx
    have : ∃ j, j < zs.length ∧ zs.getD j 0 = x := by
      obtain ⟨j, hj, e⟩ := List.getElem_of_mem hx
      exact ⟨j, hj, by rw [List.getD_eq_getElem?_getD, List.getElem?_eq_getElem hj]; exact e⟩
    obtain ⟨j, hj⟩ := this
    have key : ∀ j, j < zs.length → zs.getD j 0 = x → ∃ a, (a < zs.length ∧ Lib.keeps zs.toArray a = true) ∧ zs.getD a 0 = x := by
      intro j
      induction j with
      | zero => intro h1 h2; exact ⟨0, ⟨h1, by simp [Lib.keeps]⟩, h2⟩
      | succ j ih =>
        intro h1 h2
        by_cases e : zs.getD j 0 = x
        · exact ih (by omega) e
        · refine ⟨j + 1, ⟨h1, Lib.keeps_pos ?_⟩, h2⟩
          rw [toArr_get, toArr_get, h2, Nat.add_sub_cancel]
          exact fun e' => e e'.symm
    exact key j hj.1 hj.2
theorem compact_lt (zs : List Int) (h : zs.Pairwise (· ≤ ·)) : (Lib.compact zs).Pairwise (· < ·) := by
  unfold Lib.compact Lib.compactUpTo
  rw [List.pairwise_map]
  have hr : (List.range zs.length).Pairwise (· < ·) := List.pairwise_lt_range
  have hg : ∀ i j, i ≤ j → j < zs.length → zs.getD i 0 ≤ zs.getD j 0 := by
    intro i j hij hj
    rw [List.getD_eq_getElem?_getD, List.getD_eq_getElem?_getD, List.getElem?_eq_getElem (by omega), List.getElem?_eq_getElem hj]
    rcases Nat.lt_or_ge i j with e | e
    · exact List.pairwise_iff_getElem.1 h i j (by omega) hj e
    · have : i = j := by omega
      subst this; exact Int.le_refl _
  have hs := hr.filter (fun j => Lib.keeps zs.toArray j)
  refine hs.imp_of_mem fun {a b} ha hb hab => ?_
  simp only [List.mem_filter, List.mem_range] at ha hb
  rw [toArr_get, toArr_get]
  have hk := hb.2
  simp only [Lib.keeps, decide_eq_true_eq, toArr_get] at hk
  have h1 := hg a (b - 1) (by omega) (by omega)
  have h2 := hg (b - 1) b (by omega) hb.1
  rcases hk with e | e
  · omega
  · omega
def uniqL (zs : List Int) : List Int := Lib.compact (sortL zs)
theorem uniqL_lt (zs : List Int) : (uniqL zs).Pairwise (· < ·) := compact_lt _ (sortL_le zs)
theorem mem_uniqL (zs : List Int) (x : Int) : x ∈ uniqL zs ↔ x ∈ zs := (mem_compact _ _).trans (sortL_perm zs).mem_iff
theorem uniqL_len (zs : List Int) : (uniqL zs).length ≤ zs.length := Nat.le_trans (compact_len _) (by rw [(sortL_perm zs).length_eq]; exact Nat.le_refl _)
theorem compact_at {w : World} {a : Option Addr} {e cap : Nat} {zs : List Int} (h : RowOk w a zs.length cap e 1 (gL encI 0 zs)) : Calls Try.prog 82 #[.slice a zs.length cap] w fun r w' =>
    r = .returned (.slice a (Lib.compact zs).length cap) ∧ RowOk w' a (Lib.compact zs).length cap e 1 (gL encI 0 (Lib.compact zs)) ∧ Chg (fun k => ∃ x, a = some x ∧ x.block = k) w w' := by
  have hl := compact_len zs
  have h' := h
  obtain ⟨h0, ⟨rfl, hz, _⟩ | ⟨b, cur, rfl, h1, h2, h3, h4, h5⟩⟩ := h'
  · have : zs = [] := List.eq_nil_of_length_eq_zero hz
    subst this
    refine (Try.slices_Compact_int_empty none cap w).mono fun r w' hr => ?_
    obtain ⟨rfl, rfl⟩ := hr
    exact ⟨rfl, h, Chg.refl _ _⟩
  · refine (Try.slices_Compact_int b 0 cap zs w h.held (by have := h.sl.small; omega) h2).mono fun r w' hr => ?_
    obtain ⟨rfl, q, rfl⟩ := hr
    have hp := h.put (Lib.compact zs ++ List.replicate (zs.length - (Lib.compact zs).length) 0) (Lib.compact zs).length (by simp) (by simp; omega) q #[]
    rw [Go.Sort.grow_empty] at hp
    refine ⟨rfl, RowOk.congr hp.1 fun i hi j hj => ?_, hp.2.mono fun k _ e => ⟨_, rfl, e.symm⟩⟩
    unfold gL
    rw [List.getD_eq_getElem?_getD, List.getD_eq_getElem?_getD, List.getElem?_append_left hi]
end Go.Proofs.Ytpiodhdbdlfnhaa
