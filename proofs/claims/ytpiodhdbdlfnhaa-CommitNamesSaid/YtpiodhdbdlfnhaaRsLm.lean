/- readset: plain laws. -/
import Derived.Test.YtpiodhdbdlfnhaaRsE
namespace Go.Proofs.Ytpiodhdbdlfnhaa
open Go.RowKit Go.Lib
set_option linter.unusedVariables false
theorem i64l_open {H : Type} {enc : TypeId × Value → H} {w : World} {a : Option Addr} {len cap : Nat} {d : DataW H} {p : List MemPlace} (h : DataW.Trod enc Try.prog w 0 (fun _ => true) true 24 (.slice a len cap) d p) :
    ∃ zs : List Int, zs.length = len ∧ SlOk w a len cap 1 (gL encI 0 zs) ∧ ∀ z ∈ zs, (Lit.int .i64 z).wf = true := ints_sl 24 3 Try.underlying24 (by kernel_rfl) Try.underlying3 h
theorem madeH_nil_has (n : Int) : hasB 32 (madeH []) n = false := by
  unfold hasB
  have : (madeH []).getD n.toNat false = false := by
    show (List.replicate 32 false).getD n.toNat false = false
    rw [List.getD_eq_getElem?_getD, List.getElem?_replicate]; split <;> rfl
  rw [this]; simp
theorem upto_nil : upto 32 (madeH []) 32 = [] := by
  unfold upto
  rw [List.filter_eq_nil_iff]
  intro j _
  simp [madeH_nil_has]
theorem madeH_snoc (l : List Int) (m : Int) : madeH (l ++ [m]) = addH 32 (madeH l) m := by simp [madeH]
theorem addH_len (hs : List Bool) (m : Int) : (addH 32 hs m).length = hs.length := by unfold addH; split <;> simp
theorem addH_has {hs : List Bool} (hl : hs.length = 32) (m n : Int) : hasB 32 (addH 32 hs m) n = (hasB 32 hs n || (decide (n = m) && decide (0 ≤ m) && decide (m < 32))) := by
  unfold addH
  by_cases c : m < 0 ∨ 32 ≤ m
  · rw [if_pos c]
    have : (decide (0 ≤ m) && decide (m < 32)) = false := by
      rw [← Bool.not_eq_true]; simp; omega
    rw [Bool.and_assoc, this]; simp
  · rw [if_neg c]
    unfold hasB
    by_cases e : n = m
    · subst e
      have h1 : n.toNat < hs.length := by omega
      have h2 : (hs.set n.toNat true).getD n.toNat false = true := by
        rw [List.getD_eq_getElem?_getD, List.getElem?_set]; simp [h1]
      rw [h2, decide_eq_true (show 0 ≤ n by omega), decide_eq_true (show n < 32 by omega)]
      simp
    · rw [decide_eq_false e]
      by_cases c2 : 0 ≤ n
      · have h2 : (hs.set m.toNat true).getD n.toNat false = hs.getD n.toNat false := by
          rw [List.getD_eq_getElem?_getD, List.getD_eq_getElem?_getD, List.getElem?_set, if_neg (by omega)]
        rw [h2]; simp
      · rw [decide_eq_false c2]; simp
theorem wakes_mono {rv : Int} {hs hs' : List Bool} {os vs : List Int} (h : ∀ n : Int, hasB 32 hs n = true → hasB 32 hs' n = true) (hw : wakesB rv 32 hs os vs = true) : wakesB rv 32 hs' os vs = true := by
  unfold wakesB at *
  rw [List.any_eq_true] at *
  obtain ⟨x, hx, hw⟩ := hw
  refine ⟨x, ?_, hw⟩
  unfold upto at *
  rw [List.mem_filter] at *
  exact ⟨hx.1, h _ hx.2⟩
theorem any_take_succ {p : Nat → Bool} {l : List Nat} {q : Nat} (hq : q < l.length) : (l.take (q + 1)).any p = ((l.take q).any p || p (l.getD q 0)) := by
  rw [List.take_add_one, List.any_append, List.getElem?_eq_getElem hq, List.getD_eq_getElem?_getD, List.getElem?_eq_getElem hq]
  simp
theorem castD (U : List Nat) (i : Nat) : (U.map (fun (k : Nat) => (k : Int))).getD i 0 = ((U.getD i 0 : Nat) : Int) := by
  rw [List.getD_eq_getElem?_getD, List.getD_eq_getElem?_getD, List.getElem?_map]
  cases U[i]? <;> rfl
theorem getD_in {l : List Int} {i : Nat} (h : i < l.length) (d d' : Int) : l.getD i d = l.getD i d' := by
  simp [List.getD_eq_getElem?_getD, List.getElem?_eq_getElem h]
theorem getD_out {l : List Int} {i : Nat} (h : ¬ i < l.length) (d : Int) : l.getD i d = d := by
  rw [List.getD_eq_getElem?_getD, List.getElem?_eq_none (by omega)]; rfl
end Go.Proofs.Ytpiodhdbdlfnhaa
