/- Plain laws of reading number by number. -/
import Derived.Test.YtbdgmpjaibejnaaVarP2
namespace Go.Proofs.Ytbdgmpjaibejnaa
/-- The place behind the number that stands at p. -/
def adv (l : List UInt8) (p : Nat) : Option Nat := if (getB (l.drop p)).2.2 = 0 then some (p + (getB (l.drop p)).2.1) else none
/-- The place behind so many numbers at most. -/
def runTo (l : List UInt8) : Nat → Nat → Nat
  | 0, p => p
  | i + 1, p => match adv l p with
    | none => p
    | some q => runTo l i q
theorem runTo_some (l : List UInt8) (i p q : Nat) (h : adv l p = some q) : runTo l (i + 1) p = runTo l i q := by rw [runTo, h]
theorem runTo_none (l : List UInt8) (i p : Nat) (h : adv l p = none) : runTo l i p = p := by
  cases i with
  | zero => rfl
  | succ i => rw [runTo, h]
theorem adv_of (l : List UInt8) (p x size e : Nat) (h : getB (l.drop p) = (x, size, e)) :
    (e = 0 → adv l p = some (p + size) ∧ x < 18446744073709551616 ∧ p + size ≤ l.length ∧ l.take (p + size) = l.take p ++ putB x) ∧ (e ≠ 0 → adv l p = none) := by
  constructor
  · intro he
    have h1 : adv l p = some (p + size) := by rw [adv, h, if_pos he]
    rcases getB_back _ _ _ _ h with ⟨_, h2, h3, h4, h5, h6⟩ | ⟨_, _, h4⟩
    · rw [List.length_drop] at h5
      refine ⟨h1, h2, by omega, ?_⟩
      rw [List.take_add, h6]
    · omega
  · intro he
    rw [adv, h, if_neg he]
end Go.Proofs.Ytbdgmpjaibejnaa
