/- witness: right, its walk. -/
import Derived.Test.YtciehimnhnbipaaWsO
namespace Go.Proofs.Ytciehimnhnbipaa
open Go.RowKit Go.Lib
set_option linter.unusedVariables false
set_option linter.unusedSimpArgs false
set_option maxHeartbeats 16000000
set_option maxRecDepth 100000
abbrev metR (b : Nat) (l : List AtS) (o : List Int) (q : Nat) : Res := row (some ⟨b, 0, none⟩) l.length l.length 4 1 (fun i _ => .bool (decide ((i : Int) ∈ o.take q)))
theorem Sat.front2 {S : Nat → Prop} {w₀ w : World} {L : List Res} {a b x : Res} (h : Sat S w₀ w (a :: b :: x :: L)) : Sat S w₀ w (x :: a :: b :: L) := h.to2.to2
theorem met_step {o : List Int} {q : Nat} (hql : q < o.length) (hu0 : 0 ≤ o.getD q 0) (i j : Nat) (hj : j < 1) : gset (fun (i : Nat) (_ : Nat) => Value.bool (decide ((i : Int) ∈ o.take q))) (o.getD q 0).toNat 0 (Value.bool true) i j = .bool (decide ((i : Int) ∈ o.take (q + 1))) := by
  obtain rfl := lt1 hj
  have hcast : ((o.getD q 0).toNat : Int) = o.getD q 0 := by omega
  rw [take_snoc hql]
  unfold gset
  by_cases e : i = (o.getD q 0).toNat
  · rw [if_pos ⟨e, rfl⟩, decide_eq_true (List.mem_append.2 (.inr (by rw [e, hcast]; simp)))]
  · rw [if_neg (fun h => e h.1)]
    show Value.bool (decide ((i : Int) ∈ o.take q)) = _
    congr 1
    rw [decide_eq_decide]
    refine ⟨fun h => List.mem_append.2 (.inl h), fun h => ?_⟩
    rcases List.mem_append.1 h with h2 | h2
    · exact h2
    · have h3 : (i : Int) = o.getD q 0 := by simpa using h2
      omega
end Go.Proofs.Ytciehimnhnbipaa
