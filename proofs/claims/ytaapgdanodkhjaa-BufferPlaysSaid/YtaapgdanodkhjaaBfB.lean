/- buffer: the top level; Put. -/
import Derived.Test.YtaapgdanodkhjaaBfA
namespace Go.Proofs.Ytaapgdanodkhjaa
open Go.RowKit Go.Lib
set_option linter.unusedVariables false
set_option maxHeartbeats 2000000
theorem maps_top {Y : BfX} {m : Nat} {M : LvM} {w : World} (h : (mapsR (Y ++ [(m, M)])).holds w) : MapOk w m encV M ∧ (mapsR Y).holds w ∧ ¬ (mapsR Y).foot m := by
  obtain ⟨h1, h2⟩ := h
  obtain ⟨p1, _, p3⟩ := List.pairwise_append.1 h2
  exact ⟨h1 (m, M) (by simp), ⟨fun p hp => h1 p (by simp [hp]), p1⟩, fun ⟨p, hp, e⟩ => p3 p hp (m, M) (by simp) e⟩
theorem maps_put {Y : BfX} {m : Nat} {M : LvM} {w : World} (h1 : MapOk w m encV M) (h2 : (mapsR Y).holds w) (h3 : ¬ (mapsR Y).foot m) : (mapsR (Y ++ [(m, M)])).holds w := by
  refine ⟨fun p hp => ?_, List.pairwise_append.2 ⟨h2.2, List.pairwise_singleton .., fun p hp q hq e => ?_⟩⟩
  · rcases List.mem_append.1 hp with hp | hp
    · exact h2.1 p hp
    · obtain rfl : p = (m, M) := by simpa using hp
      exact h1
  · obtain rfl : q = (m, M) := by simpa using hq
    exact h3 ⟨p, hp, e⟩
theorem maps_foot {Y : BfX} {m : Nat} {M : LvM} {k : Nat} : (mapsR (Y ++ [(m, M)])).foot k ↔ (mapsR Y).foot k ∨ k = m := by
  constructor
  · rintro ⟨p, hp, rfl⟩
    rcases List.mem_append.1 hp with hp | hp
    · exact .inl ⟨p, hp, rfl⟩
    · obtain rfl : p = (m, M) := by simpa using hp
      exact .inr rfl
  · rintro (⟨p, hp, rfl⟩ | rfl)
    · exact ⟨p, by simp [hp], rfl⟩
    · exact ⟨(k, M), by simp, rfl⟩
abbrev topL (b : Nat) (a : Option Addr) (cap : Nat) (Y : BfX) (m : Nat) (M : LvM) : List Res := [mapR m encV M, blk b 1 (bfC a cap (Y.map (·.1) ++ [m])) 55, rowH a cap (Y.map (·.1) ++ [m]), mapsR Y]
theorem top_open {b : Nat} {a : Option Addr} {cap : Nat} {Y : BfX} {m : Nat} {M : LvM} {w : World} (h : (bfR b a cap (Y ++ [(m, M)])).holds w) : Sat (bfR b a cap (Y ++ [(m, M)])).foot w w (topL b a cap Y m M) := by
  have hf : ∀ k, (bfR b a cap (Y ++ [(m, M)])).foot k ↔ k = b ∨ (rowH a cap (Y.map (·.1) ++ [m])).foot k ∨ (mapsR (Y ++ [(m, M)])).foot k := fun k => Iff.rfl
  have he : (Y ++ [(m, M)]).map (·.1) = Y.map (·.1) ++ [m] := by simp
  obtain ⟨⟨h1, h2, h3⟩, g1, g2, g3⟩ := h
  rw [he] at h1 h2 g1 g3
  obtain ⟨k1, k2, k3⟩ := maps_top h3
  rw [maps_foot] at g2
  refine ((((Sat.start _ w).push (r := mapsR Y) k2 (by simp) (fun _ k hk _ => (hf k).2 (Or.inr (Or.inr (maps_foot.2 (Or.inl hk)))))).push (r := rowH a cap (Y.map (·.1) ++ [m])) h2 ?_ (fun _ k hk _ => (hf k).2 (Or.inr (Or.inl hk)))).push (r := blk b 1 (bfC a cap (Y.map (·.1) ++ [m])) 55) h1 ?_ (fun _ k hk _ => (hf k).2 (Or.inl hk))).push (r := mapR m encV M) k1 ?_ (fun _ k hk _ => (hf k).2 (Or.inr (Or.inr (maps_foot.2 (Or.inr hk)))))
  · intro x hx
    obtain rfl : x = mapsR Y := by simpa using hx
    exact .inr fun k e e' => g3 k e (maps_foot.2 (.inl e'))
  · intro x hx
    simp only [List.mem_cons, List.not_mem_nil, or_false] at hx
    rcases hx with rfl | rfl
    · exact .inr fun k e e' => g1 (e ▸ e')
    · exact .inr fun k e e' => g2 (.inl (e ▸ e'))
  · intro x hx
    simp only [List.mem_cons, List.not_mem_nil, or_false] at hx
    rcases hx with rfl | rfl | rfl
    · exact .inr fun k e e' => g2 (.inr (e'.symm.trans e))
    · exact .inr fun k e e' => g3 k e' (maps_foot.2 (.inr e))
    · exact .inr fun k e e' => k3 (e ▸ e')
theorem top_shut {F : Nat → Prop} {w₀ w : World} {b : Nat} {a : Option Addr} {cap : Nat} {Y : BfX} {m : Nat} {M : LvM} {L : List Res} (h : Sat F w₀ w (topL b a cap Y m M ++ L)) : (bfR b a cap (Y ++ [(m, M)])).holds w := by
  have he : (Y ++ [(m, M)]).map (·.1) = Y.map (·.1) ++ [m] := by simp
  have a1 := h.all (mapR m encV M) (by simp)
  have a2 := h.all (blk b 1 (bfC a cap (Y.map (·.1) ++ [m])) 55) (by simp)
  have a3 := h.all (rowH a cap (Y.map (·.1) ++ [m])) (by simp)
  have a4 := h.all (mapsR Y) (by simp)
  have s1 := List.pairwise_cons.1 h.sep
  have s2 := List.pairwise_cons.1 s1.2
  have s3 := List.pairwise_cons.1 s2.2
  have d1 : ¬ (mapsR Y).foot m := fun e => own_apart (s1.1 (mapsR Y) (by simp)) rfl m rfl e
  have d2 : m ≠ b := fun e => own_apart (s1.1 (blk b 1 (bfC a cap (Y.map (·.1) ++ [m])) 55) (by simp)) rfl m rfl e
  refine ⟨⟨by rw [he]; exact a2, by rw [he]; exact a3, maps_put a1 a4 d1⟩, ?_, ?_, ?_⟩
  · rw [he]
    exact fun e => own_apart (s2.1 (rowH a cap (Y.map (·.1) ++ [m])) (by simp)) rfl b rfl e
  · rw [maps_foot]
    rintro (e | e)
    · exact own_apart (s2.1 (mapsR Y) (by simp)) rfl b rfl e
    · exact d2 e.symm
  · rw [he]
    intro k e
    rw [maps_foot]
    rintro (e' | e')
    · exact own_apart (s3.1 (mapsR Y) (by simp)) rfl k e e'
    · exact own_apart (s1.1 (rowH a cap (Y.map (·.1) ++ [m])) (by simp)) rfl k e' e
end Go.Proofs.Ytaapgdanodkhjaa
