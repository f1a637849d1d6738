/- buffer: Merge. -/
import Derived.Test.YtaapgdanodkhjaaBfH
namespace Go.Proofs.Ytaapgdanodkhjaa
open Go.RowKit Go.Lib
set_option linter.unusedVariables false
set_option maxHeartbeats 2000000
section
variable {F : Nat → Prop} {w₀ w : World} {Z : BfX} {m : Nat} {M : LvM} {L : List Res}
theorem Sat.mapsTop (S : Sat F w₀ w (mapsR (Z ++ [(m, M)]) :: L)) : Sat F w₀ w (mapR m encV M :: mapsR Z :: L) := by
  have hm := maps_top S.got1
  have base : Sat (mapsR (Z ++ [(m, M)])).foot w w [mapR m encV M, mapsR Z] := ((Sat.start _ w).push (r := mapsR Z) hm.2.1 (by simp) (fun _ k hk _ => maps_foot.2 (Or.inl hk))).push (r := mapR m encV M) hm.1 (fun x hx => by
    obtain rfl : x = mapsR Z := by simpa using hx
    exact .inr fun k e e' => hm.2.2 (e ▸ e')) (fun _ k hk _ => maps_foot.2 (Or.inr hk))
  refine Sat.exch (A := [mapsR (Z ++ [(m, M)])]) (A' := [mapR m encV M, mapsR Z]) S base (fun k hk => ⟨_, List.mem_cons_self .., rfl, hk⟩) (fun x hx => ?_)
  simp only [List.mem_cons, List.not_mem_nil, or_false] at hx
  rcases hx with rfl | rfl <;> rfl
theorem Sat.mapsShut (S : Sat F w₀ w (mapR m encV M :: mapsR Z :: L)) : Sat F w₀ w (mapsR (Z ++ [(m, M)]) :: L) := by
  have hd : ¬ (mapsR Z).foot m := fun e => own_apart ((List.pairwise_cons.1 S.sep).1 (mapsR Z) (by simp)) rfl m rfl e
  have base : Sat (fun k => (mapR m encV M).foot k ∨ (mapsR Z).foot k) w w [mapsR (Z ++ [(m, M)])] := (Sat.start _ w).push (r := mapsR (Z ++ [(m, M)])) (maps_put S.got1 S.second hd) (by simp) (fun _ k hk _ => (maps_foot.1 hk).symm)
  refine Sat.exch (A := [mapR m encV M, mapsR Z]) (A' := [mapsR (Z ++ [(m, M)])]) S base (fun k hk => hk.elim (fun e => ⟨_, List.mem_cons_self .., rfl, e⟩) (fun e => ⟨mapsR Z, by simp, rfl, e⟩)) (fun x hx => ?_)
  obtain rfl : x = mapsR (Z ++ [(m, M)]) := by simpa using hx
  rfl
theorem Sat.mcopy {d s : Nat} {M N : LvM} (S : Sat F w₀ w (mapR d encV M :: mapR s encV N :: L)) :
    Calls Try.prog 31 #[.map (some d), .map (some s)] w fun e w' => e = .returned (.tuple #[]) ∧ ∃ l, l.Perm N ∧ Sat F w₀ w' (mapR d encV (putAll M l) :: L) := by
  have hd : d ≠ s := fun e => own_apart ((List.pairwise_cons.1 S.sep).1 (mapR s encV N) (by simp)) rfl d rfl e
  have base : Sat (mapR d encV M).foot w w [mapR d encV M, roR (mapR s encV N)] := ((Sat.start _ w).ro (r := roR (mapR s encV N)) S.second rfl rfl).push (r := mapR d encV M) S.got1 (fun x hx => by
    obtain rfl : x = roR (mapR s encV N) := by simpa using hx
    exact .inr fun k e e' => hd (e.symm.trans e')) (fun _ k hk _ => hk)
  refine (mcopy_at base).mono ?_
  rintro e w' ⟨rfl, l, hl, S'⟩
  refine ⟨rfl, l, hl, Sat.exch (A := [mapR d encV M]) (A' := [mapR d encV (putAll M l)]) (L := L) (S.sw.tail) S' (fun k hk => ⟨_, List.mem_cons_self .., rfl, hk⟩) (fun x hx => ?_)⟩
  obtain rfl : x = mapR d encV (putAll M l) := by simpa using hx
  rfl
end
end Go.Proofs.Ytaapgdanodkhjaa
