/- witness: rows of rows of one's own; the gaps of those that write nothing. -/
import Derived.Test.YtjnlcfkdackghaaWsI
import Derived.Test.YtjnlcfkdackghaaEv
namespace Go.Proofs.Ytjnlcfkdackghaa
open Go.RowKit Go.Lib
set_option linter.unusedVariables false
set_option maxHeartbeats 2000000
abbrev fRow (z : SlX) : Res := rowL z.a z.cap 3 1 encI 0 z.zs
/-- Rows of numbers of one's own. -/
def rowsR (X : List SlX) : Res where
  foot k := ∃ z ∈ X, (fRow z).foot k
  ro := false
  holds w := (∀ z ∈ X, (fRow z).holds w) ∧ X.Pairwise fun y z => ∀ k, (fRow y).foot k → (fRow z).foot k → False
  lt w k h e := let ⟨z, hz, hk⟩ := e; (fRow z).lt w k (h.1 z hz) hk
  loc w w' h e := ⟨fun z hz => (fRow z).loc w w' (h.1 z hz) fun k hk => e k ⟨z, hz, hk⟩, h.2⟩
theorem rowsR_perm {X Y : List SlX} {w : World} (p : X.Perm Y) (h : (rowsR X).holds w) : (rowsR Y).holds w :=
  ⟨fun z hz => h.1 z (p.mem_iff.2 hz), (p.pairwise_iff (fun {a b} h k e e' => h k e' e)).1 h.2⟩
theorem Sat.rowsSplit {S : Nat → Prop} {w₀ w : World} {L : List Res} {X Y : List SlX} {z : SlX} (p : X.Perm (z :: Y)) (h : Sat S w₀ w (rowsR X :: L)) : Sat S w₀ w (fRow z :: rowsR Y :: L) := by
  have hs := List.pairwise_cons.1 h.sep
  have h1 := rowsR_perm p (show (rowsR X).holds w from h.got1)
  have hpw := List.pairwise_cons.1 h1.2
  have fz : ∀ k, (fRow z).foot k → (rowsR X).foot k := fun k e => ⟨z, p.mem_iff.2 (by simp), e⟩
  have fY : ∀ k, (rowsR Y).foot k → (rowsR X).foot k := fun k ⟨y, hy, e⟩ => ⟨y, p.mem_iff.2 (by simp [hy]), e⟩
  refine ⟨h.chg, fun x hx => ?_, List.pairwise_cons.2 ⟨fun x hx => ?_, List.pairwise_cons.2 ⟨fun x hx => ?_, hs.2⟩⟩, fun x hx => ?_⟩
  · rcases List.mem_cons.1 hx with rfl | hx
    · exact h1.1 z (by simp)
    · rcases List.mem_cons.1 hx with rfl | hx
      · exact ⟨fun y hy => h1.1 y (by simp [hy]), hpw.2⟩
      · exact h.all x (by simp [hx])
  · rcases List.mem_cons.1 hx with rfl | hx
    · exact .inr fun k e ⟨y, hy, e'⟩ => hpw.1 y hy k e e'
    · rcases hs.1 x hx with e | e
      · cases (show false = true from e.1)
      · exact .inr fun k e1 e2 => e k (fz k e1) e2
  · rcases hs.1 x hx with e | e
    · cases (show false = true from e.1)
    · exact .inr fun k e1 e2 => e k (fY k e1) e2
  · rcases List.mem_cons.1 hx with rfl | hx
    · exact fun _ k e => h.own (rowsR X) (by simp) rfl k (fz k e)
    · rcases List.mem_cons.1 hx with rfl | hx
      · exact fun _ k e => h.own (rowsR X) (by simp) rfl k (fY k e)
      · exact h.own x (by simp [hx])
theorem Sat.rowsJoin {S : Nat → Prop} {w₀ w : World} {L : List Res} {X Y : List SlX} {z : SlX} (p : (z :: Y).Perm X) (h : Sat S w₀ w (fRow z :: rowsR Y :: L)) : Sat S w₀ w (rowsR X :: L) := by
  have hs := List.pairwise_cons.1 h.sep
  have hs2 := List.pairwise_cons.1 hs.2
  have hz : (fRow z).holds w := h.got1
  have hY : (rowsR Y).holds w := h.all (rowsR Y) (by simp)
  have hd : ∀ k, (fRow z).foot k → (rowsR Y).foot k → False := by
    rcases hs.1 (rowsR Y) (by simp) with e | e
    · cases (show false = true from e.1)
    · exact e
  have fX : ∀ k, (rowsR X).foot k → (fRow z).foot k ∨ (rowsR Y).foot k := fun k ⟨y, hy, e⟩ => by
    rcases List.mem_cons.1 (p.mem_iff.2 hy) with rfl | hy
    · exact .inl e
    · exact .inr ⟨y, hy, e⟩
  have hh : (rowsR (z :: Y)).holds w := ⟨fun y hy => by
    rcases List.mem_cons.1 hy with rfl | hy
    · exact hz
    · exact hY.1 y hy, List.pairwise_cons.2 ⟨fun y hy k e e' => hd k e ⟨y, hy, e'⟩, hY.2⟩⟩
  refine ⟨h.chg, fun x hx => ?_, List.pairwise_cons.2 ⟨fun x hx => ?_, hs2.2⟩, fun x hx => ?_⟩
  · rcases List.mem_cons.1 hx with rfl | hx
    · exact rowsR_perm p hh
    · exact h.all x (by simp [hx])
  · refine .inr fun k e e' => ?_
    rcases fX k e with e | e
    · rcases hs.1 x (by simp [hx]) with g | g
      · cases (show false = true from g.1)
      · exact g k e e'
    · rcases hs2.1 x hx with g | g
      · cases (show false = true from g.1)
      · exact g k e e'
  · rcases List.mem_cons.1 hx with rfl | hx
    · intro _ k e hk
      rcases fX k e with e | e
      · exact h.own (fRow z) (by simp) rfl k e hk
      · exact h.own (rowsR Y) (by simp) rfl k e hk
    · exact h.own x (by simp [hx])
theorem perm_split : ∀ {X : List SlX} {i : Nat}, i < X.length → X.Perm (X.getD i sxD :: X.eraseIdx i)
  | x :: X, 0, _ => .refl _
  | x :: X, i + 1, h => by
    have ih := perm_split (X := X) (i := i) (by simpa using h)
    exact (ih.cons x).trans (List.Perm.swap ..)
theorem perm_join : ∀ {X : List SlX} {i : Nat}, i < X.length → ∀ z, (z :: X.eraseIdx i).Perm (X.set i z)
  | x :: X, 0, _, z => .refl _
  | x :: X, i + 1, h, z => by
    have ih := perm_join (X := X) (i := i) (by simpa using h) z
    exact (List.Perm.swap ..).trans (ih.cons x)
theorem Sat.mapEnts2 {α : Type} {S : Nat → Prop} {w₀ w : World} {L : List Res} {b : Nat} {enc : α → Value} {m : List (Int × α)} {f : Res → List Res} (h : Sat S w₀ w L) [hp : Pick L (mapR b enc m) f] : ∃ es clock, EntOk enc m es clock ∧ (∀ w, (mapE b es clock).holds w → (mapR b enc m).holds w) ∧ Sat S w₀ w (f (mapE b es clock)) := by
  have hm : MapOk w b enc m := (show (mapR b enc m).holds w from h.holds (r := mapR b enc m))
  obtain ⟨es, clock, h1, h2⟩ := hm.ents
  have hk : ∀ w, (mapE b es clock).holds w → (mapR b enc m).holds w := by
    obtain ⟨es', clock', g1, g2⟩ := hm
    rw [h1] at g1
    cases g1
    exact fun w hw => ⟨es, clock, hw, g2⟩
  exact ⟨es, clock, h2, hk, h.turn (r := mapR b enc m) (r' := mapE b es clock) h1 rfl (fun k e => e)⟩
def encIv (x : Int) : Value := .int .i64 x
/-- Who writes nothing, of the first q. -/
def nonw (l : List AtS) (q : Nat) : List Nat := (List.range q).filter fun i => !decide (0 < (l.getD i atD).wv)
/-- Where an attempt that writes nothing may stand: in gap x. -/
def GapP (init : List Int) (l : List AtS) (W : List Int) (G : Nat → Nat) (i x : Nat) : Prop :=
  ((∀ k, k < W.length → aheadB (l.getD (W.getD k 0).toNat atD) (l.getD i atD) = true → k + 1 ≤ x) ∧
   (∀ k, k < i → ¬ 0 < (l.getD k atD).wv → aheadB (l.getD k atD) (l.getD i atD) = true → G k ≤ x)) ∧
  (x ≤ W.length ∧ ∀ k, k < W.length → aheadB (l.getD i atD) (l.getD (W.getD k 0).toNat atD) = true → x ≤ k) ∧
  fitsB (l.getD i atD) (memG init l W x) = true
def GapMin (init : List Int) (l : List AtS) (W : List Int) (G : Nat → Nat) (i : Nat) : Prop := GapP init l W G i (G i) ∧ ∀ x, GapP init l W G i x → G i ≤ x
/-- Who stands in gap x, of the first q. -/
def inG (l : List AtS) (G : Nat → Nat) (q x : Nat) : List Int := ((nonw l q).filter fun i => decide (G i = x)).map fun i : Nat => (i : Int)
def ordB (l : List AtS) (W : List Int) (G : Nat → Nat) (x : Nat) : List Int := (if 0 < x then [W.getD (x - 1) 0] else []) ++ inG l G l.length x
def ordL (l : List AtS) (W : List Int) (G : Nat → Nat) (x : Nat) : List Int := (List.range x).flatMap (ordB l W G)
theorem GapP.congr {init : List Int} {l : List AtS} {W : List Int} {G G' : Nat → Nat} {i x : Nat} (e : ∀ k, k < i → G k = G' k) (h : GapP init l W G i x) : GapP init l W G' i x :=
  ⟨⟨h.1.1, fun k hk h1 h2 => e k hk ▸ h.1.2 k hk h1 h2⟩, h.2⟩
theorem GapMin.congr {init : List Int} {l : List AtS} {W : List Int} {G G' : Nat → Nat} {i : Nat} (e : ∀ k, k < i + 1 → G k = G' k) (h : GapMin init l W G i) : GapMin init l W G' i :=
  ⟨by rw [← e i (by omega)]; exact h.1.congr fun k hk => e k (by omega), fun x hx => by rw [← e i (by omega)]; exact h.2 x (hx.congr fun k hk => (e k (by omega)).symm)⟩
theorem nonw_succ (l : List AtS) (q : Nat) : nonw l (q + 1) = nonw l q ++ (if 0 < (l.getD q atD).wv then [] else [q]) := by
  unfold nonw
  rw [List.range_succ, List.filter_append]
  congr 1
  rw [List.filter_cons]
  by_cases h : 0 < (l.getD q atD).wv
  · rw [if_pos h, decide_eq_true h]; rfl
  · rw [if_neg h, decide_eq_false h]; rfl
theorem nonw_mem {l : List AtS} {q i : Nat} : i ∈ nonw l q ↔ i < q ∧ ¬ 0 < (l.getD i atD).wv := by
  unfold nonw
  simp [List.mem_filter]
theorem inG_congr {l : List AtS} {G G' : Nat → Nat} {q x : Nat} (e : ∀ k, k < q → G k = G' k) : inG l G q x = inG l G' q x := by
  unfold inG
  congr 1
  exact List.filter_congr fun i hi => by rw [e i (nonw_mem.1 hi).1]
theorem inG_w {l : List AtS} {G : Nat → Nat} {q x : Nat} (h : 0 < (l.getD q atD).wv) : inG l G (q + 1) x = inG l G q x := by
  unfold inG
  rw [nonw_succ, if_pos h, List.append_nil]
theorem inG_n {l : List AtS} {G : Nat → Nat} {q x : Nat} (h : ¬ 0 < (l.getD q atD).wv) : inG l G (q + 1) x = inG l G q x ++ (if G q = x then [(q : Int)] else []) := by
  unfold inG
  rw [nonw_succ, if_neg h, List.filter_append, List.map_append]
  by_cases e : G q = x <;> simp [e]
end Go.Proofs.Ytjnlcfkdackghaa
