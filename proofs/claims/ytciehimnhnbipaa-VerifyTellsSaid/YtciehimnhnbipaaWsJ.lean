/- witness: rows of rows of one's own; the gaps of those that write nothing. witness: Judge: its closure; what holds from attempt to attempt. -/
import Derived.Test.YtciehimnhnbipaaWsI
import Derived.Test.YtciehimnhnbipaaEv
namespace Go.Proofs.Ytciehimnhnbipaa
open Go.RowKit Go.Lib
set_option linter.unusedVariables false
set_option maxHeartbeats 2000000
abbrev fRow (z : SlX) : Res := rowL z.a z.cap 3 1 encI 0 z.zs
/-- Rows of numbers of one's own. -/
def rowsR (X : List SlX) : Res where
  foot k := ∃ z ∈ X, (fRow z).foot k
  ro := false
  holds w := (∀ z ∈ X, (fRow z).holds w) ∧ X.Pairwise fun y z => ∀ k, (fRow y).foot k → (fRow z).foot k → False
  lt w k h e := let ⟨z, hz, hk⟩ := e; (fRow z).lt w k (h.1 z hz) hk
  loc w w' h e := ⟨fun z hz => (fRow z).loc w w' (h.1 z hz) fun k hk => e k ⟨z, hz, hk⟩, h.2⟩
theorem rowsR_perm {X Y : List SlX} {w : World} (p : X.Perm Y) (h : (rowsR X).holds w) : (rowsR Y).holds w :=
  ⟨fun z hz => h.1 z (p.mem_iff.2 hz), (p.pairwise_iff (fun {a b} h k e e' => h k e' e)).1 h.2⟩
theorem Sat.rowsSplit {S : Nat → Prop} {w₀ w : World} {L : List Res} {X Y : List SlX} {z : SlX} (p : X.Perm (z :: Y)) (h : Sat S w₀ w (rowsR X :: L)) : Sat S w₀ w (fRow z :: rowsR Y :: L) := by
  have hs := List.pairwise_cons.1 h.sep
  have h1 := rowsR_perm p (show (rowsR X).holds w from h.got1)
  have hpw := List.pairwise_cons.1 h1.2
  have fz : ∀ k, (fRow z).foot k → (rowsR X).foot k := fun k e => ⟨z, p.mem_iff.2 (by simp), e⟩
  have fY : ∀ k, (rowsR Y).foot k → (rowsR X).foot k := fun k ⟨y, hy, e⟩ => ⟨y, p.mem_iff.2 (by simp [hy]), e⟩
  refine ⟨h.chg, fun x hx => ?_, List.pairwise_cons.2 ⟨fun x hx => ?_, List.pairwise_cons.2 ⟨fun x hx => ?_, hs.2⟩⟩, fun x hx => ?_⟩
  · rcases List.mem_cons.1 hx with rfl | hx
    · exact h1.1 z (by simp)
    · rcases List.mem_cons.1 hx with rfl | hx
      · exact ⟨fun y hy => h1.1 y (by simp [hy]), hpw.2⟩
      · exact h.all x (by simp [hx])
  · rcases List.mem_cons.1 hx with rfl | hx
    · exact .inr fun k e ⟨y, hy, e'⟩ => hpw.1 y hy k e e'
    · rcases hs.1 x hx with e | e
      · cases (show false = true from e.1)
      · exact .inr fun k e1 e2 => e k (fz k e1) e2
  · rcases hs.1 x hx with e | e
    · cases (show false = true from e.1)
    · exact .inr fun k e1 e2 => e k (fY k e1) e2
  · rcases List.mem_cons.1 hx with rfl | hx
    · exact fun _ k e => h.own (rowsR X) (by simp) rfl k (fz k e)
    · rcases List.mem_cons.1 hx with rfl | hx
      · exact fun _ k e => h.own (rowsR X) (by simp) rfl k (fY k e)
      · exact h.own x (by simp [hx])
theorem Sat.rowsJoin {S : Nat → Prop} {w₀ w : World} {L : List Res} {X Y : List SlX} {z : SlX} (p : (z :: Y).Perm X) (h : Sat S w₀ w (fRow z :: rowsR Y :: L)) : Sat S w₀ w (rowsR X :: L) := by
  have hs := List.pairwise_cons.1 h.sep
  have hs2 := List.pairwise_cons.1 hs.2
  have hz : (fRow z).holds w := h.got1
  have hY : (rowsR Y).holds w := h.all (rowsR Y) (by simp)
  have hd : ∀ k, (fRow z).foot k → (rowsR Y).foot k → False := by
    rcases hs.1 (rowsR Y) (by simp) with e | e
    · cases (show false = true from e.1)
    · exact e
  have fX : ∀ k, (rowsR X).foot k → (fRow z).foot k ∨ (rowsR Y).foot k := fun k ⟨y, hy, e⟩ => by
    rcases List.mem_cons.1 (p.mem_iff.2 hy) with rfl | hy
    · exact .inl e
    · exact .inr ⟨y, hy, e⟩
  have hh : (rowsR (z :: Y)).holds w := ⟨fun y hy => by
    rcases List.mem_cons.1 hy with rfl | hy
    · exact hz
    · exact hY.1 y hy, List.pairwise_cons.2 ⟨fun y hy k e e' => hd k e ⟨y, hy, e'⟩, hY.2⟩⟩
  refine ⟨h.chg, fun x hx => ?_, List.pairwise_cons.2 ⟨fun x hx => ?_, hs2.2⟩, fun x hx => ?_⟩
  · rcases List.mem_cons.1 hx with rfl | hx
    · exact rowsR_perm p hh
    · exact h.all x (by simp [hx])
  · refine .inr fun k e e' => ?_
    rcases fX k e with e | e
    · rcases hs.1 x (by simp [hx]) with g | g
      · cases (show false = true from g.1)
      · exact g k e e'
    · rcases hs2.1 x hx with g | g
      · cases (show false = true from g.1)
      · exact g k e e'
  · rcases List.mem_cons.1 hx with rfl | hx
    · intro _ k e hk
      rcases fX k e with e | e
      · exact h.own (fRow z) (by simp) rfl k e hk
      · exact h.own (rowsR Y) (by simp) rfl k e hk
    · exact h.own x (by simp [hx])
theorem perm_split : ∀ {X : List SlX} {i : Nat}, i < X.length → X.Perm (X.getD i sxD :: X.eraseIdx i)
  | x :: X, 0, _ => .refl _
  | x :: X, i + 1, h => by
    have ih := perm_split (X := X) (i := i) (by simpa using h)
    exact (ih.cons x).trans (List.Perm.swap ..)
theorem perm_join : ∀ {X : List SlX} {i : Nat}, i < X.length → ∀ z, (z :: X.eraseIdx i).Perm (X.set i z)
  | x :: X, 0, _, z => .refl _
  | x :: X, i + 1, h, z => by
    have ih := perm_join (X := X) (i := i) (by simpa using h) z
    exact (List.Perm.swap ..).trans (ih.cons x)
theorem Sat.mapEnts2 {α : Type} {S : Nat → Prop} {w₀ w : World} {L : List Res} {b : Nat} {enc : α → Value} {m : List (Int × α)} {f : Res → List Res} (h : Sat S w₀ w L) [hp : Pick L (mapR b enc m) f] : ∃ es clock, EntOk enc m es clock ∧ (∀ w, (mapE b es clock).holds w → (mapR b enc m).holds w) ∧ Sat S w₀ w (f (mapE b es clock)) := by
  have hm : MapOk w b enc m := (show (mapR b enc m).holds w from h.holds (r := mapR b enc m))
  obtain ⟨es, clock, h1, h2⟩ := hm.ents
  have hk : ∀ w, (mapE b es clock).holds w → (mapR b enc m).holds w := by
    obtain ⟨es', clock', g1, g2⟩ := hm
    rw [h1] at g1
    cases g1
    exact fun w hw => ⟨es, clock, hw, g2⟩
  exact ⟨es, clock, h2, hk, h.turn (r := mapR b enc m) (r' := mapE b es clock) h1 rfl (fun k e => e)⟩
def encIv (x : Int) : Value := .int .i64 x
/-- Who writes nothing, of the first q. -/
def nonw (l : List AtS) (q : Nat) : List Nat := (List.range q).filter fun i => !decide (0 < (l.getD i atD).wv)
/-- Where an attempt that writes nothing may stand: in gap x. -/
def GapP (init : List Int) (l : List AtS) (W : List Int) (G : Nat → Nat) (i x : Nat) : Prop :=
  ((∀ k, k < W.length → aheadB (l.getD (W.getD k 0).toNat atD) (l.getD i atD) = true → k + 1 ≤ x) ∧
   (∀ k, k < i → ¬ 0 < (l.getD k atD).wv → aheadB (l.getD k atD) (l.getD i atD) = true → G k ≤ x)) ∧
  (x ≤ W.length ∧ ∀ k, k < W.length → aheadB (l.getD i atD) (l.getD (W.getD k 0).toNat atD) = true → x ≤ k) ∧
  fitsB (l.getD i atD) (memG init l W x) = true
def GapMin (init : List Int) (l : List AtS) (W : List Int) (G : Nat → Nat) (i : Nat) : Prop := GapP init l W G i (G i) ∧ ∀ x, GapP init l W G i x → G i ≤ x
/-- Who stands in gap x, of the first q. -/
def inG (l : List AtS) (G : Nat → Nat) (q x : Nat) : List Int := ((nonw l q).filter fun i => decide (G i = x)).map fun i : Nat => (i : Int)
def ordB (l : List AtS) (W : List Int) (G : Nat → Nat) (x : Nat) : List Int := (if 0 < x then [W.getD (x - 1) 0] else []) ++ inG l G l.length x
def ordL (l : List AtS) (W : List Int) (G : Nat → Nat) (x : Nat) : List Int := (List.range x).flatMap (ordB l W G)
theorem GapP.congr {init : List Int} {l : List AtS} {W : List Int} {G G' : Nat → Nat} {i x : Nat} (e : ∀ k, k < i → G k = G' k) (h : GapP init l W G i x) : GapP init l W G' i x :=
  ⟨⟨h.1.1, fun k hk h1 h2 => e k hk ▸ h.1.2 k hk h1 h2⟩, h.2⟩
theorem GapMin.congr {init : List Int} {l : List AtS} {W : List Int} {G G' : Nat → Nat} {i : Nat} (e : ∀ k, k < i + 1 → G k = G' k) (h : GapMin init l W G i) : GapMin init l W G' i :=
  ⟨by rw [← e i (by omega)]; exact h.1.congr fun k hk => e k (by omega), fun x hx => by rw [← e i (by omega)]; exact h.2 x (hx.congr fun k hk => (e k (by omega)).symm)⟩
theorem nonw_succ (l : List AtS) (q : Nat) : nonw l (q + 1) = nonw l q ++ (if 0 < (l.getD q atD).wv then [] else [q]) := by
  unfold nonw
  rw [List.range_succ, List.filter_append]
  congr 1
  rw [List.filter_cons]
  by_cases h : 0 < (l.getD q atD).wv
  · rw [if_pos h, decide_eq_true h]; rfl
  · rw [if_neg h, decide_eq_false h]; rfl
theorem nonw_mem {l : List AtS} {q i : Nat} : i ∈ nonw l q ↔ i < q ∧ ¬ 0 < (l.getD i atD).wv := by
  unfold nonw
  simp [List.mem_filter]
theorem inG_congr {l : List AtS} {G G' : Nat → Nat} {q x : Nat} (e : ∀ k, k < q → G k = G' k) : inG l G q x = inG l G' q x := by
  unfold inG
  congr 1
  exact List.filter_congr fun i hi => by rw [e i (nonw_mem.1 hi).1]
theorem inG_w {l : List AtS} {G : Nat → Nat} {q x : Nat} (h : 0 < (l.getD q atD).wv) : inG l G (q + 1) x = inG l G q x := by
  unfold inG
  rw [nonw_succ, if_pos h, List.append_nil]
theorem inG_n {l : List AtS} {G : Nat → Nat} {q x : Nat} (h : ¬ 0 < (l.getD q atD).wv) : inG l G (q + 1) x = inG l G q x ++ (if G q = x then [(q : Int)] else []) := by
  unfold inG
  rw [nonw_succ, if_neg h, List.filter_append, List.map_append]
  by_cases e : G q = x <;> simp [e]
end Go.Proofs.Ytciehimnhnbipaa
namespace Go.Proofs.Ytciehimnhnbipaa
open Go.RowKit Go.Lib
set_option linter.unusedVariables false
set_option maxHeartbeats 16000000
set_option maxRecDepth 100000
theorem judge1_at {b : Nat} {z : AtS} {x : SlX} (w0 : World) (hb : (blk b 9 (encAt z) 32).holds w0) (hz : (atR z).holds w0) (hx : (slL x.a x.cap 1 encI 0 x.zs).holds w0) (hp : ∀ p ∈ z.rs, 0 ≤ p.1 ∧ p.1 < x.zs.length) :
    Calls Try.prog 43 ([] ++ [slV x] ++ [Value.pointer (some ⟨b, 0, none⟩)]).toArray w0 fun e w' => e = .returned (.bool (fitsB z x.zs)) ∧ Below w0.heap.size w0 w' := by
  have S := Sat.reads (r := blk b 9 (encAt z) 32) hb
  refine enter1 Try.func43 rfl Try.ntmps43 rfl Try.results43 ?_
  repeat' (first | refine assign_b_l S rfl rfl ?_ | refine loadN_l S rfl rfl rfl ?_ | refine loadEN_l S rfl (by first | omega | decide | (simp; done) | (simp; omega)) rfl rfl ?_ | refine nilL ?_ | refine run_seq ?_ | refine run_skip ?_ | refine run_region ?_ | refine move_s_l S rfl rfl ?_ | refine run_block ?_ | refine run_ret ?_ | refine run_exit ?_ | refine run_cond_true rfl ?_ | refine run_cond_false rfl ?_ | refine thenQ_n ?_ | refine thenQ_r ?_ | refine thenQ_e ?_ | refine blockQ_n ?_ | refine blockQ_r ?_ | refine blockQ_s rfl ?_ | refine blockQ_o rfl ?_ | refine ret1_i rfl ?_ | refine ret1_b rfl ?_ | refine ret1_p rfl ?_ | refine ret1_s rfl ?_ | refine ret1_e rfl ?_ | refine ret1_a rfl ?_ | refine ret1_o rfl ?_ | refine ret1n_i rfl ?_ | refine ret1n_b rfl ?_ | refine ret1n_p rfl ?_ | refine ret1n_s rfl ?_ | refine ret1n_o rfl ?_)
  refine callL (fits_at (m := x.zs) (a := x.a) (cap := x.cap) _ (holds_below hz S.chg.below) (holds_below hx S.chg.below) hp) rfl rfl ?_
  rintro e w ⟨rfl, hb⟩
  replace S := S.below hb
  refine ⟨_, rfl, ?_⟩
  repeat' (first | refine assign_b_l S rfl rfl ?_ | refine loadN_l S rfl rfl rfl ?_ | refine loadEN_l S rfl (by first | omega | decide | (simp; done) | (simp; omega)) rfl rfl ?_ | refine nilL ?_ | refine run_seq ?_ | refine run_skip ?_ | refine run_region ?_ | refine move_s_l S rfl rfl ?_ | refine run_block ?_ | refine run_ret ?_ | refine run_exit ?_ | refine run_cond_true rfl ?_ | refine run_cond_false rfl ?_ | refine thenQ_n ?_ | refine thenQ_r ?_ | refine thenQ_e ?_ | refine blockQ_n ?_ | refine blockQ_r ?_ | refine blockQ_s rfl ?_ | refine blockQ_o rfl ?_ | refine ret1_i rfl ?_ | refine ret1_b rfl ?_ | refine ret1_p rfl ?_ | refine ret1_s rfl ?_ | refine ret1_e rfl ?_ | refine ret1_a rfl ?_ | refine ret1_o rfl ?_ | refine ret1n_i rfl ?_ | refine ret1n_b rfl ?_ | refine ret1n_p rfl ?_ | refine ret1n_s rfl ?_ | refine ret1n_o rfl ?_)
  exact ⟨rfl, S.chg.below⟩
/-- Where Judge is among the attempts. -/
structure JS where
  q : Nat
  G : Nat → Nat
  m : List (Int × Int)
  X : List SlX
structure JInv (init : List Int) (l : List AtS) (W : List Int) (s : JS) : Prop where
  q : s.q ≤ l.length
  gap : ∀ k, k < s.q → ¬ 0 < (l.getD k atD).wv → GapMin init l W s.G k
  srt : s.m.Pairwise fun p q => p.1 < q.1
  mem : ∀ p, p ∈ s.m ↔ ∃ k : Nat, k < s.q ∧ ¬ 0 < (l.getD k atD).wv ∧ p = ((k : Int), (s.G k : Int))
  len : s.X.length = W.length + 1
  rows : ∀ x, x < W.length + 1 → (s.X.getD x sxD).zs = inG l s.G s.q x
theorem JInv.start (init : List Int) (l : List AtS) (W : List Int) : JInv init l W ⟨0, fun _ => 0, [], List.replicate (W.length + 1) sxD⟩ :=
  ⟨Nat.zero_le _, fun k hk => absurd hk (Nat.not_lt_zero k), .nil, fun p => ⟨fun h => (by cases h), fun ⟨k, hk, _⟩ => absurd hk (Nat.not_lt_zero k)⟩, List.length_replicate, fun x hx => by
    rw [List.getD_eq_getElem?_getD, List.getElem?_replicate, if_pos hx]; rfl⟩
theorem JInv.skip {init : List Int} {l : List AtS} {W : List Int} {s : JS} (h : JInv init l W s) (hq : s.q < l.length) (hw : 0 < (l.getD s.q atD).wv) : JInv init l W ⟨s.q + 1, s.G, s.m, s.X⟩ :=
  ⟨hq, fun k hk hn => h.gap k (by
    rcases Nat.lt_or_ge k s.q with e | e
    · exact e
    · obtain rfl : k = s.q := by have : k < s.q + 1 := hk; omega
      exact absurd hw hn) hn, h.srt, fun p => (h.mem p).trans ⟨fun ⟨k, h1, h2⟩ => ⟨k, Nat.lt_succ_of_lt h1, h2⟩, fun ⟨k, h1, h2⟩ => ⟨k, by
    rcases Nat.lt_or_ge k s.q with e | e
    · exact e
    · obtain rfl : k = s.q := by have : k < s.q + 1 := h1; omega
      exact absurd hw h2.1, h2⟩⟩, h.len, fun x hx => by rw [inG_w hw]; exact h.rows x hx⟩
theorem JInv.add {init : List Int} {l : List AtS} {W : List Int} {s : JS} (h : JInv init l W s) (hq : s.q < l.length) (hw : ¬ 0 < (l.getD s.q atD).wv) (g : Nat) (hg : GapMin init l W (fun k => if k = s.q then g else s.G k) s.q) (z : SlX) (hz : z.zs = (s.X.getD g sxD).zs ++ [(s.q : Int)]) (hgl : g < W.length + 1) :
    JInv init l W ⟨s.q + 1, fun k => if k = s.q then g else s.G k, putM s.m s.q g, s.X.set g z⟩ := by
  have hne : ∀ k, k < s.q → s.G k = if k = s.q then g else s.G k := fun k hk => by rw [if_neg (by omega)]
  refine ⟨hq, fun k hk hn => ?_, putM_sorted h.srt _ _, fun p => ?_, by rw [List.length_set]; exact h.len, fun x hx => ?_⟩
  · rcases Nat.lt_or_ge k s.q with e | e
    · exact (h.gap k e hn).congr fun j hj => hne j (by omega)
    · obtain rfl : k = s.q := by have : k < s.q + 1 := hk; omega
      exact hg
  · show p ∈ putM s.m s.q g ↔ _
    rw [mem_putM h.srt]
    constructor
    · rintro (rfl | ⟨h1, h2⟩)
      · exact ⟨s.q, Nat.lt_succ_self _, hw, by dsimp only; rw [if_pos rfl]⟩
      · obtain ⟨k, h3, h4, rfl⟩ := (h.mem p).1 h1
        exact ⟨k, Nat.lt_succ_of_lt h3, h4, by dsimp only; rw [← hne k h3]⟩
    · rintro ⟨k, h3, h4, rfl⟩
      rcases Nat.lt_or_ge k s.q with e | e
      · exact .inr ⟨(h.mem _).2 ⟨k, e, h4, by dsimp only; rw [← hne k e]⟩, fun e2 => by dsimp only at e2; omega⟩
      · obtain rfl : k = s.q := by have : k < s.q + 1 := h3; omega
        exact .inl (by dsimp only; rw [if_pos rfl])
  · show ((s.X.set g z).getD x sxD).zs = inG l (fun k => if k = s.q then g else s.G k) (s.q + 1) x
    rw [inG_n hw, if_pos rfl, ← inG_congr hne, List.getD_eq_getElem?_getD, List.getElem?_set]
    by_cases e : g = x
    · subst e
      rw [if_pos rfl, if_pos (by rw [h.len]; exact hgl), if_pos rfl, ← h.rows g hgl]
      exact hz
    · rw [if_neg e, if_neg e, List.append_nil, ← List.getD_eq_getElem?_getD]
      exact h.rows x hx
theorem rowsR_nil (n : Nat) (w : World) : (rowsR (List.replicate n sxD)).holds w :=
  ⟨fun z hz => by rw [List.eq_of_mem_replicate hz]; exact ⟨by decide, .inl ⟨rfl, rfl, rfl⟩⟩, List.pairwise_replicate.2 (.inr fun k ⟨x, hx, _⟩ => by cases hx)⟩
/-- How far the first k writers press the low bound, and the high one. -/
def LowI (l : List AtS) (W : List Int) (q k low : Nat) : Prop := ∀ x, low ≤ x ↔ ∀ j, j < k → aheadB (l.getD (W.getD j 0).toNat atD) (l.getD q atD) = true → j + 1 ≤ x
def HighI (l : List AtS) (W : List Int) (q k high : Nat) : Prop := ∀ x, x ≤ high ↔ x ≤ W.length ∧ ∀ j, j < k → aheadB (l.getD q atD) (l.getD (W.getD j 0).toNat atD) = true → x ≤ j
theorem low_t {l : List AtS} {W : List Int} {q k low : Nat} (h : LowI l W q k low) (hA : aheadB (l.getD (W.getD k 0).toNat atD) (l.getD q atD) = true) (hk : low ≤ k) : LowI l W q (k + 1) (k + 1) := fun x =>
  ⟨fun hx j hj _ => by omega, fun hx => hx k (by omega) hA⟩
theorem low_f {l : List AtS} {W : List Int} {q k low : Nat} (h : LowI l W q k low) (hA : aheadB (l.getD (W.getD k 0).toNat atD) (l.getD q atD) = false) (hk : low ≤ k) : LowI l W q (k + 1) low := fun x =>
  ⟨fun hx j hj hj2 => by
    by_cases e : j = k
    · subst e; rw [hA] at hj2; cases hj2
    · exact (h x).1 hx j (by omega) hj2, fun hx => (h x).2 fun j hj => hx j (by omega)⟩
theorem high_t {l : List AtS} {W : List Int} {q k high : Nat} (h : HighI l W q k high) (hA : aheadB (l.getD q atD) (l.getD (W.getD k 0).toNat atD) = true) (hk : k < W.length) : HighI l W q (k + 1) (min high k) := fun x =>
  ⟨fun hx => ⟨((h x).1 (by omega)).1, fun j hj hj2 => by
    by_cases e : j = k
    · subst e; omega
    · exact ((h x).1 (by omega)).2 j (by omega) hj2⟩, fun hx => by
    have h1 := (h x).2 ⟨hx.1, fun j hj => hx.2 j (by omega)⟩
    have h2 := hx.2 k (by omega) hA
    omega⟩
theorem high_f {l : List AtS} {W : List Int} {q k high : Nat} (h : HighI l W q k high) (hA : aheadB (l.getD q atD) (l.getD (W.getD k 0).toNat atD) = false) : HighI l W q (k + 1) high := fun x =>
  ⟨fun hx => ⟨((h x).1 hx).1, fun j hj hj2 => by
    by_cases e : j = k
    · subst e; rw [hA] at hj2; cases hj2
    · exact ((h x).1 hx).2 j (by omega) hj2⟩, fun hx => (h x).2 ⟨hx.1, fun j hj => hx.2 j (by omega)⟩⟩
/-- How far those that write nothing, of those that were met, press the low bound. -/
def MapLow (l : List AtS) (q : Nat) (pre : List (Int × Int)) (low lw : Nat) : Prop := ∀ x : Nat, lw ≤ x ↔ low ≤ x ∧ ∀ p ∈ pre, aheadB (l.getD p.1.toNat atD) (l.getD q atD) = true → p.2 ≤ x
theorem maplow_t {l : List AtS} {q : Nat} {pre : List (Int × Int)} {low lw k g : Nat} (h : MapLow l q pre low lw) (hA : aheadB (l.getD k atD) (l.getD q atD) = true) : MapLow l q (pre ++ [((k : Int), (g : Int))]) low (max lw g) := fun x =>
  ⟨fun hx => ⟨((h x).1 (by omega)).1, fun p hp hp2 => by
    rcases List.mem_append.1 hp with hp | hp
    · exact ((h x).1 (by omega)).2 p hp hp2
    · obtain rfl : p = _ := by simpa using hp
      dsimp only
      omega⟩, fun hx => by
    have h1 := (h x).2 ⟨hx.1, fun p hp => hx.2 p (List.mem_append.2 (.inl hp))⟩
    have h2 := hx.2 ((k : Int), (g : Int)) (by simp) (by simpa using hA)
    dsimp only at h2
    omega⟩
theorem maplow_f {l : List AtS} {q : Nat} {pre : List (Int × Int)} {low lw k g : Nat} (h : MapLow l q pre low lw) (hA : aheadB (l.getD k atD) (l.getD q atD) = false) : MapLow l q (pre ++ [((k : Int), (g : Int))]) low lw := fun x =>
  ⟨fun hx => ⟨((h x).1 hx).1, fun p hp hp2 => by
    rcases List.mem_append.1 hp with hp | hp
    · exact ((h x).1 hx).2 p hp hp2
    · obtain rfl : p = _ := by simpa using hp
      rw [Int.toNat_natCast, hA] at hp2
      cases hp2⟩, fun hx => (h x).2 ⟨hx.1, fun p hp => hx.2 p (List.mem_append.2 (.inl hp))⟩⟩
theorem zs_at {init : List Int} {l : List AtS} {W : List Int} {zs : List SlX} {n : Nat} (h : zs.map SlX.zs = (List.range n).map (memG init l W)) : ∀ i, i < n → (zs.getD i sxD).zs = memG init l W i := fun i hi => by
  have h1 : (zs.map SlX.zs)[i]? = ((List.range n).map (memG init l W))[i]? := by rw [h]
  rw [List.getElem?_map, List.getElem?_map, List.getElem?_range hi] at h1
  rw [List.getD_eq_getElem?_getD]
  cases hz : zs[i]? with
  | none => rw [hz] at h1; cases h1
  | some z => rw [hz] at h1; exact Option.some.inj h1
theorem gap_iff {init : List Int} {l : List AtS} {W : List Int} {q low high lw x : Nat} {G : Nat → Nat} {m pre : List (Int × Int)} {X : List SlX} (hJ : JInv init l W ⟨q, G, m, X⟩) (hlo : LowI l W q W.length low) (hhi : HighI l W q W.length high) (hp : pre.Perm m) (hml : MapLow l q pre low lw) :
    GapP init l W G q x ↔ (lw ≤ x ∧ x ≤ high) ∧ fitsB (l.getD q atD) (memG init l W x) = true := by
  unfold GapP
  rw [hml x, hlo x, hhi x]
  constructor
  · rintro ⟨⟨h1, h2⟩, h3, h4⟩
    refine ⟨⟨⟨h1, fun p hp1 hp2 => ?_⟩, h3⟩, h4⟩
    obtain ⟨k, g1, g2, rfl⟩ := (hJ.mem p).1 (hp.mem_iff.1 hp1)
    have := h2 k g1 g2 (by simpa using hp2)
    dsimp only
    omega
  · rintro ⟨⟨⟨h1, h2⟩, h3⟩, h4⟩
    refine ⟨⟨h1, fun k g1 g2 g3 => ?_⟩, h3, h4⟩
    have := h2 ((k : Int), (G k : Int)) (hp.mem_iff.2 ((hJ.mem _).2 ⟨k, g1, g2, rfl⟩)) (by simpa using g3)
    dsimp only at this
    omega
theorem idxG_spec (p : SlX → Bool) (zs : List SlX) : (idxG p zs = -1 ∧ ∀ i, i < zs.length → p (zs.getD i sxD) = false) ∨ ∃ d : Nat, idxG p zs = (d : Nat) ∧ d < zs.length ∧ p (zs.getD d sxD) = true ∧ ∀ i, i < d → p (zs.getD i sxD) = false := by
  have hg : ∀ i (hi : i < zs.length), zs.getD i sxD = zs[i] := fun i hi => by rw [List.getD_eq_getElem?_getD, List.getElem?_eq_getElem hi]; rfl
  unfold idxG
  cases h : zs.any p with
  | false =>
    rw [List.any_eq_false] at h
    exact .inl ⟨if_neg (by decide), fun i hi => by rw [hg i hi]; simpa using h _ (List.getElem_mem hi)⟩
  | true =>
    obtain ⟨x, hx, hpx⟩ := List.any_eq_true.1 h
    have hlt := List.findIdx_lt_length_of_exists ⟨x, hx, hpx⟩
    refine .inr ⟨zs.findIdx p, if_pos rfl, hlt, by rw [hg _ hlt]; exact List.findIdx_getElem, fun i hi => ?_⟩
    rw [hg i (by omega)]
    simpa using List.not_of_lt_findIdx hi
theorem slOk_mid {α : Type} {w : World} {a : Option Addr} {cap sz : Nat} {enc : α → Nat → Value} {d : α} {zs : List α} (h : SlOk w a zs.length cap sz (gL enc d zs)) (k n : Nat) (hk : k + n ≤ zs.length) : SlOk w (subA a k cap sz) ((zs.drop k).take n).length (cap - k) sz (gL enc d ((zs.drop k).take n)) := by
  have hl : ((zs.drop k).take n).length = n := by rw [List.length_take, List.length_drop]; omega
  rw [hl]
  refine (h.sub (lo := k) (n := n) hk).congr fun i hi j hj => ?_
  unfold gL
  rw [List.getD_eq_getElem?_getD, List.getD_eq_getElem?_getD, List.getElem?_take, if_pos hi, List.getElem?_drop]
theorem mid_at {zs : List SlX} {k n i : Nat} (hi : i < n) : ((zs.drop k).take n).getD i sxD = zs.getD (k + i) sxD := by
  rw [List.getD_eq_getElem?_getD, List.getD_eq_getElem?_getD, List.getElem?_take, if_pos hi, List.getElem?_drop]
theorem encSx_set (X : List SlX) (s : Nat) (z : SlX) (hs : s < X.length) (i : Nat) (hi : i < X.length) (j : Nat) (hj : j < 1) : gset (gL encSx sxD X) s 0 (slV z) i j = gL encSx sxD (X.set s z) i j := by
  obtain rfl : j = 0 := by omega
  unfold gset gL
  rw [List.getD_eq_getElem?_getD, List.getD_eq_getElem?_getD, List.getElem?_set]
  by_cases e : i = s
  · subst e; simp [hs]; rfl
  · rw [if_neg (fun x => e x.1), if_neg (fun x => e x.symm)]
theorem inG_len (l : List AtS) (G : Nat → Nat) (q x : Nat) : (inG l G q x).length ≤ q := by
  unfold inG nonw
  rw [List.length_map]
  exact Nat.le_trans (List.length_filter_le _ _) (Nat.le_trans (List.length_filter_le _ _) (by simp))
theorem ordL_succ (l : List AtS) (W : List Int) (G : Nat → Nat) (g : Nat) : ordL l W G (g + 1) = ordL l W G g ++ ordB l W G g := by
  unfold ordL
  rw [List.range_succ, List.flatMap_append]
  simp
theorem ordL_len (l : List AtS) (W : List Int) (G : Nat → Nat) (g : Nat) : (ordL l W G g).length ≤ g * (l.length + 1) := by
  induction g with
  | zero => simp [ordL]
  | succ g ih =>
    rw [ordL_succ, List.length_append, Nat.succ_mul]
    refine Nat.add_le_add ih ?_
    unfold ordB
    rw [List.length_append]
    have := inG_len l G l.length g
    split <;> simp <;> omega
instance rows_L (X : List SlX) (L : List Res) (i : Nat) : PickL (rowsR X :: L) (X.getD i sxD).a (X.getD i sxD).cap 1 encI 0 (X.getD i sxD).zs := ⟨fun w h => by
  by_cases hi : i < X.length
  · exact RowOk.sl ((h (rowsR X) (List.mem_cons_self ..) : (rowsR X).holds w).1 _ ((perm_split hi).mem_iff.2 (by simp)))
  · rw [List.getD_eq_getElem?_getD, List.getElem?_eq_none (by omega)]
    exact ⟨by decide, Nat.le_refl _, Nat.zero_le _, fun _ => rfl, .inl rfl⟩⟩
end Go.Proofs.Ytciehimnhnbipaa
