/- witness: stand, whole. -/
import Derived.Test.YtciehimnhnbipaaWsH
import Derived.Test.YtciehimnhnbipaaWsE
namespace Go.Proofs.Ytciehimnhnbipaa
open Go.RowKit Go.Lib
set_option linter.unusedVariables false
set_option maxHeartbeats 16000000
set_option maxRecDepth 100000
instance plainSx : Plain encSx := ⟨fun _ _ => rfl⟩
theorem sl_eqN {k : IntKind} {z : Int} {h : Nat} (e : z = h) : Value.int k z = .int k (h : Nat) := by rw [e]
theorem slOk_drop {α : Type} {w : World} {a : Option Addr} {cap sz : Nat} {enc : α → Nat → Value} {d : α} {zs : List α} (h : SlOk w a zs.length cap sz (gL enc d zs)) (k : Nat) (hk : k ≤ zs.length) : SlOk w (subA a k cap sz) (zs.drop k).length (cap - k) sz (gL enc d (zs.drop k)) := by
  have h2 := h.sub (lo := k) (n := (zs.drop k).length) (by rw [List.length_drop]; omega)
  refine h2.congr fun i hi j hj => ?_
  unfold gL
  rw [List.getD_eq_getElem?_getD, List.getD_eq_getElem?_getD, List.getElem?_drop]
/-- Whether the g-th writer may stand there. -/
def standP (init : List Int) (l : List AtS) (W : List Int) (g : Nat) : Prop :=
  fitsB (l.getD (W.getD g 0).toNat atD) (memG init l W g) = true ∧ (W.drop (g + 1)).any (fun k => aheadB (l.getD k.toNat atD) (l.getD (W.getD g 0).toNat atD)) = false
instance (init : List Int) (l : List AtS) (W : List Int) (g : Nat) : Decidable (standP init l W g) := by unfold standP; infer_instance
/-- What stand has told of so far. -/
structure StS where
  a : Option Addr
  cap : Nat
  zs : List SlX
abbrev standT (ly : Nat) (r : RecS) (b1 b2 b3 b4 b5 b6 b7 : Nat) (ai aw a : Option Addr) (ci cw cap : Nat) (init W : List Int) (l : List AtS) (s : StS) : List Res :=
  [recR ly r .ready none, defR r.D, memsR s.zs, rowL s.a s.cap 23 1 encSx sxD s.zs, boxR b2 (.slice aw W.length cw) 24, boxR b3 (.slice a l.length cap) 27, boxR b1 (.slice ai init.length ci) 23,
   blk b7 1 (fun _ => .bool false) 4, blk b6 1 (fun _ => .slice s.a s.zs.length s.cap) 64,
   blk b5 1 (fun _ => .slice aw W.length cw) 24, blk b4 1 (fun _ => .slice a l.length cap) 27, slL ai ci 1 encI 0 init, slL aw cw 1 encI 0 W, hisR a cap l]
theorem Sat.to2 {S : Nat → Prop} {w₀ w : World} {L : List Res} {x y z : Res} (h : Sat S w₀ w (x :: y :: z :: L)) : Sat S w₀ w (y :: z :: x :: L) :=
  h.perm ((List.Perm.cons y (List.Perm.swap x z L)).trans (List.Perm.swap x y (z :: L)))
theorem Sat.front4 {S : Nat → Prop} {w₀ w : World} {L : List Res} {a b c d x : Res} (h : Sat S w₀ w (a :: b :: c :: d :: x :: L)) : Sat S w₀ w (x :: a :: b :: c :: d :: L) :=
  h.perm (List.perm_middle (l₁ := [a, b, c, d]) (a := x) (l₂ := L)).symm
theorem Sat.back3 {S : Nat → Prop} {w₀ w : World} {L : List Res} {a b c x : Res} (h : Sat S w₀ w (x :: a :: b :: c :: L)) : Sat S w₀ w (a :: b :: c :: x :: L) :=
  h.perm (List.perm_middle (l₁ := [a, b, c]) (a := x) (l₂ := L))
def standR (init : List Int) (l : List AtS) (W : List Int) (g : Nat) (s : StS) : Prop :=
  g ≤ W.length ∧ s.zs.map SlX.zs = (List.range g).map (memG init l W) ∧ ∀ i, i < g → standP init l W i
def standZ (ly : Nat) (r : RecS) (b6 b7 : Nat) (init : List Int) (l : List AtS) (W : List Int) (w0 w' : World) : Prop :=
  ((∃ g, g < W.length ∧ ¬ standP init l W g) ∧ Sat (fun _ => False) w0 w' [recR ly r .done (some .ret), defR r.D, blk b7 1 (fun _ => .bool false) 4, blk b6 1 (fun _ => .slice none 0 0) 64]) ∨
  ((∀ i, i < W.length → standP init l W i) ∧ ∃ s : StS, s.zs.map SlX.zs = (List.range (W.length + 1)).map (memG init l W) ∧
    Sat (fun _ => False) w0 w' [recR ly r .done (some (.exit 0)), defR r.D, memsR s.zs, rowL s.a s.cap 23 1 encSx sxD s.zs, blk b7 1 (fun _ => .bool false) 4, blk b6 1 (fun _ => .slice s.a s.zs.length s.cap) 64])
theorem stand_at {ai aw a : Option Addr} {ci cw cap : Nat} {init W : List Int} {l : List AtS} (hn : init.length ≤ 1000000) (hW : W.length ≤ 100000) (hWm : ∀ u ∈ W, 0 ≤ u ∧ u < l.length)
    (hok : ∀ u ∈ W, ∀ p ∈ (l.getD u.toNat atD).ws, 0 ≤ p.1 ∧ p.1 < init.length) (hokr : ∀ u ∈ W, ∀ p ∈ (l.getD u.toNat atD).rs, 0 ≤ p.1 ∧ p.1 < init.length) {w0 : World}
    (hi : (slL ai ci 1 encI 0 init).holds w0) (hw : (slL aw cw 1 encI 0 W).holds w0) (hl : (hisR a cap l).holds w0) :
    Calls Try.prog 41 #[.slice ai init.length ci, .slice a l.length cap, .slice aw W.length cw] w0 fun e w' => Below w0.heap.size w0 w' ∧
      (((∃ g, g < W.length ∧ ¬ standP init l W g) ∧ e = .returned (.tuple #[.slice none 0 0, .bool false])) ∨
       ((∀ g, g < W.length → standP init l W g) ∧ ∃ am cm zs, e = .returned (.tuple #[.slice am zs.length cm, .bool true]) ∧ zs.map SlX.zs = (List.range (W.length + 1)).map (memG init l W) ∧ (slL am cm 1 encSx sxD zs).holds w' ∧ (memsR zs).holds w')) := by
  have S := (((Sat.start (fun _ => False) w0).ro (r := hisR a cap l) hl rfl rfl).ro (r := slL aw cw 1 encI 0 W) hw rfl rfl).ro (r := slL ai ci 1 encI 0 init) hi rfl rfl
  have hwc : W.length ≤ cw := hw.2.1
  refine enterMK2 Try.func41 rfl Try.ntmps41 rfl Try.results41 ?_
  repeat' (first | refine move_s_l S rfl rfl ?_ | refine nilL ?_ | refine runM_seq ?_ | refine runM_region (by rfl) ?_ | (refine box_s S rfl rfl ?_; clear S; intro b w S) | (refine allocZ_l S rfl rfl ?_; clear S; intro b w S) | refine load_o_l S rfl rfl rfl rfl ?_ | refine thenQ_n ?_)
  obtain ⟨b7, hb7⟩ : ∃ x, x = b := ⟨_, rfl⟩
  subst hb7
  obtain ⟨b6, hb6⟩ : ∃ x, x = b := ⟨_, rfl⟩
  subst hb6
  obtain ⟨b5, hb5⟩ : ∃ x, x = b := ⟨_, rfl⟩
  subst hb5
  obtain ⟨b4, hb4⟩ : ∃ x, x = b := ⟨_, rfl⟩
  subst hb4
  refine callL (gaps_at ai aw a init.length W.length l.length ci cw cap _) rfl rfl ?_
  rintro e w ⟨b1, b2, b3, rfl, hh, ⟨h1, h2, h3⟩, hb⟩
  replace S := S.fresh hb hh (fun k e => by rcases e with e | e | e <;> (rw [show k = _ from e]; assumption))
  clear hb hh
  replace S := ((S.unand rfl rfl).sw.unand rfl rfl)
  refine ⟨_, rfl, ?_⟩
  repeat' (first | refine nilL ?_ | refine runM_block ?_ | refine thenQ_n ?_)
  refine runM_range (gf := 68) (lb := [.pointer (some ⟨b1, 0, none⟩), .pointer (some ⟨b2, 0, none⟩), .pointer (some ⟨b3, 0, none⟩)]) rfl S ?_
  clear S
  rintro ly r hr1 hr2 hr3 hag w S
  replace S := (S.nilRow 23 1 encSx sxD (by decide)).to2
  replace S := (S.push (r := memsR []) (fun _ h => by cases h) (fun x hx => .inr fun k e _ => by obtain ⟨_, h, _⟩ := e; cases h) (fun e => by cases e)).to2
  replace S : Sat (fun _ => False) w0 w (standT ly r b1 b2 b3 b4 b5 b6 b7 ai aw a ci cw cap init W l ⟨none, 0, []⟩) := by
    refine (Sat.turn (r := blk b7 (Value.bool false).cells.size (fun i => (Value.bool false).cells.toList.getD i undef) 4) (r' := blk b7 1 (fun _ => .bool false) 4) S (S.all (blk b7 (Value.bool false).cells.size (fun i => (Value.bool false).cells.toList.getD i undef) 4) (by simp)) rfl (fun k e => e))
      |>.turn (r := blk b6 (Value.slice none 0 0).cells.size (fun i => (Value.slice none 0 0).cells.toList.getD i undef) 64) (r' := blk b6 1 (fun _ => .slice none 0 0) 64) (S.all (blk b6 (Value.slice none 0 0).cells.size (fun i => (Value.slice none 0 0).cells.toList.getD i undef) 64) (by simp)) rfl (fun k e => e)
  refine (gaps1_i (ai := ai) (aw := aw) (a := a) (ci := ci) (cw := cw) (cap := cap) hn hW hWm hok (standT ly r b1 b2 b3 b4 b5 b6 b7 ai aw a ci cw cap init W l) (standR init l W) (standZ ly r b6 b7 init l W w0) (fun _ => False) w0 ly w ⟨none, 0, []⟩ S ?_ ⟨Nat.zero_le _, rfl, fun i hi => absurd hi (Nat.not_lt_zero i)⟩ ?_).mono ?_
  · intro s x hx
    simp only [gapL, List.mem_cons, List.not_mem_nil, or_false] at hx
    rcases hx with rfl | rfl | rfl | rfl | rfl | rfl <;> simp
  · clear S
    rintro g s am cm w hg ⟨_, hmm, hP⟩ S
    replace S := Sat.sw S
    refine yields_round (t1 := upd (upd _ 15 (.int .i64 (g : Nat))) 16 (.slice am init.length cm)) hr1 hr2 hr3 hag S rfl rfl rfl ?_
    repeat' (first | refine nilL ?_ | refine runM_seq ?_ | refine runM_region (by rfl) ?_ | refine assign_i_l S rfl rfl ?_ | refine assign_s_l S rfl rfl ?_ | refine thenQ_n ?_)
    refine ⟨rfl, rfl, _, S, ?_⟩
    clear S
    intro w S
    repeat' (first | refine move_s_l S rfl rfl ?_ | refine runM_seq ?_ | refine runM_region (by rfl) ?_ | (refine buildSlice_l S rfl rfl rfl rfl rfl ?_; clear S; intro b w S) | refine load_o_l S rfl rfl rfl rfl ?_ | refine runM_block ?_)
    have hml := memG_len init l W g
    have hzl : s.zs.length = g := by have := congrArg List.length hmm; simpa using this
    refine append1_l (enc := encSx) (dd := sxD) (z := ⟨am, cm, memG init l W g⟩) (zs := s.zs) S rfl rfl (fun j hj => by
      obtain rfl : j = 0 := by omega
      show _ = Value.slice am (memG init l W g).length cm
      rw [hml]; rfl) (by omega) rfl ?_
    clear S
    intro a' cap' w S
    replace S := S.tail
    replace S := (Sat.mems (z := ⟨am, cm, memG init l W g⟩) (S.sw.dup rfl).front4).back3.sw
    have hm2 : (s.zs ++ [(⟨am, cm, memG init l W g⟩ : SlX)]).map SlX.zs = (List.range (g + 1)).map (memG init l W) := by rw [List.map_append, hmm, List.range_succ, List.map_append]; rfl
    generalize hzs : s.zs ++ [(⟨am, cm, memG init l W g⟩ : SlX)] = zs2 at S hm2 ⊢
    by_cases hgl : g = W.length
    · subst hgl
      repeat' (first | refine nilL ?_ | refine runM_seq ?_ | refine runM_region (by rfl) ?_ | (refine store_s S rfl rfl rfl ?_; clear S; intro w S) | refine move_i_l S rfl rfl ?_ | refine len_l S rfl rfl ?_ | (refine eql_l S rfl rfl rfl ?_ ?_ <;> intro hcmp <;> try (exfalso; first | omega | exact hcmp (by decide) | exact absurd hcmp (by decide))) | refine load_o_l S rfl rfl rfl rfl ?_ | refine runM_exit ?_ | refine runM_cond_true rfl ?_ | refine thenQ_n ?_ | refine thenQ_e ?_ | refine blockQ_o rfl ?_)
      replace S := Sat.turn (r' := blk b6 1 (fun _ => .slice a' zs2.length cap') 64) S (S.all (blk b6 1 (upd (fun _ => .slice s.a s.zs.length s.cap) 0 (.slice a' zs2.length cap')) 64) (by simp)) rfl (fun k e => e) (r := blk b6 1 (upd (fun _ => .slice s.a s.zs.length s.cap) 0 (.slice a' zs2.length cap')) 64)
      refine roundQ_e _ S ?_
      intro w S
      refine Or.inr (And.intro rfl (Or.inr (And.intro hP (Exists.intro (⟨a', cap', zs2⟩ : StS) (And.intro hm2 S.sub)))))
    · repeat' (first | refine nilL ?_ | refine runM_seq ?_ | refine runM_skip ?_ | refine runM_region (by rfl) ?_ | (refine store_s S rfl rfl rfl ?_; clear S; intro w S) | refine move_i_l S rfl rfl ?_ | refine len_l S rfl rfl ?_ | (refine eql_l S rfl rfl rfl ?_ ?_ <;> intro hcmp <;> try (exfalso; first | omega | exact hcmp (by decide) | exact absurd hcmp (by decide))) | refine load_o_l S rfl rfl rfl rfl ?_ | refine runM_cond_false rfl ?_ | refine thenQ_n ?_)
      replace S := Sat.turn (r' := blk b6 1 (fun _ => .slice a' zs2.length cap') 64) S (S.all (blk b6 1 (upd (fun _ => .slice s.a s.zs.length s.cap) 0 (.slice a' zs2.length cap')) 64) (by simp)) rfl (fun k e => e) (r := blk b6 1 (upd (fun _ => .slice s.a s.zs.length s.cap) 0 (.slice a' zs2.length cap')) 64)
      have hlt : g < W.length := by omega
      have hgm : W.getD g 0 ∈ W := getD_mem hlt
      obtain ⟨hu0, hu1⟩ := hWm _ hgm
      refine runM_any (by rfl) S (L' := [blk b5 1 (fun _ => .slice aw W.length cw) 24, blk b4 1 (fun _ => .slice a l.length cap) 27, slL aw cw 1 encI 0 W, hisR a cap l]) (f := 9) mixed rfl ?_
      clear S
      intro w S1
      have S : Sat _ _ w [blk b5 1 (fun _ => .slice aw W.length cw) 24, blk b4 1 (fun _ => .slice a l.length cap) 27, slL aw cw 1 encI 0 W, hisR a cap l] := S1.sub
      all_goals (refine any_pure (i := 0) rfl (by kernel_rfl) S ?_; (first | refine load_s_x rfl rfl rfl rfl ?_ | refine load_o_x rfl rfl rfl rfl ?_ | refine loadE_s_x rfl (by first | omega | decide | (simp; done) | (simp; omega)) rfl rfl rfl ?_ | refine loadE_o_x rfl (by first | omega | decide | (simp; done) | (simp; omega)) rfl rfl rfl ?_))
      all_goals (refine any_pure (i := 1) rfl (by kernel_rfl) S ?_; (first | refine load_s_x rfl rfl rfl rfl ?_ | refine load_o_x rfl rfl rfl rfl ?_ | refine loadE_s_x rfl (by first | omega | decide | (simp; done) | (simp; omega)) rfl rfl rfl ?_ | refine loadE_o_x rfl (by first | omega | decide | (simp; done) | (simp; omega)) rfl rfl rfl ?_))
      all_goals (refine any_pure (i := 2) rfl (by kernel_rfl) S ?_; refine move_i_x rfl rfl ?_)
      all_goals (refine any_pure (i := 3) rfl (by kernel_rfl) S ?_; (first | refine indexAddr_x rfl rfl (idx_cast _) (by first | omega | decide | (simp; done) | (simp; omega)) rfl ?_ | refine indexAddr_x rfl rfl (idx_eq _) (by first | omega | decide | (simp; done) | (simp; omega)) rfl ?_))
      all_goals (refine any_pure (i := 4) rfl (by kernel_rfl) S ?_; (first | refine load_i_x rfl rfl rfl rfl ?_ | refine load_o_x rfl rfl rfl rfl ?_ | refine loadE_i_x rfl (by first | omega | decide | (simp; done) | (simp; omega)) rfl rfl rfl ?_ | refine loadE_o_x rfl (by first | omega | decide | (simp; done) | (simp; omega)) rfl rfl rfl ?_))
      all_goals (refine any_pure (i := 5) rfl (by kernel_rfl) S ?_; (first | refine indexAddr_x rfl rfl (idx_cast _) (by first | omega | decide | (simp; done) | (simp; omega)) rfl ?_ | refine indexAddr_x rfl rfl (idx_eq _) (by first | omega | decide | (simp; done) | (simp; omega)) rfl ?_))
      all_goals (refine any_pure (i := 6) rfl (by kernel_rfl) S ?_; (first | refine loadN_x rfl rfl rfl ?_ | refine loadEN_x rfl (by first | omega | decide | (simp; done) | (simp; omega)) rfl rfl ?_))
      all_goals (refine any_step (i := 7) rfl (by kernel_rfl) ?_; replace S := S1; clear S1; (first | (refine alloc_l S rfl rfl ?_; clear S; intro b w S) | (refine allocZ_l S rfl rfl ?_; clear S; intro b w S)); refine nilL ?_; refine ⟨S.sub, ?_⟩; have S1 := S; replace S : Sat _ _ _ [blk b5 1 (fun _ => .slice aw W.length cw) 24, blk b4 1 (fun _ => .slice a l.length cap) 27, slL aw cw 1 encI 0 W, hisR a cap l] := S1.sub)
      all_goals (refine any_step (i := 8) rfl (by kernel_rfl) ?_; replace S := S1; clear S1; (first | (refine storeN_l S rfl rfl ⟨rfl, rfl⟩ rfl ?_; clear S; intro w S) | (refine storeEN_l S rfl rfl ⟨rfl, rfl⟩ (by omega) rfl rfl ?_; clear S; intro w S)); refine nilL ?_; refine ⟨S.sub, ?_⟩; have S1 := S; replace S : Sat _ _ _ [blk b5 1 (fun _ => .slice aw W.length cw) 24, blk b4 1 (fun _ => .slice a l.length cap) 27, slL aw cw 1 encI 0 W, hisR a cap l] := S1.sub)
      all_goals refine any_end (by kernel_rfl) ?_
      all_goals replace S := S1
      all_goals clear S1
      obtain ⟨b10, hb10⟩ : ∃ x, x = b := ⟨_, rfl⟩
      subst hb10
      replace S := S.turn1 (r' := blk b10 9 (encAt (l.getD (W.getD g 0).toNat atD)) 32) S.got1 rfl (fun k e => e)
      repeat' (first | refine move_s_l S rfl rfl ?_ | refine runM_seq ?_ | refine runM_region (by rfl) ?_ | refine loadN_l S rfl rfl rfl ?_ | refine thenQ_n ?_)
      have hz := ((S.all (hisR a cap l) (by simp) : (hisR a cap l).holds w).2 (W.getD g 0).toNat)
      refine callL (fits_at (m := memG init l W g) (a := am) (cap := cm) _ hz (S.all (slL am cm 1 encI 0 (memG init l W g)) (by simp)) (by rw [hml]; exact hokr _ hgm)) (by rw [hml]; rfl) rfl ?_
      rintro e w ⟨rfl, hb⟩
      replace S := S.below hb
      clear hb hz
      refine ⟨_, rfl, ?_⟩
      cases hfit : fitsB (l.getD (W.getD g 0).toNat atD) (memG init l W g) with
      | false =>
        repeat' (first | refine nilL ?_ | refine runM_seq ?_ | refine runM_region (by rfl) ?_ | refine offL rfl rfl rfl rfl ?_ | (refine store_s S rfl rfl rfl ?_; clear S; intro w S) | (refine store_b S rfl rfl rfl ?_; clear S; intro w S) | refine not_l S rfl rfl ?_ | refine move_b_l S rfl rfl ?_ | refine pick_tb_l S rfl rfl rfl ?_ | refine runM_ret ?_ | refine runM_cond_true rfl ?_ | refine thenQ_n ?_ | refine blockQ_r ?_)
        replace S := Sat.turn (r' := blk b6 1 (fun _ => .slice none 0 0) 64) S (S.all (blk b6 1 (upd (fun _ => .slice a' zs2.length cap') 0 (.slice none 0 0)) 64) (by simp)) rfl (fun k e => e) (r := blk b6 1 (upd (fun _ => .slice a' zs2.length cap') 0 (.slice none 0 0)) 64)
        replace S := Sat.turn (r' := blk b7 1 (fun _ => .bool false) 4) S (S.all (blk b7 1 (upd (fun _ => .bool false) 0 (.bool false)) 4) (by simp)) rfl (fun k e => e) (r := blk b7 1 (upd (fun _ => .bool false) 0 (.bool false)) 4)
        replace S := S.tail
        refine roundQ_r _ S ?_
        intro w S
        refine Or.inr (And.intro rfl (Or.inl (And.intro ⟨g, hlt, fun h => by rw [h.1] at hfit; cases hfit⟩ S.sub)))
      | true =>
        repeat' (first | refine onL rfl rfl ?_ | refine move_i_l S rfl rfl ?_ | refine not_l S rfl rfl ?_ | refine move_b_l S rfl rfl ?_ | refine add_l S rfl rfl (wrap_in (by omega)) rfl ?_ | refine load_o_l S rfl rfl rfl rfl ?_)
        refine sliceSuf_l (l := g + 1) S rfl (sl_eqN (by omega)) (by omega) rfl ?_
        repeat' (first | refine onL rfl rfl ?_ | refine makeFunc_l S rfl rfl rfl ?_)
        refine callL (containsJ_at (f := 59) (l2 := [.pointer (some ⟨b4, 0, none⟩), .pointer (some ⟨b10, 0, none⟩)]) (p := fun k => aheadB (l.getD k.toNat atD) (l.getD (W.getD g 0).toNat atD))
          (I := fun w => (blk b4 1 (fun _ => .slice a l.length cap) 27).holds w ∧ (blk b10 9 (encAt (l.getD (W.getD g 0).toNat atD)) 32).holds w ∧ (hisR a cap l).holds w) (zs := W.drop (g + 1)) ?_ ?_ _ _ _ ⟨S.all _ (by simp), S.got1, S.all _ (by simp)⟩ (slOk_drop (S.all (slL aw cw 1 encI 0 W) (by simp)) (g + 1) (by omega))) (by rw [List.length_drop]; rfl) rfl ?_
        · exact fun w w' h hb => ⟨holds_below h.1 hb, holds_below h.2.1 hb, holds_below h.2.2 hb⟩
        · exact fun x w hx h => stand1_at x w h.1 h.2.1 h.2.2 (hWm _ (List.mem_of_mem_drop hx))
        rintro e w ⟨rfl, hb⟩
        replace S := S.below hb
        clear hb
        refine ⟨_, rfl, ?_⟩
        cases hany : (W.drop (g + 1)).any (fun k => aheadB (l.getD k.toNat atD) (l.getD (W.getD g 0).toNat atD)) with
        | true =>
          repeat' (first | refine nilL ?_ | refine runM_seq ?_ | refine runM_region (by rfl) ?_ | (refine store_s S rfl rfl rfl ?_; clear S; intro w S) | (refine store_b S rfl rfl rfl ?_; clear S; intro w S) | refine pick_fb_l S rfl rfl rfl ?_ | refine runM_ret ?_ | refine runM_cond_true rfl ?_ | refine thenQ_n ?_ | refine blockQ_r ?_)
          replace S := Sat.turn (r' := blk b6 1 (fun _ => .slice none 0 0) 64) S (S.all (blk b6 1 (upd (fun _ => .slice a' zs2.length cap') 0 (.slice none 0 0)) 64) (by simp)) rfl (fun k e => e) (r := blk b6 1 (upd (fun _ => .slice a' zs2.length cap') 0 (.slice none 0 0)) 64)
          replace S := Sat.turn (r' := blk b7 1 (fun _ => .bool false) 4) S (S.all (blk b7 1 (upd (fun _ => .bool false) 0 (.bool false)) 4) (by simp)) rfl (fun k e => e) (r := blk b7 1 (upd (fun _ => .bool false) 0 (.bool false)) 4)
          replace S := S.tail
          refine roundQ_r _ S ?_
          intro w S
          refine Or.inr (And.intro rfl (Or.inl (And.intro ⟨g, hlt, fun h => by rw [h.2] at hany; cases hany⟩ S.sub)))
        | false =>
          repeat' (first | refine nilL ?_ | refine runM_skip ?_ | refine pick_fb_l S rfl rfl rfl ?_ | refine runM_cond_false rfl ?_ | refine thenQ_n ?_ | refine blockQ_n ?_)
          replace S := S.tail
          refine roundQ_n _ S ?_
          intro w S
          replace S := S.sw
          refine Or.inl (And.intro rfl (Exists.intro (⟨a', cap', zs2⟩ : StS) (And.intro ⟨by omega, hm2, fun i hi => ?_⟩ S)))
          by_cases hig : i < g
          · exact hP i hig
          · obtain rfl : i = g := by omega
            exact ⟨hfit, hany⟩
  · rintro e w' ⟨hv, h⟩
    refine ⟨hv, ?_⟩
    rcases h with ⟨s, ⟨hc, _⟩, _⟩ | ⟨⟨hg, S⟩ | ⟨hP, s, hm, S⟩⟩
    · omega
    · refine .inr ⟨.ret, _, S, ?_⟩
      clear S
      intro w S
      repeat' (first | refine runM_ret ?_ | refine thenQ_r ?_ | refine blockQ_r ?_ | refine endM_nil ?_ | (refine endM_one S ?_; clear S; intro w S) | refine retK2_l S rfl rfl rfl rfl ?_)
      exact ⟨S.chg.below, .inl ⟨hg, rfl⟩⟩
    · refine .inr ⟨.exit 0, _, S, ?_⟩
      clear S
      intro w S
      repeat' (first | refine nilL ?_ | refine runM_seq ?_ | refine runM_region (by rfl) ?_ | (refine store_s S rfl rfl rfl ?_; clear S; intro w S) | (refine store_b S rfl rfl rfl ?_; clear S; intro w S) | refine load_o_l S rfl rfl rfl rfl ?_ | refine runM_ret ?_ | refine runM_exit ?_ | refine thenQ_n ?_ | refine blockQ_s rfl ?_ | refine endM_nil ?_ | (refine endM_one S ?_; clear S; intro w S) | refine retK2_l S rfl rfl rfl rfl ?_)
      exact ⟨S.chg.below, .inr ⟨hP, s.a, s.cap, s.zs, rfl, hm, RowOk.sl (S.all (rowL s.a s.cap 23 1 encSx sxD s.zs) (by simp)), S.all (memsR s.zs) (by simp)⟩⟩
end Go.Proofs.Ytciehimnhnbipaa
