/- commit: the law package's works. -/
import Derived.Test.YtpiodhdbdlfnhaaGreatDoorCmH
import Derived.Test.YtpiodhdbdlfnhaaGreatDoorExch
namespace Go.Proofs.YtpiodhdbdlfnhaaGreatDoor
open Go.RowKit Go.Lib
set_option linter.unusedVariables false
set_option maxHeartbeats 4000000
set_option maxRecDepth 100000
deriving instance DecidableEq for EvS
deriving instance DecidableEq for HeapS
def wkA := runF 200 (newC 2 0 32 (madeH []) []) (newH [7] 1 1)
theorem wkA1 : wkA.1 = [⟨7, 2, 0, 0, 0, 0⟩] ∧ wkA.2.1 = true ∧ wkA.2.2.2 = newH [7] 1 1 := by decide +kernel
def wkB := runF 200 (newC 2 0 32 (madeH []) [(0, 9)]) (newH [7] 1 1)
theorem wkB1 : wkB.1 = [⟨4, 2, 0, 0, 0, 0⟩, ⟨5, 2, 0, 1, 0, 0⟩, ⟨7, 2, 0, 1, 0, 0⟩, ⟨8, 2, 0, 0, 9, 0⟩, ⟨9, 2, 0, 0, 0, 0⟩] ∧ wkB.2.1 = true ∧ wkB.2.2.2 = ⟨[(-1, 1)], 1, 1, [9]⟩ := by decide +kernel
def wkC := runF 200 (newC 2 1 32 (madeH []) [(0, 9)]) ⟨[(-1, 1)], 1, 1, [9]⟩
theorem wkC1 : wkC.1 = [⟨4, 2, 0, 0, 0, 0⟩, ⟨10, 2, 0, 0, 0, 6⟩, ⟨11, 2, 0, 0, 0, 0⟩] ∧ wkC.2.1 = true ∧ wkC.2.2.2 = ⟨[(-1, 1)], 1, 1, [9]⟩ := by decide +kernel
def wkD := runF 200 (newC 2 1 32 (madeH []) [(0, 9)]) ⟨[(1, 1)], 1, 1, [9]⟩
theorem wkD1 : wkD.1 = [⟨10, 2, 0, 0, 0, 4⟩] ∧ wkD.2.1 = true ∧ wkD.2.2.2 = ⟨[(1, 1)], 1, 1, [9]⟩ := by decide +kernel
section
variable {S : Nat → Prop} {w₀ : World} {L : List Res}
variable {P : Program} {ops : Array Oper} {n : Nat} {rest : List Oper} {t : Tm} {w : World} {K : Tm → World → Prop} {d : Nat} {ty : TypeId} {pos : String} {af : Array Edge}
theorem evEq_l (hS : Sat S w₀ w L) {x y : Operand} {T T' : TypeId} [hT : TyEqI P T [.u8, .i64, .i64, .i64, .i64, .i64, .u8]] (l1 l2 : List Int) (h1 : l1.length = 7) (h2 : l2.length = 7) (hx : ev t x = aggV (List.zipWith (fun k a => Value.int k a) [.u8, .i64, .i64, .i64, .i64, .i64, .u8] l1)) (hy : ev t y = aggV (List.zipWith (fun k a => Value.int k a) [.u8, .i64, .i64, .i64, .i64, .i64, .u8] l2)) (hd : Nat.blt d n = true) {r : Bool} (hr : decide (l1 = l2) = r)
    (kk : RunL P ops n rest (upd t d (.bool r)) w K) : RunL P ops n (⟨some d, .binOp .eql T x y T', ty, pos, af, none⟩ :: rest) t w K :=
  valL rfl rfl hd (by have := aggI_run (P := P) (w := w) (t := t) (d := d) (ty := ty) (pos := pos) (af := af) (T := T) (T' := T') (x := x) (y := y) (l1 := l1) (l2 := l2) false hx hy h1 h2; rw [cond_false, cond_false, hr] at this; exact this) kk
theorem evNe_l (hS : Sat S w₀ w L) {x y : Operand} {T T' : TypeId} [hT : TyEqI P T [.u8, .i64, .i64, .i64, .i64, .i64, .u8]] (l1 l2 : List Int) (h1 : l1.length = 7) (h2 : l2.length = 7) (hx : ev t x = aggV (List.zipWith (fun k a => Value.int k a) [.u8, .i64, .i64, .i64, .i64, .i64, .u8] l1)) (hy : ev t y = aggV (List.zipWith (fun k a => Value.int k a) [.u8, .i64, .i64, .i64, .i64, .i64, .u8] l2)) (hd : Nat.blt d n = true) {r : Bool} (hr : decide (l1 ≠ l2) = r)
    (kk : RunL P ops n rest (upd t d (.bool r)) w K) : RunL P ops n (⟨some d, .binOp .neq T x y T', ty, pos, af, none⟩ :: rest) t w K :=
  valL rfl rfl hd (by have := aggI_run (P := P) (w := w) (t := t) (d := d) (ty := ty) (pos := pos) (af := af) (T := T) (T' := T') (x := x) (y := y) (l1 := l1) (l2 := l2) true hx hy h1 h2; rw [cond_true, cond_true, hr] at this; exact this) kk
end
theorem cworks_at (w0 : World) : Calls Tryz.prog 4 #[] w0 fun e w' => e = .returned (.bool true) ∧ Below w0.heap.size w0 w' := by
  have S := Sat.start (fun _ => False) w0
  refine enter1 Tryz.func4 rfl Tryz.ntmps4 rfl Tryz.results4 ?_
  repeat' (first | refine nilL ?_ | refine run_seq ?_ | refine run_region ?_ | refine assign_b_l S rfl rfl ?_ | (refine buildSlice_l S rfl rfl rfl rfl rfl ?_; clear S; intro b w S) | refine thenQ_n ?_)
  refine callL (new_yes (some ⟨b, 0, none⟩) 1 [7] 1 1 (by unfold goodNew; decide) _ (RowOk.sl (RowOk.congr S.got1 (fun i hi j hj => by
    obtain rfl : i = 0 := by simp at hi; omega
    obtain rfl : j = 0 := by omega
    rfl)))) rfl rfl ?_
  rintro e w' ⟨_, rfl, ⟨bh, ga, va, gc, vc, rfl, hh, hf⟩, hb⟩
  replace S := S.fresh hb hh hf
  clear hb hh hf
  replace S := S.sub (L' := [heapR bh ga va gc vc (newH [7] 1 1)])
  refine ⟨_, rfl, ?_⟩
  repeat' (first | refine nilL ?_ | refine run_seq ?_ | refine run_region ?_ | refine extract_p_l S rfl rfl rfl ?_ | refine extract_i_l S rfl rfl rfl ?_ | refine assign_p_l S rfl rfl ?_ | refine assign_i_l S rfl rfl ?_ | refine move_o_l S rfl rfl ?_ | refine thenQ_n ?_)
  refine callL (made_c 2 0 none none 0 0 [] [] (by decide) _ (nilSl_holds _ 1 (by decide) encI 0) (nilSl_holds _ 2 (by decide) encP (0, 0))) rfl rfl ?_
  rintro e w' ⟨p, rfl, hp, hb⟩
  rcases hp with ⟨_, bc, A, rfl, h1, h2⟩ | ⟨hn, _⟩
  rotate_left
  · exact absurd (by unfold okM okN; decide) hn
  replace S := S.fresh (r := cmR bc A (newC 2 0 32 (madeH []) [])) hb h1 h2
  clear hb h1 h2
  refine ⟨_, rfl, ?_⟩
  repeat' (refine move_p_l S rfl rfl ?_)
  refine callL (run_at S.begin2 (n := 1) (st := 1) (limit := 1) (InvC.new (by decide) (by unfold okN; decide)) (OkC.new (zs := [7]) (stripes := 1) (limit := 1) (by unfold goodNew; decide)) (by decide) (by decide)) rfl rfl ?_
  rintro e w' ⟨a1, c1, A', rfl, hS⟩
  change Sat _ _ _ [rowL a1 c1 39 7 encE evD wkA.1, _, heapR bh ga va gc vc wkA.2.2.2] at hS
  change ∃ v, Ending.returned (.tuple #[.slice a1 wkA.1.length c1, .bool wkA.2.1]) = _ ∧ _
  rw [wkA1.2.2, wkA1.1] at hS
  rw [wkA1.1, wkA1.2.1]
  replace S := S.both3 hS rfl rfl rfl rfl rfl
  clear hS
  refine ⟨_, rfl, ?_⟩
  repeat' (first | refine move_b_l S rfl rfl ?_ | refine pick_fb_l S rfl rfl rfl ?_ | refine nilL ?_ | refine run_seq ?_ | refine run_region ?_ | refine onL rfl rfl ?_ | refine move_s_l S rfl rfl ?_ | refine assign_b_l S rfl rfl ?_ | (refine buildSlice_l S rfl rfl rfl rfl rfl ?_; clear S; intro b w S) | (refine neq_l S rfl rfl rfl ?_ ?_ <;> intro hcmp <;> try (exfalso; first | omega | exact hcmp (by decide) | exact absurd hcmp (by decide))) | refine not_l S rfl rfl ?_ | refine assign_s_l S rfl rfl ?_ | refine extract_s_l S rfl rfl rfl ?_ | refine extract_b_l S rfl rfl rfl ?_ | refine move_i_l S rfl rfl ?_ | refine move_o_l S rfl rfl ?_ | refine thenQ_n ?_)
  refine callL (kinds_at a1 (some ⟨b, 0, none⟩) c1 1 ([⟨7, 2, 0, 0, 0, 0⟩] : List EvS) [7] _ (RowOk.sl (S.all (rowL a1 c1 39 7 encE evD ([⟨7, 2, 0, 0, 0, 0⟩] : List EvS)) (by simp))) (SlOk.congr (RowOk.sl S.got1) (fun i hi j hj => by
    obtain rfl : j = 0 := by omega
    match i, hi with
    | 0, _ => rfl))) rfl rfl ?_
  rintro e w' ⟨rfl, hb⟩
  replace S := S.below hb
  refine ⟨_, rfl, ?_⟩
  rw [show decide (List.map (·.kind) ([⟨7, 2, 0, 0, 0, 0⟩] : List EvS) = [7]) = true from by decide]
  replace S := S.tl
  repeat' (first | refine move_b_l S rfl rfl ?_ | refine pick_fb_l S rfl rfl rfl ?_ | refine onL rfl rfl ?_ | refine move_s_l S rfl rfl ?_ | refine not_l S rfl rfl ?_ | refine indexAddr_l S rfl rfl (idx_cast _) (by first | omega | decide | (simp; done) | (simp; omega)) rfl ?_ | refine loadEN_l S rfl (by first | omega | decide | (simp; done) | (simp; omega)) rfl rfl ?_ | (apply build7_l S; (· repeat (first | exact mapN | apply mapC_i rfl | apply mapC_b rfl | apply mapC_p rfl | apply mapC_s rfl | apply mapC_e rfl | apply mapC_a rfl | apply mapC_o rfl)); (· rfl); (· rfl)))
  refine evNe_l S [7, 2, 0, 0, 0, 0, 0] [7, 2, 0, 0, 0, 0, 0] rfl rfl rfl rfl rfl (r := false) (by decide) ?_
  repeat' (first | refine pick_fb_l S rfl rfl rfl ?_ | refine nilL ?_ | refine run_seq ?_ | refine run_skip ?_ | refine run_region ?_ | refine move_s_l S rfl rfl ?_ | (apply buildSliceN_l S; (· repeat (first | exact vsN | apply vsC rfl)); (· rfl); (· rfl); (· rfl); (· rfl); (· rfl); clear S; intro b w S) | refine assign_s_l S rfl rfl ?_ | (apply build2_l S; (· repeat (first | exact mapN | apply mapC_i rfl | apply mapC_b rfl | apply mapC_p rfl | apply mapC_s rfl | apply mapC_e rfl | apply mapC_a rfl | apply mapC_o rfl)); (· rfl); (· rfl)) | refine run_cond_false rfl ?_ | refine thenQ_n ?_)
  obtain ⟨bw, hbw⟩ : ∃ bw, bw = b := ⟨_, rfl⟩
  subst hbw
  replace S := S.turn1 (r' := rowL (some ⟨bw, 0, none⟩) 1 57 2 encP (0, 0) [(0, 9)]) (RowOk.congr S.got1 (fun i hi j hj => by
    obtain rfl : i = 0 := by simp at hi; omega
    match j, hj with
    | 0, _ => rfl
    | 1, _ => rfl)) rfl (fun k e => e)
  replace S := S.sub (L' := [rowL (some ⟨bw, 0, none⟩) 1 57 2 encP (0, 0) [(0, 9)], heapR bh ga va gc vc (newH [7] 1 1)])
  refine callL (made_c 2 0 none (some ⟨bw, 0, none⟩) 0 1 [] [(0, 9)] (by decide) _ (nilSl_holds _ 1 (by decide) encI 0) (RowOk.sl (S.all (rowL (some ⟨bw, 0, none⟩) 1 57 2 encP (0, 0) [(0, 9)]) (by simp)))) rfl rfl ?_
  rintro e w' ⟨p, rfl, hp, hb⟩
  rcases hp with ⟨_, bc, A, rfl, h1, h2⟩ | ⟨hn, _⟩
  rotate_left
  · exact absurd (by unfold okM okN; decide) hn
  replace S := S.fresh (r := cmR bc A (newC 2 0 32 (madeH []) [(0, 9)])) hb h1 h2
  clear hb h1 h2
  refine ⟨_, rfl, ?_⟩
  repeat' (refine move_p_l S rfl rfl ?_)
  replace S := S.perm (L' := [cmR bc A (newC 2 0 32 (madeH []) [(0, 9)]), heapR bh ga va gc vc (newH [7] 1 1), rowL (some ⟨bw, 0, none⟩) 1 57 2 encP (0, 0) [(0, 9)]]) (List.Perm.cons _ (List.Perm.swap ..))
  refine callL (run_at S.begin2 (n := 1) (st := 1) (limit := 1) (InvC.new (by decide) (by unfold okN; decide)) (OkC.new (zs := [7]) (stripes := 1) (limit := 1) (by unfold goodNew; decide)) (by decide) (by decide)) rfl rfl ?_
  rintro e w' ⟨a2, c2, A', rfl, hS⟩
  change Sat _ _ _ [rowL a2 c2 39 7 encE evD wkB.1, _, heapR bh ga va gc vc wkB.2.2.2] at hS
  change ∃ v, Ending.returned (.tuple #[.slice a2 wkB.1.length c2, .bool wkB.2.1]) = _ ∧ _
  rw [wkB1.2.2, wkB1.1] at hS
  rw [wkB1.1, wkB1.2.1]
  replace S := S.both3 hS rfl rfl rfl rfl rfl
  clear hS
  refine ⟨_, rfl, ?_⟩
  repeat' (first | refine move_b_l S rfl rfl ?_ | refine nilL ?_ | refine run_seq ?_ | refine run_region ?_ | refine onL rfl rfl ?_ | refine move_s_l S rfl rfl ?_ | refine assign_b_l S rfl rfl ?_ | (refine buildSlice_l S rfl rfl rfl rfl rfl ?_; clear S; intro b w S) | refine not_l S rfl rfl ?_ | refine assign_s_l S rfl rfl ?_ | refine extract_s_l S rfl rfl rfl ?_ | refine extract_b_l S rfl rfl rfl ?_ | refine move_o_l S rfl rfl ?_ | refine thenQ_n ?_)
  refine callL (kinds_at a2 (some ⟨b, 0, none⟩) c2 5 ([⟨4, 2, 0, 0, 0, 0⟩, ⟨5, 2, 0, 1, 0, 0⟩, ⟨7, 2, 0, 1, 0, 0⟩, ⟨8, 2, 0, 0, 9, 0⟩, ⟨9, 2, 0, 0, 0, 0⟩] : List EvS) [4, 5, 7, 8, 9] _ (RowOk.sl (S.all (rowL a2 c2 39 7 encE evD ([⟨4, 2, 0, 0, 0, 0⟩, ⟨5, 2, 0, 1, 0, 0⟩, ⟨7, 2, 0, 1, 0, 0⟩, ⟨8, 2, 0, 0, 9, 0⟩, ⟨9, 2, 0, 0, 0, 0⟩] : List EvS)) (by simp))) (SlOk.congr (RowOk.sl S.got1) (fun i hi j hj => by
    obtain rfl : j = 0 := by omega
    match i, hi with
    | 0, _ => rfl
    | 1, _ => rfl
    | 2, _ => rfl
    | 3, _ => rfl
    | 4, _ => rfl))) rfl rfl ?_
  rintro e w' ⟨rfl, hb⟩
  replace S := S.below hb
  refine ⟨_, rfl, ?_⟩
  rw [show decide (List.map (·.kind) ([⟨4, 2, 0, 0, 0, 0⟩, ⟨5, 2, 0, 1, 0, 0⟩, ⟨7, 2, 0, 1, 0, 0⟩, ⟨8, 2, 0, 0, 9, 0⟩, ⟨9, 2, 0, 0, 0, 0⟩] : List EvS) = [4, 5, 7, 8, 9]) = true from by decide]
  replace S := S.tl
  have hlen : ([⟨4, 2, 0, 0, 0, 0⟩, ⟨5, 2, 0, 1, 0, 0⟩, ⟨7, 2, 0, 1, 0, 0⟩, ⟨8, 2, 0, 0, 9, 0⟩, ⟨9, 2, 0, 0, 0, 0⟩] : List EvS).length = 5 := rfl
  repeat' (first | refine move_b_l S rfl rfl ?_ | refine pick_fb_l S rfl rfl rfl ?_ | refine onL rfl rfl ?_ | refine move_s_l S rfl rfl ?_ | refine move_p_l S rfl rfl ?_ | (refine neq_l S rfl rfl rfl ?_ ?_ <;> intro hcmp <;> try (exfalso; first | omega | exact hcmp (by decide) | exact absurd hcmp (by decide))) | refine not_l S rfl rfl ?_ | refine indexAddr_l S rfl rfl (idx_cast _) (by first | omega | decide | (simp; done) | (simp; omega)) rfl ?_ | refine fieldAddrE_l S rfl (by first | omega | decide | (simp; done) | (simp; omega)) rfl rfl ?_ | refine loadE_i_l S rfl (by first | omega | decide | (simp; done) | (simp; omega)) rfl rfl rfl ?_)
  (refine callL (value_at (S.all (heapR bh ga va gc vc (⟨[(-1, 1)], 1, 1, [9]⟩ : HeapS)) (by simp)) 0) rfl rfl ?_; rintro e w ⟨rfl, hb⟩; replace S := S.below hb; clear hb; refine ⟨_, rfl, ?_⟩)
  rw [show valueV (⟨[(-1, 1)], 1, 1, [9]⟩ : HeapS) 0 = 9 from by decide]
  repeat' (first | refine move_b_l S rfl rfl ?_ | refine pick_fb_l S rfl rfl rfl ?_ | refine onL rfl rfl ?_ | refine move_p_l S rfl rfl ?_ | (refine neq_l S rfl rfl rfl ?_ ?_ <;> intro hcmp <;> try (exfalso; first | omega | exact hcmp (by decide) | exact absurd hcmp (by decide))))
  (refine callL (version_at (S.all (heapR bh ga va gc vc (⟨[(-1, 1)], 1, 1, [9]⟩ : HeapS)) (by simp)) 0) rfl rfl ?_; rintro e w ⟨rfl, hb⟩; replace S := S.below hb; clear hb; refine ⟨_, rfl, ?_⟩)
  rw [show versionV (⟨[(-1, 1)], 1, 1, [9]⟩ : HeapS) 0 = 1 from by decide]
  repeat' (first | refine pick_fb_l S rfl rfl rfl ?_ | refine nilL ?_ | refine run_seq ?_ | refine run_skip ?_ | refine run_region ?_ | refine onL rfl rfl ?_ | refine move_s_l S rfl rfl ?_ | (refine neq_l S rfl rfl rfl ?_ ?_ <;> intro hcmp <;> try (exfalso; first | omega | exact hcmp (by decide) | exact absurd hcmp (by decide))) | refine run_cond_false rfl ?_ | refine thenQ_n ?_)
  replace S := (S.sub (L' := [heapR bh ga va gc vc (⟨[(-1, 1)], 1, 1, [9]⟩ : HeapS), rowL (some ⟨bw, 0, none⟩) 1 57 2 encP (0, 0) [(0, 9)]])).sw
  refine callL (made_c 2 1 none (some ⟨bw, 0, none⟩) 0 1 [] [(0, 9)] (by decide) _ (nilSl_holds _ 1 (by decide) encI 0) (RowOk.sl (S.all (rowL (some ⟨bw, 0, none⟩) 1 57 2 encP (0, 0) [(0, 9)]) (by simp)))) rfl rfl ?_
  rintro e w' ⟨p, rfl, hp, hb⟩
  rcases hp with ⟨_, bc, A, rfl, h1, h2⟩ | ⟨hn, _⟩
  rotate_left
  · exact absurd (by unfold okM okN; decide) hn
  replace S := S.fresh (r := cmR bc A (newC 2 1 32 (madeH []) [(0, 9)])) hb h1 h2
  clear hb h1 h2
  refine ⟨_, rfl, ?_⟩
  repeat' (refine move_p_l S rfl rfl ?_)
  replace S := S.perm (L' := [cmR bc A (newC 2 1 32 (madeH []) [(0, 9)]), heapR bh ga va gc vc (⟨[(-1, 1)], 1, 1, [9]⟩ : HeapS), rowL (some ⟨bw, 0, none⟩) 1 57 2 encP (0, 0) [(0, 9)]]) (List.Perm.cons _ (List.Perm.swap ..))
  refine callL (run_at S.begin2 (n := 1) (st := 1) (limit := 1) (InvC.new (by decide) (by unfold okN; decide)) ⟨rfl, rfl, rfl, by decide, by decide, fun i hi => (show i = 0 by omega) ▸ (by decide)⟩ (by decide) (by decide)) rfl rfl ?_
  rintro e w' ⟨a3, c3, A', rfl, hS⟩
  change Sat _ _ _ [rowL a3 c3 39 7 encE evD wkC.1, _, heapR bh ga va gc vc wkC.2.2.2] at hS
  change ∃ v, Ending.returned (.tuple #[.slice a3 wkC.1.length c3, .bool wkC.2.1]) = _ ∧ _
  rw [wkC1.2.2, wkC1.1] at hS
  rw [wkC1.1, wkC1.2.1]
  replace S := S.both3 hS rfl rfl rfl rfl rfl
  clear hS
  refine ⟨_, rfl, ?_⟩
  repeat' (first | refine move_b_l S rfl rfl ?_ | refine nilL ?_ | refine run_seq ?_ | refine run_region ?_ | refine onL rfl rfl ?_ | refine move_s_l S rfl rfl ?_ | refine assign_b_l S rfl rfl ?_ | (refine buildSlice_l S rfl rfl rfl rfl rfl ?_; clear S; intro b w S) | refine not_l S rfl rfl ?_ | refine assign_s_l S rfl rfl ?_ | refine extract_s_l S rfl rfl rfl ?_ | refine extract_b_l S rfl rfl rfl ?_ | refine move_o_l S rfl rfl ?_ | refine thenQ_n ?_)
  refine callL (kinds_at a3 (some ⟨b, 0, none⟩) c3 3 ([⟨4, 2, 0, 0, 0, 0⟩, ⟨10, 2, 0, 0, 0, 6⟩, ⟨11, 2, 0, 0, 0, 0⟩] : List EvS) [4, 10, 11] _ (RowOk.sl (S.all (rowL a3 c3 39 7 encE evD ([⟨4, 2, 0, 0, 0, 0⟩, ⟨10, 2, 0, 0, 0, 6⟩, ⟨11, 2, 0, 0, 0, 0⟩] : List EvS)) (by simp))) (SlOk.congr (RowOk.sl S.got1) (fun i hi j hj => by
    obtain rfl : j = 0 := by omega
    match i, hi with
    | 0, _ => rfl
    | 1, _ => rfl
    | 2, _ => rfl))) rfl rfl ?_
  rintro e w' ⟨rfl, hb⟩
  replace S := S.below hb
  clear hb
  refine ⟨_, rfl, ?_⟩
  rw [show decide (List.map (·.kind) ([⟨4, 2, 0, 0, 0, 0⟩, ⟨10, 2, 0, 0, 0, 6⟩, ⟨11, 2, 0, 0, 0, 0⟩] : List EvS) = [4, 10, 11]) = true from by decide]
  replace S := S.tl
  have hlen : ([⟨4, 2, 0, 0, 0, 0⟩, ⟨10, 2, 0, 0, 0, 6⟩, ⟨11, 2, 0, 0, 0, 0⟩] : List EvS).length = 3 := rfl
  repeat' (first | refine move_b_l S rfl rfl ?_ | refine pick_fb_l S rfl rfl rfl ?_ | refine nilL ?_ | refine run_seq ?_ | refine run_skip ?_ | refine run_region ?_ | refine onL rfl rfl ?_ | refine move_s_l S rfl rfl ?_ | refine move_p_l S rfl rfl ?_ | (refine neq_l S rfl rfl rfl ?_ ?_ <;> intro hcmp <;> try (exfalso; first | omega | exact hcmp (by decide) | exact absurd hcmp (by decide))) | refine not_l S rfl rfl ?_ | refine indexAddr_l S rfl rfl (idx_cast _) (by first | omega | decide | (simp; done) | (simp; omega)) rfl ?_ | refine fieldAddrE_l S rfl (by first | omega | decide | (simp; done) | (simp; omega)) rfl rfl ?_ | refine loadE_i_l S rfl (by first | omega | decide | (simp; done) | (simp; omega)) rfl rfl rfl ?_ | refine run_cond_false rfl ?_ | refine thenQ_n ?_)
  replace S := S.sub (L' := [heapR bh ga va gc vc (⟨[(-1, 1)], 1, 1, [9]⟩ : HeapS), rowL (some ⟨bw, 0, none⟩) 1 57 2 encP (0, 0) [(0, 9)]])
  (refine callL (own_at S.got1 0 1) rfl rfl ?_; rintro e w ⟨rfl, hm⟩; replace S := S.heapTo hm; clear hm; refine ⟨_, rfl, ?_⟩)
  rw [show ownH (⟨[(-1, 1)], 1, 1, [9]⟩ : HeapS) 0 1 = (⟨[(1, 1)], 1, 1, [9]⟩ : HeapS) from by rfl] at S
  repeat' (first | refine nilL ?_ | refine run_seq ?_ | refine run_region ?_ | refine move_s_l S rfl rfl ?_ | refine thenQ_n ?_)
  refine callL (made_c 2 1 none (some ⟨bw, 0, none⟩) 0 1 [] [(0, 9)] (by decide) _ (nilSl_holds _ 1 (by decide) encI 0) (RowOk.sl (S.all (rowL (some ⟨bw, 0, none⟩) 1 57 2 encP (0, 0) [(0, 9)]) (by simp)))) rfl rfl ?_
  rintro e w' ⟨p, rfl, hp, hb⟩
  rcases hp with ⟨_, bc, A, rfl, h1, h2⟩ | ⟨hn, _⟩
  rotate_left
  · exact absurd (by unfold okM okN; decide) hn
  replace S := S.fresh (r := cmR bc A (newC 2 1 32 (madeH []) [(0, 9)])) hb h1 h2
  clear hb h1 h2
  refine ⟨_, rfl, ?_⟩
  repeat' (refine move_p_l S rfl rfl ?_)
  replace S := S.perm (L' := [cmR bc A (newC 2 1 32 (madeH []) [(0, 9)]), heapR bh ga va gc vc (⟨[(1, 1)], 1, 1, [9]⟩ : HeapS), rowL (some ⟨bw, 0, none⟩) 1 57 2 encP (0, 0) [(0, 9)]]) (List.Perm.refl _)
  refine callL (run_at S.begin2 (n := 1) (st := 1) (limit := 1) (InvC.new (by decide) (by unfold okN; decide)) ⟨rfl, rfl, rfl, by decide, by decide, fun i hi => (show i = 0 by omega) ▸ (by decide)⟩ (by decide) (by decide)) rfl rfl ?_
  rintro e w' ⟨a4, c4, A', rfl, hS⟩
  change Sat _ _ _ [rowL a4 c4 39 7 encE evD wkD.1, _, heapR bh ga va gc vc wkD.2.2.2] at hS
  change ∃ v, Ending.returned (.tuple #[.slice a4 wkD.1.length c4, .bool wkD.2.1]) = _ ∧ _
  rw [wkD1.2.2, wkD1.1] at hS
  rw [wkD1.1, wkD1.2.1]
  replace S := S.both3 hS rfl rfl rfl rfl rfl
  clear hS
  refine ⟨_, rfl, ?_⟩
  repeat' (first | refine move_b_l S rfl rfl ?_ | refine nilL ?_ | refine run_seq ?_ | refine run_region ?_ | refine onL rfl rfl ?_ | refine move_s_l S rfl rfl ?_ | refine assign_b_l S rfl rfl ?_ | (refine buildSlice_l S rfl rfl rfl rfl rfl ?_; clear S; intro b w S) | refine assign_s_l S rfl rfl ?_ | refine extract_s_l S rfl rfl rfl ?_ | refine extract_b_l S rfl rfl rfl ?_ | refine move_o_l S rfl rfl ?_ | refine thenQ_n ?_)
  refine callL (kinds_at a4 (some ⟨b, 0, none⟩) c4 1 ([⟨10, 2, 0, 0, 0, 4⟩] : List EvS) [10] _ (RowOk.sl (S.all (rowL a4 c4 39 7 encE evD ([⟨10, 2, 0, 0, 0, 4⟩] : List EvS)) (by simp))) (SlOk.congr (RowOk.sl S.got1) (fun i hi j hj => by
    obtain rfl : j = 0 := by omega
    match i, hi with
    | 0, _ => rfl))) rfl rfl ?_
  rintro e w' ⟨rfl, hb⟩
  replace S := S.below hb
  clear hb
  refine ⟨_, rfl, ?_⟩
  rw [show decide (List.map (·.kind) ([⟨10, 2, 0, 0, 0, 4⟩] : List EvS) = [10]) = true from by decide]
  replace S := S.tl
  have hlen : ([⟨10, 2, 0, 0, 0, 4⟩] : List EvS).length = 1 := rfl
  repeat' (first | refine move_b_l S rfl rfl ?_ | refine pick_tb_l S rfl rfl rfl ?_ | refine onL rfl rfl ?_ | refine move_s_l S rfl rfl ?_ | refine indexAddr_l S rfl rfl (idx_cast _) (by first | omega | decide | (simp; done) | (simp; omega)) rfl ?_ | refine loadEN_l S rfl (by first | omega | decide | (simp; done) | (simp; omega)) rfl rfl ?_ | (apply build7_l S; (· repeat (first | exact mapN | apply mapC_i rfl | apply mapC_b rfl | apply mapC_p rfl | apply mapC_s rfl | apply mapC_e rfl | apply mapC_a rfl | apply mapC_o rfl)); (· rfl); (· rfl)))
  refine evEq_l S [10, 2, 0, 0, 0, 0, 4] [10, 2, 0, 0, 0, 0, 4] rfl rfl rfl rfl rfl (r := true) (by decide) ?_
  repeat' (first | refine pick_tb_l S rfl rfl rfl ?_ | refine nilL ?_ | refine assign_b_l S rfl rfl ?_ | refine run_ret ?_ | refine thenQ_n ?_ | refine ret1_b rfl ?_)
  exact ⟨rfl, S.chg.below⟩
end Go.Proofs.YtpiodhdbdlfnhaaGreatDoor
