/- readset: each, Wakes. -/
import Derived.Test.YtnnkegmiefpgpaaRsIt
import Derived.Test.YtnnkegmiefpgpaaOpen
import Derived.RangeFuncCalls
namespace Go.Proofs.Ytnnkegmiefpgpaa
open Go.RowKit Go.Lib
set_option linter.unusedVariables false
attribute [local go_sem] wide_fn Oper.semAt_some
set_option maxHeartbeats 400000 in
theorem each_at (p : Option Addr) (w : World) :
    Calls Try.prog 73 #[.pointer p] w fun e w' => e = .returned (.func (.func 85) #[] #[.pointer (some ⟨w.heap.size, 0, none⟩)]) ∧ w' = w.alloc (.cells #[.pointer p] 63) := by
  go_enter Try.func73, Try.ntmps73
  go_wp2
  go_ret
  exact ⟨rfl, rfl⟩
/-- Does stripe k wake? -/
def wakeAt (rv : Int) (os vs : List Int) (k : Nat) : Bool := lookI rv (os.getD k (-1)) (vs.getD k 0) == 2
def wakesB (rv st : Int) (hs : List Bool) (os vs : List Int) : Bool := (upto st hs 32).any (wakeAt rv os vs)
/-- A slice of ints. -/
def Ints (w : World) (a : Option Addr) (len cap : Nat) (zs : List Int) : Prop := SliceAt w a len cap 1 (fun x => [Value.int .i64 x]) zs
theorem Ints.cell {w : World} {a : Option Addr} {len cap : Nat} {zs : List Int} (h : Ints w a len cap zs) (k : Nat) (hk : k < len) :
    ∃ b off, a = some ⟨b, off, none⟩ ∧ w.cell? ⟨b, off + k, none⟩ = some (.int .i64 (zs.getD k 0)) ∧ ∀ d, zs.getD k d = zs.getD k 0 := by
  obtain ⟨h1, _, _, h4⟩ := h
  rcases h4 with h | ⟨b, off, ha, hb, hc⟩
  · omega
  · have hz : k < zs.length := by omega
    have := hc k hz 0 _ rfl
    refine ⟨b, off, ha, ?_, fun d => ?_⟩
    · rw [List.getD_eq_getElem?_getD, List.getElem?_eq_getElem hz]
      simpa using this
    · rw [List.getD_eq_getElem?_getD, List.getD_eq_getElem?_getD, List.getElem?_eq_getElem hz]; rfl
theorem Ints.below {w w' : World} {a : Option Addr} {len cap : Nat} {zs : List Int} (h : Ints w a len cap zs) (hb : Below w.heap.size w w') : Ints w' a len cap zs := SliceAt.keeps h hb
/-- What lies in the round. -/
structure WkInv (w : World) (s o v : Value) (r : Bool) (W : World) : Prop where
  below : Below w.heap.size w W
  bs : W.cell? ⟨w.heap.size, 0, none⟩ = some s
  bo : W.cell? ⟨w.heap.size + 1, 0, none⟩ = some o
  bv : W.cell? ⟨w.heap.size + 1 + 1, 0, none⟩ = some v
  br : W.cell? ⟨w.heap.size + 1 + 1 + 1, 0, none⟩ = some (.bool r)
  fr : W.frozen? ⟨w.heap.size + 1 + 1 + 1, 0, none⟩ = false
theorem WkInv.own {w : World} {s o v : Value} {r : Bool} {A B : World} {B0 : Nat} {row : Option Nat} (h : WkInv w s o v r A) (hB0 : w.heap.size ≤ B0) (hg : A.grownBy B row) (hr : ∀ r, row = some r → B0 ≤ r ∧ ∃ o : Obj, A.heap[r]? = some o ∧ o.isCells = false) : WkInv w s o v r B :=
  ⟨h.below.grown hg h.below.size (fun k e => Nat.le_trans hB0 (hr k e).1), cell_kept h.bs hg (fun r e => (hr r e).2), cell_kept h.bo hg (fun r e => (hr r e).2), cell_kept h.bv hg (fun r e => (hr r e).2),
   cell_kept h.br hg (fun r e => (hr r e).2), (frozen_kept h.br hg (fun r e => (hr r e).2)).trans h.fr⟩
theorem alloc5 (w : World) (o0 o1 o2 o3 o4 : Obj) (W : World) (hW : ((((w.alloc o0).alloc o1).alloc o2).alloc o3).alloc o4 = W) :
    W.heap.size = w.heap.size + 5 ∧ Below w.heap.size w W ∧ W.heap[w.heap.size]? = some o0 ∧ W.heap[w.heap.size + 1]? = some o1 ∧ W.heap[w.heap.size + 1 + 1]? = some o2 ∧ W.heap[w.heap.size + 1 + 1 + 1]? = some o3 ∧ W.heap[w.heap.size + 1 + 1 + 1 + 1]? = some o4 := by
  subst hW
  refine ⟨by simp, ?_, ?_, ?_, ?_, ?_, ?_⟩
  · exact (((((Below.refl _ w).alloc (Nat.le_refl _) _).alloc (by simp) _).alloc (by simp <;> omega) _).alloc (by simp <;> omega) _).alloc (by simp <;> omega) _
  · rw [heap_alloc_old _ _ _ (by simp <;> omega), heap_alloc_old _ _ _ (by simp <;> omega), heap_alloc_old _ _ _ (by simp <;> omega), heap_alloc_old _ _ _ (by simp), heap_alloc_new]
  · have := heap_alloc_new (w.alloc o0) o1
    rw [World.size_alloc] at this
    rw [heap_alloc_old _ _ _ (by simp <;> omega), heap_alloc_old _ _ _ (by simp <;> omega), heap_alloc_old _ _ _ (by simp), this]
  · have := heap_alloc_new ((w.alloc o0).alloc o1) o2
    rw [World.size_alloc, World.size_alloc] at this
    rw [heap_alloc_old _ _ _ (by simp <;> omega), heap_alloc_old _ _ _ (by simp), this]
  · have := heap_alloc_new (((w.alloc o0).alloc o1).alloc o2) o3
    rw [World.size_alloc, World.size_alloc, World.size_alloc] at this
    rw [heap_alloc_old _ _ _ (by simp), this]
  · have := heap_alloc_new ((((w.alloc o0).alloc o1).alloc o2).alloc o3) o4
    rw [World.size_alloc, World.size_alloc, World.size_alloc, World.size_alloc] at this
    exact this
/-- The values that a round's variables have. -/
theorem wake_of {rv : Int} {os vs : List Int} {k : Nat} (x : Int) (h : lookI rv (os.getD k (-1)) (vs.getD k 0) = x) : wakeAt rv os vs k = (x == 2) := by
  unfold wakeAt
  rw [h]
set_option maxRecDepth 100000 in
set_option maxHeartbeats 4000000 in
theorem wakes_at (b : Nat) (rv st : Int) (hs : List Bool) (ao av : Option Addr) (lo co lv cv : Nat) (os vs : List Int) (x : Bool) (w : World) (hS : SetAt w b rv st hs) (hO : Ints w ao lo co os) (hV : Ints w av lv cv vs) (hx : wakesB rv st hs os vs = x) :
    Calls Try.prog 49 #[.pointer (some ⟨b, 0, none⟩), .slice ao lo co, .slice av lv cv] w fun e w' => e = .returned (.bool x) ∧ Below w.heap.size w w' := by
  have hbl : b < w.heap.size := lt_of_heap hS.head
  refine (callsIn_wide (n := 9)).1 ?_
  refine callsIn_of_wp_marks Try.func49 rfl trivial ?_ rfl
  simp only [Try.ntmps49, List.size_toArray, List.length_cons, List.length_nil, Nat.reduceAdd, Nat.reduceSub, Array.replicate_succ, Array.replicate_zero, List.push_toArray, List.append_toArray, List.nil_append, List.cons_append]
  have HS := Lib.hid hS
  have HO := Lib.hid hO
  have HV := Lib.hid hV
  have HX := Lib.hid hx
  clear hS hO hV hx
  gi_wp2
  refine ((callsIn_wide (n := 9 - 1)).2 (each_at (some ⟨b, 0, none⟩) _)).mono ?_
  rintro e w' ⟨rfl, rfl⟩
  gi_wp2
  obtain ⟨W0, hW0⟩ : ∃ W0, (((((w.alloc (.cells #[.pointer (some ⟨b, 0, none⟩)] 63)).alloc (.cells #[.slice ao lo co] 22)).alloc (.cells #[.slice av lv cv] 22)).alloc (.cells #[.bool false] 4)).alloc (.cells #[.pointer (some ⟨b, 0, none⟩)] 63)) = W0 := ⟨_, rfl⟩
  rw [hW0]
  obtain ⟨hz, hB0, g0, g1, g2, g3, g4⟩ := alloc5 w _ _ _ _ _ W0 hW0
  clear hW0
  have hI0 : WkInv w (.pointer (some ⟨b, 0, none⟩)) (.slice ao lo co) (.slice av lv cv) false W0 :=
    ⟨hB0, by rw [cell_of_row _ _ _ _ _ _ g0]; rfl, by rw [cell_of_row _ _ _ _ _ _ g1]; rfl, by rw [cell_of_row _ _ _ _ _ _ g2]; rfl, by rw [cell_of_row _ _ _ _ _ _ g3]; rfl, frozen_of_row _ _ _ _ _ g3⟩
  have hc4 : W0.cell? ⟨w.heap.size + 1 + 1 + 1 + 1, 0, none⟩ = some (.pointer (some ⟨b, 0, none⟩)) := by rw [cell_of_row _ _ _ _ _ _ g4]; rfl
  refine wpIn_rangeFunc_ownF rfl (by decide) (gf := 85) (lb := #[.pointer (some ⟨w.heap.size + 1 + 1 + 1 + 1, 0, none⟩)]) rfl trivial (enters_of Try.func85 (by kernel_rfl) rfl)
    (each1_stops (9 - 1) (by decide) b (w.heap.size + 1 + 1 + 1 + 1) W0.heap.size rv st hs (by omega) (by omega) W0 (Nat.le_refl _) hc4 (HS.out.below hB0)) (fun h k => h.trans k) (belowK_b (Nat.le_refl _)) (Below.refl _ _) (fun _ => rfl)
    (fun pre W => (∀ y ∈ pre, wakeAt rv os vs y = false) ∧ WkInv w (.pointer (some ⟨b, 0, none⟩)) (.slice ao lo co) (.slice av lv cv) false W)
    (fun c pre W => c = .ret ∧ (∃ y ∈ pre, wakeAt rv os vs y = true) ∧ WkInv w (.pointer (some ⟨b, 0, none⟩)) (.slice ao lo co) (.slice av lv cv) true W)
    (fun s A B row hs hg hr => ⟨hs.1, hs.2.own (by omega) hg hr⟩)
    (fun c s A B row hs hg hr => ⟨hs.1, hs.2.1, hs.2.2.own (by omega) hg hr⟩)
    ⟨by simp, hI0⟩
    (fun x => { tmps := #[.pointer (some ⟨b, 0, none⟩), .slice ao lo co, .slice av lv cv, .pointer (some ⟨w.heap.size, 0, none⟩), .pointer (some ⟨w.heap.size + 1, 0, none⟩), .pointer (some ⟨w.heap.size + 1 + 1, 0, none⟩), .pointer (some ⟨w.heap.size + 1 + 1 + 1, 0, none⟩), .int .i64 x, undef, undef, .pointer (some ⟨b, 0, none⟩), .func (.func 85) #[] #[.pointer (some ⟨w.heap.size + 1 + 1 + 1 + 1, 0, none⟩)], .int .i64 x, undef, undef, undef, undef, undef, undef, undef, undef, undef, undef, undef, undef, undef, undef, undef, undef, undef, undef, undef, undef, undef], defers := [] }) ?assign ?body ?done ?stop
  case assign =>
    intro l x W K hK
    gi_wp2
    exact hK
  case body =>
    rintro l pre x W ⟨hp, hi⟩ _
    have hSW := Lib.hid (HS.out.below hi.below)
    obtain ⟨hiB, e1, e2, e3, e4, e5⟩ := hi
    obtain ⟨lk, hlk⟩ : ∃ y, lookI rv (os.getD x (-1)) (vs.getD x 0) = y := ⟨_, rfl⟩
    have hwk := Lib.hid (wake_of lk hlk)
    obtain ⟨ow, how⟩ : ∃ y, os.getD x (-1) = y := ⟨_, rfl⟩
    obtain ⟨ve, hve⟩ : ∃ y, vs.getD x 0 = y := ⟨_, rfl⟩
    rw [how, hve] at hlk
    have hL := Lib.hid (CallsIn.inRound l (callsIn_wide (n := 9 - 1 - 1 - 1)|>.2 (look_at b rv st hs ow ve lk W hSW.out hlk)))
    have HB := Lib.hid (show WkInv w (.pointer (some ⟨b, 0, none⟩)) (.slice ao lo co) (.slice av lv cv) false W from ⟨hiB, e1, e2, e3, e4, e5⟩)
    have go_on : lk ≠ 2 → ∀ y ∈ pre ++ [x], wakeAt rv os vs y = false := fun hne y hy => by
      rcases List.mem_append.1 hy with h | h
      · exact hp y h
      · simp at h; subst h
        rw [hwk.out]; simpa using hne
    have stop_at : lk = 2 → ∃ y ∈ pre ++ [x], wakeAt rv os vs y = true := fun he => ⟨x, by simp, by rw [hwk.out, he]; rfl⟩
    have GO := Lib.hid go_on
    have ST := Lib.hid stop_at
    have HB2 : Hid (WkInv w (.pointer (some ⟨b, 0, none⟩)) (.slice ao lo co) (.slice av lv cv) true (W.setCell ⟨w.heap.size + 1 + 1 + 1, 0, none⟩ (.bool true))) := Lib.hid (by
      have hne : ∀ k, k ≠ w.heap.size + 1 + 1 + 1 → (W.setCell ⟨w.heap.size + 1 + 1 + 1, 0, none⟩ (.bool true)).cell? ⟨k, 0, none⟩ = W.cell? ⟨k, 0, none⟩ := fun k hk => World.cell?_of_block (Below.heap_setCell _ _ _ _ hk)
      refine ⟨hiB.setCell (p := ⟨w.heap.size + 1 + 1 + 1, 0, none⟩) (by show w.heap.size ≤ w.heap.size + 1 + 1 + 1; omega) _, (hne _ (by omega)).trans e1, (hne _ (by omega)).trans e2, (hne _ (by omega)).trans e3, World.cell?_setCell_same' _ _ _ (by rw [e4]; rfl), ?_⟩
      rw [World.frozen?_setCell]; exact e5)
    clear go_on stop_at hp hlk
    by_cases h1 : x < lo
    · obtain ⟨bo, fo, rfl, hco, hdo⟩ := (HO.out.below hiB).cell x h1
      rw [← hdo (-1), how] at hco
      by_cases h2 : x < lv
      · obtain ⟨bv, fv, rfl, hcv, _⟩ := (HV.out.below hiB).cell x h2
        rw [hve] at hcv
        clear how hve hdo
        by_cases h3 : lk = 2
        · subst h3
          gi_wp2
          refine hL.out.mono ?_
          rintro e w' ⟨rfl, rfl⟩
          gi_wp2
          exact ⟨KeepsOthers.setCell _ _ _, rfl, ST.out (by simp), HB2.out⟩
        · have h4 : (lk == 2) = false := by simpa using h3
          have HG := Lib.hid (GO.out h3)
          clear h3
          gi_wp2
          refine hL.out.mono ?_
          rintro e w' ⟨rfl, rfl⟩
          gi_wp2
          exact ⟨KeepsOthers.refl _, Below.refl _ _, HG.out, HB.out⟩
      · have hvn : ve = 0 := by
          rw [← hve, List.getD_eq_getElem?_getD, List.getElem?_eq_none (by have := HV.out.1; omega)]; rfl
        subst hvn
        clear how hve hdo
        by_cases h3 : lk = 2
        · subst h3
          gi_wp2
          refine hL.out.mono ?_
          rintro e w' ⟨rfl, rfl⟩
          gi_wp2
          exact ⟨KeepsOthers.setCell _ _ _, rfl, ST.out (by simp), HB2.out⟩
        · have h4 : (lk == 2) = false := by simpa using h3
          have HG := Lib.hid (GO.out h3)
          clear h3
          gi_wp2
          refine hL.out.mono ?_
          rintro e w' ⟨rfl, rfl⟩
          gi_wp2
          exact ⟨KeepsOthers.refl _, Below.refl _ _, HG.out, HB.out⟩
    · have hon : ow = -1 := by
        rw [← how, List.getD_eq_getElem?_getD, List.getElem?_eq_none (by have := HO.out.1; omega)]; rfl
      subst hon
      by_cases h2 : x < lv
      · obtain ⟨bv, fv, rfl, hcv, _⟩ := (HV.out.below hiB).cell x h2
        rw [hve] at hcv
        clear how hve
        by_cases h3 : lk = 2
        · subst h3
          gi_wp2
          refine hL.out.mono ?_
          rintro e w' ⟨rfl, rfl⟩
          gi_wp2
          exact ⟨KeepsOthers.setCell _ _ _, rfl, ST.out (by simp), HB2.out⟩
        · have h4 : (lk == 2) = false := by simpa using h3
          have HG := Lib.hid (GO.out h3)
          clear h3
          gi_wp2
          refine hL.out.mono ?_
          rintro e w' ⟨rfl, rfl⟩
          gi_wp2
          exact ⟨KeepsOthers.refl _, Below.refl _ _, HG.out, HB.out⟩
      · have hvn : ve = 0 := by
          rw [← hve, List.getD_eq_getElem?_getD, List.getElem?_eq_none (by have := HV.out.1; omega)]; rfl
        subst hvn
        clear how hve
        by_cases h3 : lk = 2
        · subst h3
          gi_wp2
          refine hL.out.mono ?_
          rintro e w' ⟨rfl, rfl⟩
          gi_wp2
          exact ⟨KeepsOthers.setCell _ _ _, rfl, ST.out (by simp), HB2.out⟩
        · have h4 : (lk == 2) = false := by simpa using h3
          have HG := Lib.hid (GO.out h3)
          clear h3
          gi_wp2
          refine hL.out.mono ?_
          rintro e w' ⟨rfl, rfl⟩
          gi_wp2
          exact ⟨KeepsOthers.refl _, Below.refl _ _, HG.out, HB.out⟩
  case done =>
    rintro D xs W hD rfl ⟨hne, hi⟩ hK
    have hx0 : x = false := by
      rw [← HX.out, wakesB, List.any_eq_false]
      intro y hy
      rw [hne y hy]; decide
    subst hx0
    obtain ⟨hiB, e1, e2, e3, e4, e5⟩ := hi
    gi_wp2
    have hK' := (KeepsOthers.setCell W ⟨w.heap.size + 1 + 1 + 1, 0, none⟩ (.bool false)).same D _ hK rfl
    refine ⟨by simp, .inl ⟨_, _, rfl, run_takeDeferred hK', ?_⟩⟩
    have hc5 := cell_kept (World.cell?_setCell_same' W ⟨w.heap.size + 1 + 1 + 1, 0, none⟩ (.bool false) (by rw [e4]; rfl)) (grownBy_putObj' _ D (.deferred none)) (fun r e => by cases e; exact ⟨_, hK', rfl⟩)
    refine ⟨.bool false, ?_, rfl, ?_⟩
    · simp [results, Try.f49, go_sem, hc5]
    · exact (hiB.setCell (p := ⟨w.heap.size + 1 + 1 + 1, 0, none⟩) (by show w.heap.size ≤ w.heap.size + 1 + 1 + 1; omega) _).grown (grownBy_putObj' _ D (.deferred none)) (Nat.le_trans hiB.size (by simp [World.setCell])) (fun k e => by cases e; omega)
  case stop =>
    rintro D c pre W hD hpre ⟨rfl, hex, hi⟩ hK
    have hx1 : x = true := by
      rw [← HX.out, wakesB, List.any_eq_true]
      obtain ⟨y, hy, hw⟩ := hex
      exact ⟨y, hpre.subset hy, hw⟩
    subst hx1
    obtain ⟨hiB, e1, e2, e3, e4, e5⟩ := hi
    gi_wp2
    refine ⟨by simp, .inl ⟨_, _, rfl, run_takeDeferred hK, ?_⟩⟩
    have hc5 := cell_kept e4 (grownBy_putObj' _ D (.deferred none)) (fun r e => by cases e; exact ⟨_, hK, rfl⟩)
    refine ⟨.bool true, ?_, rfl, ?_⟩
    · simp [results, Try.f49, go_sem, hc5]
    · exact hiB.grown (grownBy_putObj' _ D (.deferred none)) hiB.size (fun k e => by cases e; omega)
end Go.Proofs.Ytnnkegmiefpgpaa
