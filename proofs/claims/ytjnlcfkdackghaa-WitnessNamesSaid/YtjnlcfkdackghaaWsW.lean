/- witness: the law WitnessNames. -/
import Derived.Test.YtjnlcfkdackghaaWsO
namespace Go.Proofs.Ytjnlcfkdackghaa
open Go.RowKit Go.Lib
set_option linter.unusedVariables false
set_option linter.unusedSimpArgs false
set_option maxHeartbeats 16000000
set_option maxRecDepth 100000
theorem Sat.rowTo {α : Type} {S : Nat → Prop} {w₀ w : World} {L : List Res} (hS : Sat S w₀ w L) (a : Option Addr) {n c e sz : Nat} {g : Nat → Nat → Value} {f : Res → List Res} [hq : PickR L a n c e sz g f] {enc : α → Nat → Value} {d : α} (zs : List α) (hl : zs.length = n) (hg : ∀ i, i < n → ∀ j, j < sz → g i j = gL enc d zs i j) : Sat S w₀ w (f (rowL a c e sz enc d zs)) := by
  subst hl
  have := hq.pick
  exact hS.turn (r := row a zs.length c e sz g) (r' := rowL a c e sz enc d zs) (RowOk.congr (hS.holds (r := row a zs.length c e sz g)) hg) rfl (fun k e => e)
theorem his_nil (w : World) : (hisR none 0 []).holds w := his_of [] (nil_sl (enc := encAt) (d := atD) (by decide)) rfl (fun i hi => absurd hi (Nat.not_lt_zero i)) (fun z hz => by cases hz)
theorem lt13 {j : Nat} (h : j < 13) : j = 0 ∨ j = 1 ∨ j = 2 ∨ j = 3 ∨ j = 4 ∨ j = 5 ∨ j = 6 ∨ j = 7 ∨ j = 8 ∨ j = 9 ∨ j = 10 ∨ j = 11 ∨ j = 12 := by omega
theorem at_w {z : AtS} {w : World} (h : SlOk w z.wa z.ws.length z.wc 2 (gL encPr (0, 0) z.ws)) (hr : z.ra = none) (hc : z.rc = 0) (hs : z.rs = []) : (atR z).holds w := ⟨by rw [hr, hc, hs]; exact nil_sl (by decide), h⟩
theorem at_r {z : AtS} {w : World} (h : SlOk w z.ra z.rs.length z.rc 2 (gL encPr (0, 0) z.rs)) (hr : z.wa = none) (hc : z.wc = 0) (hs : z.ws = []) : (atR z).holds w := ⟨h, by rw [hr, hc, hs]; exact nil_sl (by decide)⟩
theorem at_n {z : AtS} {w : World} (h1 : z.ra = none) (h2 : z.rc = 0) (h3 : z.rs = []) (hr : z.wa = none) (hc : z.wc = 0) (hs : z.ws = []) : (atR z).holds w := ⟨by rw [h1, h2, h3]; exact nil_sl (by decide), by rw [hr, hc, hs]; exact nil_sl (by decide)⟩
theorem one_row {w : World} {b : Nat} {g : Nat → Nat → Value} (h : SlOk w (some ⟨b, 0, none⟩) 1 1 1 g) (hg : g 0 0 = .int .i64 0) : SlOk w (some ⟨b, 0, none⟩) 1 1 1 (gL encI 0 [0]) := h.congr fun i hi j hj => by
  obtain rfl := lt1 hi
  obtain rfl := lt1 hj
  exact hg
theorem walk_WitnessNames (w0 : World) :
    Calls Try.prog 3 #[] w0 fun e w' => e = .returned (.bool true) ∧ Below w0.heap.size w0 w' := by
  have S := Sat.start (fun _ => False) w0
  refine enter1 Try.func3 rfl Try.ntmps3 rfl Try.results3 ?_
  repeat' (first | (apply buildSliceN_l S; (· repeat (first | exact vsN | apply vsC rfl)); (· rfl); (· rfl); (· rfl); (· rfl); (· rfl); clear S; intro b w S) | refine nilL ?_ | refine run_seq ?_ | refine run_region ?_ | (apply build9_l S; (· repeat (first | exact mapN | apply mapC_i rfl | apply mapC_b rfl | apply mapC_p rfl | apply mapC_s rfl | apply mapC_e rfl | apply mapC_a rfl | apply mapC_o rfl)); (· rfl); (· rfl)) | refine assign_b_l S rfl rfl ?_ | refine move_i_l S rfl rfl ?_ | (apply build2_l S; (· repeat (first | exact mapN | apply mapC_i rfl | apply mapC_b rfl | apply mapC_p rfl | apply mapC_s rfl | apply mapC_e rfl | apply mapC_a rfl | apply mapC_o rfl)); (· rfl); (· rfl)) | (refine allocZ_l S rfl rfl ?_; clear S; intro b w S) | (refine storeN_l S rfl rfl ⟨rfl, rfl⟩ rfl ?_; clear S; intro w S) | refine len_l S rfl rfl ?_ | refine run_block ?_ | refine thenQ_n ?_)
  obtain ⟨bL, hxbL⟩ : ∃ x, x = b := ⟨_, rfl⟩
  subst hxbL
  obtain ⟨p5, hxp5⟩ : ∃ x, x = b := ⟨_, rfl⟩
  subst hxp5
  obtain ⟨p4, hxp4⟩ : ∃ x, x = b := ⟨_, rfl⟩
  subst hxp4
  obtain ⟨p3, hxp3⟩ : ∃ x, x = b := ⟨_, rfl⟩
  subst hxp3
  obtain ⟨p2, hxp2⟩ : ∃ x, x = b := ⟨_, rfl⟩
  subst hxp2
  obtain ⟨p1, hxp1⟩ : ∃ x, x = b := ⟨_, rfl⟩
  subst hxp1
  obtain ⟨bw, hxbw⟩ : ∃ x, x = b := ⟨_, rfl⟩
  subst hxbw
  obtain ⟨ww, hxww⟩ : ∃ x, x = b := ⟨_, rfl⟩
  subst hxww
  replace S := S.rowTo (some ⟨bL, 0, none⟩) (enc := encAt) (d := atD) ([⟨0, 0, -1, 0, 0, 0, false, none, 0, [], none, 0, []⟩, ⟨0, 0, 5, 4, 0, 0, false, none, 0, [], none, 0, []⟩, ⟨0, 0, 0, -2, 0, 0, false, none, 0, [], none, 0, []⟩, ⟨0, 0, 0, 0, -1, 0, false, none, 0, [], none, 0, []⟩, ⟨0, 0, 0, 0, 0, -1, false, none, 0, [], none, 0, []⟩, ⟨0, 0, 0, 0, 1099511627777, 0, false, none, 0, [], none, 0, []⟩, ⟨0, 0, 0, 0, 0, 1, false, none, 0, [], none, 0, []⟩, ⟨0, 0, 0, 0, 0, 1099511627777, true, none, 0, [], none, 0, []⟩, ⟨0, 0, 0, 0, 0, 0, false, none, 0, [], some ⟨p1, 0, none⟩, 1, [(0, 0)]⟩, ⟨0, 0, 0, 0, 0, 0, true, none, 0, [], some ⟨p2, 0, none⟩, 1, [(0, 0)]⟩, ⟨0, 0, 0, 0, 0, 0, false, some ⟨p3, 0, none⟩, 1, [(1, 0)], none, 0, []⟩, ⟨0, 0, 0, 0, 0, 0, false, some ⟨p4, 0, none⟩, 1, [(-1, 0)], none, 0, []⟩, ⟨0, 0, 0, 0, 0, 1, true, none, 0, [], some ⟨p5, 0, none⟩, 2, [(0, 0), (0, 0)]⟩] : List AtS) rfl (fun i hi j hj => by
    rcases lt13 hi with rfl | rfl | rfl | rfl | rfl | rfl | rfl | rfl | rfl | rfl | rfl | rfl | rfl <;> rcases lt9 hj with rfl | rfl | rfl | rfl | rfl | rfl | rfl | rfl | rfl <;> rfl)
  replace S := S.rowTo (some ⟨p5, 0, none⟩) (enc := encPr) (d := (0, 0)) [(0, 0), (0, 0)] rfl (fun i hi j hj => by
    rcases lt2 hi with rfl | rfl <;> rcases lt2 hj with rfl | rfl <;> rfl)
  replace S := S.rowTo (some ⟨p4, 0, none⟩) (enc := encPr) (d := (0, 0)) [(-1, 0)] rfl (fun i hi j hj => by
    obtain rfl := lt1 hi
    rcases lt2 hj with rfl | rfl <;> rfl)
  replace S := S.rowTo (some ⟨p3, 0, none⟩) (enc := encPr) (d := (0, 0)) [(1, 0)] rfl (fun i hi j hj => by
    obtain rfl := lt1 hi
    rcases lt2 hj with rfl | rfl <;> rfl)
  replace S := S.rowTo (some ⟨p2, 0, none⟩) (enc := encPr) (d := (0, 0)) [(0, 0)] rfl (fun i hi j hj => by
    obtain rfl := lt1 hi
    rcases lt2 hj with rfl | rfl <;> rfl)
  replace S := S.rowTo (some ⟨p1, 0, none⟩) (enc := encPr) (d := (0, 0)) [(0, 0)] rfl (fun i hi j hj => by
    obtain rfl := lt1 hi
    rcases lt2 hj with rfl | rfl <;> rfl)
  replace S := S.rowTo (some ⟨ww, 0, none⟩) (enc := encPr) (d := (0, 0)) [(0, 5)] rfl (fun i hi j hj => by
    obtain rfl := lt1 hi
    rcases lt2 hj with rfl | rfl <;> rfl)
  have hbad : ∀ z ∈ ([⟨0, 0, -1, 0, 0, 0, false, none, 0, [], none, 0, []⟩, ⟨0, 0, 5, 4, 0, 0, false, none, 0, [], none, 0, []⟩, ⟨0, 0, 0, -2, 0, 0, false, none, 0, [], none, 0, []⟩, ⟨0, 0, 0, 0, -1, 0, false, none, 0, [], none, 0, []⟩, ⟨0, 0, 0, 0, 0, -1, false, none, 0, [], none, 0, []⟩, ⟨0, 0, 0, 0, 1099511627777, 0, false, none, 0, [], none, 0, []⟩, ⟨0, 0, 0, 0, 0, 1, false, none, 0, [], none, 0, []⟩, ⟨0, 0, 0, 0, 0, 1099511627777, true, none, 0, [], none, 0, []⟩, ⟨0, 0, 0, 0, 0, 0, false, none, 0, [], some ⟨p1, 0, none⟩, 1, [(0, 0)]⟩, ⟨0, 0, 0, 0, 0, 0, true, none, 0, [], some ⟨p2, 0, none⟩, 1, [(0, 0)]⟩, ⟨0, 0, 0, 0, 0, 0, false, some ⟨p3, 0, none⟩, 1, [(1, 0)], none, 0, []⟩, ⟨0, 0, 0, 0, 0, 0, false, some ⟨p4, 0, none⟩, 1, [(-1, 0)], none, 0, []⟩, ⟨0, 0, 0, 0, 0, 1, true, none, 0, [], some ⟨p5, 0, none⟩, 2, [(0, 0), (0, 0)]⟩] : List AtS), ¬ MayP 1 [z] := of_decide_eq_true (by kernel_rfl)
  replace S := S.turn (r := blk bw (Value.agg #[.int .i64 0, .int .i64 0, .int .i64 0, .int .i64 0, .int .i64 0, .int .i64 0, .bool false, .slice none 0 0, .slice none 0 0]).cells.size (updN (fun i => (Value.agg #[.int .i64 0, .int .i64 0, .int .i64 0, .int .i64 0, .int .i64 0, .int .i64 0, .bool false, .slice none 0 0, .slice none 0 0]).cells.toList.getD i undef) 0 [.int .i64 0, .int .i64 0, .int .i64 1, .int .i64 4, .int .i64 0, .int .i64 1, .bool true, .slice none 0 0, .slice (some ⟨ww, 0, none⟩) 1 1]) 26) (r' := blk bw 9 (encAt ⟨0, 0, 1, 4, 0, 1, true, none, 0, [], some ⟨ww, 0, none⟩, 1, [(0, 5)]⟩) 26) (S.all (blk bw (Value.agg #[.int .i64 0, .int .i64 0, .int .i64 0, .int .i64 0, .int .i64 0, .int .i64 0, .bool false, .slice none 0 0, .slice none 0 0]).cells.size (updN (fun i => (Value.agg #[.int .i64 0, .int .i64 0, .int .i64 0, .int .i64 0, .int .i64 0, .int .i64 0, .bool false, .slice none 0 0, .slice none 0 0]).cells.toList.getD i undef) 0 [.int .i64 0, .int .i64 0, .int .i64 1, .int .i64 4, .int .i64 0, .int .i64 1, .bool true, .slice none 0 0, .slice (some ⟨ww, 0, none⟩) 1 1]) 26) (by simp)) rfl (fun k e => e)
  have hat : ∀ w, Sat (fun _ => False) w0 w [row (some ⟨bL, 0, none⟩) 13 13 26 9 (gL encAt atD ([⟨0, 0, -1, 0, 0, 0, false, none, 0, [], none, 0, []⟩, ⟨0, 0, 5, 4, 0, 0, false, none, 0, [], none, 0, []⟩, ⟨0, 0, 0, -2, 0, 0, false, none, 0, [], none, 0, []⟩, ⟨0, 0, 0, 0, -1, 0, false, none, 0, [], none, 0, []⟩, ⟨0, 0, 0, 0, 0, -1, false, none, 0, [], none, 0, []⟩, ⟨0, 0, 0, 0, 1099511627777, 0, false, none, 0, [], none, 0, []⟩, ⟨0, 0, 0, 0, 0, 1, false, none, 0, [], none, 0, []⟩, ⟨0, 0, 0, 0, 0, 1099511627777, true, none, 0, [], none, 0, []⟩, ⟨0, 0, 0, 0, 0, 0, false, none, 0, [], some ⟨p1, 0, none⟩, 1, [(0, 0)]⟩, ⟨0, 0, 0, 0, 0, 0, true, none, 0, [], some ⟨p2, 0, none⟩, 1, [(0, 0)]⟩, ⟨0, 0, 0, 0, 0, 0, false, some ⟨p3, 0, none⟩, 1, [(1, 0)], none, 0, []⟩, ⟨0, 0, 0, 0, 0, 0, false, some ⟨p4, 0, none⟩, 1, [(-1, 0)], none, 0, []⟩, ⟨0, 0, 0, 0, 0, 1, true, none, 0, [], some ⟨p5, 0, none⟩, 2, [(0, 0), (0, 0)]⟩] : List AtS)), rowL (some ⟨p5, 0, none⟩) 2 23 2 encPr (0, 0) [(0, 0), (0, 0)], rowL (some ⟨p4, 0, none⟩) 1 23 2 encPr (0, 0) [(-1, 0)], rowL (some ⟨p3, 0, none⟩) 1 23 2 encPr (0, 0) [(1, 0)], rowL (some ⟨p2, 0, none⟩) 1 23 2 encPr (0, 0) [(0, 0)], rowL (some ⟨p1, 0, none⟩) 1 23 2 encPr (0, 0) [(0, 0)], blk bw 9 (encAt ⟨0, 0, 1, 4, 0, 1, true, none, 0, [], some ⟨ww, 0, none⟩, 1, [(0, 5)]⟩) 26, rowL (some ⟨ww, 0, none⟩) 1 23 2 encPr (0, 0) [(0, 5)]] → ∀ z ∈ ([⟨0, 0, -1, 0, 0, 0, false, none, 0, [], none, 0, []⟩, ⟨0, 0, 5, 4, 0, 0, false, none, 0, [], none, 0, []⟩, ⟨0, 0, 0, -2, 0, 0, false, none, 0, [], none, 0, []⟩, ⟨0, 0, 0, 0, -1, 0, false, none, 0, [], none, 0, []⟩, ⟨0, 0, 0, 0, 0, -1, false, none, 0, [], none, 0, []⟩, ⟨0, 0, 0, 0, 1099511627777, 0, false, none, 0, [], none, 0, []⟩, ⟨0, 0, 0, 0, 0, 1, false, none, 0, [], none, 0, []⟩, ⟨0, 0, 0, 0, 0, 1099511627777, true, none, 0, [], none, 0, []⟩, ⟨0, 0, 0, 0, 0, 0, false, none, 0, [], some ⟨p1, 0, none⟩, 1, [(0, 0)]⟩, ⟨0, 0, 0, 0, 0, 0, true, none, 0, [], some ⟨p2, 0, none⟩, 1, [(0, 0)]⟩, ⟨0, 0, 0, 0, 0, 0, false, some ⟨p3, 0, none⟩, 1, [(1, 0)], none, 0, []⟩, ⟨0, 0, 0, 0, 0, 0, false, some ⟨p4, 0, none⟩, 1, [(-1, 0)], none, 0, []⟩, ⟨0, 0, 0, 0, 0, 1, true, none, 0, [], some ⟨p5, 0, none⟩, 2, [(0, 0), (0, 0)]⟩] : List AtS), (atR z).holds w := fun w S z hz => by
    have h5 := RowOk.sl (S.all (rowL (some ⟨p5, 0, none⟩) 2 23 2 encPr (0, 0) [(0, 0), (0, 0)]) (by simp))
    have h4 := RowOk.sl (S.all (rowL (some ⟨p4, 0, none⟩) 1 23 2 encPr (0, 0) [(-1, 0)]) (by simp))
    have h3 := RowOk.sl (S.all (rowL (some ⟨p3, 0, none⟩) 1 23 2 encPr (0, 0) [(1, 0)]) (by simp))
    have h2 := RowOk.sl (S.all (rowL (some ⟨p2, 0, none⟩) 1 23 2 encPr (0, 0) [(0, 0)]) (by simp))
    have h1 := RowOk.sl (S.all (rowL (some ⟨p1, 0, none⟩) 1 23 2 encPr (0, 0) [(0, 0)]) (by simp))
    simp only [List.mem_cons, List.not_mem_nil, or_false] at hz
    rcases hz with rfl | rfl | rfl | rfl | rfl | rfl | rfl | rfl | rfl | rfl | rfl | rfl | rfl
    · exact at_n rfl rfl rfl rfl rfl rfl
    · exact at_n rfl rfl rfl rfl rfl rfl
    · exact at_n rfl rfl rfl rfl rfl rfl
    · exact at_n rfl rfl rfl rfl rfl rfl
    · exact at_n rfl rfl rfl rfl rfl rfl
    · exact at_n rfl rfl rfl rfl rfl rfl
    · exact at_n rfl rfl rfl rfl rfl rfl
    · exact at_n rfl rfl rfl rfl rfl rfl
    · exact at_w h1 rfl rfl rfl
    · exact at_w h2 rfl rfl rfl
    · exact at_r h3 rfl rfl rfl
    · exact at_r h4 rfl rfl rfl
    · exact at_w h5 rfl rfl rfl
  replace S : Sat (fun _ => False) w0 w [row (some ⟨bL, 0, none⟩) 13 13 26 9 (gL encAt atD ([⟨0, 0, -1, 0, 0, 0, false, none, 0, [], none, 0, []⟩, ⟨0, 0, 5, 4, 0, 0, false, none, 0, [], none, 0, []⟩, ⟨0, 0, 0, -2, 0, 0, false, none, 0, [], none, 0, []⟩, ⟨0, 0, 0, 0, -1, 0, false, none, 0, [], none, 0, []⟩, ⟨0, 0, 0, 0, 0, -1, false, none, 0, [], none, 0, []⟩, ⟨0, 0, 0, 0, 1099511627777, 0, false, none, 0, [], none, 0, []⟩, ⟨0, 0, 0, 0, 0, 1, false, none, 0, [], none, 0, []⟩, ⟨0, 0, 0, 0, 0, 1099511627777, true, none, 0, [], none, 0, []⟩, ⟨0, 0, 0, 0, 0, 0, false, none, 0, [], some ⟨p1, 0, none⟩, 1, [(0, 0)]⟩, ⟨0, 0, 0, 0, 0, 0, true, none, 0, [], some ⟨p2, 0, none⟩, 1, [(0, 0)]⟩, ⟨0, 0, 0, 0, 0, 0, false, some ⟨p3, 0, none⟩, 1, [(1, 0)], none, 0, []⟩, ⟨0, 0, 0, 0, 0, 0, false, some ⟨p4, 0, none⟩, 1, [(-1, 0)], none, 0, []⟩, ⟨0, 0, 0, 0, 0, 1, true, none, 0, [], some ⟨p5, 0, none⟩, 2, [(0, 0), (0, 0)]⟩] : List AtS)), rowL (some ⟨p5, 0, none⟩) 2 23 2 encPr (0, 0) [(0, 0), (0, 0)], rowL (some ⟨p4, 0, none⟩) 1 23 2 encPr (0, 0) [(-1, 0)], rowL (some ⟨p3, 0, none⟩) 1 23 2 encPr (0, 0) [(1, 0)], rowL (some ⟨p2, 0, none⟩) 1 23 2 encPr (0, 0) [(0, 0)], rowL (some ⟨p1, 0, none⟩) 1 23 2 encPr (0, 0) [(0, 0)], blk bw 9 (encAt ⟨0, 0, 1, 4, 0, 1, true, none, 0, [], some ⟨ww, 0, none⟩, 1, [(0, 5)]⟩) 26, rowL (some ⟨ww, 0, none⟩) 1 23 2 encPr (0, 0) [(0, 5)]] := S
  generalize hbl : ([⟨0, 0, -1, 0, 0, 0, false, none, 0, [], none, 0, []⟩, ⟨0, 0, 5, 4, 0, 0, false, none, 0, [], none, 0, []⟩, ⟨0, 0, 0, -2, 0, 0, false, none, 0, [], none, 0, []⟩, ⟨0, 0, 0, 0, -1, 0, false, none, 0, [], none, 0, []⟩, ⟨0, 0, 0, 0, 0, -1, false, none, 0, [], none, 0, []⟩, ⟨0, 0, 0, 0, 1099511627777, 0, false, none, 0, [], none, 0, []⟩, ⟨0, 0, 0, 0, 0, 1, false, none, 0, [], none, 0, []⟩, ⟨0, 0, 0, 0, 0, 1099511627777, true, none, 0, [], none, 0, []⟩, ⟨0, 0, 0, 0, 0, 0, false, none, 0, [], some ⟨p1, 0, none⟩, 1, [(0, 0)]⟩, ⟨0, 0, 0, 0, 0, 0, true, none, 0, [], some ⟨p2, 0, none⟩, 1, [(0, 0)]⟩, ⟨0, 0, 0, 0, 0, 0, false, some ⟨p3, 0, none⟩, 1, [(1, 0)], none, 0, []⟩, ⟨0, 0, 0, 0, 0, 0, false, some ⟨p4, 0, none⟩, 1, [(-1, 0)], none, 0, []⟩, ⟨0, 0, 0, 0, 0, 1, true, none, 0, [], some ⟨p5, 0, none⟩, 2, [(0, 0), (0, 0)]⟩] : List AtS) = bads at S hbad hat
  have hl13 : bads.length = 13 := by rw [← hbl]; rfl
  refine run_while [0, 3, 4, 5, 6, 63, 64, 65, 66, 67, 68, 69, 70, 71, 72, 73, 74, 75, 76, 77, 78, 79, 80, 81, 82, 83, 84, 85, 86, 87, 88, 89, 90] (fun (k : Nat) t => upd t 62 (.int .i64 (k : Nat))) (fun k w' => k ≤ 13 ∧ Sat (fun _ => False) w0 w' [row (some ⟨bL, 0, none⟩) 13 13 26 9 (gL encAt atD bads), rowL (some ⟨p5, 0, none⟩) 2 23 2 encPr (0, 0) [(0, 0), (0, 0)], rowL (some ⟨p4, 0, none⟩) 1 23 2 encPr (0, 0) [(-1, 0)], rowL (some ⟨p3, 0, none⟩) 1 23 2 encPr (0, 0) [(1, 0)], rowL (some ⟨p2, 0, none⟩) 1 23 2 encPr (0, 0) [(0, 0)], rowL (some ⟨p1, 0, none⟩) 1 23 2 encPr (0, 0) [(0, 0)], blk bw 9 (encAt ⟨0, 0, 1, 4, 0, 1, true, none, 0, [], some ⟨ww, 0, none⟩, 1, [(0, 5)]⟩) 26, rowL (some ⟨ww, 0, none⟩) 1 23 2 encPr (0, 0) [(0, 5)]]) (fun k => 13 - k) 0 ?_ ?_ ?_
  · (repeat (first | exact agree_refl | refine agree_r rfl ?_ | refine agree_l rfl ?_ | refine agree_hv rfl ?_))
  · exact ⟨Nat.zero_le _, S⟩
  clear S
  rintro k j w ⟨hk, S⟩
  by_cases hk13 : k < 13
  · have hbm : bads.getD k atD ∈ bads := getD_mem (by omega)
    have hno := hbad _ hbm
    repeat' (first | (refine buildSlice_l S rfl rfl rfl rfl rfl ?_; clear S; intro b w S) | (apply buildSliceN_l S; (· repeat (first | exact vsN | apply vsC rfl)); (· rfl); (· rfl); (· rfl); (· rfl); (· rfl); clear S; intro b w S) | refine nilL ?_ | refine run_seq ?_ | refine run_skip ?_ | refine run_region ?_ | refine loadN_l S rfl rfl rfl ?_ | refine loadEN_l S rfl (by first | omega | decide | (simp; done) | (simp; omega)) rfl rfl ?_ | (refine allocZ_l S rfl rfl ?_; clear S; intro b w S) | (refine storeN_l S rfl rfl ⟨rfl, rfl⟩ rfl ?_; clear S; intro w S) | (refine lss_l S rfl rfl rfl ?_ ?_ <;> intro hcmp <;> try (exfalso; first | omega | exact hcmp (by decide) | exact absurd hcmp (by decide))) | refine indexAddr_l S rfl rfl (idx_cast _) (by first | omega | decide | (simp; done) | (simp; omega)) rfl ?_ | refine run_block ?_ | refine run_cond_true rfl ?_ | refine thenQ_n ?_)
    obtain ⟨b1, hb1⟩ : ∃ x, x = b := ⟨_, rfl⟩
    subst hb1
    obtain ⟨bi, hbi⟩ : ∃ x, x = b := ⟨_, rfl⟩
    subst hbi
    have S0 : Sat (fun _ => False) w0 w [row (some ⟨bL, 0, none⟩) 13 13 26 9 (gL encAt atD bads), rowL (some ⟨p5, 0, none⟩) 2 23 2 encPr (0, 0) [(0, 0), (0, 0)], rowL (some ⟨p4, 0, none⟩) 1 23 2 encPr (0, 0) [(-1, 0)], rowL (some ⟨p3, 0, none⟩) 1 23 2 encPr (0, 0) [(1, 0)], rowL (some ⟨p2, 0, none⟩) 1 23 2 encPr (0, 0) [(0, 0)], rowL (some ⟨p1, 0, none⟩) 1 23 2 encPr (0, 0) [(0, 0)], blk bw 9 (encAt ⟨0, 0, 1, 4, 0, 1, true, none, 0, [], some ⟨ww, 0, none⟩, 1, [(0, 5)]⟩) 26, rowL (some ⟨ww, 0, none⟩) 1 23 2 encPr (0, 0) [(0, 5)]] := S.sub
    have hI : SlOk w (some ⟨bi, 0, none⟩) 1 1 1 (gL encI 0 [0]) := one_row (S.rowAt (some ⟨bi, 0, none⟩)) rfl
    have hH : (hisR (some ⟨b1, 0, none⟩) 1 [bads.getD k atD]).holds w := his_of _ (RowOk.sl S.got1) rfl (fun i hi j hj => by
      obtain rfl := lt1 hi
      rcases lt9 hj with rfl | rfl | rfl | rfl | rfl | rfl | rfl | rfl | rfl <;> rfl) (fun z hz => by
      obtain rfl : z = bads.getD k atD := by simpa using hz
      exact hat w S0 _ hbm)
    refine callL (judge_at (ai := some ⟨bi, 0, none⟩) (ci := 1) (init := [0]) hI hH (by decide) (show 1 ≤ 100000 by decide)) rfl rfl ?_
    rintro e w ⟨hb, ⟨_, rfl⟩ | ⟨hM, _⟩ | ⟨hM, _⟩⟩
    rotate_left
    · exact absurd hM hno
    · exact absurd hM hno
    replace S := S.below hb
    clear hb hI hH S0
    refine ⟨_, rfl, ?_⟩
    repeat' (first | (refine buildSlice_l S rfl rfl rfl rfl rfl ?_; clear S; intro b w S) | (apply buildSliceN_l S; (· repeat (first | exact vsN | apply vsC rfl)); (· rfl); (· rfl); (· rfl); (· rfl); (· rfl); clear S; intro b w S) | refine nilL ?_ | refine run_seq ?_ | refine run_region ?_ | refine loadN_l S rfl rfl rfl ?_ | refine assign_b_l S rfl rfl ?_ | refine extract_s_l S rfl rfl rfl ?_ | refine extract_b_l S rfl rfl rfl ?_ | refine extract_i_l S rfl rfl rfl ?_ | refine assign_s_l S rfl rfl ?_ | refine assign_i_l S rfl rfl ?_ | refine move_o_l S rfl rfl ?_ | refine thenQ_n ?_)
    obtain ⟨b1, hb1⟩ : ∃ x, x = b := ⟨_, rfl⟩
    subst hb1
    obtain ⟨bi, hbi⟩ : ∃ x, x = b := ⟨_, rfl⟩
    subst hbi
    have S0 : Sat (fun _ => False) w0 w [row (some ⟨bL, 0, none⟩) 13 13 26 9 (gL encAt atD bads), rowL (some ⟨p5, 0, none⟩) 2 23 2 encPr (0, 0) [(0, 0), (0, 0)], rowL (some ⟨p4, 0, none⟩) 1 23 2 encPr (0, 0) [(-1, 0)], rowL (some ⟨p3, 0, none⟩) 1 23 2 encPr (0, 0) [(1, 0)], rowL (some ⟨p2, 0, none⟩) 1 23 2 encPr (0, 0) [(0, 0)], rowL (some ⟨p1, 0, none⟩) 1 23 2 encPr (0, 0) [(0, 0)], blk bw 9 (encAt ⟨0, 0, 1, 4, 0, 1, true, none, 0, [], some ⟨ww, 0, none⟩, 1, [(0, 5)]⟩) 26, rowL (some ⟨ww, 0, none⟩) 1 23 2 encPr (0, 0) [(0, 5)]] := S.sub
    have hH : (hisR (some ⟨b1, 0, none⟩) 1 [bads.getD k atD]).holds w := his_of _ (RowOk.sl S.got1) rfl (fun i hi j hj => by
      obtain rfl := lt1 hi
      rcases lt9 hj with rfl | rfl | rfl | rfl | rfl | rfl | rfl | rfl | rfl <;> rfl) (fun z hz => by
      obtain rfl : z = bads.getD k atD := by simpa using hz
      exact hat w S0 _ hbm)
    refine callL (may_at (n := 1) (ci := 1) (ai := some ⟨bi, 0, none⟩) hH) rfl rfl ?_
    rintro e w ⟨rfl, hb⟩
    replace S := S.below hb
    clear hb hH S0
    rw [decide_eq_false hno]
    refine ⟨_, rfl, ?_⟩
    repeat' (first | refine move_b_l S rfl rfl ?_ | refine nilL ?_ | refine run_skip ?_ | refine run_region ?_ | refine onL rfl rfl ?_ | refine pick_fb_l S rfl rfl rfl ?_ | refine move_i_l S rfl rfl ?_ | refine len_l S rfl rfl ?_ | refine move_s_l S rfl rfl ?_ | (refine neq_l S rfl rfl rfl ?_ ?_ <;> intro hcmp <;> try (exfalso; first | omega | exact hcmp (by decide) | exact absurd hcmp (by decide))) | refine add_l S rfl rfl (wrap_in (by omega)) rfl ?_ | refine run_cond_false rfl ?_ | refine thenQ_n ?_ | refine blockQ_n ?_)
    refine ⟨k + 1, ?_, ⟨by omega, S.sub⟩, by omega⟩
    rw [Int.natCast_add k 1]
    (repeat (first | exact agree_refl | refine agree_r rfl ?_ | refine agree_l rfl ?_ | refine agree_hv rfl ?_))
  · obtain rfl : k = 13 := by omega
    clear hbad hat hbl
    have S0 : Sat (fun _ => False) w0 w [blk bw 9 (encAt ⟨0, 0, 1, 4, 0, 1, true, none, 0, [], some ⟨ww, 0, none⟩, 1, [(0, 5)]⟩) 26, rowL (some ⟨ww, 0, none⟩) 1 23 2 encPr (0, 0) [(0, 5)]] := S.sub
    clear S
    have S := S0
    clear S0
    repeat' (first | refine nilL ?_ | refine run_seq ?_ | refine run_region ?_ | (refine lss_l S rfl rfl rfl ?_ ?_ <;> intro hcmp <;> try (exfalso; first | omega | exact hcmp (by decide) | exact absurd hcmp (by decide))) | refine run_exit ?_ | refine run_cond_false rfl ?_ | refine thenQ_n ?_ | refine thenQ_e ?_ | refine blockQ_s rfl ?_)
    refine callL (judge_at (ai := none) (a := none) (ci := 0) (cap := 0) (init := []) (l := []) (nil_sl (by decide)) (his_nil _) (by decide) (by decide)) rfl rfl ?_
    rintro e w ⟨hb, ⟨_, rfl⟩ | ⟨hM, _⟩ | ⟨hM, _⟩⟩
    rotate_left
    · exact absurd hM.1 (by decide)
    · exact absurd hM.1 (by decide)
    replace S := S.below hb
    clear hb
    refine ⟨_, rfl, ?_⟩
    repeat' (first | refine nilL ?_ | refine run_seq ?_ | refine run_region ?_ | refine assign_b_l S rfl rfl ?_ | refine extract_s_l S rfl rfl rfl ?_ | refine extract_b_l S rfl rfl rfl ?_ | refine extract_i_l S rfl rfl rfl ?_ | refine assign_s_l S rfl rfl ?_ | refine assign_i_l S rfl rfl ?_ | refine move_o_l S rfl rfl ?_ | refine thenQ_n ?_)
    refine makeSlice_l (k := 33) S rfl (by decide) rfl (by omega) rfl ?_
    clear S
    intro b w S
    skip
    have hI : SlOk w (some ⟨b, 0, none⟩) 33 33 1 (gL encI 0 (List.replicate 33 0)) := (S.rowAt (some ⟨b, 0, none⟩)).congr fun i hi j hj => by
      obtain rfl := lt1 hj
      unfold gL
      rw [List.getD_eq_getElem?_getD, List.getElem?_replicate, if_pos hi]
      rfl
    refine callL (judge_at (ai := some ⟨b, 0, none⟩) (a := none) (ci := 33) (cap := 0) (init := List.replicate 33 0) (l := []) hI (his_nil _) (by decide) (by decide)) rfl rfl ?_
    rintro e w ⟨hb, ⟨_, rfl⟩ | ⟨hM, _⟩ | ⟨hM, _⟩⟩
    rotate_left
    · exact absurd hM.1 (by decide)
    · exact absurd hM.1 (by decide)
    replace S := S.tail.below hb
    clear hb hI
    refine ⟨_, rfl, ?_⟩
    repeat' (first | (refine buildSlice_l S rfl rfl rfl rfl rfl ?_; clear S; intro b w S) | (apply buildSliceN_l S; (· repeat (first | exact vsN | apply vsC rfl)); (· rfl); (· rfl); (· rfl); (· rfl); (· rfl); clear S; intro b w S) | refine nilL ?_ | refine run_seq ?_ | refine run_region ?_ | refine loadN_l S rfl rfl rfl ?_ | refine assign_b_l S rfl rfl ?_ | refine extract_s_l S rfl rfl rfl ?_ | refine extract_b_l S rfl rfl rfl ?_ | refine extract_i_l S rfl rfl rfl ?_ | refine assign_s_l S rfl rfl ?_ | refine assign_i_l S rfl rfl ?_ | refine move_o_l S rfl rfl ?_ | refine thenQ_n ?_)
    obtain ⟨b1, hb1⟩ : ∃ x, x = b := ⟨_, rfl⟩
    subst hb1
    obtain ⟨bi, hbi⟩ : ∃ x, x = b := ⟨_, rfl⟩
    subst hbi
    have hww := RowOk.sl (S.all (rowL (some ⟨ww, 0, none⟩) 1 23 2 encPr (0, 0) [(0, 5)]) (by simp))
    have hI : SlOk w (some ⟨bi, 0, none⟩) 1 1 1 (gL encI 0 [0]) := one_row (S.rowAt (some ⟨bi, 0, none⟩)) rfl
    have hH : (hisR (some ⟨b1, 0, none⟩) 2 [⟨0, 0, 1, 4, 0, 1, true, none, 0, [], some ⟨ww, 0, none⟩, 1, [(0, 5)]⟩, ⟨0, 0, 1, 4, 0, 1, true, none, 0, [], some ⟨ww, 0, none⟩, 1, [(0, 5)]⟩]).holds w := his_of _ (RowOk.sl S.got1) rfl (fun i hi j hj => by
      rcases lt2 hi with rfl | rfl <;> rcases lt9 hj with rfl | rfl | rfl | rfl | rfl | rfl | rfl | rfl | rfl <;> rfl) (fun z hz => by
      simp only [List.mem_cons, List.not_mem_nil, or_false] at hz
      rcases hz with rfl | rfl
      · exact at_w hww rfl rfl rfl
      · exact at_w hww rfl rfl rfl)
    have hno : ¬ MayP 1 [⟨0, 0, 1, 4, 0, 1, true, none, 0, [], some ⟨ww, 0, none⟩, 1, [(0, 5)]⟩, ⟨0, 0, 1, 4, 0, 1, true, none, 0, [], some ⟨ww, 0, none⟩, 1, [(0, 5)]⟩] := of_decide_eq_true (by kernel_rfl)
    refine callL (judge_at (ai := some ⟨bi, 0, none⟩) (ci := 1) (init := [0]) hI hH (by decide) (show 2 ≤ 100000 by decide)) rfl rfl ?_
    rintro e w ⟨hb, ⟨_, rfl⟩ | ⟨hM, _⟩ | ⟨hM, _⟩⟩
    rotate_left
    · exact absurd hM hno
    · exact absurd hM hno
    replace S : Sat (fun _ => False) w0 w [blk bw 9 (encAt ⟨0, 0, 1, 4, 0, 1, true, none, 0, [], some ⟨ww, 0, none⟩, 1, [(0, 5)]⟩) 26, rowL (some ⟨ww, 0, none⟩) 1 23 2 encPr (0, 0) [(0, 5)]] := (S.below hb).sub
    clear hb hI hH hno hww
    refine ⟨_, rfl, ?_⟩
    repeat' (first | (refine buildSlice_l S rfl rfl rfl rfl rfl ?_; clear S; intro b w S) | (apply buildSliceN_l S; (· repeat (first | exact vsN | apply vsC rfl)); (· rfl); (· rfl); (· rfl); (· rfl); (· rfl); clear S; intro b w S) | refine nilL ?_ | refine run_seq ?_ | refine run_region ?_ | refine loadN_l S rfl rfl rfl ?_ | refine assign_b_l S rfl rfl ?_ | refine extract_s_l S rfl rfl rfl ?_ | refine extract_b_l S rfl rfl rfl ?_ | refine extract_i_l S rfl rfl rfl ?_ | refine assign_s_l S rfl rfl ?_ | refine assign_i_l S rfl rfl ?_ | (refine allocZ_l S rfl rfl ?_; clear S; intro b w S) | (refine storeN_l S rfl rfl ⟨rfl, rfl⟩ rfl ?_; clear S; intro w S) | refine fieldAddr_l S rfl rfl rfl ?_ | (refine store_i S rfl rfl rfl ?_; clear S; intro w S) | refine move_o_l S rfl rfl ?_ | refine thenQ_n ?_)
    obtain ⟨b1, hxb1⟩ : ∃ x, x = b := ⟨_, rfl⟩
    subst hxb1
    obtain ⟨bi, hxbi⟩ : ∃ x, x = b := ⟨_, rfl⟩
    subst hxbi
    obtain ⟨bt, hxbt⟩ : ∃ x, x = b := ⟨_, rfl⟩
    subst hxbt
    have hww := RowOk.sl (S.all (rowL (some ⟨ww, 0, none⟩) 1 23 2 encPr (0, 0) [(0, 5)]) (by simp))
    have hI : SlOk w (some ⟨bi, 0, none⟩) 1 1 1 (gL encI 0 [0]) := one_row (S.rowAt (some ⟨bi, 0, none⟩)) rfl
    have hH : (hisR (some ⟨b1, 0, none⟩) 2 [⟨0, 0, 1, 4, 0, 1, true, none, 0, [], some ⟨ww, 0, none⟩, 1, [(0, 5)]⟩, ⟨0, 0, 6, 7, 0, 1, true, none, 0, [], some ⟨ww, 0, none⟩, 1, [(0, 5)]⟩]).holds w := his_of _ (RowOk.sl S.got1) rfl (fun i hi j hj => by
      rcases lt2 hi with rfl | rfl <;> rcases lt9 hj with rfl | rfl | rfl | rfl | rfl | rfl | rfl | rfl | rfl <;> rfl) (fun z hz => by
      simp only [List.mem_cons, List.not_mem_nil, or_false] at hz
      rcases hz with rfl | rfl
      · exact at_w hww rfl rfl rfl
      · exact at_w hww rfl rfl rfl)
    have hno : ¬ MayP 1 [⟨0, 0, 1, 4, 0, 1, true, none, 0, [], some ⟨ww, 0, none⟩, 1, [(0, 5)]⟩, ⟨0, 0, 6, 7, 0, 1, true, none, 0, [], some ⟨ww, 0, none⟩, 1, [(0, 5)]⟩] := of_decide_eq_true (by kernel_rfl)
    refine callL (judge_at (ai := some ⟨bi, 0, none⟩) (ci := 1) (init := [0]) hI hH (by decide) (show 2 ≤ 100000 by decide)) rfl rfl ?_
    rintro e w ⟨hb, ⟨_, rfl⟩ | ⟨hM, _⟩ | ⟨hM, _⟩⟩
    rotate_left
    · exact absurd hM hno
    · exact absurd hM hno
    replace S := (S.below hb).tail.tail
    replace S := S.turn1 (r' := blk bt 9 (encAt ⟨0, 0, 6, 7, 0, 1, true, none, 0, [], some ⟨ww, 0, none⟩, 1, [(0, 5)]⟩) 26) S.got1 rfl (fun k e => e)
    replace S : Sat (fun _ => False) w0 w [blk bt 9 (encAt ⟨0, 0, 6, 7, 0, 1, true, none, 0, [], some ⟨ww, 0, none⟩, 1, [(0, 5)]⟩) 26, blk bw 9 (encAt ⟨0, 0, 1, 4, 0, 1, true, none, 0, [], some ⟨ww, 0, none⟩, 1, [(0, 5)]⟩) 26, rowL (some ⟨ww, 0, none⟩) 1 23 2 encPr (0, 0) [(0, 5)]] := S
    clear hb hI hH hno hww
    refine ⟨_, rfl, ?_⟩
    repeat' (first | (refine buildSlice_l S rfl rfl rfl rfl rfl ?_; clear S; intro b w S) | refine nilL ?_ | refine run_seq ?_ | refine run_region ?_ | refine assign_b_l S rfl rfl ?_ | refine extract_s_l S rfl rfl rfl ?_ | refine extract_b_l S rfl rfl rfl ?_ | refine extract_i_l S rfl rfl rfl ?_ | refine assign_s_l S rfl rfl ?_ | refine assign_i_l S rfl rfl ?_ | refine move_o_l S rfl rfl ?_ | refine thenQ_n ?_)
    have hI : SlOk w (some ⟨b, 0, none⟩) 1 1 1 (gL encI 0 [0]) := one_row (S.rowAt (some ⟨b, 0, none⟩)) rfl
    have hM1 : MayP 1 [] := of_decide_eq_true (by kernel_rfl)
    have hJ : JGood [0] [] [] (fun _ => 0) := of_decide_eq_true (by kernel_rfl)
    refine callL (judge_at (ai := some ⟨b, 0, none⟩) (a := none) (ci := 1) (cap := 0) (init := [0]) (l := []) hI (his_nil _) (by decide) (by decide)) rfl rfl ?_
    rintro e w ⟨hb, ⟨hM, _⟩ | ⟨_, hf, _⟩ | ⟨_, ord, v, ho, rfl, ⟨ao, co, rfl, hh, hfr⟩⟩⟩
    · exact absurd hM1 hM
    · exact absurd hf (jgood_fail hM1 hJ)
    replace S := (S.below hb).tail
    clear hb hI hJ hM1 hh hfr ho
    refine ⟨_, rfl, ?_⟩
    repeat' (first | refine nilL ?_ | refine run_seq ?_ | refine assign_b_l S rfl rfl ?_ | refine extract_s_l S rfl rfl rfl ?_ | refine extract_b_l S rfl rfl rfl ?_ | refine extract_i_l S rfl rfl rfl ?_ | refine assign_s_l S rfl rfl ?_ | refine assign_i_l S rfl rfl ?_ | refine move_o_l S rfl rfl ?_ | refine thenQ_n ?_)
    refine run_any_at (L' := [blk bt 9 (encAt ⟨0, 0, 6, 7, 0, 1, true, none, 0, [], some ⟨ww, 0, none⟩, 1, [(0, 5)]⟩) 26, blk bw 9 (encAt ⟨0, 0, 1, 4, 0, 1, true, none, 0, [], some ⟨ww, 0, none⟩, 1, [(0, 5)]⟩) 26]) (f := 6) [129, 130] (fun (s : Nat × Nat) t => upd (upd t 23 (.pointer (some ⟨s.1, 0, none⟩))) 24 (.pointer (some ⟨s.2, 0, none⟩))) (fun s w' => Sat (fun _ => False) w0 w' [blk s.1 9 (encAt ⟨0, 0, 1, 4, 0, 1, true, none, 0, [], some ⟨ww, 0, none⟩, 1, [(0, 5)]⟩) 26, blk s.2 9 (encAt ⟨0, 0, 6, 7, 0, 1, true, none, 0, [], some ⟨ww, 0, none⟩, 1, [(0, 5)]⟩) 26, blk bt 9 (encAt ⟨0, 0, 6, 7, 0, 1, true, none, 0, [], some ⟨ww, 0, none⟩, 1, [(0, 5)]⟩) 26, blk bw 9 (encAt ⟨0, 0, 1, 4, 0, 1, true, none, 0, [], some ⟨ww, 0, none⟩, 1, [(0, 5)]⟩) 26, rowL (some ⟨ww, 0, none⟩) 1 23 2 encPr (0, 0) [(0, 5)]]) S mixed rfl ?_ ?_
    · clear S
      intro w S1
      have S : Sat _ _ w [blk bt 9 (encAt ⟨0, 0, 6, 7, 0, 1, true, none, 0, [], some ⟨ww, 0, none⟩, 1, [(0, 5)]⟩) 26, blk bw 9 (encAt ⟨0, 0, 1, 4, 0, 1, true, none, 0, [], some ⟨ww, 0, none⟩, 1, [(0, 5)]⟩) 26] := S1.sub
      (refine any_pure (i := 0) rfl (by kernel_rfl) S ?_; (first | refine loadN_x rfl rfl rfl ?_ | refine loadEN_x rfl (by first | omega | decide | (simp; done) | (simp; omega)) rfl rfl ?_))
      (refine any_pure (i := 1) rfl (by kernel_rfl) S ?_; (first | refine loadN_x rfl rfl rfl ?_ | refine loadEN_x rfl (by first | omega | decide | (simp; done) | (simp; omega)) rfl rfl ?_))
      refine any_all (l := [2, 3]) (by kernel_rfl) (by decide) ?_
      intro i hi
      simp only [List.mem_cons, List.not_mem_nil, or_false] at hi
      rcases hi with rfl | rfl
      · (refine ⟨_, rfl, ?_⟩; replace S := S1; clear S1; (first | (refine alloc_l S rfl rfl ?_; clear S; intro b w S) | (refine allocZ_l S rfl rfl ?_; clear S; intro b w S)); refine nilL ?_; refine ⟨S.sub, ?_⟩; have S1 := S; replace S : Sat _ _ _ [blk bt 9 (encAt ⟨0, 0, 6, 7, 0, 1, true, none, 0, [], some ⟨ww, 0, none⟩, 1, [(0, 5)]⟩) 26, blk bw 9 (encAt ⟨0, 0, 1, 4, 0, 1, true, none, 0, [], some ⟨ww, 0, none⟩, 1, [(0, 5)]⟩) 26] := S1.sub)
        (refine any_step (i := 3) rfl (by kernel_rfl) ?_; replace S := S1; clear S1; (first | (refine alloc_l S rfl rfl ?_; clear S; intro b w S) | (refine allocZ_l S rfl rfl ?_; clear S; intro b w S)); refine nilL ?_; refine ⟨S.sub, ?_⟩; have S1 := S; replace S : Sat _ _ _ [blk bt 9 (encAt ⟨0, 0, 6, 7, 0, 1, true, none, 0, [], some ⟨ww, 0, none⟩, 1, [(0, 5)]⟩) 26, blk bw 9 (encAt ⟨0, 0, 1, 4, 0, 1, true, none, 0, [], some ⟨ww, 0, none⟩, 1, [(0, 5)]⟩) 26] := S1.sub)
        (refine any_step (i := 4) rfl (by kernel_rfl) ?_; replace S := S1; clear S1; (first | (refine storeN_l S rfl rfl ⟨rfl, rfl⟩ rfl ?_; clear S; intro w S) | (refine storeEN_l S rfl rfl ⟨rfl, rfl⟩ (by omega) rfl rfl ?_; clear S; intro w S)); refine nilL ?_; refine ⟨S.sub, ?_⟩; have S1 := S; replace S : Sat _ _ _ [blk bt 9 (encAt ⟨0, 0, 6, 7, 0, 1, true, none, 0, [], some ⟨ww, 0, none⟩, 1, [(0, 5)]⟩) 26, blk bw 9 (encAt ⟨0, 0, 1, 4, 0, 1, true, none, 0, [], some ⟨ww, 0, none⟩, 1, [(0, 5)]⟩) 26] := S1.sub)
        (refine any_step (i := 5) rfl (by kernel_rfl) ?_; replace S := S1; clear S1; (first | (refine storeN_l S rfl rfl ⟨rfl, rfl⟩ rfl ?_; clear S; intro w S) | (refine storeEN_l S rfl rfl ⟨rfl, rfl⟩ (by omega) rfl rfl ?_; clear S; intro w S)); refine nilL ?_; refine ⟨S.sub, ?_⟩; have S1 := S; replace S : Sat _ _ _ [blk bt 9 (encAt ⟨0, 0, 6, 7, 0, 1, true, none, 0, [], some ⟨ww, 0, none⟩, 1, [(0, 5)]⟩) 26, blk bw 9 (encAt ⟨0, 0, 1, 4, 0, 1, true, none, 0, [], some ⟨ww, 0, none⟩, 1, [(0, 5)]⟩) 26] := S1.sub)
        refine any_end (by kernel_rfl) ?_
        (first | (refine ⟨(_, _), ?_, ((S1.turn1 (r' := blk _ 9 (encAt ⟨0, 0, 6, 7, 0, 1, true, none, 0, [], some ⟨ww, 0, none⟩, 1, [(0, 5)]⟩) 26) S1.got1 rfl (fun k e => e)).sw.turn1 (r' := blk _ 9 (encAt ⟨0, 0, 1, 4, 0, 1, true, none, 0, [], some ⟨ww, 0, none⟩, 1, [(0, 5)]⟩) 26) S1.second rfl (fun k e => e))⟩; (repeat (first | exact agree_refl | refine agree_r rfl ?_ | refine agree_l rfl ?_ | refine agree_hv rfl ?_))) | (refine ⟨(_, _), ?_, ((S1.turn1 (r' := blk _ 9 (encAt ⟨0, 0, 1, 4, 0, 1, true, none, 0, [], some ⟨ww, 0, none⟩, 1, [(0, 5)]⟩) 26) S1.got1 rfl (fun k e => e)).sw.turn1 (r' := blk _ 9 (encAt ⟨0, 0, 6, 7, 0, 1, true, none, 0, [], some ⟨ww, 0, none⟩, 1, [(0, 5)]⟩) 26) S1.second rfl (fun k e => e)).sw⟩; (repeat (first | exact agree_refl | refine agree_r rfl ?_ | refine agree_l rfl ?_ | refine agree_hv rfl ?_))))
      · (refine ⟨_, rfl, ?_⟩; replace S := S1; clear S1; (first | (refine alloc_l S rfl rfl ?_; clear S; intro b w S) | (refine allocZ_l S rfl rfl ?_; clear S; intro b w S)); refine nilL ?_; refine ⟨S.sub, ?_⟩; have S1 := S; replace S : Sat _ _ _ [blk bt 9 (encAt ⟨0, 0, 6, 7, 0, 1, true, none, 0, [], some ⟨ww, 0, none⟩, 1, [(0, 5)]⟩) 26, blk bw 9 (encAt ⟨0, 0, 1, 4, 0, 1, true, none, 0, [], some ⟨ww, 0, none⟩, 1, [(0, 5)]⟩) 26] := S1.sub)
        (refine any_step (i := 2) rfl (by kernel_rfl) ?_; replace S := S1; clear S1; (first | (refine alloc_l S rfl rfl ?_; clear S; intro b w S) | (refine allocZ_l S rfl rfl ?_; clear S; intro b w S)); refine nilL ?_; refine ⟨S.sub, ?_⟩; have S1 := S; replace S : Sat _ _ _ [blk bt 9 (encAt ⟨0, 0, 6, 7, 0, 1, true, none, 0, [], some ⟨ww, 0, none⟩, 1, [(0, 5)]⟩) 26, blk bw 9 (encAt ⟨0, 0, 1, 4, 0, 1, true, none, 0, [], some ⟨ww, 0, none⟩, 1, [(0, 5)]⟩) 26] := S1.sub)
        (refine any_step (i := 4) rfl (by kernel_rfl) ?_; replace S := S1; clear S1; (first | (refine storeN_l S rfl rfl ⟨rfl, rfl⟩ rfl ?_; clear S; intro w S) | (refine storeEN_l S rfl rfl ⟨rfl, rfl⟩ (by omega) rfl rfl ?_; clear S; intro w S)); refine nilL ?_; refine ⟨S.sub, ?_⟩; have S1 := S; replace S : Sat _ _ _ [blk bt 9 (encAt ⟨0, 0, 6, 7, 0, 1, true, none, 0, [], some ⟨ww, 0, none⟩, 1, [(0, 5)]⟩) 26, blk bw 9 (encAt ⟨0, 0, 1, 4, 0, 1, true, none, 0, [], some ⟨ww, 0, none⟩, 1, [(0, 5)]⟩) 26] := S1.sub)
        (refine any_step (i := 5) rfl (by kernel_rfl) ?_; replace S := S1; clear S1; (first | (refine storeN_l S rfl rfl ⟨rfl, rfl⟩ rfl ?_; clear S; intro w S) | (refine storeEN_l S rfl rfl ⟨rfl, rfl⟩ (by omega) rfl rfl ?_; clear S; intro w S)); refine nilL ?_; refine ⟨S.sub, ?_⟩; have S1 := S; replace S : Sat _ _ _ [blk bt 9 (encAt ⟨0, 0, 6, 7, 0, 1, true, none, 0, [], some ⟨ww, 0, none⟩, 1, [(0, 5)]⟩) 26, blk bw 9 (encAt ⟨0, 0, 1, 4, 0, 1, true, none, 0, [], some ⟨ww, 0, none⟩, 1, [(0, 5)]⟩) 26] := S1.sub)
        refine any_end (by kernel_rfl) ?_
        (first | (refine ⟨(_, _), ?_, ((S1.turn1 (r' := blk _ 9 (encAt ⟨0, 0, 6, 7, 0, 1, true, none, 0, [], some ⟨ww, 0, none⟩, 1, [(0, 5)]⟩) 26) S1.got1 rfl (fun k e => e)).sw.turn1 (r' := blk _ 9 (encAt ⟨0, 0, 1, 4, 0, 1, true, none, 0, [], some ⟨ww, 0, none⟩, 1, [(0, 5)]⟩) 26) S1.second rfl (fun k e => e))⟩; (repeat (first | exact agree_refl | refine agree_r rfl ?_ | refine agree_l rfl ?_ | refine agree_hv rfl ?_))) | (refine ⟨(_, _), ?_, ((S1.turn1 (r' := blk _ 9 (encAt ⟨0, 0, 1, 4, 0, 1, true, none, 0, [], some ⟨ww, 0, none⟩, 1, [(0, 5)]⟩) 26) S1.got1 rfl (fun k e => e)).sw.turn1 (r' := blk _ 9 (encAt ⟨0, 0, 6, 7, 0, 1, true, none, 0, [], some ⟨ww, 0, none⟩, 1, [(0, 5)]⟩) 26) S1.second rfl (fun k e => e)).sw⟩; (repeat (first | exact agree_refl | refine agree_r rfl ?_ | refine agree_l rfl ?_ | refine agree_hv rfl ?_))))
    clear S
    rintro ⟨bl, bh⟩ j w S
    replace S : Sat (fun _ => False) w0 w [blk bl 9 (encAt ⟨0, 0, 1, 4, 0, 1, true, none, 0, [], some ⟨ww, 0, none⟩, 1, [(0, 5)]⟩) 26, blk bh 9 (encAt ⟨0, 0, 6, 7, 0, 1, true, none, 0, [], some ⟨ww, 0, none⟩, 1, [(0, 5)]⟩) 26, blk bt 9 (encAt ⟨0, 0, 6, 7, 0, 1, true, none, 0, [], some ⟨ww, 0, none⟩, 1, [(0, 5)]⟩) 26, blk bw 9 (encAt ⟨0, 0, 1, 4, 0, 1, true, none, 0, [], some ⟨ww, 0, none⟩, 1, [(0, 5)]⟩) 26, rowL (some ⟨ww, 0, none⟩) 1 23 2 encPr (0, 0) [(0, 5)]] := S
    dsimp only
    repeat' (first | (refine buildSlice_l S rfl rfl rfl rfl rfl ?_; clear S; intro b w S) | (apply buildSliceN_l S; (· repeat (first | exact vsN | apply vsC rfl)); (· rfl); (· rfl); (· rfl); (· rfl); (· rfl); clear S; intro b w S) | refine nilL ?_ | refine run_seq ?_ | refine run_region ?_ | refine loadN_l S rfl rfl rfl ?_ | refine fieldAddr_l S rfl rfl rfl ?_ | (refine store_i S rfl rfl rfl ?_; clear S; intro w S) | refine thenQ_n ?_)
    obtain ⟨b1, hxb1⟩ : ∃ x, x = b := ⟨_, rfl⟩
    subst hxb1
    obtain ⟨bi, hxbi⟩ : ∃ x, x = b := ⟨_, rfl⟩
    subst hxbi
    have hww := RowOk.sl (S.all (rowL (some ⟨ww, 0, none⟩) 1 23 2 encPr (0, 0) [(0, 5)]) (by simp))
    have hI : SlOk w (some ⟨bi, 0, none⟩) 1 1 1 (gL encI 0 [0]) := one_row (S.rowAt (some ⟨bi, 0, none⟩)) rfl
    have hH : (hisR (some ⟨b1, 0, none⟩) 2 [⟨0, 0, 1, 4, 0, 2, true, none, 0, [], some ⟨ww, 0, none⟩, 1, [(0, 5)]⟩, ⟨0, 0, 6, 7, 0, 1, true, none, 0, [], some ⟨ww, 0, none⟩, 1, [(0, 5)]⟩]).holds w := his_of _ (RowOk.sl S.got1) rfl (fun i hi j hj => by
      rcases lt2 hi with rfl | rfl <;> rcases lt9 hj with rfl | rfl | rfl | rfl | rfl | rfl | rfl | rfl | rfl <;> rfl) (fun z hz => by
      simp only [List.mem_cons, List.not_mem_nil, or_false] at hz
      rcases hz with rfl | rfl
      · exact at_w hww rfl rfl rfl
      · exact at_w hww rfl rfl rfl)
    have hM1 : MayP 1 [⟨0, 0, 1, 4, 0, 2, true, none, 0, [], some ⟨ww, 0, none⟩, 1, [(0, 5)]⟩, ⟨0, 0, 6, 7, 0, 1, true, none, 0, [], some ⟨ww, 0, none⟩, 1, [(0, 5)]⟩] := of_decide_eq_true (by kernel_rfl)
    have hB : JBad [0] [⟨0, 0, 1, 4, 0, 2, true, none, 0, [], some ⟨ww, 0, none⟩, 1, [(0, 5)]⟩, ⟨0, 0, 6, 7, 0, 1, true, none, 0, [], some ⟨ww, 0, none⟩, 1, [(0, 5)]⟩] [1, 0] := ⟨of_decide_eq_true (by kernel_rfl), .inl ⟨0, by decide, of_decide_eq_true (by kernel_rfl)⟩⟩
    refine callL (judge_at (ai := some ⟨bi, 0, none⟩) (ci := 1) (init := [0]) hI hH (by decide) (show 2 ≤ 100000 by decide)) rfl rfl ?_
    rintro e w ⟨hb, ⟨hM, _⟩ | ⟨_, hf, rfl⟩ | ⟨_, ord, v, ho, _⟩⟩
    · exact absurd hM1 hM
    rotate_left
    · exact (jbad_no hM1 hB ho).elim
    have S0 : Sat (fun _ => False) w0 w [blk bw 9 (encAt ⟨0, 0, 1, 4, 0, 1, true, none, 0, [], some ⟨ww, 0, none⟩, 1, [(0, 5)]⟩) 26, rowL (some ⟨ww, 0, none⟩) 1 23 2 encPr (0, 0) [(0, 5)]] := (S.below hb).sub
    clear hb hI hH hM1 hB hf S hww
    have S := S0
    clear S0
    refine ⟨_, rfl, ?_⟩
    repeat' (first | (refine buildSlice_l S rfl rfl rfl rfl rfl ?_; clear S; intro b w S) | (apply buildSliceN_l S; (· repeat (first | exact vsN | apply vsC rfl)); (· rfl); (· rfl); (· rfl); (· rfl); (· rfl); clear S; intro b w S) | refine nilL ?_ | refine run_seq ?_ | refine run_region ?_ | (apply build9_l S; (· repeat (first | exact mapN | apply mapC_i rfl | apply mapC_b rfl | apply mapC_p rfl | apply mapC_s rfl | apply mapC_e rfl | apply mapC_a rfl | apply mapC_o rfl)); (· rfl); (· rfl)) | refine loadN_l S rfl rfl rfl ?_ | refine assign_b_l S rfl rfl ?_ | (apply build2_l S; (· repeat (first | exact mapN | apply mapC_i rfl | apply mapC_b rfl | apply mapC_p rfl | apply mapC_s rfl | apply mapC_e rfl | apply mapC_a rfl | apply mapC_o rfl)); (· rfl); (· rfl)) | refine extract_s_l S rfl rfl rfl ?_ | refine extract_b_l S rfl rfl rfl ?_ | refine extract_i_l S rfl rfl rfl ?_ | refine assign_s_l S rfl rfl ?_ | refine assign_i_l S rfl rfl ?_ | (refine allocZ_l S rfl rfl ?_; clear S; intro b w S) | (refine storeN_l S rfl rfl ⟨rfl, rfl⟩ rfl ?_; clear S; intro w S) | refine move_o_l S rfl rfl ?_ | refine thenQ_n ?_)
    obtain ⟨b1, hxb1⟩ : ∃ x, x = b := ⟨_, rfl⟩
    subst hxb1
    obtain ⟨bi, hxbi⟩ : ∃ x, x = b := ⟨_, rfl⟩
    subst hxbi
    obtain ⟨bl2, hxbl2⟩ : ∃ x, x = b := ⟨_, rfl⟩
    subst hxbl2
    obtain ⟨rl, hxrl⟩ : ∃ x, x = b := ⟨_, rfl⟩
    subst hxrl
    obtain ⟨bk, hxbk⟩ : ∃ x, x = b := ⟨_, rfl⟩
    subst hxbk
    obtain ⟨wb, hxwb⟩ : ∃ x, x = b := ⟨_, rfl⟩
    subst hxwb
    have hww := RowOk.sl (S.all (rowL (some ⟨ww, 0, none⟩) 1 23 2 encPr (0, 0) [(0, 5)]) (by simp))
    have hrl : SlOk w (some ⟨rl, 0, none⟩) 1 1 2 (gL encPr (0, 0) [(0, 0)]) := (S.rowAt (some ⟨rl, 0, none⟩)).congr fun i hi j hj => by
      obtain rfl := lt1 hi
      rcases lt2 hj with rfl | rfl <;> rfl
    have hwb : SlOk w (some ⟨wb, 0, none⟩) 1 1 2 (gL encPr (0, 0) [(0, 0)]) := (S.rowAt (some ⟨wb, 0, none⟩)).congr fun i hi j hj => by
      obtain rfl := lt1 hi
      rcases lt2 hj with rfl | rfl <;> rfl
    have hI : SlOk w (some ⟨bi, 0, none⟩) 1 1 1 (gL encI 0 [0]) := one_row (S.rowAt (some ⟨bi, 0, none⟩)) rfl
    have hH : (hisR (some ⟨b1, 0, none⟩) 3 [⟨0, 0, 1, 4, 0, 1, true, none, 0, [], some ⟨ww, 0, none⟩, 1, [(0, 5)]⟩, ⟨0, 0, 5, 20, 0, 0, false, some ⟨rl, 0, none⟩, 1, [(0, 0)], none, 0, []⟩, ⟨0, 0, 6, 9, 0, 2, true, none, 0, [], some ⟨wb, 0, none⟩, 1, [(0, 0)]⟩]).holds w := his_of _ (RowOk.sl S.got1) rfl (fun i hi j hj => by
      rcases lt3 hi with rfl | rfl | rfl <;> rcases lt9 hj with rfl | rfl | rfl | rfl | rfl | rfl | rfl | rfl | rfl <;> rfl) (fun z hz => by
      simp only [List.mem_cons, List.not_mem_nil, or_false] at hz
      rcases hz with rfl | rfl | rfl
      · exact at_w hww rfl rfl rfl
      · exact at_r hrl rfl rfl rfl
      · exact at_w hwb rfl rfl rfl)
    have hM1 : MayP 1 [⟨0, 0, 1, 4, 0, 1, true, none, 0, [], some ⟨ww, 0, none⟩, 1, [(0, 5)]⟩, ⟨0, 0, 5, 20, 0, 0, false, some ⟨rl, 0, none⟩, 1, [(0, 0)], none, 0, []⟩, ⟨0, 0, 6, 9, 0, 2, true, none, 0, [], some ⟨wb, 0, none⟩, 1, [(0, 0)]⟩] := of_decide_eq_true (by kernel_rfl)
    have hJ : JGood [0] [⟨0, 0, 1, 4, 0, 1, true, none, 0, [], some ⟨ww, 0, none⟩, 1, [(0, 5)]⟩, ⟨0, 0, 5, 20, 0, 0, false, some ⟨rl, 0, none⟩, 1, [(0, 0)], none, 0, []⟩, ⟨0, 0, 6, 9, 0, 2, true, none, 0, [], some ⟨wb, 0, none⟩, 1, [(0, 0)]⟩] [0, 2] (fun _ => 2) := of_decide_eq_true (by kernel_rfl)
    refine callL (judge_at (ai := some ⟨bi, 0, none⟩) (ci := 1) (init := [0]) hI hH (by decide) (show 3 ≤ 100000 by decide)) rfl rfl ?_
    rintro e w ⟨hb, ⟨hM, _⟩ | ⟨_, hf, _⟩ | ⟨_, ord, v, ho, rfl, ⟨ao, co, rfl, hh, hfr⟩⟩⟩
    · exact absurd hM1 hM
    · exact absurd hf (jgood_fail hM1 hJ)
    obtain rfl : ord = [0, 2, 1] := (jgood_one hM1 hJ ho).trans (by kernel_rfl)
    clear hM1 hJ ho hH hI hrl hwb hww
    replace S := Sat.freshRow S hb hh hfr
    clear hb hh hfr
    refine ⟨_, rfl, ?_⟩
    repeat' (first | (refine buildSlice_l S rfl rfl rfl rfl rfl ?_; clear S; intro b w S) | refine move_b_l S rfl rfl ?_ | refine nilL ?_ | refine run_seq ?_ | refine run_region ?_ | refine onL rfl rfl ?_ | refine pick_tb_l S rfl rfl rfl ?_ | refine assign_b_l S rfl rfl ?_ | refine move_i_l S rfl rfl ?_ | refine extract_s_l S rfl rfl rfl ?_ | refine extract_b_l S rfl rfl rfl ?_ | refine extract_i_l S rfl rfl rfl ?_ | refine assign_s_l S rfl rfl ?_ | refine assign_i_l S rfl rfl ?_ | (refine eql_l S rfl rfl rfl ?_ ?_ <;> intro hcmp <;> try (exfalso; first | omega | exact hcmp (by decide) | exact absurd hcmp (by decide))) | refine move_s_l S rfl rfl ?_ | refine not_l S rfl rfl ?_ | refine move_o_l S rfl rfl ?_ | refine thenQ_n ?_)
    refine callL (wnumbers_at ao (some ⟨b, 0, none⟩) co 3 [0, 2, 1] [0, 2, 1] _ (RowOk.sl (S.all (rowL ao co 3 1 encI 0 [0, 2, 1]) (by simp))) ((S.rowAt (some ⟨b, 0, none⟩)).congr fun i hi j hj => by
      obtain rfl := lt1 hj
      rcases lt3 hi with rfl | rfl | rfl <;> rfl)) rfl rfl ?_
    rintro e w ⟨rfl, hb⟩
    replace S := S.below hb
    clear hb
    refine ⟨_, rfl, ?_⟩
    repeat' (first | refine move_b_l S rfl rfl ?_ | refine onL rfl rfl ?_ | refine pick_tb_l S rfl rfl rfl ?_)
    (refine callL (wawake_at _) rfl rfl ?_; rintro e w ⟨rfl, hb⟩; replace S := S.below hb; clear hb; refine ⟨_, rfl, ?_⟩)
    repeat' (first | refine nilL ?_ | refine pick_tb_l S rfl rfl rfl ?_ | refine assign_b_l S rfl rfl ?_ | refine run_ret ?_ | refine thenQ_n ?_ | refine ret1_b rfl ?_)
    exact ⟨rfl, S.chg.below⟩
end Go.Proofs.Ytjnlcfkdackghaa
