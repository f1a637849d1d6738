/- The steps of the bytes' laws: []Step, opened. -/
import Derived.Test.YtbdgmpjaibejnaaOpen
import Derived.Test.YtbdgmpjaibejnaaBytL
import Derived.OpenShut
namespace Go.Proofs.Ytbdgmpjaibejnaa
open Go.RowKit Go.Deep Go.ChangeShapes Go.WideShapes
set_option linter.unusedVariables false
structure StepD where
  kind : Int
  n : Int
  x : Int
  s : ByteArray
  k : Int
instance : Inhabited StepD := ⟨⟨0, 0, 0, ByteArray.empty, 0⟩⟩
def StepD.cells (d : StepD) : List Value := [.int .u8 d.kind, .int .u64 d.n, .int .i64 d.x, .string d.s, .int .i64 d.k]
structure StepD.Wf (d : StepD) : Prop where
  kind0 : 0 ≤ d.kind
  kind1 : d.kind ≤ 255
  n0 : 0 ≤ d.n
  n1 : d.n < 18446744073709551616
  x0 : -9223372036854775808 ≤ d.x
  x1 : d.x ≤ 9223372036854775807
  s1 : d.s.size ≤ maxLen
  k0 : -9223372036854775808 ≤ d.k
  k1 : d.k ≤ 9223372036854775807
section
variable {H : Type} {enc : TypeId × Value → H} {w : World}
theorem step_open (fuel : Nat) (cs : List Value) (x : DataW H × List MemPlace) (h : DataW.trod enc Try.prog w 0 (fun _ => true) true fuel 46 cs = some x) : ∃ d : StepD, cs = d.cells ∧ d.Wf := by
  obtain ⟨y0, y1, y2, y3, y4, n, hl, h0, h1, h2, h3, h4⟩ := trod_struct5 Try.underlying46 h
  have hl5 : cs.length = 5 := hl.trans (by kernel_rfl)
  match cs, hl5 with
  | [c0, c1, c2, c3, c4], _ =>
    obtain ⟨k, e0, _, wk⟩ := DataW.trod_int Try.underlying5 h0
    obtain ⟨nn, e1, _, wn⟩ := DataW.trod_int Try.underlying30 h1
    obtain ⟨xx, e2, _, wx⟩ := DataW.trod_int Try.underlying2 h2
    obtain ⟨s, e3, _, ws⟩ := DataW.trod_string Try.underlying9 h3
    obtain ⟨kk, e4, _, wkk⟩ := DataW.trod_int Try.underlying3 h4
    have d0 : [c0] = [.int .u8 k] := e0
    have d1 : [c1] = [.int .u64 nn] := e1
    have d2 : [c2] = [.int .i64 xx] := e2
    have d3 : [c3] = [.string s] := e3
    have d4 : [c4] = [.int .i64 kk] := e4
    obtain rfl := (List.cons.inj d0).1
    obtain rfl := (List.cons.inj d1).1
    obtain rfl := (List.cons.inj d2).1
    obtain rfl := (List.cons.inj d3).1
    obtain rfl := (List.cons.inj d4).1
    have b0 := bounds_u8 wk
    have b1 := bounds_u64 wn
    have b2 := bounds_i64 wx
    have b4 := bounds_i64 wkk
    have c1 : nn < 18446744073709551616 := by omega
    have c2 : xx ≤ 9223372036854775807 := by omega
    have c4 : kk ≤ 9223372036854775807 := by omega
    exact ⟨⟨k, nn, xx, s, kk⟩, rfl, ⟨b0.1, b0.2, b1.1, c1, b2.1, c2, ws, b4.1, c4⟩⟩
theorem steps_open {a : Option Addr} {len cap : Nat} {d : DataW H} {p : List MemPlace} (h : DataW.Trod enc Try.prog w 0 (fun _ => true) true 40 (.slice a len cap) d p) :
    ∃ zs : List StepD, SliceAt w a len cap 5 StepD.cells zs ∧ ∀ z ∈ zs, z.Wf :=
  slice_open 40 46 5 StepD.cells StepD.Wf Try.underlying40 (by kernel_rfl) (by decide) (fun _ => rfl) step_open h
end
/-- Element i's cell j, as the walk asks for it. -/
theorem SliceAt.cell {α : Type} {w : World} {a : Option Addr} {len cap sz : Nat} {cells : α → List Value} {zs : List α} (h : SliceAt w a len cap sz cells zs) (i : Nat) (hi : i < len) :
    ∃ b off, a = some ⟨b, off, none⟩ ∧ b < w.heap.size ∧ ∃ hz : i < zs.length, ∀ j v, (cells zs[i])[j]? = some v → w.cell? ⟨b, off + i * sz + j, none⟩ = some v := by
  obtain ⟨h1, h2, h3, h4⟩ := h
  rcases h4 with h4 | ⟨b, off, ha, hb, hc⟩
  · omega
  · exact ⟨b, off, ha, hb, by omega, fun j v hv => hc i (by omega) j v hv⟩
/-- Are steps more than a statement goes over? -/
def largeB (zs : List StepD) : Bool := decide (300 < zs.length) || zs.any fun z => decide (1000 < z.s.size)
set_option maxHeartbeats 400000 in
theorem large_at (a : Option Addr) (len cap : Nat) (zs : List StepD) (w : World) (h : SliceAt w a len cap 5 StepD.cells zs) (hw : ∀ z ∈ zs, z.Wf) :
    Calls Try.prog 19 #[.slice a len cap] w fun e w' => e = .returned (.bool (largeB zs)) ∧ w = w' := by
  have hm : len ≤ 9223372036854775807 := by have := h.2.1; have := h.2.2.1; unfold maxLen at this; omega
  have hzl : zs.length = len := h.1
  by_cases hl : 300 < len
  · have e : largeB zs = true := by simp [largeB, hzl, hl]
    rw [e]
    clear e hzl
    go_enter Try.func19, Try.ntmps19
    go_wp2
    go_ret
    exact ⟨rfl, rfl⟩
  · have hl' : len ≤ 300 := by omega
    go_enter Try.func19, Try.ntmps19
    go_wp2
    go_loop [3] (fun i => ∃ k : Nat, k ≤ len ∧ i = .int .i64 k ∧ Hid (∀ j (hj : j < zs.length), j < k → zs[j].s.size ≤ 1000)) (fun i => len - (intOf i).toNat)
    case atStart => exact ⟨0, Nat.zero_le _, rfl, fun j _ h => absurd h (Nat.not_lt_zero _)⟩
    case round =>
      obtain ⟨k, hk, rfl, H⟩ := hrel
      by_cases hlt : k < len
      · obtain ⟨b, off, rfl, hb, hz, hc⟩ := h.cell k hlt
        have hc3 := hc 3 (.string zs[k].s) rfl
        have hsz := (hw zs[k] (List.getElem_mem hz)).s1
        unfold maxLen at hsz
        clear hc
        by_cases h1000 : 1000 < zs[k].s.size
        · have e : Hid (largeB zs = true) := by
            have : zs.any (fun z => decide (1000 < z.s.size)) = true := List.any_eq_true.2 ⟨zs[k], List.getElem_mem hz, by simpa using h1000⟩
            show largeB zs = true
            rw [largeB, this, Bool.or_true]
          go_wp2
          go_ret
          exact ⟨congrArg (fun b => Ending.returned (.bool b)) e.out.symm, rfl⟩
        · go_wp2
          go_round
          case rel => exact ⟨k + 1, by omega, by go_num, fun j hj hjk => by
            rcases Nat.lt_succ_iff_lt_or_eq.1 hjk with h' | h'
            · exact H.out j hj h'
            · subst h'; omega⟩
          case measure => simp [intOf]; omega
      · have hk' : k = len := by omega
        have e : Hid (largeB zs = false) := by
          show largeB zs = false
          rw [largeB, Bool.or_eq_false_iff]
          refine ⟨by simp; omega, ?_⟩
          rw [List.any_eq_false]
          intro z hz
          obtain ⟨j, hj, rfl⟩ := List.getElem_of_mem hz
          have := H.out j hj (by omega)
          simp; omega
        clear hk'
        go_wp2
        go_ret
        exact ⟨congrArg (fun b => Ending.returned (.bool b)) e.out.symm, rfl⟩
/-- What a step writes. -/
def stepB (d : StepD) : List UInt8 :=
  if d.kind = 0 then [UInt8.ofNat (d.n % 256).toNat] else if d.kind = 1 then putB d.n.toNat else if d.kind = 2 then putB (zigI d.x).toNat else d.s.data.toList
theorem WPost.after {p : Nat} {r : Option Nat} {most : Int} {w w1 : World} {err : Int} {bs' : List UInt8} {e : Ending} {w' : World} (hb : Below w.heap.size w w1) (h : WPost p r most w1 err bs' e w') : WPost p r most w err bs' e w' := by
  obtain ⟨h1, r', h2, h3, h4⟩ := h
  refine ⟨h1, r', h2, h3.imp id (fun ⟨k, hk, hl⟩ => ⟨k, hk, Nat.le_trans hb.size hl⟩), ?_⟩
  exact (Chg.of_below hb).mono (fun _ _ h => h.elim) |>.trans h4 (fun _ _ h => h)
set_option maxHeartbeats 1000000 in
theorem write_to (p : Nat) (r : Option Nat) (most : Int) (bs : List UInt8) (d : StepD) (hd : d.Wf) (w : World) (hW : Wr w p r most bs) (hm0 : 0 ≤ most) (hm : most ≤ 16777216) (hl : bs.length ≤ 16777216) (err : Int) (bs' : List UInt8) (h : RawIs most bs (stepB d) err bs') :
    Calls Try.prog 28 #[.pointer (some ⟨p, 0, none⟩), .agg #[.int .u8 d.kind, .int .u64 d.n, .int .i64 d.x, .string d.s, .int .i64 d.k]] w (WPost p r most w err bs') := by
  obtain ⟨kind, n, x, s, k⟩ := d
  obtain ⟨k0, k1, n0, n1, x0, x1, s1, _, _⟩ := hd
  simp only at k0 k1 n0 n1 x0 x1 s1
  simp only [stepB] at h
  have hb : Below w.heap.size w (w.alloc (.cells #[.int .u8 kind, .int .u64 n, .int .i64 x, .string s, .int .i64 k] 46)) := (Below.refl _ _).alloc (Nat.le_refl _) _
  have hW1 := hW.keeps (Chg.of_below hb) (fun h => h) (fun _ _ h => h)
  by_cases h0 : kind = 0
  · subst h0
    rw [if_pos rfl] at h
    have HH := Lib.hid (byte_to p r most bs (n % 256) _ hW1 hm0 hm hl err bs' h)
    clear h hW hW1
    go_enter Try.func28, Try.ntmps28
    go_wp2_with fail
    refine HH.out.mono ?_
    rintro e w' ⟨rfl, h2⟩
    go_wp2_with fail
    go_ret
    exact WPost.after hb ⟨rfl, h2⟩
  · rw [if_neg h0] at h
    have hb0 : (kind == 0) = false := by simpa using h0
    clear h0
    by_cases h1 : kind = 1
    · subst h1
      rw [if_pos rfl] at h
      have HH := Lib.hid (num_to p r most bs n _ hW1 hm0 hm hl n0 n1 err bs' h)
      clear h hW hW1 hb0
      go_enter Try.func28, Try.ntmps28
      go_wp2_with fail
      refine HH.out.mono ?_
      rintro e w' ⟨rfl, h2⟩
      go_wp2_with fail
      go_ret
      exact WPost.after hb ⟨rfl, h2⟩
    · rw [if_neg h1] at h
      have hb1 : (kind == 1) = false := by simpa using h1
      clear h1
      by_cases h2 : kind = 2
      · subst h2
        rw [if_pos rfl] at h
        have HH := Lib.hid (int_to p r most bs x _ hW1 hm0 hm hl x0 x1 err bs' h)
        clear h hW hW1 hb0 hb1
        go_enter Try.func28, Try.ntmps28
        go_wp2_with fail
        refine HH.out.mono ?_
        rintro e w' ⟨rfl, h2⟩
        go_wp2_with fail
        go_ret
        exact WPost.after hb ⟨rfl, h2⟩
      · rw [if_neg h2] at h
        have hb2 : (kind == 2) = false := by simpa using h2
        clear h2
        have HH := Lib.hid (raw_to p r most bs s _ hW1 hm0 hm hl s1 err bs' h)
        clear h hW hW1
        go_enter Try.func28, Try.ntmps28
        go_wp2_with fail
        refine HH.out.mono ?_
        rintro e w' ⟨rfl, h2⟩
        go_wp2_with fail
        go_ret
        exact WPost.after hb ⟨rfl, h2⟩
end Go.Proofs.Ytbdgmpjaibejnaa
