/- readset: what lies there, and what the small methods return. -/
import Derived.Test.YtpiodhdbdlfnhaaGreatDoorMem
import Derived.Test.YtpiodhdbdlfnhaaGreatDoorProg
import Derived.Deep.QuietTactic
namespace Go.Proofs.YtpiodhdbdlfnhaaGreatDoor
open Go.RowKit Go.Lib
set_option linter.unusedVariables false
/-- The cells of a set. -/
def setCells (rv st : Int) (hs : List Bool) : Array Value := (.int .i64 rv :: .int .i64 st :: hs.map .bool).toArray
/-- At b lies a set. -/
structure SetAt (w : World) (b : Nat) (rv st : Int) (hs : List Bool) : Prop where
  head : w.heap[b]? = some (.cells (setCells rv st hs) 79 (0, 0))
  len : hs.length = 32
  rv0 : 0 ≤ rv
  rv1 : rv ≤ 1099511627776
  st0 : 1 ≤ st
  st1 : st ≤ 32
theorem SetAt.keeps {w w' : World} {b : Nat} {rv st : Int} {hs : List Bool} {S : Nat → Prop} (h : SetAt w b rv st hs) (hc : Chg S w w') (hb : ¬ S b) : SetAt w' b rv st hs :=
  ⟨hc.keeps h.head hb, h.len, h.rv0, h.rv1, h.st0, h.st1⟩
theorem SetAt.below {w w' : World} {b : Nat} {rv st : Int} {hs : List Bool} (h : SetAt w b rv st hs) (hc : Below w.heap.size w w') : SetAt w' b rv st hs := h.keeps (Chg.of_below hc) (fun h => h)
theorem SetAt.cells {w : World} {b : Nat} {rv st : Int} {hs : List Bool} (h : SetAt w b rv st hs) :
    w.cell? ⟨b, 0, none⟩ = some (.int .i64 rv) ∧ w.cell? ⟨b, 1, none⟩ = some (.int .i64 st) := by
  exact ⟨by rw [cell_of_row _ _ _ _ _ _ h.head]; simp [setCells], by rw [cell_of_row _ _ _ _ _ _ h.head]; simp [setCells]⟩
theorem SetAt.has {w : World} {b : Nat} {rv st : Int} {hs : List Bool} (h : SetAt w b rv st hs) (n : Nat) (hn : n < 32) :
    w.cell? ⟨b, 2 + n, none⟩ = some (.bool (hs.getD n false)) := by
  have hl : n < hs.length := by rw [h.len]; exact hn
  rw [cell_of_row _ _ _ _ _ _ h.head, setCells, Nat.add_comm 2 n, List.getElem?_toArray]
  simp [List.getD_eq_getElem?_getD, hl]
/-- Is n there? -/
def hasB (st : Int) (hs : List Bool) (n : Int) : Bool := decide (0 ≤ n) && (decide (n < st) && hs.getD n.toNat false)
set_option maxHeartbeats 400000 in
theorem rsnew_ok (rv st : Int) (h0 : 0 ≤ rv) (h1 : rv ≤ 1099511627776) (h2 : 1 ≤ st) (h3 : st ≤ 32) (w : World) :
    Calls Tryz.prog 8 #[.int .i64 rv, .int .i64 st] w fun e w' => e = .returned (.tuple #[.pointer (some ⟨w.heap.size, 0, none⟩), .int .i64 0]) ∧ w' = w.alloc (.cells (setCells rv st (List.replicate 32 false)) 79) := by
  go_enter Tryz.func8, Tryz.ntmps8
  go_wp2
  go_ret2
  exact ⟨rfl, rfl⟩
theorem SetAt.new (rv st : Int) (h0 : 0 ≤ rv) (h1 : rv ≤ 1099511627776) (h2 : 1 ≤ st) (h3 : st ≤ 32) (w : World) : SetAt (w.alloc (.cells (setCells rv st (List.replicate 32 false)) 79)) w.heap.size rv st (List.replicate 32 false) :=
  ⟨heap_alloc_new w _, by simp, h0, h1, h2, h3⟩
set_option maxHeartbeats 400000 in
theorem rsnew_no (rv st : Int) (h : rv < 0 ∨ 1099511627776 < rv ∨ st < 1 ∨ 32 < st) (w : World) :
    Calls Tryz.prog 8 #[.int .i64 rv, .int .i64 st] w fun e w' => e = .returned (.tuple #[.pointer none, .int .i64 1]) ∧ w = w' := by
  by_cases h0 : rv < 0
  · clear h
    go_enter Tryz.func8, Tryz.ntmps8
    go_wp2
    go_ret2
    exact ⟨rfl, rfl⟩
  · by_cases h1 : 1099511627776 < rv
    · clear h
      go_enter Tryz.func8, Tryz.ntmps8
      go_wp2
      go_ret2
      exact ⟨rfl, rfl⟩
    · by_cases h2 : st < 1
      · clear h
        go_enter Tryz.func8, Tryz.ntmps8
        go_wp2
        go_ret2
        exact ⟨rfl, rfl⟩
      · have h3 : 32 < st := by omega
        clear h
        go_enter Tryz.func8, Tryz.ntmps8
        go_wp2
        go_ret2
        exact ⟨rfl, rfl⟩
set_option maxHeartbeats 400000 in
theorem rv_at (b : Nat) (rv st : Int) (hs : List Bool) (w : World) (h : SetAt w b rv st hs) :
    Calls Tryz.prog 86 #[.pointer (some ⟨b, 0, none⟩)] w fun e w' => e = .returned (.int .i64 rv) ∧ w = w' := by
  obtain ⟨c0, c1⟩ := h.cells
  clear h
  go_enter Tryz.func86, Tryz.ntmps86
  go_wp2
  go_ret
  exact ⟨rfl, rfl⟩
/-- What Stale tells. -/
def staleB (rv owner version me : Int) : Bool := (owner != -1 && owner != me) || decide (rv < version)
set_option maxHeartbeats 400000 in
theorem stale_at (b : Nat) (rv st : Int) (hs : List Bool) (owner version me : Int) (x : Bool) (w : World) (h : SetAt w b rv st hs) (hx : staleB rv owner version me = x) :
    Calls Tryz.prog 87 #[.pointer (some ⟨b, 0, none⟩), .int .i64 owner, .int .i64 version, .int .i64 me] w fun e w' => e = .returned (.bool x) ∧ w = w' := by
  obtain ⟨c0, c1⟩ := h.cells
  clear h
  unfold staleB at hx
  by_cases h1 : owner = -1
  · subst h1
    have hx' : decide (rv < version) = x := by rw [← hx]; simp
    clear hx
    subst hx'
    go_enter Tryz.func87, Tryz.ntmps87
    go_wp2
    go_ret
    exact ⟨rfl, rfl⟩
  · have b1 : (owner == -1) = false := by simpa using h1
    have b2 : (owner != -1) = true := by simpa using h1
    by_cases h2 : owner = me
    · subst h2
      have hx' : decide (rv < version) = x := by rw [← hx]; simp
      clear hx h1
      subst hx'
      go_enter Tryz.func87, Tryz.ntmps87
      go_wp2
      go_ret
      exact ⟨rfl, rfl⟩
    · have b3 : (owner == me) = false := by simpa using h2
      have b4 : (owner != me) = true := by simpa using h2
      have hx' : true = x := by rw [← hx]; simp [b2, b4]
      clear hx h1 h2
      subst hx'
      go_enter Tryz.func87, Tryz.ntmps87
      go_wp2
      go_ret
      exact ⟨rfl, rfl⟩
set_option maxHeartbeats 400000 in
theorem has_at (b : Nat) (rv st : Int) (hs : List Bool) (n : Int) (x : Bool) (w : World) (h : SetAt w b rv st hs) (hx : hasB st hs n = x) :
    Calls Tryz.prog 74 #[.pointer (some ⟨b, 0, none⟩), .int .i64 n] w fun e w' => e = .returned (.bool x) ∧ w = w' := by
  obtain ⟨c0, c1⟩ := h.cells
  have hst := h.st1
  have hh := Lib.hid h.has
  clear h
  unfold hasB at hx
  by_cases h0 : n < 0
  · have hx' : false = x := by rw [← hx]; simp; omega
    clear hx
    subst hx'
    go_enter Tryz.func74, Tryz.ntmps74
    go_wp2
    go_ret
    exact ⟨rfl, rfl⟩
  · obtain ⟨k, rfl⟩ : ∃ k : Nat, n = k := ⟨n.toNat, by omega⟩
    by_cases h1 : (k : Int) < st
    · have hx' : hs.getD k false = x := by rw [← hx]; simp [h1]
      have hk : k < 32 := by omega
      have hc := hh.out k hk
      rw [hx'] at hc
      clear hx hx' h0
      go_enter Tryz.func74, Tryz.ntmps74
      go_wp2
      go_ret
      exact ⟨rfl, rfl⟩
    · have hx' : false = x := by rw [← hx]; simp [h1]
      clear hx h0
      subst hx'
      go_enter Tryz.func74, Tryz.ntmps74
      go_wp2
      go_ret
      exact ⟨rfl, rfl⟩
/-- What Add tells, and what is there behind it. -/
def addE (st n : Int) : Int := if n < 0 ∨ st ≤ n then 1 else 0
def addH (st : Int) (hs : List Bool) (n : Int) : List Bool := if n < 0 ∨ st ≤ n then hs else hs.set n.toNat true
theorem SetAt.add {w : World} {b : Nat} {rv st : Int} {hs : List Bool} (h : SetAt w b rv st hs) (k : Nat) (hk : k < 32) : SetAt (w.setCell ⟨b, 2 + k, none⟩ (.bool true)) b rv st (hs.set k true) := by
  refine ⟨?_, by rw [List.length_set]; exact h.len, h.rv0, h.rv1, h.st0, h.st1⟩
  rw [heap_setCell_same w b _ _ _ _ h.head, setCells, setCells, Nat.add_comm 2 k, List.setIfInBounds_toArray]
  simp only [List.set_cons_succ, List.map_set]
set_option maxHeartbeats 400000 in
theorem add_at (b : Nat) (rv st : Int) (hs : List Bool) (n : Int) (w : World) (h : SetAt w b rv st hs) (er : Int) (hs' : List Bool) (he : addE st n = er) (hh' : addH st hs n = hs') :
    Calls Tryz.prog 10 #[.pointer (some ⟨b, 0, none⟩), .int .i64 n] w fun e w' => e = .returned (.int .i64 er) ∧ SetAt w' b rv st hs' ∧ Chg (fun k => k = b) w w' := by
  obtain ⟨c0, c1⟩ := h.cells
  have hst := h.st1
  have H := Lib.hid h
  have hh := Lib.hid h.has
  have hf := Lib.hid (fun k => frozen_of_row w b k _ _ h.head)
  clear h
  unfold addE at he
  unfold addH at hh'
  by_cases h0 : n < 0
  · rw [if_pos (.inl h0)] at he hh'
    subst he hh'
    go_enter Tryz.func10, Tryz.ntmps10
    go_wp2
    go_ret
    exact ⟨rfl, H.out, Chg.refl _ _⟩
  · obtain ⟨k, rfl⟩ : ∃ k : Nat, n = k := ⟨n.toNat, by omega⟩
    by_cases h1 : (k : Int) < st
    · rw [if_neg (by omega)] at he hh'
      subst he
      have HH := Lib.hid hh'
      have hk : k < 32 := by omega
      have hc := hh.out k hk
      have hf1 := hf.out (2 + k)
      clear hh' h0
      go_enter Tryz.func10, Tryz.ntmps10
      go_wp2
      go_ret
      exact ⟨rfl, HH.out ▸ H.out.add k hk, (Chg.refl (fun k => k = b) w).setCell ⟨b, 2 + k, none⟩ _ (fun _ => rfl)⟩
    · rw [if_pos (by omega)] at he hh'
      subst he hh'
      clear h0
      go_enter Tryz.func10, Tryz.ntmps10
      go_wp2
      go_ret
      exact ⟨rfl, H.out, Chg.refl _ _⟩
end Go.Proofs.YtpiodhdbdlfnhaaGreatDoor
