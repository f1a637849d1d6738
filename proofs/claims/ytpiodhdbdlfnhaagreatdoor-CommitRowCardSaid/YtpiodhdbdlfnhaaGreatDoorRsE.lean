/- readset: what is proved of its calls, as the engine takes it. -/
import Derived.Test.YtpiodhdbdlfnhaaGreatDoorGen
import Derived.Test.YtpiodhdbdlfnhaaGreatDoorRsAll
import Derived.Test.YtpiodhdbdlfnhaaGreatDoorOpen2
import Derived.Test.YtpiodhdbdlfnhaaGreatDoorFacts
namespace Go.Proofs.YtpiodhdbdlfnhaaGreatDoor
open Go.RowKit Go.Lib
set_option linter.unusedVariables false
theorem flat1 (zs : List Int) : flat (gL encI 0 zs) zs.length 1 = zs.map (Value.int .i64) := by
  apply List.ext_getElem?
  intro i
  unfold flat
  rw [List.getElem?_map, List.getElem?_map]
  by_cases hi : i < zs.length
  · rw [List.getElem?_range (by omega), List.getElem?_eq_getElem hi]
    simp only [Option.map_some, Nat.div_one]
    unfold gL
    rw [List.getD_eq_getElem?_getD, List.getElem?_eq_getElem hi]
    rfl
  · rw [List.getElem?_eq_none (by rw [List.length_range]; omega), List.getElem?_eq_none (by omega)]
    rfl
theorem NewRow.of_owns {w w' : World} {v : Value} {e : Nat} {zs : List Int} {n : Nat} {xs : List Value} (hn : n = zs.length) (hx : xs = zs.map (Value.int .i64)) (h : w'.ownsRow w.heap.size e 1 v n xs) : NewRow w w' e 1 encI 0 zs v := by
  subst hn hx
  rw [← flat1] at h
  have h0 : w'.ownsRow 0 e 1 v zs.length (flat (gL encI 0 zs) zs.length 1) := by
    obtain ⟨hl, h | ⟨b, cap, cur, h1, h2, h3⟩⟩ := h
    · exact ⟨hl, .inl h⟩
    · exact ⟨hl, .inr ⟨b, cap, cur, h1, Nat.zero_le _, h3⟩⟩
  obtain ⟨a, cap, rfl, hr⟩ := RowOk.of_owns (by omega) h0
  refine ⟨a, cap, rfl, hr, fun x hx => ?_⟩
  obtain ⟨hl, h | ⟨b, cap', cur, h1, h2, h3⟩⟩ := h
  · have e := h.1
    injection e with e2
    rw [e2] at hx; cases hx
  · injection h1 with e2
    rw [hx] at e2
    injection e2 with e3
    rw [e3]; exact h2
/-- A set. -/
def setR (b : Nat) (rv st : Int) (hs : List Bool) : Res where
  foot k := k = b
  ro := false
  holds w := SetAt w b rv st hs
  lt w k h e := e ▸ lt_of_heap h.head
  loc w w' h e := ⟨(e b rfl).trans h.head, h.len, h.rv0, h.rv1, h.st0, h.st1⟩
def NewSet (w0 w' : World) (rv st : Int) (hs : List Bool) (v : Value) : Prop := ∃ b, v = .pointer (some ⟨b, 0, none⟩) ∧ SetAt w' b rv st hs ∧ w0.heap.size ≤ b
theorem Sat.freshSet {S : Nat → Prop} {w₀ w w' : World} {L : List Res} {b : Nat} {rv st : Int} {hs : List Bool} (h : Sat S w₀ w L) (hb : Below w.heap.size w w') (hr : SetAt w' b rv st hs) (hf : w.heap.size ≤ b) : Sat S w₀ w' (setR b rv st hs :: L) :=
  h.fresh (r := setR b rv st hs) hb hr (fun k e => e ▸ hf)
theorem Sat.addSet {S : Nat → Prop} {w₀ w w' : World} {L : List Res} {b : Nat} {rv st : Int} {hs hs' : List Bool} (h : Sat S w₀ w (setR b rv st hs :: L)) (hr : SetAt w' b rv st hs') (hc : Chg (fun k => k = b) w w') : Sat S w₀ w' (setR b rv st hs' :: L) :=
  h.swap (r := setR b rv st hs) (r' := setR b rv st hs') rfl hc hr rfl (fun k e => .inl e)
section
variable {b : Nat} {rv st : Int} {hs : List Bool} {w : World} (h : (setR b rv st hs).holds w)
include h
theorem rv_e : Calls Tryz.prog 86 #[.pointer (some ⟨b, 0, none⟩)] w fun e w' => e = .returned (.int .i64 rv) ∧ Below w.heap.size w w' :=
  (rv_at b rv st hs w h).mono (by rintro e w' ⟨h1, rfl⟩; exact ⟨h1, Below.refl _ _⟩)
theorem stale_e (owner version me : Int) : Calls Tryz.prog 87 #[.pointer (some ⟨b, 0, none⟩), .int .i64 owner, .int .i64 version, .int .i64 me] w fun e w' => e = .returned (.bool (staleB rv owner version me)) ∧ Below w.heap.size w w' :=
  (stale_at b rv st hs owner version me _ w h rfl).mono (by rintro e w' ⟨h1, rfl⟩; exact ⟨h1, Below.refl _ _⟩)
theorem add_e (n : Int) : Calls Tryz.prog 10 #[.pointer (some ⟨b, 0, none⟩), .int .i64 n] w fun e w' => e = .returned (.int .i64 (addE st n)) ∧ SetAt w' b rv st (addH st hs n) ∧ Chg (fun k => k = b) w w' :=
  add_at b rv st hs n w h _ _ rfl rfl
/-- What was read, as whole numbers. -/
def allI (st : Int) (hs : List Bool) : List Int := (upto st hs 32).map (fun (k : Nat) => (k : Int))
theorem all_e : Calls Tryz.prog 17 #[.pointer (some ⟨b, 0, none⟩)] w fun e w' => ∃ v, e = .returned v ∧ NewRow w w' 3 1 encI 0 (allI st hs) v ∧ Below w.heap.size w w' := by
  refine (all_at b rv st hs w h).mono ?_
  rintro e w' ⟨v, rfl, hr, hb⟩
  exact ⟨v, rfl, NewRow.of_owns (by simp [allI]) (by simp [allI]; intro a _; rfl) hr, hb⟩
end
end Go.Proofs.YtpiodhdbdlfnhaaGreatDoor
