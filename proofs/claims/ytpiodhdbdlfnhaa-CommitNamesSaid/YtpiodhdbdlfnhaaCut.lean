/- Parts of rows; a drawn region of which more is known later. Over any program. -/
import Derived.Test.YtpiodhdbdlfnhaaGen
namespace Go.Proofs.Ytpiodhdbdlfnhaa
open Go.RowKit Go.Lib
set_option linter.unusedVariables false
theorem AnyC.more {P : Program} {ops : Array Oper} {C C' : World → Prop} {Q : Exit → Act → World → Prop} (hC : ∀ w, C' w → C w) : ∀ (f : Nat) (listed : Array Bool) (a : Act) (w : World), AnyC P ops C' Q f listed a w → AnyC P ops C Q f listed a w
  | 0, _, _, _, h => h
  | f + 1, listed, a, w, h => ⟨h.1, fun i hi => wpOp_mono (fun a' w' hk => ⟨hC _ hk.1, AnyC.more hC f _ a' w' hk.2⟩) (h.2 i hi)⟩
theorem any_more {P : Program} {ops : Array Oper} {n : Nat} {S : Nat → Prop} {w₀ : World} {L L' : List Res} {f m : Nat} {t : Tm} {w : World} {K : Tm → World → Prop} (hL : ∀ w, Sat S w₀ w L' → Sat S w₀ w L) (h : AnyL P ops n S w₀ L' f m t w K) : AnyL P ops n S w₀ L f m t w K := by
  unfold AnyL at *
  exact fun Q hQ hK a ha => AnyC.more hL _ _ _ _ (h Q hQ hK a ha)
section
variable {S : Nat → Prop} {w₀ : World} {L : List Res}
variable {P : Program} {ops : Array Oper} {n : Nat} {rest : List Oper} {t : Tm} {w : World} {K : Tm → World → Prop} {d : Nat} {ty : TypeId} {pos : String} {af : Array Edge}
theorem appendPre_i (hS : Sat S w₀ w L) {T : TypeId} {e bytes : Nat} [hT : TySl P T e 1] [hE : TyEl P e 1 bytes] {x y : Operand} {b k : Nat} {g : Nat → Nat → Value} {a2 : Option Addr} {cap2 : Nat} {dd : Int} {ys : List Int} {f : Res → List Res}
    (hx : ev t x = .slice (some ⟨b, 0, none⟩) 0 0) (hy : ev t y = .slice a2 k cap2) [hp : PickR L (some ⟨b, 0, none⟩) 0 0 e 1 g f] [hs : PickL L a2 cap2 1 encI dd ys] (hk : k ≤ ys.length) (hb : k * bytes ≤ 140737488355328 ∧ k ≤ 9223372036854775807) (hd : Nat.blt d n = true)
    (kk : ∀ a' cap' w', Sat S w₀ w' (f (rowL a' cap' e 1 encI dd (ys.take k))) → RunL P ops n rest (upd t d (.slice a' (ys.take k).length cap')) w' K) : RunL P ops n (⟨some d, .call ⟨.builtin .append, #[x, y], #[T, T]⟩, ty, pos, af, none⟩ :: rest) t w K := by
  have hp1 := hp.pick
  have hS2 := hS.turn (r := row (some ⟨b, 0, none⟩) 0 0 e 1 g) (r' := rowL (some ⟨b, 0, none⟩) 0 e 1 encI dd []) (RowOk.congr (hS.holds (r := row (some ⟨b, 0, none⟩) 0 0 e 1 g)) (fun i hi => by simp at hi)) rfl (fun k e => e)
  have hp2 : Pick (f (rowL (some ⟨b, 0, none⟩) 0 e 1 encI dd [])) (rowL (some ⟨b, 0, none⟩) 0 e 1 encI dd []) f := hp1.again _
  have hl : (ys.take k).length = k := by rw [List.length_take]; omega
  have hsl : SlOk w a2 (ys.take k).length cap2 1 (gL encI dd (ys.take k)) := by
    rw [hl]
    refine ((hs.ok w hS.all).pre hk).congr fun i hi j hj => ?_
    unfold gL
    rw [List.getD_eq_getElem?_getD, List.getD_eq_getElem?_getD, List.getElem?_take, if_pos hi]
  refine append_core hS2 (zs := []) (ys := ys.take k) (g2 := fun _ _ => undef) hx (by rw [hl]; exact hy) (hp := hp2) hsl (fun _ _ => rfl) (by rw [hl]; simpa using hb.1) (by rw [hl]; simpa using hb.2) hd ?_
  intro a' cap' w' h
  exact kk a' cap' w' h
theorem appendSuf_i (hS : Sat S w₀ w L) {T : TypeId} {e bytes : Nat} [hT : TySl P T e 1] [hE : TyEl P e 1 bytes] {x y : Operand} {a : Option Addr} {cap k : Nat} {a2 : Option Addr} {cap2 : Nat} {dd dd' : Int} {zs ys : List Int} {f : Res → List Res}
    (hx : ev t x = .slice a zs.length cap) (hy : ev t y = .slice (subA a2 k cap2 1) (ys.length - k) (cap2 - k)) [hp : PickRow L a cap e 1 encI dd zs f] [hs : PickL L a2 cap2 1 encI dd' ys] (hk : k ≤ ys.length) (hb : (zs.length + ys.length) * bytes ≤ 140737488355328 ∧ zs.length + ys.length ≤ 9223372036854775807) (hd : Nat.blt d n = true)
    (kk : ∀ a' cap' w', Sat S w₀ w' (f (rowL a' cap' e 1 encI dd (zs ++ ys.drop k))) → RunL P ops n rest (upd t d (.slice a' (zs ++ ys.drop k).length cap')) w' K) : RunL P ops n (⟨some d, .call ⟨.builtin .append, #[x, y], #[T, T]⟩, ty, pos, af, none⟩ :: rest) t w K := by
  have hl : (ys.drop k).length = ys.length - k := List.length_drop
  have hsl : SlOk w (subA a2 k cap2 1) (ys.drop k).length (cap2 - k) 1 (gL encI dd (ys.drop k)) := by
    rw [hl]
    refine ((hs.ok w hS.all).sub (lo := k) (n := ys.length - k) (by omega)).congr fun i hi j hj => ?_
    unfold gL
    rw [List.getD_eq_getElem?_getD, List.getD_eq_getElem?_getD, List.getElem?_drop, List.getElem?_eq_getElem (show k + i < ys.length by omega)]
    rfl
  have hmul : (zs.length + (ys.drop k).length) * bytes ≤ (zs.length + ys.length) * bytes := Nat.mul_le_mul_right _ (by omega)
  exact append_core hS (ys := ys.drop k) (g2 := fun _ _ => undef) hx (by rw [hl]; exact hy) (hp := hp.pick) hsl (fun _ _ => rfl) (by omega) (by omega) hd kk
end
end Go.Proofs.Ytpiodhdbdlfnhaa
