/- buffer: pop, Drop. -/
import Derived.Test.YtaapgdanodkhjaaBfC
namespace Go.Proofs.Ytaapgdanodkhjaa
open Go.RowKit Go.Lib
set_option linter.unusedVariables false
set_option maxHeartbeats 2000000
theorem RowOk.shorter {w : World} {a : Option Addr} {len len' cap e sz : Nat} {g : Nat → Nat → Value} (h : RowOk w a len cap e sz g) (hl : len' ≤ len) : RowOk w a len' cap e sz g := by
  obtain ⟨h0, ⟨h1, h2, h3⟩ | ⟨b, cur, h1, h2, h3, h4, h5, h6⟩⟩ := h
  · exact ⟨h0, .inl ⟨h1, by omega, h3⟩⟩
  · exact ⟨h0, .inr ⟨b, cur, h1, h2, by omega, h4, h5, fun i hi => h6 i (by omega)⟩⟩
theorem row_pop {w : World} {a : Option Addr} {cap : Nat} {l : List Nat} {m : Nat} (h : (rowH a cap (l ++ [m])).holds w) : (rowH a cap l).holds w :=
  RowOk.congr (RowOk.shorter (len' := l.length) h (by simp)) (fun i hi j hj => by
    unfold gL
    rw [List.getD_eq_getElem?_getD, List.getElem?_append_left hi, List.getD_eq_getElem?_getD])
end Go.Proofs.Ytaapgdanodkhjaa
