/- The program starts no goroutine. -/
import Derived.Test.YtgdmlkgjpcnelaaGreatDoorProg
import GoSem.ClaimGoes
import Derived.KernelRfl
namespace Go.Proofs.YtgdmlkgjpcnelaaGreatDoor
set_option maxRecDepth 100000
theorem tpNoGo : Tryz.prog.funcs.any Func.goes = false := by kernel_rfl
theorem goes_none {P : Program} (h : P.funcs.any Func.goes = false) (f : FuncId) : P.goes f = false := by
  unfold Program.goes
  rw [h, Bool.and_false, Bool.or_false]
  apply List.any_eq_false.2
  intro g _
  cases hg : P.funcs[g]? with
  | none => simp
  | some fn =>
    have := Array.any_eq_false.1 h
    obtain ⟨hi, rfl⟩ := Array.getElem?_eq_some_iff.1 hg
    simpa using this g hi
theorem tpGoes : false = Tryz.prog.goesAt .entering "seesaw/seesawtop.TopBack" := by
  unfold Program.goesAt Program.goesFrom
  cases Tryz.prog.funcNamed "seesaw/seesawtop.TopBack" with
  | none => rfl
  | some f => simp [goes_none tpNoGo]
end Go.Proofs.YtgdmlkgjpcnelaaGreatDoor
