/- Closed facts of the program. -/
import Derived.Test.YtgdmlkgjpcnelaaGreatDoorRows
import Derived.Test.YtgdmlkgjpcnelaaGreatDoorProg
import Derived.JoinedOf
import Derived.KernelRfl
namespace Go.Proofs.YtgdmlkgjpcnelaaGreatDoor
set_option maxRecDepth 100000
theorem tpMaps : mapsRowed Tryz.prog = true := by kernel_rfl
theorem tpKeys : (Rows.topBackRow.plainKeys == Tryz.prog.plainKeys) = true := by kernel_rfl
theorem tpHeard : Tryz.prog.stopsHeard = true := by kernel_rfl
theorem tpEnter : Tryz.prog.mayEnter = true := by kernel_rfl
end Go.Proofs.YtgdmlkgjpcnelaaGreatDoor
