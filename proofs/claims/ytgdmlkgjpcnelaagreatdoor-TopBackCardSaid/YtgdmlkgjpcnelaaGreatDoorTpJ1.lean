/- A closed fact of the row: its cell 'inPlace' is what the program's text gives. -/
import Derived.Test.YtgdmlkgjpcnelaaGreatDoorRows
import Derived.Test.YtgdmlkgjpcnelaaGreatDoorProg
import Derived.KernelRfl
namespace Go.Proofs.YtgdmlkgjpcnelaaGreatDoor
set_option maxRecDepth 100000
theorem tpJ1 : (Rows.topBackRow.inPlace == Tryz.prog.inPlace 5) = true := by kernel_rfl
end Go.Proofs.YtgdmlkgjpcnelaaGreatDoor
