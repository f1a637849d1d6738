/- A closed fact of the program: what is laid out. -/
import Derived.Test.YtgdmlkgjpcnelaaGreatDoorRows
import Derived.Test.YtgdmlkgjpcnelaaGreatDoorProg
import Derived.JoinedOf
import Derived.KernelRfl
namespace Go.Proofs.YtgdmlkgjpcnelaaGreatDoor
set_option maxRecDepth 100000
theorem tpLaid : laidOutB Tryz.prog = true := by kernel_rfl
end Go.Proofs.YtgdmlkgjpcnelaaGreatDoor
