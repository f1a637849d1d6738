import Derived.Test.YtgdmlkgjpcnelaaGreatDoorAlv
namespace Go.Proofs.YtgdmlkgjpcnelaaGreatDoor
open Go.Ev
set_option maxRecDepth 100000
theorem chunk3:chunk Tryz.prog ownJ Al.glob Al.e3=true:=by kernel_rfl
end Go.Proofs.YtgdmlkgjpcnelaaGreatDoor
