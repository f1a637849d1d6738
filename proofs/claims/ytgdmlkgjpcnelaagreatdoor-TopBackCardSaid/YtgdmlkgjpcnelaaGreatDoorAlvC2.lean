import Derived.Test.YtgdmlkgjpcnelaaGreatDoorAlv
namespace Go.Proofs.YtgdmlkgjpcnelaaGreatDoor
open Go.Ev
set_option maxRecDepth 100000
theorem chunk2:chunk Tryz.prog ownJ Al.glob Al.e2=true:=by kernel_rfl
end Go.Proofs.YtgdmlkgjpcnelaaGreatDoor
