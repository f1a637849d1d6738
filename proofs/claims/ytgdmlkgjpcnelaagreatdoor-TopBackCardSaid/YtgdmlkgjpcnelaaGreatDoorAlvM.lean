import Derived.Test.YtgdmlkgjpcnelaaGreatDoorAlv
namespace Go.Proofs.YtgdmlkgjpcnelaaGreatDoor
open Go.Ev
set_option maxRecDepth 100000
noncomputable def isT (r:RV):Bool:=@RV.rec (fun _=>Bool) false (fun v _ _=>vBool v false fun b=>b) r
theorem aliveM:isT (puts Al.glob hp0 fun h=>(evC Tryz.prog (withG Al.glob [Al.e0,Al.e1,Al.e2,Al.e3] ownJ) 100000).call 7 [] h 64)=true:=by kernel_rfl
end Go.Proofs.YtgdmlkgjpcnelaaGreatDoor
