import Derived.Test.YtgdmlkgjpcnelaaGreatDoorProg
import Derived.Test.YtgdmlkgjpcnelaaGreatDoorEv4
import Derived.KernelRfl
namespace Go.Proofs.YtgdmlkgjpcnelaaGreatDoor
open Go.Shelf Go.Ev
set_option linter.unusedVariables false
set_option maxRecDepth 100000
def layJ_ren:Go.Shelf.Ren:=⟨fun|156=>152|165=>216|166=>217|169=>218|240=>275|241=>276|276=>327|277=>328|n=>n,fun|31=>254|9=>9|3=>3|4=>4|0=>0|20=>20|72=>353|76=>356|70=>351|37=>235|75=>355|127=>409|164=>460|5=>5|80=>145|n=>n,fun|n=>n⟩
theorem layJ:Go.Proofs.Lays.n156 Tryz.prog layJ_ren:={
 mixed:=by kernel_rfl
 f156:=Tryz.func152.trans (congrArg some (by kernel_rfl))
 f165:=Tryz.func216.trans (congrArg some (by kernel_rfl))
 f166:=Tryz.func217.trans (congrArg some (by kernel_rfl))
 f169:=Tryz.func218.trans (congrArg some (by kernel_rfl))
 f240:=Tryz.func275.trans (congrArg some (by kernel_rfl))
 f241:=Tryz.func276.trans (congrArg some (by kernel_rfl))
 f276:=Tryz.func327.trans (congrArg some (by kernel_rfl))
 f277:=Tryz.func328.trans (congrArg some (by kernel_rfl))
 t0:=Tryz.underlying0
 a0:=Tryz.isAgg0
 z0:=Tryz.sizeOf0
 v0:=Tryz.zeroValue0
 t3:=Tryz.underlying3
 a3:=Tryz.isAgg3
 z3:=Tryz.sizeOf3
 v3:=Tryz.zeroValue3
 t4:=Tryz.underlying4
 a4:=Tryz.isAgg4
 z4:=Tryz.sizeOf4
 v4:=Tryz.zeroValue4
 t9:=Tryz.underlying9
 a9:=Tryz.isAgg9
 z9:=Tryz.sizeOf9
 v9:=Tryz.zeroValue9
 t20:=Tryz.underlying20
 a20:=Tryz.isAgg20
 z20:=Tryz.sizeOf20
 v20:=Tryz.zeroValue20
 t31:=Tryz.underlying254
 a31:=Tryz.isAgg254
 z31:=Tryz.sizeOf254
 v31:=Tryz.zeroValue254
 t37:=Tryz.underlying235
 a37:=Tryz.isAgg235
 z37:=Tryz.sizeOf235
 v37:=Tryz.zeroValue235
 t70:=Tryz.underlying351
 a70:=Tryz.isAgg351
 z70:=Tryz.sizeOf351
 v70:=Tryz.zeroValue351
 t72:=Tryz.underlying353
 a72:=Tryz.isAgg353
 z72:=Tryz.sizeOf353
 v72:=Tryz.zeroValue353
 t75:=Tryz.underlying355
 a75:=Tryz.isAgg355
 z75:=Tryz.sizeOf355
 v75:=Tryz.zeroValue355
 t76:=Tryz.underlying356
 a76:=Tryz.isAgg356
 z76:=Tryz.sizeOf356
 v76:=Tryz.zeroValue356
 t127:=Tryz.underlying409
 a127:=Tryz.isAgg409
 z127:=Tryz.sizeOf409
 v127:=Tryz.zeroValue409
 t164:=Tryz.underlying460
 a164:=Tryz.isAgg460
 z164:=Tryz.sizeOf460
 v164:=Tryz.zeroValue460}
theorem extraJ:Builder.Extra Tryz.prog layJ_ren:={sizeBuilder:=by kernel_rfl,liesBuilder:=by kernel_rfl,t5:=Tryz.underlying5,a5:=Tryz.isAgg5,z5:=Tryz.sizeOf5,v5:=Tryz.zeroValue5,infoByte:=by kernel_rfl,cellsByte:=by kernel_rfl,sizeByte:=by kernel_rfl,neB5:=by decide}
theorem progOk:ProgOk Tryz.prog:=by
 have hall:(Tryz.prog.funcs.toList.all fun fn=>!(fn.name == "runtime.NumGoroutine"))=true:=by kernel_rfl
 refine⟨fun f fn h=>?_,by kernel_rfl⟩
 have:=List.all_eq_true.1 hall fn (List.mem_of_getElem? h)
 simpa using this
noncomputable def ownJ:FuncId->List Value->Hp->Nat->Option RV:=own 152 378
theorem ownJ_sound:HookSound Tryz.prog ownJ:=
 own_sound progOk layJ extraJ (by kernel_rfl) rfl fun args w=>run_callFunc_extern Tryz.func378 (by kernel_rfl) (by kernel_rfl) (by kernel_rfl) (e:=Extern.MapsClone.clone) (by kernel_rfl) args w
namespace Al
abbrev I (n:Nat):Value:=.int .i64 (.ofNat n)
abbrev U (n:Nat):Value:=.int .u8 (.ofNat n)
abbrev S (b n c:Nat):Value:=.slice (some ⟨b,0,none⟩) n c
abbrev B (b n:Nat):Value:=.slice (some ⟨b,0,none⟩) n 18446744073709551616
abbrev Z:Value:=.slice none 0 0
abbrev F (f:Nat):Value:=.func (.func f) #[] #[]
abbrev T (l:List UInt8):Value:=.string ⟨⟨l⟩⟩
def glob:List (Nat × VO):=[(0,.row [T [],Z,T [98,101,103,105,110],B 9 2,T [108,111,111,107],B 10 2,T [108,111,97,100],B 11 2,T [108,111,99,107],B 12 1,T [98,117,109,112],B 13 1,T [99,104,101,99,107],B 14 1,T [99,111,109,109,105,116],B 15 1,T [115,116,111,114,101],B 16 2,T [102,114,101,101],B 17 1,T [97,98,111,114,116],B 18 2,T [117,110,100,111],B 19 1,T [119,97,105,116],Z,T [119,97,107,101],Z] 260 2),(1,.row [.nilFunc,.nilFunc,.nilFunc,.nilFunc,F 432,F 433,F 434,F 435,F 437] 453 2),(2,.row [U 0,U 1,U 28,U 2,U 29,U 14,U 24,U 3,U 30,U 22,U 20,U 15,U 25,U 17,U 4,U 8,U 31,U 27,U 13,U 23,U 21,U 19,U 16,U 7,U 26,U 12,U 18,U 6,U 11,U 5,U 10,U 9] 459 2),(9,.row [F 428,F 429] 262 2),(10,.row [F 399,F 429] 262 2),(11,.row [F 399,F 430] 262 2),(12,.row [F 399] 262 2),(13,.row [F 429] 262 2),(14,.row [F 399] 262 2),(15,.row [F 429] 262 2),(16,.row [F 399,F 430] 262 2),(17,.row [F 399] 262 2),(18,.row [F 431,F 399] 262 2),(19,.row [F 399] 262 2)]
def o66:VO:=.row [U 2,I 2,Z,U 1,I 1,Z] 74 0
def o67:VO:=.row [U 2,I 2,U 1,I 0,Z,U 0,I 0,Z,Z,Z,U 3,I 0,U 1,I 0,Z,U 4,I 0,S 66 2 2,Z,Z,U 8,I 0,U 2,I 2,Z,U 0,I 0,Z,Z,Z] 76 0
def o68:VO:=.row [I 7] 2 0
def o69:VO:=.row [S 67 3 3] 54 0
def o70:VO:=.row [S 67 3 3] 54 0
def o71:VO:=.row [S 69 1 1,S 70 1 1] 49 0
def o152:VO:=.row [I 0,I 0,I 1,I 1,I 0,I 0,I 1,I 1,I 0,I 0,I 1,I 1,I 0,I 0,I 1,I 1,I 0,I 0,I 1,I 1,I 0,I 0,I 1,I 1,I 0,I 0,I 1,I 1,I 0,I 0,I 1,I 1,I 0,I 0,I 1,I 1,I 0,I 0,I 1,I 1] 3 1
def o2392:VO:=.row [U 1,I 0,I 0,I 0,I 0,I 0,U 0,U 2,I 0,I 0,I 0,I 0,I 0,U 0,U 1,I 1,I 0,I 0,I 0,I 0,U 0,U 2,I 1,I 0,I 0,I 0,I 0,U 0,U 3,I 0,I 0,I 0,I 0,I 7,U 0,U 3,I 1,I 0,I 0,I 0,I 7,U 0,U 4,I 0,I 0,I 0,I 0,I 0,U 0,U 5,I 0,I 0,I 0,I 1,I 0,U 0,U 10,I 1,I 0,I 0,I 0,I 0,U 4,U 1,I 1,I 0,I 0,I 1,I 0,U 0,U 7,I 0,I 0,I 0,I 1,I 0,U 0,U 8,I 0,I 0,I 0,I 0,I 8,U 0,U 10,I 1,I 0,I 0,I 0,I 0,U 1,U 1,I 1,I 0,I 0,I 1,I 0,U 0,U 9,I 0,I 0,I 0,I 0,I 0,U 0,U 2,I 1,I 0,I 0,I 1,I 0,U 0,U 3,I 1,I 0,I 0,I 0,I 8,U 0,U 4,I 1,I 0,I 0,I 0,I 0,U 0,U 5,I 1,I 0,I 0,I 2,I 0,U 0,U 7,I 1,I 0,I 0,I 2,I 0,U 0,U 8,I 1,I 0,I 0,I 0,I 9,U 0,U 9,I 1,I 0,I 0,I 0,I 0,U 0] 65 1
def o2396:VO:=.row [I 7] 2 1
def o2398:VO:=.row [I 1] 3 1
def o2404:VO:=.row [I 8] 2 1
def o2406:VO:=.row [I 3] 3 1
def o2408:VO:=.row [B 2396 1,B 2398 1,I 0,.bool true,B 2404 1,B 2406 1,I 0,.bool true] 56 1
def o2410:VO:=.row [I 9] 2 1
def o3571:VO:=.row [U 1,I 0,I 0,I 0,I 0,I 0,U 0,U 2,I 0,I 0,I 0,I 0,I 0,U 0,U 1,I 1,I 0,I 0,I 0,I 0,U 0,U 2,I 1,I 0,I 0,I 0,I 0,U 0,U 3,I 0,I 0,I 0,I 0,I 7,U 0,U 3,I 1,I 0,I 0,I 0,I 7,U 0,U 4,I 0,I 0,I 0,I 0,I 0,U 0,U 5,I 0,I 0,I 0,I 1,I 0,U 0,U 10,I 1,I 0,I 0,I 0,I 0,U 4,U 1,I 1,I 0,I 0,I 1,I 0,U 0,U 7,I 0,I 0,I 0,I 1,I 0,U 0,U 8,I 0,I 0,I 0,I 0,I 8,U 0,U 10,I 1,I 0,I 0,I 0,I 0,U 1,U 1,I 1,I 0,I 0,I 1,I 0,U 0,U 9,I 0,I 0,I 0,I 0,I 0,U 0,U 2,I 1,I 0,I 0,I 1,I 0,U 0,U 3,I 1,I 0,I 0,I 0,I 8,U 0,U 4,I 1,I 0,I 0,I 0,I 0,U 0,U 5,I 1,I 0,I 0,I 2,I 0,U 0,U 7,I 1,I 0,I 0,I 2,I 0,U 0,U 8,I 1,I 0,I 0,I 0,I 9,U 0,U 9,I 1,I 0,I 0,I 0,I 0,U 0] 65 1
def e0:Great:=⟨8,[.agg #[I 1,I 9,I 9,S 68 1 1,S 71 2 2],B 152 40],344,[(68,o68),(71,o71),(69,o69),(67,o67),(66,o66),(70,o70),(152,o152)],.tuple #[.agg #[I 2,I 1,I 1,B 2392 22,B 2408 2,B 2410 1,I 25],I 0],[(2392,o2392),(2408,o2408),(2396,o2396),(2398,o2398),(2404,o2404),(2406,o2406),(2410,o2410)],2411⟩
def e1:Great:=⟨16,[.agg #[I 2,I 1,I 1,B 2392 22]],2412,[(2392,o2392)],.tuple #[.string ⟨⟨[62,2,1,1,22,0,0,0,2,0,0,1,0,0,2,0,0,5,0,14,5,0,0,7,0,8,1,19,3,0,0,0,0,13,1,14,0,2,19,0,0,0,0,0,17,0,3,0,0,4,0,0,6,0,8,1,12,1,14,0,2,16,0,224,70,99,32]⟩⟩,I 0],[],3055⟩
def e2:Great:=⟨18,[.string ⟨⟨[62,2,1,1,22,0,0,0,2,0,0,1,0,0,2,0,0,5,0,14,5,0,0,7,0,8,1,19,3,0,0,0,0,13,1,14,0,2,19,0,0,0,0,0,17,0,3,0,0,4,0,0,6,0,8,1,12,1,14,0,2,16,0,224,70,99,32]⟩⟩],3055,[],.tuple #[.agg #[I 2,I 1,I 1,B 3571 22],I 0,I 0],[(3571,o3571)],3572⟩
def e3:Great:=⟨163,[.agg #[I 1,I 9,I 9,S 68 1 1,S 71 2 2],.agg #[I 2,I 1,I 1,B 3571 22]],3572,[(68,o68),(71,o71),(69,o69),(67,o67),(66,o66),(70,o70),(3571,o3571)],.tuple #[.agg #[.bool true,I 22,U 0,I 0,I 0,I 0,I 0,I 0,U 0,U 0,I 0,I 0,I 0,I 0,I 0,U 0,.bool false],I 0],[],6642⟩
end Al
end Go.Proofs.YtgdmlkgjpcnelaaGreatDoor
