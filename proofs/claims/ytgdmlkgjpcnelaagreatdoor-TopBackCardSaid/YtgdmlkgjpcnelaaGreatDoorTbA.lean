import Derived.Test.YtgdmlkgjpcnelaaGreatDoorVT
namespace Go.Proofs.YtgdmlkgjpcnelaaGreatDoor
open Go Go.Vc
set_option linter.unusedVariables false
set_option maxRecDepth 100000
def fTx:Nat:=428
def fAt:Nat:=399
def fV:Nat:=429
def fX:Nat:=430
def fWhy:Nat:=431
abbrev fC (f:Nat):Sg:=.c (.fn f [] [])
noncomputable abbrev hasR (l:List Sg):Ob:=.row l 262 2
def nameK (i:Nat):List UInt8:=match i with
 |1=>[98,101,103,105,110]|2=>[108,111,111,107]|3=>[108,111,97,100]|4=>[108,111,99,107]|5=>[98,117,109,112]|6=>[99,104,101,99,107]|7=>[99,111,109,109,105,116]|8=>[115,116,111,114,101]|9=>[102,114,101,101]|10=>[97,98,111,114,116]|11=>[117,110,100,111]|12=>[119,97,105,116]|13=>[119,97,107,101]|_=>[]
def deBr:List Nat:=[0,1,28,2,29,14,24,3,30,22,20,15,25,17,4,8,31,27,13,23,21,19,16,7,26,12,18,6,11,5,10,9]
noncomputable def deG (i:Nat):SV:=.int .u8 ((deBr.getD i 0:Nat):Int)
noncomputable abbrev kN (i:Nat):Sg:=.c (.str (nameK i))
noncomputable abbrev kS (b n:Nat):Sg:=.c (.sl b 0 1 n (.u 0))
noncomputable abbrev kindsOb:Ob:=.row [.c (.str []),.c .nils,kN 1,kS 4 2,kN 2,kS 5 2,kN 3,kS 6 2,kN 4,kS 7 1,kN 5,kS 8 1,kN 6,kS 9 1,kN 7,kS 10 1,kN 8,kS 11 2,kN 9,kS 12 1,kN 10,kS 13 2,kN 11,kS 14 1,kN 12,.c .nils,kN 13,.c .nils] 260 2
noncomputable abbrev bH (l:Hv):Hv:=kindsOb::.dead::.row [.a 32 deG] 5 2::.dead::hasR [fC fTx,fC fV]::hasR [fC fAt,fC fV]::hasR [fC fAt,fC fX]::hasR [fC fAt]::hasR [fC fV]::hasR [fC fAt]::hasR [fC fV]::hasR [fC fAt,fC fX]::hasR [fC fAt]::hasR [fC fWhy,fC fAt]::hasR [fC fAt]::l
structure Evt where
 kind:Int
 thread:Int
 tx:Int
 at_:Int
 v:Int
 x:Int
 why:Int
noncomputable def evC (e:Evt):List SV:=[.int .u8 e.kind,.int .i64 e.thread,.int .i64 e.tx,.int .i64 e.at_,.int .i64 e.v,.int .i64 e.x,.int .u8 e.why]
noncomputable abbrev evS (e:Evt):SV:=.agg (evC e)
noncomputable abbrev evO (e:Evt)(t:Nat):Ob:=.row [.c (.int .u8 e.kind),.c (.int .i64 e.thread),.c (.int .i64 e.tx),.c (.int .i64 e.at_),.c (.int .i64 e.v),.c (.int .i64 e.x),.c (.int .u8 e.why)] t 0
theorem gsize:Nat.beq Tryz.prog.globals.size 4=true:=by kernel_rfl
theorem useG {f:FuncId}{al args:List SV}{Hl H H0:Hv}{v0:SV}{K:SV->Hv->Prop}(ts:List Nat)(rs:List (Option Ob))(nw:Hv)(hc:CallG Tryz.prog f al Hl fun v H=>v=v0/\H=H0)(ha:SV.mps (ren ts) al=args)(hf:Fits (ren ts) H Hl 0)(hn:nodupN ts=true)(hlt:allLt ts (len H)=true)(hid:headId 4 0 ts=true)(hlen:Nat.beq (len ts) (len Hl)=true)(hl:Nat.ble (len H+len H0) 60000=true)(hk:KeptR (ren2 ts (len H)) H nw ts Hl H0 rs)
  (k:K (v0.mp (ren2 ts (len H))) (app2 (putR H ts rs) nw)):CallG Tryz.prog f args H K:=
 CallG.use ts rs nw hc ha hf hn hlt (fun b hb=>ren_id hid (by rw[Nat.eq_of_beq_eq_true gsize]at hb;exact hb)) (Nat.eq_of_beq_eq_true hlen) (Nat.le_of_ble_eq_true hl) hk k
theorem useC {f:FuncId}{al args:List SV}{Hl H H0:Hv}{v0:SV}{K:SV->Hv->Prop}(ts:List Nat)(rs:List (Option Ob))(nw:Hv)(hc:CallG Tryz.prog f al Hl fun v H=>v=v0/\H=H0)(ha:SV.mps (ren ts) al=args)(hf:Fits (ren ts) H Hl 0)(hn:nodupN ts=true)(hlt:allLt ts (len H)=true)(hid:headId 4 0 ts=true)(hlen:Nat.beq (len ts) (len Hl)=true)(hl:Nat.ble (len H+len H0) 60000=true)(hk:KeptR (ren2 ts (len H)) H nw ts Hl H0 rs)
  (k:K (v0.mp (ren2 ts (len H))) (app2 (putR H ts rs) nw)):CallS Tryz.prog f args H K:=⟨useG ts rs nw hc ha hf hn hlt hid hlen hl hk k⟩
theorem useD {f:FuncId}{al args:List SV}{Hl H H0:Hv}{v0:SV}{K:SV->Hv->Prop}(ts:List Nat)(rs:List (Option Ob))(nw:Hv)(hc:CallG Tryz.prog f al Hl fun v H=>v=v0/\H=H0)(ha:SV.mps (ren ts) al=args)(hf:Fits (ren ts) H Hl 0)(hn:nodupN ts=true)(hlt:allLt ts (len H)=true)(hid:headId 4 0 ts=true)(hlen:Nat.beq (len ts) (len Hl)=true)(hl:Nat.ble (len H+len H0) 60000=true)(hk:KeptR (ren2 ts (len H)) H nw ts Hl H0 rs)
  (k:K (v0.mp (ren2 ts (len H))) (app2 (putR H ts rs) nw)):CallD Tryz.prog f args H K:=CallD.mk' (useG ts rs nw hc ha hf hn hlt hid hlen hl hk ⟨rfl,rfl⟩) k
theorem Zc{f:FuncId}{al args:List SV}{Hl H H0:Hv}{v0:SV}{K:SV->Hv->Prop}(ts:List Nat)(rs:List (Option Ob))(nw:Hv)(hc:CallG Tryz.prog f al Hl fun v H=>v=v0/\H=H0)(hf:Fits (ren ts) H Hl 0)(hk:KeptR (ren2 ts (len H)) H nw ts Hl H0 rs)(k:K (v0.mp (ren2 ts (len H))) (app2 (putR H ts rs) nw))(ha:SV.mps (ren ts) al=args:=by rfl)(hn:nodupN ts=true:=by rfl)(hlt:allLt ts (len H)=true:=by rfl)(hid:headId 4 0 ts=true:=by rfl)(hlen:Nat.beq (len ts) (len Hl)=true:=by rfl)(hl:Nat.ble (len H+len H0) 60000=true:=by rfl):CallS Tryz.prog f args H K:=useC ts rs nw hc ha hf hn hlt hid hlen hl hk k
theorem Zd{f:FuncId}{al args:List SV}{Hl H H0:Hv}{v0:SV}{K:SV->Hv->Prop}(ts:List Nat)(rs:List (Option Ob))(nw:Hv)(hc:CallG Tryz.prog f al Hl fun v H=>v=v0/\H=H0)(hf:Fits (ren ts) H Hl 0)(hk:KeptR (ren2 ts (len H)) H nw ts Hl H0 rs)(k:K (v0.mp (ren2 ts (len H))) (app2 (putR H ts rs) nw))(ha:SV.mps (ren ts) al=args:=by rfl)(hn:nodupN ts=true:=by rfl)(hlt:allLt ts (len H)=true:=by rfl)(hid:headId 4 0 ts=true:=by rfl)(hlen:Nat.beq (len ts) (len Hl)=true:=by rfl)(hl:Nat.ble (len H+len H0) 60000=true:=by rfl):CallD Tryz.prog f args H K:=useD ts rs nw hc ha hf hn hlt hid hlen hl hk k
theorem ren2_id {n:Nat}{ts:List Nat}(h:headId n 0 ts=true){c j:Nat}(hj:j<n):ren2 ts c j=j:=by
 unfold ren2
 rw[headId_ok h j hj]
 simp
theorem kdB {τ:Nat->Nat}(k:∀j,j<15->τ j=j):Ob.mp τ kindsOb=kindsOb:=by
 have sl:∀b n,b<15->(SV.sl b 0 1 n (.u 0)).mp τ=SV.sl b 0 1 n (.u 0):=fun b n hb=>by
  show SV.sl (τ b) 0 1 n (.u 0)=_
  rw[k b hb]
 show Ob.row [.c (.str []),.c .nils,kN 1,.c ((SV.sl 4 0 1 2 (.u 0)).mp τ),kN 2,.c ((SV.sl 5 0 1 2 (.u 0)).mp τ),kN 3,.c ((SV.sl 6 0 1 2 (.u 0)).mp τ),kN 4,.c ((SV.sl 7 0 1 1 (.u 0)).mp τ),kN 5,.c ((SV.sl 8 0 1 1 (.u 0)).mp τ),kN 6,.c ((SV.sl 9 0 1 1 (.u 0)).mp τ),kN 7,.c ((SV.sl 10 0 1 1 (.u 0)).mp τ),kN 8,.c ((SV.sl 11 0 1 2 (.u 0)).mp τ),kN 9,.c ((SV.sl 12 0 1 1 (.u 0)).mp τ),kN 10,.c ((SV.sl 13 0 1 2 (.u 0)).mp τ),kN 11,.c ((SV.sl 14 0 1 1 (.u 0)).mp τ),kN 12,.c .nils,kN 13,.c .nils] 260 2=_
 rw[sl 4 2 (by decide),sl 5 2 (by decide),sl 6 2 (by decide),sl 7 1 (by decide),sl 8 1 (by decide),sl 9 1 (by decide),sl 10 1 (by decide),sl 11 2 (by decide),sl 12 1 (by decide),sl 13 2 (by decide),sl 14 1 (by decide)]
theorem fitB {ts:List Nat}{H L:Hv}(ht:headId 15 0 ts=true)(h:Fits (ren ts) (bH H) L 15):Fits (ren ts) (bH H) (bH L) 0:=by
 have k:∀j,j<15->ren ts j=j:=fun j hj=>ren_id ht hj
 have at':∀{j:Nat} {o o':Ob},j<15->nth (bH H) j=some o->o'=o->LiesAt (nth (bH H) (ren ts j)) o':=fun {j o o'} hj h1 h2=>by rw[k j hj,h1,h2];exact .r rfl
 exact⟨at' (by decide) rfl (kdB k),trivial,at' (j:=2) (by decide) rfl rfl,trivial,at' (j:=4) (by decide) rfl rfl,at' (j:=5) (by decide) rfl rfl,at' (j:=6) (by decide) rfl rfl,at' (j:=7) (by decide) rfl rfl,at' (j:=8) (by decide) rfl rfl,at' (j:=9) (by decide) rfl rfl,at' (j:=10) (by decide) rfl rfl,at' (j:=11) (by decide) rfl rfl,at' (j:=12) (by decide) rfl rfl,at' (j:=13) (by decide) rfl rfl,at' (j:=14) (by decide) rfl rfl,h⟩
theorem keptB {ts:List Nat}{H L L' nw:Hv}{rs:List (Option Ob)}{c:Nat}(ht:headId 15 0 (0::1::2::3::4::5::6::7::8::9::10::11::12::13::14::ts)=true)(h:KeptR (ren2 (0::1::2::3::4::5::6::7::8::9::10::11::12::13::14::ts) c) (bH H) nw ts L L' rs) :
  KeptR (ren2 (0::1::2::3::4::5::6::7::8::9::10::11::12::13::14::ts) c) (bH H) nw (0::1::2::3::4::5::6::7::8::9::10::11::12::13::14::ts) (bH L) (bH L') (none::none::none::none::none::none::none::none::none::none::none::none::none::none::none::rs):=by
 refine⟨?_,.r rfl,.r rfl,.r rfl,.r rfl,.r rfl,.r rfl,.r rfl,.r rfl,.r rfl,.r rfl,.r rfl,.r rfl,h⟩
 rw[kdB fun j hj=>ren2_id ht hj]
 exact .r rfl
abbrev z4:Hv:=[.dead,.dead,.dead,.dead]
theorem vtx0_at (e:Evt)(m:Nat):CallG Tryz.prog fTx [.ptr 4 0 0 0,.nils] (z4++[evO e m]) fun v H=>v=.int .i64 e.tx/\H=z4++[evO e m]:=by
 refine Ze Tryz.func428 rfl fun g w=>?_
 refine LoopG.rounds cx_ok 1 (by kernel_rfl) ?_
 refine Zr2 ?_
 exact Zv [0,1,2,3,4] ⟨rfl,rfl⟩ Zx3
theorem vtx1_at (e:Evt)(m:Nat)(n:Int):CallG Tryz.prog fTx [.ptr 4 0 0 0,.sl 5 0 1 1 (.k 1)] (z4++[evO e m,.row [.c (.int .i64 n)] 2 0]) fun v H=>v=.int .i64 n/\H=z4++[evO {e with tx:=n} m,.row [.c (.int .i64 n)] 2 0]:=by
 refine Ze Tryz.func428 rfl fun g w=>?_
 refine LoopG.rounds cx_ok 2 (by kernel_rfl) ?_
 refine Zr3 ?_
 exact Zv [0,1,2,3,4,5] ⟨rfl,rfl⟩ Zx7
theorem vat0_at (e:Evt)(m:Nat):CallG Tryz.prog fAt [.ptr 4 0 0 0,.nils] (z4++[evO e m]) fun v H=>v=.int .i64 e.at_/\H=z4++[evO e m]:=by
 refine Ze Tryz.func399 rfl fun g w=>?_
 refine LoopG.rounds cx_ok 1 (by kernel_rfl) ?_
 refine Zr2 ?_
 exact Zv [0,1,2,3,4] ⟨rfl,rfl⟩ Zx3
theorem vat1_at (e:Evt)(m:Nat)(n:Int):CallG Tryz.prog fAt [.ptr 4 0 0 0,.sl 5 0 1 1 (.k 1)] (z4++[evO e m,.row [.c (.int .i64 n)] 2 0]) fun v H=>v=.int .i64 n/\H=z4++[evO {e with at_:=n} m,.row [.c (.int .i64 n)] 2 0]:=by
 refine Ze Tryz.func399 rfl fun g w=>?_
 refine LoopG.rounds cx_ok 2 (by kernel_rfl) ?_
 refine Zr3 ?_
 exact Zv [0,1,2,3,4,5] ⟨rfl,rfl⟩ Zx7
theorem vv0_at (e:Evt)(m:Nat):CallG Tryz.prog fV [.ptr 4 0 0 0,.nils] (z4++[evO e m]) fun v H=>v=.int .i64 e.v/\H=z4++[evO e m]:=by
 refine Ze Tryz.func429 rfl fun g w=>?_
 refine LoopG.rounds cx_ok 1 (by kernel_rfl) ?_
 refine Zr2 ?_
 exact Zv [0,1,2,3,4] ⟨rfl,rfl⟩ Zx3
theorem vv1_at (e:Evt)(m:Nat)(n:Int):CallG Tryz.prog fV [.ptr 4 0 0 0,.sl 5 0 1 1 (.k 1)] (z4++[evO e m,.row [.c (.int .i64 n)] 2 0]) fun v H=>v=.int .i64 n/\H=z4++[evO {e with v:=n} m,.row [.c (.int .i64 n)] 2 0]:=by
 refine Ze Tryz.func429 rfl fun g w=>?_
 refine LoopG.rounds cx_ok 2 (by kernel_rfl) ?_
 refine Zr3 ?_
 exact Zv [0,1,2,3,4,5] ⟨rfl,rfl⟩ Zx7
theorem vx0_at (e:Evt)(m:Nat):CallG Tryz.prog fX [.ptr 4 0 0 0,.nils] (z4++[evO e m]) fun v H=>v=.int .i64 e.x/\H=z4++[evO e m]:=by
 refine Ze Tryz.func430 rfl fun g w=>?_
 refine LoopG.rounds cx_ok 1 (by kernel_rfl) ?_
 refine Zr2 ?_
 exact Zv [0,1,2,3,4] ⟨rfl,rfl⟩ Zx3
theorem vx1_at (e:Evt)(m:Nat)(n:Int):CallG Tryz.prog fX [.ptr 4 0 0 0,.sl 5 0 1 1 (.k 1)] (z4++[evO e m,.row [.c (.int .i64 n)] 2 0]) fun v H=>v=.int .i64 n/\H=z4++[evO {e with x:=n} m,.row [.c (.int .i64 n)] 2 0]:=by
 refine Ze Tryz.func430 rfl fun g w=>?_
 refine LoopG.rounds cx_ok 2 (by kernel_rfl) ?_
 refine Zr3 ?_
 exact Zv [0,1,2,3,4,5] ⟨rfl,rfl⟩ Zx7
theorem vwhy0_at (e:Evt)(m:Nat)(hw:0<=e.why/\e.why<=255):CallG Tryz.prog fWhy [.ptr 4 0 0 0,.nils] (z4++[evO e m]) fun v H=>v=.int .i64 e.why/\H=z4++[evO e m]:=by
 refine Ze Tryz.func431 rfl fun g w=>?_
 refine LoopG.rounds cx_ok 1 (by kernel_rfl) ?_
 refine Zr3 ?_
 exact Zv [0,1,2,3,4] ⟨rfl,rfl⟩ Zx3
theorem vwhy1_at (e:Evt)(m:Nat)(n:Int)(hw:0<=n/\n<=255):CallG Tryz.prog fWhy [.ptr 4 0 0 0,.sl 5 0 1 1 (.k 1)] (z4++[evO e m,.row [.c (.int .i64 n)] 2 0]) fun v H=>v=.int .i64 n/\H=z4++[evO {e with why:=n} m,.row [.c (.int .i64 n)] 2 0]:=by
 refine Ze Tryz.func431 rfl fun g w=>?_
 refine LoopG.rounds cx_ok 2 (by kernel_rfl) ?_
 refine Zr3 ?_
 exact Zv [0,1,2,3,4,5] ⟨rfl,rfl⟩ Zx7
def bareE (e:Evt):Evt:=match e.kind with
 |1=>⟨1,e.thread,e.tx,0,e.v,0,0⟩
 |2=>⟨2,e.thread,0,e.at_,e.v,0,0⟩
 |3=>⟨3,e.thread,0,e.at_,0,e.x,0⟩
 |4=>⟨4,e.thread,0,e.at_,0,0,0⟩
 |5=>⟨5,e.thread,0,0,e.v,0,0⟩
 |6=>⟨6,e.thread,0,e.at_,0,0,0⟩
 |7=>⟨7,e.thread,0,0,e.v,0,0⟩
 |8=>⟨8,e.thread,0,e.at_,0,e.x,0⟩
 |9=>⟨9,e.thread,0,e.at_,0,0,0⟩
 |10=>⟨10,e.thread,0,e.at_,0,0,e.why⟩
 |11=>⟨11,e.thread,0,e.at_,0,0,0⟩
 |12=>⟨12,e.thread,0,0,0,0,0⟩
 |13=>⟨13,e.thread,0,0,0,0,0⟩
 |_=>e
theorem vbare1_at (e:Evt)(hk:e.kind=1)(hw:0<=e.why/\e.why<=255):CallG Tryz.prog 64 [evS e] (bH []) fun v H=>v=evS (bareE e)/\H=bH []:=by
 obtain⟨ek,th,tx,at_,ev,ex,why⟩:=e
 obtain rfl:ek=1:=hk
 refine Ze Tryz.func64 rfl fun g w=>?_
 refine Zw Zl5 ?_
 refine LoopG.rounds cx_ok 3 (by kernel_rfl) ?_
 refine Zr3 ?_
 refine Zc [0,1,2,3,17] [none,none,none,none,none] [] (vtx0_at ⟨1,th,tx,at_,ev,ex,why⟩ 257) Zx3 Zx5 ?_
 refine Zc [0,1,2,3,18,19] [none,none,none,none,some (evO ⟨1,th,tx,0,0,0,0⟩ 257),none] [] (vtx1_at ⟨1,th,0,0,0,0,0⟩ 257 tx) Zx7 Zx10 ?_
 refine Zr3 ?_
 refine Zc [0,1,2,3,17] [none,none,none,none,none] [] (vv0_at ⟨1,th,tx,at_,ev,ex,why⟩ 257) Zx3 Zx5 ?_
 refine Zc [0,1,2,3,18,20] [none,none,none,none,some (evO ⟨1,th,tx,0,ev,0,0⟩ 257),none] [] (vv1_at ⟨1,th,tx,0,0,0,0⟩ 257 ev) Zx7 Zx10 ?_
 refine Zr3 ?_
 exact Zv (c15 []) ⟨rfl,rfl⟩ Zx0
theorem vbare2_at (e:Evt)(hk:e.kind=2)(hw:0<=e.why/\e.why<=255):CallG Tryz.prog 64 [evS e] (bH []) fun v H=>v=evS (bareE e)/\H=bH []:=by
 obtain⟨ek,th,tx,at_,ev,ex,why⟩:=e
 obtain rfl:ek=2:=hk
 refine Ze Tryz.func64 rfl fun g w=>?_
 refine Zw Zl5 ?_
 refine LoopG.rounds cx_ok 3 (by kernel_rfl) ?_
 refine Zr3 ?_
 refine Zc [0,1,2,3,17] [none,none,none,none,none] [] (vat0_at ⟨2,th,tx,at_,ev,ex,why⟩ 257) Zx3 Zx5 ?_
 refine Zc [0,1,2,3,18,19] [none,none,none,none,some (evO ⟨2,th,0,at_,0,0,0⟩ 257),none] [] (vat1_at ⟨2,th,0,0,0,0,0⟩ 257 at_) Zx7 Zx10 ?_
 refine Zr3 ?_
 refine Zc [0,1,2,3,17] [none,none,none,none,none] [] (vv0_at ⟨2,th,tx,at_,ev,ex,why⟩ 257) Zx3 Zx5 ?_
 refine Zc [0,1,2,3,18,20] [none,none,none,none,some (evO ⟨2,th,0,at_,ev,0,0⟩ 257),none] [] (vv1_at ⟨2,th,0,at_,0,0,0⟩ 257 ev) Zx7 Zx10 ?_
 refine Zr3 ?_
 exact Zv (c15 []) ⟨rfl,rfl⟩ Zx0
theorem vbare3_at (e:Evt)(hk:e.kind=3)(hw:0<=e.why/\e.why<=255):CallG Tryz.prog 64 [evS e] (bH []) fun v H=>v=evS (bareE e)/\H=bH []:=by
 obtain⟨ek,th,tx,at_,ev,ex,why⟩:=e
 obtain rfl:ek=3:=hk
 refine Ze Tryz.func64 rfl fun g w=>?_
 refine Zw Zl5 ?_
 refine LoopG.rounds cx_ok 3 (by kernel_rfl) ?_
 refine Zr3 ?_
 refine Zc [0,1,2,3,17] [none,none,none,none,none] [] (vat0_at ⟨3,th,tx,at_,ev,ex,why⟩ 257) Zx3 Zx5 ?_
 refine Zc [0,1,2,3,18,19] [none,none,none,none,some (evO ⟨3,th,0,at_,0,0,0⟩ 257),none] [] (vat1_at ⟨3,th,0,0,0,0,0⟩ 257 at_) Zx7 Zx10 ?_
 refine Zr3 ?_
 refine Zc [0,1,2,3,17] [none,none,none,none,none] [] (vx0_at ⟨3,th,tx,at_,ev,ex,why⟩ 257) Zx3 Zx5 ?_
 refine Zc [0,1,2,3,18,20] [none,none,none,none,some (evO ⟨3,th,0,at_,0,ex,0⟩ 257),none] [] (vx1_at ⟨3,th,0,at_,0,0,0⟩ 257 ex) Zx7 Zx10 ?_
 refine Zr3 ?_
 exact Zv (c15 []) ⟨rfl,rfl⟩ Zx0
theorem vbare4_at (e:Evt)(hk:e.kind=4)(hw:0<=e.why/\e.why<=255):CallG Tryz.prog 64 [evS e] (bH []) fun v H=>v=evS (bareE e)/\H=bH []:=by
 obtain⟨ek,th,tx,at_,ev,ex,why⟩:=e
 obtain rfl:ek=4:=hk
 refine Ze Tryz.func64 rfl fun g w=>?_
 refine Zw Zl5 ?_
 refine LoopG.rounds cx_ok 2 (by kernel_rfl) ?_
 refine Zr3 ?_
 refine Zc [0,1,2,3,17] [none,none,none,none,none] [] (vat0_at ⟨4,th,tx,at_,ev,ex,why⟩ 257) Zx3 Zx5 ?_
 refine Zc [0,1,2,3,18,19] [none,none,none,none,some (evO ⟨4,th,0,at_,0,0,0⟩ 257),none] [] (vat1_at ⟨4,th,0,0,0,0,0⟩ 257 at_) Zx7 Zx10 ?_
 refine Zr3 ?_
 exact Zv (c15 []) ⟨rfl,rfl⟩ Zx0
theorem vbare5_at (e:Evt)(hk:e.kind=5)(hw:0<=e.why/\e.why<=255):CallG Tryz.prog 64 [evS e] (bH []) fun v H=>v=evS (bareE e)/\H=bH []:=by
 obtain⟨ek,th,tx,at_,ev,ex,why⟩:=e
 obtain rfl:ek=5:=hk
 refine Ze Tryz.func64 rfl fun g w=>?_
 refine Zw Zl5 ?_
 refine LoopG.rounds cx_ok 2 (by kernel_rfl) ?_
 refine Zr3 ?_
 refine Zc [0,1,2,3,17] [none,none,none,none,none] [] (vv0_at ⟨5,th,tx,at_,ev,ex,why⟩ 257) Zx3 Zx5 ?_
 refine Zc [0,1,2,3,18,19] [none,none,none,none,some (evO ⟨5,th,0,0,ev,0,0⟩ 257),none] [] (vv1_at ⟨5,th,0,0,0,0,0⟩ 257 ev) Zx7 Zx10 ?_
 refine Zr3 ?_
 exact Zv (c15 []) ⟨rfl,rfl⟩ Zx0
theorem vbare6_at (e:Evt)(hk:e.kind=6)(hw:0<=e.why/\e.why<=255):CallG Tryz.prog 64 [evS e] (bH []) fun v H=>v=evS (bareE e)/\H=bH []:=by
 obtain⟨ek,th,tx,at_,ev,ex,why⟩:=e
 obtain rfl:ek=6:=hk
 refine Ze Tryz.func64 rfl fun g w=>?_
 refine Zw Zl5 ?_
 refine LoopG.rounds cx_ok 2 (by kernel_rfl) ?_
 refine Zr3 ?_
 refine Zc [0,1,2,3,17] [none,none,none,none,none] [] (vat0_at ⟨6,th,tx,at_,ev,ex,why⟩ 257) Zx3 Zx5 ?_
 refine Zc [0,1,2,3,18,19] [none,none,none,none,some (evO ⟨6,th,0,at_,0,0,0⟩ 257),none] [] (vat1_at ⟨6,th,0,0,0,0,0⟩ 257 at_) Zx7 Zx10 ?_
 refine Zr3 ?_
 exact Zv (c15 []) ⟨rfl,rfl⟩ Zx0
theorem vbare7_at (e:Evt)(hk:e.kind=7)(hw:0<=e.why/\e.why<=255):CallG Tryz.prog 64 [evS e] (bH []) fun v H=>v=evS (bareE e)/\H=bH []:=by
 obtain⟨ek,th,tx,at_,ev,ex,why⟩:=e
 obtain rfl:ek=7:=hk
 refine Ze Tryz.func64 rfl fun g w=>?_
 refine Zw Zl5 ?_
 refine LoopG.rounds cx_ok 2 (by kernel_rfl) ?_
 refine Zr3 ?_
 refine Zc [0,1,2,3,17] [none,none,none,none,none] [] (vv0_at ⟨7,th,tx,at_,ev,ex,why⟩ 257) Zx3 Zx5 ?_
 refine Zc [0,1,2,3,18,19] [none,none,none,none,some (evO ⟨7,th,0,0,ev,0,0⟩ 257),none] [] (vv1_at ⟨7,th,0,0,0,0,0⟩ 257 ev) Zx7 Zx10 ?_
 refine Zr3 ?_
 exact Zv (c15 []) ⟨rfl,rfl⟩ Zx0
theorem vbare8_at (e:Evt)(hk:e.kind=8)(hw:0<=e.why/\e.why<=255):CallG Tryz.prog 64 [evS e] (bH []) fun v H=>v=evS (bareE e)/\H=bH []:=by
 obtain⟨ek,th,tx,at_,ev,ex,why⟩:=e
 obtain rfl:ek=8:=hk
 refine Ze Tryz.func64 rfl fun g w=>?_
 refine Zw Zl5 ?_
 refine LoopG.rounds cx_ok 3 (by kernel_rfl) ?_
 refine Zr3 ?_
 refine Zc [0,1,2,3,17] [none,none,none,none,none] [] (vat0_at ⟨8,th,tx,at_,ev,ex,why⟩ 257) Zx3 Zx5 ?_
 refine Zc [0,1,2,3,18,19] [none,none,none,none,some (evO ⟨8,th,0,at_,0,0,0⟩ 257),none] [] (vat1_at ⟨8,th,0,0,0,0,0⟩ 257 at_) Zx7 Zx10 ?_
 refine Zr3 ?_
 refine Zc [0,1,2,3,17] [none,none,none,none,none] [] (vx0_at ⟨8,th,tx,at_,ev,ex,why⟩ 257) Zx3 Zx5 ?_
 refine Zc [0,1,2,3,18,20] [none,none,none,none,some (evO ⟨8,th,0,at_,0,ex,0⟩ 257),none] [] (vx1_at ⟨8,th,0,at_,0,0,0⟩ 257 ex) Zx7 Zx10 ?_
 refine Zr3 ?_
 exact Zv (c15 []) ⟨rfl,rfl⟩ Zx0
theorem vbare9_at (e:Evt)(hk:e.kind=9)(hw:0<=e.why/\e.why<=255):CallG Tryz.prog 64 [evS e] (bH []) fun v H=>v=evS (bareE e)/\H=bH []:=by
 obtain⟨ek,th,tx,at_,ev,ex,why⟩:=e
 obtain rfl:ek=9:=hk
 refine Ze Tryz.func64 rfl fun g w=>?_
 refine Zw Zl5 ?_
 refine LoopG.rounds cx_ok 2 (by kernel_rfl) ?_
 refine Zr3 ?_
 refine Zc [0,1,2,3,17] [none,none,none,none,none] [] (vat0_at ⟨9,th,tx,at_,ev,ex,why⟩ 257) Zx3 Zx5 ?_
 refine Zc [0,1,2,3,18,19] [none,none,none,none,some (evO ⟨9,th,0,at_,0,0,0⟩ 257),none] [] (vat1_at ⟨9,th,0,0,0,0,0⟩ 257 at_) Zx7 Zx10 ?_
 refine Zr3 ?_
 exact Zv (c15 []) ⟨rfl,rfl⟩ Zx0
theorem vbare10_at (e:Evt)(hk:e.kind=10)(hw:0<=e.why/\e.why<=255):CallG Tryz.prog 64 [evS e] (bH []) fun v H=>v=evS (bareE e)/\H=bH []:=by
 obtain⟨ek,th,tx,at_,ev,ex,why⟩:=e
 obtain rfl:ek=10:=hk
 refine Ze Tryz.func64 rfl fun g w=>?_
 refine Zw Zl5 ?_
 refine LoopG.rounds cx_ok 3 (by kernel_rfl) ?_
 refine Zr3 ?_
 refine Zc [0,1,2,3,17] [none,none,none,none,none] [] (vwhy0_at ⟨10,th,tx,at_,ev,ex,why⟩ 257 hw) Zx3 Zx5 ?_
 refine Zc [0,1,2,3,18,19] [none,none,none,none,some (evO ⟨10,th,0,0,0,0,why⟩ 257),none] [] (vwhy1_at ⟨10,th,0,0,0,0,0⟩ 257 why hw) Zx7 Zx10 ?_
 refine Zr3 ?_
 refine Zc [0,1,2,3,17] [none,none,none,none,none] [] (vat0_at ⟨10,th,tx,at_,ev,ex,why⟩ 257) Zx3 Zx5 ?_
 refine Zc [0,1,2,3,18,20] [none,none,none,none,some (evO ⟨10,th,0,at_,0,0,why⟩ 257),none] [] (vat1_at ⟨10,th,0,0,0,0,why⟩ 257 at_) Zx7 Zx10 ?_
 refine Zr3 ?_
 exact Zv (c15 []) ⟨rfl,rfl⟩ Zx0
theorem vbare11_at (e:Evt)(hk:e.kind=11)(hw:0<=e.why/\e.why<=255):CallG Tryz.prog 64 [evS e] (bH []) fun v H=>v=evS (bareE e)/\H=bH []:=by
 obtain⟨ek,th,tx,at_,ev,ex,why⟩:=e
 obtain rfl:ek=11:=hk
 refine Ze Tryz.func64 rfl fun g w=>?_
 refine Zw Zl5 ?_
 refine LoopG.rounds cx_ok 2 (by kernel_rfl) ?_
 refine Zr3 ?_
 refine Zc [0,1,2,3,17] [none,none,none,none,none] [] (vat0_at ⟨11,th,tx,at_,ev,ex,why⟩ 257) Zx3 Zx5 ?_
 refine Zc [0,1,2,3,18,19] [none,none,none,none,some (evO ⟨11,th,0,at_,0,0,0⟩ 257),none] [] (vat1_at ⟨11,th,0,0,0,0,0⟩ 257 at_) Zx7 Zx10 ?_
 refine Zr3 ?_
 exact Zv (c15 []) ⟨rfl,rfl⟩ Zx0
theorem vbare12_at (e:Evt)(hk:e.kind=12)(hw:0<=e.why/\e.why<=255):CallG Tryz.prog 64 [evS e] (bH []) fun v H=>v=evS (bareE e)/\H=bH []:=by
 obtain⟨ek,th,tx,at_,ev,ex,why⟩:=e
 obtain rfl:ek=12:=hk
 refine Ze Tryz.func64 rfl fun g w=>?_
 refine Zw Zl5 ?_
 refine LoopG.rounds cx_ok 1 (by kernel_rfl) ?_
 refine Zr2 ?_
 exact Zv (c15 []) ⟨rfl,rfl⟩ Zx0
theorem vbare13_at (e:Evt)(hk:e.kind=13)(hw:0<=e.why/\e.why<=255):CallG Tryz.prog 64 [evS e] (bH []) fun v H=>v=evS (bareE e)/\H=bH []:=by
 obtain⟨ek,th,tx,at_,ev,ex,why⟩:=e
 obtain rfl:ek=13:=hk
 refine Ze Tryz.func64 rfl fun g w=>?_
 refine Zw Zl5 ?_
 refine LoopG.rounds cx_ok 1 (by kernel_rfl) ?_
 refine Zr2 ?_
 exact Zv (c15 []) ⟨rfl,rfl⟩ Zx0
end Go.Proofs.YtgdmlkgjpcnelaaGreatDoor
