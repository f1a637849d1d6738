/-  -/
import Derived.Test.YtgdmlkgjpcnelaaGreatDoorTbL
import Derived.Test.YtgdmlkgjpcnelaaGreatDoorTbP
namespace Go.Proofs.YtgdmlkgjpcnelaaGreatDoor
open Go Go.Vc
set_option linter.unusedVariables false
set_option maxRecDepth 100000
set_option maxHeartbeats 1000000
theorem vzig_z (x:Int)(h:-9223372036854775808<=x/\x<=9223372036854775807):CallG Tryz.prog 149 [.int .i64 x] z4 fun v H=>v=.int .u64 (zigI x)/\H=z4:=by
 refine CallG.enter (X:=cxw) cxw_ok (fun _=>[]) Tryz.func149 rfl (by kernel_rfl) rfl rfl fun g w=>?_
 refine Zr0 ?_
 refine Lv.mk' (v':=.int .u64 (zigI x)) (Hl:=z4) [0,1,2,3] ⟨rfl,rfl⟩ ?_ ⟨trivial,trivial,trivial,trivial,trivial⟩ rfl rfl rfl rfl rfl
 show SV.int .u64 (zigI x)=SV.int .u64 _
 rw[zigV x h]
theorem vzag_z (n:Int)(h:0<=n/\n<18446744073709551616):CallG Tryz.prog 277 [.int .u64 n] z4 fun v H=>v=.int .i64 (zagI n)/\H=z4:=by
 refine CallG.enter (X:=cxw) cxw_ok (fun _=>[]) Tryz.func277 rfl (by kernel_rfl) rfl rfl fun g w=>?_
 refine Zr0 ?_
 refine Lv.mk' (v':=.int .i64 (zagI n)) (Hl:=z4) [0,1,2,3] ⟨rfl,rfl⟩ ?_ ⟨trivial,trivial,trivial,trivial,trivial⟩ rfl rfl rfl rfl rfl
 show SV.int .i64 (zagI n)=SV.int .i64 _
 rw[zagV n h.1 h.2]
noncomputable abbrev coO (c:Co)(t v s:Int):Ob:=.row [.c (.int .i64 t),.c (.int .i64 v),.c (.int .i64 s),.c (.int .i64 c.last),.c (.int .i64 c.clock),.a 6 (fun i=>.int .i64 (c.begun i)),.a 6 (fun i=>.int .i64 (c.bumped i)),.a 32 (fun i=>.int .i64 (c.x i))] 243 0
noncomputable abbrev scO (s:List UInt8):Ob:=.row [.c (.str s)] 9 0
def fNum:Nat:=147
def fInt:Nat:=148
def fBad:Nat:=146
noncomputable abbrev lwO (e:Evt):Ob:=.row [.c (.ptr 4 0 0 0),.c (.int .u8 e.kind),.c (.int .i64 e.thread),.c (.int .i64 e.tx),.c (.int .i64 e.at_),.c (.int .i64 e.v),.c (.int .i64 e.x),.c (.int .u8 e.why),.c (.fn 147 [] [.ptr 6 0 0 0]),.c (.fn 148 [] [.ptr 6 0 0 0]),.c (.fn 146 [] [])] 248 0
theorem vwnum_at (s:List UInt8)(n m:Int)(hn:0<=n/\n<18446744073709551616)(hs:s.length<=1000):CallG Tryz.prog 147 [.int .i64 n,.int .i64 m,.ptr 4 0 0 0] (z4++[scO s]) fun v H=>v=.int .i64 n/\H=z4++[scO (s++putB n.toNat)]:=by
 have hl:=putB_len n.toNat
 refine Ze Tryz.func147 rfl fun g w=>?_
 refine Zw [(1,0),(2,0),(3,0),(0,1),(4,0),(5,0)] ?_
 refine Zr0 ?_
 refine Zd [0,1,2,3] [none,none,none,none] [] (vput_at n hn) Zx2 Zx4 ?_
 refine Zr12 ?_
 exact Zv (v':=.int .i64 n) (Hl:=z4++[scO (s++putB n.toNat)]) (c4 [4]) ⟨rfl,rfl⟩ Zx3
theorem vwint_at (s:List UInt8)(x:Int)(hx:-9223372036854775808<=x/\x<=9223372036854775807)(hs:s.length<=1000):CallG Tryz.prog 148 [.int .i64 x,.ptr 4 0 0 0] (z4++[scO s]) fun v H=>v=.int .i64 x/\H=z4++[scO (s++putB (zigI x).toNat)]:=by
 have hl:=putB_len (zigI x).toNat
 have hz:=zig_bd x hx.1 hx.2
 refine Ze Tryz.func148 rfl fun g w=>?_
 refine Zw [(1,0),(2,0),(3,0),(0,2),(4,0),(5,0)] ?_
 refine Zd [0,1,2,3] [none,none,none,none] [] (vzig_z x hx) Zx2 Zx4 ?_
 refine Zd [0,1,2,3] [none,none,none,none] [] (vput_at (zigI x) hz) Zx2 Zx4 ?_
 repeat ((show Sd _ _;refine Sd.mk (by first|omega|exact⟨rfl,rfl,trivial⟩) ?_))
 exact Zv (v':=.int .i64 x) (Hl:=z4++[scO (s++putB (zigI x).toNat)]) (c4 [4]) ⟨rfl,rfl⟩ Zx3
theorem vwat_at (c:Co)(t v s:Int)(e:Evt)(tx:List UInt8)(m:Int)(hm:1<=m/\m<=32)(ha:0<=e.at_/\e.at_<=31)(hs:tx.length<=1000):CallG Tryz.prog 274 [.ptr 5 0 0 0,.int .i64 m] (z4++[coO c t v s,lwO e,scO tx]) fun r H=>r=.tup []/\H=z4++[coO c t v s,lwO e,scO (tx++putB e.at_.toNat)]:=by
 refine Ze Tryz.func274 rfl fun g w=>?_
 refine Zw Zl17 ?_
 refine Zr0 ?_
 refine Zd [0,1,2,3,6] [none,none,none,none,some (scO (tx++putB e.at_.toNat))] [] (vwnum_at tx e.at_ (m-1) ⟨ha.1,by omega⟩ hs) Zx3 Zx5 ?_
 exact Zv (v':=.tup []) (Hl:=z4++[coO c t v s,lwO e,scO (tx++putB e.at_.toNat)]) (c4 [4,5,6]) ⟨rfl,rfl⟩ Zx6
theorem vwbegin_at (c:Co)(t v s:Int)(e:Evt)(tx:List UInt8)(hx:0<=e.tx/\e.tx<=5)(hc:0<=c.clock/\c.clock<=1099511627776)(hv:c.clock<=e.v/\e.v<=1099511627776)(hs:tx.length<=900):CallG Tryz.prog 208 [.ptr 5 0 0 0] (z4++[coO c t v s,lwO e,scO tx]) fun r H=>r=.tup []/\H=z4++[coO c t v s,lwO e,scO (tx++putB e.tx.toNat++putB (e.v-c.clock).toNat)]:=by
 have l1:=putB_len e.tx.toNat
 refine Ze Tryz.func208 rfl fun g w=>?_
 refine Zw Zl18 ?_
 refine Zd [0,1,2,3,6] [none,none,none,none,some (scO (tx++putB e.tx.toNat))] [] (vwnum_at (tx) (e.tx) (5) ⟨hx.1,by omega⟩ (by omega)) Zx3 Zx5 ?_
 refine Zw Zl19 ?_
 refine Zr0 ?_
 refine Zd [0,1,2,3,6] [none,none,none,none,some (scO (tx++putB e.tx.toNat++putB (e.v-c.clock).toNat))] [] (vwnum_at (tx++putB e.tx.toNat) (e.v-c.clock) (1099511627776-c.clock) ⟨by omega,by omega⟩ (by simp only[List.length_append];omega)) Zx3 Zx5 ?_
 refine Zr12 ?_
 conv=>whnf
 rw[show c.clock+(e.v-c.clock)=e.v by omega]
 exact Zv (v':=.tup []) (Hl:=z4++[coO c t v s,lwO e,scO (tx++putB e.tx.toNat++putB (e.v-c.clock).toNat)]) (c4 [4,5,6]) ⟨rfl,rfl⟩ Zx6
theorem vwlook_at (c:Co)(t v s:Int)(e:Evt)(tx:List UInt8)(hk:1<=s/\s<=32)(ha:0<=e.at_/\e.at_<=31)(hc:0<=c.begun e.thread.toNat/\c.begun e.thread.toNat<=1099511627776)(hv:0<=e.v/\e.v<=c.begun e.thread.toNat)(ht:0<=e.thread/\e.thread<6)(hs:tx.length<=900):CallG Tryz.prog 209 [.ptr 5 0 0 0] (z4++[coO c t v s,lwO e,scO tx]) fun r H=>r=.tup []/\H=z4++[coO c t v s,lwO e,scO (tx++putB e.at_.toNat++putB (c.begun e.thread.toNat-e.v).toNat)]:=by
 have l1:=putB_len e.at_.toNat
 refine Ze Tryz.func209 rfl fun g w=>?_
 refine Zc [0,1,2,3,4,5,6] [none,none,none,none,none,none,some (scO (tx++putB e.at_.toNat))] [] (vwat_at c t v s e tx s ⟨by omega,by omega⟩ ⟨by omega,by omega⟩ (by omega)) Zx6 Zx9 ?_
 refine Zw Zl9 ?_
 refine Zr10 ?_
 refine Zw Zl20 ?_
 refine Zr0 ?_
 refine Zd [0,1,2,3,6] [none,none,none,none,some (scO (tx++putB e.at_.toNat++putB (c.begun e.thread.toNat-e.v).toNat))] [] (vwnum_at (tx++putB e.at_.toNat) (c.begun e.thread.toNat-e.v) (c.begun e.thread.toNat) ⟨by omega,by omega⟩ (by simp only[List.length_append];omega)) Zx3 Zx5 ?_
 refine Zr0 ?_
 conv=>whnf
 rw[show c.begun e.thread.toNat-(c.begun e.thread.toNat-e.v)=e.v by omega]
 exact Zv (v':=.tup []) (Hl:=z4++[coO c t v s,lwO e,scO (tx++putB e.at_.toNat++putB (c.begun e.thread.toNat-e.v).toNat)]) (c4 [4,5,6]) ⟨rfl,rfl⟩ Zx6
theorem vwvalue_at (c:Co)(t v s:Int)(e:Evt)(tx:List UInt8)(hv:1<=v/\v<=32)(ha:0<=e.at_/\e.at_<v)(hx:-9223372036854775808<=e.x/\e.x<=9223372036854775807)(hs:tx.length<=900):CallG Tryz.prog 210 [.ptr 5 0 0 0] (z4++[coO c t v s,lwO e,scO tx]) fun r H=>r=.tup []/\H=z4++[coO c t v s,lwO e,scO (tx++putB e.at_.toNat++putB (zigI (IntKind.i64.wrap (e.x-c.x e.at_.toNat))).toNat)]:=by
 have l1:=putB_len e.at_.toNat
 have h32:0<=e.at_/\e.at_<32:=⟨by omega,by omega⟩
 refine CallG.enter (X:=cxw) cxw_ok (fun _=>[]) Tryz.func210 rfl (by kernel_rfl) rfl rfl fun g w=>?_
 refine Zc [0,1,2,3,4,5,6] [none,none,none,none,none,none,some (scO (tx++putB e.at_.toNat))] [] (vwat_at c t v s e tx v ⟨by omega,by omega⟩ ⟨by omega,by omega⟩ (by omega)) Zx6 Zx9 ?_
 refine DrawG.by cxw_ok [(0,0),(1,0),(2,0),(3,0),(4,0),(5,0),(6,0),(7,0),(8,0),(9,0),(10,0),(11,0),(12,0),(13,0)] (by kernel_rfl) (by kernel_rfl) rfl ?_
 refine Zr10 ?_
 refine DrawG.by cxw_ok [(2,0),(3,0),(4,0),(5,0),(6,0),(7,0),(8,0),(9,0),(10,0),(11,0),(12,0),(13,0),(0,1),(1,1),(14,0),(15,0),(16,0),(17,0),(18,0)] (by kernel_rfl) (by kernel_rfl) rfl ?_
 refine Zd [0,1,2,3,6] [none,none,none,none,some (scO (tx++putB e.at_.toNat++putB (zigI (IntKind.i64.wrap (e.x-c.x e.at_.toNat))).toNat))] [] (vwint_at (tx++putB e.at_.toNat) (IntKind.i64.wrap (e.x-c.x e.at_.toNat)) (wrap_bd _) (by simp only[List.length_append];omega)) Zx3 Zx5 ?_
 conv=>whnf
 rw[wrap_back _ _ hx]
 exact Zv (v':=.tup []) (Hl:=z4++[coO c t v s,lwO e,scO (tx++putB e.at_.toNat++putB (zigI (IntKind.i64.wrap (e.x-c.x e.at_.toNat))).toNat)]) (c4 [4,5,6]) ⟨rfl,rfl⟩ Zx6
theorem vwstripe_at (c:Co)(t v s:Int)(e:Evt)(tx:List UInt8)(hk:1<=s/\s<=32)(ha:0<=e.at_/\e.at_<=31)(hs:tx.length<=900):CallG Tryz.prog 211 [.ptr 5 0 0 0] (z4++[coO c t v s,lwO e,scO tx]) fun r H=>r=.tup []/\H=z4++[coO c t v s,lwO e,scO (tx++putB e.at_.toNat)]:=by
 refine Ze Tryz.func211 rfl fun g w=>?_
 refine Zc [0,1,2,3,4,5,6] [none,none,none,none,none,none,some (scO (tx++putB e.at_.toNat))] [] (vwat_at c t v s e tx s ⟨by omega,by omega⟩ ⟨by omega,by omega⟩ (by omega)) Zx6 Zx9 ?_
 exact Zv (v':=.tup []) (Hl:=z4++[coO c t v s,lwO e,scO (tx++putB e.at_.toNat)]) (c4 [4,5,6]) ⟨rfl,rfl⟩ Zx6
theorem vwbump_at (c:Co)(t v s:Int)(e:Evt)(tx:List UInt8)(hc:0<=c.clock/\c.clock<=1099511627776)(hv:c.clock<e.v/\e.v<=1099511627776)(hs:tx.length<=900):CallG Tryz.prog 212 [.ptr 5 0 0 0] (z4++[coO c t v s,lwO e,scO tx]) fun r H=>r=.tup []/\H=z4++[coO c t v s,lwO e,scO (tx++putB (e.v-c.clock).toNat)]:=by
 refine Ze Tryz.func212 rfl fun g w=>?_
 refine Zw Zl12 ?_
 refine Zr0 ?_
 refine Zd [0,1,2,3,6] [none,none,none,none,some (scO (tx++putB (e.v-c.clock).toNat))] [] (vwnum_at (tx) (e.v-c.clock) (1099511627776-c.clock) ⟨by omega,by omega⟩ (by omega)) Zx3 Zx5 ?_
 repeat (first|(show Br _ _ _;first|refine Br.t rfl ?_|refine Br.f rfl ?_|refine Br.t (Nat.beq_refl _) ?_|refine Br.f (decide_eq_false (by omega)) ?_|refine Br.t (decide_eq_true (by omega)) ?_)|(show Sd _ _;refine Sd.mk (by first|omega|assumption|exact⟨of_decide_eq_true rfl,of_decide_eq_true rfl⟩|exact of_decide_eq_true rfl|exact⟨rfl,trivial⟩|exact⟨⟨by omega,rfl⟩,trivial⟩|exact⟨rfl,rfl,trivial⟩|exact⟨⟨by omega,rfl⟩,⟨by omega,rfl⟩,trivial⟩) ?_)|(show SeqG _ _ _ _ _ _ _ _;refine SeqG.split cx_ok (by kernel_rfl) ?_))
 conv=>whnf
 rw[show c.clock+(e.v-c.clock)=e.v by omega]
 exact Zv (v':=.tup []) (Hl:=z4++[coO c t v s,lwO e,scO (tx++putB (e.v-c.clock).toNat)]) (c4 [4,5,6]) ⟨rfl,rfl⟩ Zx6
theorem vwcommit_at (c:Co)(t v s:Int)(e:Evt)(tx:List UInt8)(hu:0<=c.bumped e.thread.toNat)(hv:e.v=0\/e.v=c.bumped e.thread.toNat)(ht:0<=e.thread/\e.thread<6)(hs:tx.length<=900):CallG Tryz.prog 213 [.ptr 5 0 0 0] (z4++[coO c t v s,lwO e,scO tx]) fun r H=>r=.tup []/\H=z4++[coO c t v s,lwO e,scO (tx++putB (min e.v 1).toNat)]:=by
 refine Ze Tryz.func213 rfl fun g w=>?_
 refine Zc [0,1,2,3,6] [none,none,none,none,some (scO (tx++putB (min e.v 1).toNat))] [] (vwnum_at (tx) (min e.v 1) (1) ⟨by omega,by omega⟩ (by omega)) Zx3 Zx5 ?_
 refine Br.o (fun h1=>?_) (fun h1=>?_)
 ·have p1:min e.v 1=0:=of_decide_eq_true h1
  have p2:e.v=0:=by omega
  conv=>whnf
  rw[show(SV.int .i64 0)=SV.int .i64 e.v by rw[p2]]
  exact Zv (v':=.tup []) (Hl:=z4++[coO c t v s,lwO e,scO (tx++putB (min e.v 1).toNat)]) (c4 [4,5,6]) ⟨rfl,rfl⟩ Zx6
 ·have p1:¬min e.v 1=0:=of_decide_eq_false h1
  have p2:e.v=c.bumped e.thread.toNat:=by omega
  refine Zw Zl8 ?_
  refine Zr14 ?_
  conv=>whnf
  rw[<-p2]
  exact Zv (v':=.tup []) (Hl:=z4++[coO c t v s,lwO e,scO (tx++putB (min e.v 1).toNat)]) (c4 [4,5,6]) ⟨rfl,rfl⟩ Zx6
theorem vwabort_at (c:Co)(t v s:Int)(e:Evt)(tx:List UInt8)(hk:1<=s/\s<=32)(hw:1<=e.why/\e.why<=6)(ha:0<=e.at_/\e.at_<=31)(hs:tx.length<=800):CallG Tryz.prog 214 [.ptr 5 0 0 0] (z4++[coO c t v s,lwO e,scO tx]) fun r H=>r=.tup []/\H=z4++[coO c t v s,lwO e,scO (tx++putB (e.why-1).toNat++(if e.why=6 then []else putB e.at_.toNat))]:=by
 have l1:=putB_len (e.why-1).toNat
 refine Ze Tryz.func214 rfl fun g w=>?_
 refine Zw Zl21 ?_
 refine Zr0 ?_
 refine Zd [0,1,2,3,6] [none,none,none,none,some (scO (tx++putB (e.why-1).toNat))] [] (vwnum_at (tx) (e.why-1) (5) ⟨by omega,by omega⟩ (by omega)) Zx3 Zx5 ?_
 refine Zr0 ?_
 conv=>whnf
 rw[show e.why-1+1=e.why by omega]
 refine Br.o (fun h1=>?_) (fun h1=>?_)
 ·have p1:¬e.why=6:=of_decide_eq_true h1
  rw[if_neg p1]
  refine Zc [0,1,2,3,4,5,6] [none,none,none,none,none,none,some (scO (tx++putB (e.why-1).toNat++putB e.at_.toNat))] [] (vwstripe_at c t v s e (tx++putB (e.why-1).toNat) hk ha (by simp only[List.length_append];omega)) Zx6 Zx9 ?_
  exact Zv (v':=.tup []) (Hl:=z4++[coO c t v s,lwO e,scO (tx++putB (e.why-1).toNat++putB e.at_.toNat)]) (c4 [4,5,6]) ⟨rfl,rfl⟩ Zx6
 ·have p1:e.why=6:=Classical.not_not.1 (of_decide_eq_false h1)
  rw[if_pos p1,List.append_nil]
  exact Zv (v':=.tup []) (Hl:=z4++[coO c t v s,lwO e,scO (tx++putB (e.why-1).toNat)]) (c4 [4,5,6]) ⟨rfl,rfl⟩ Zx6
theorem vwnone_at (c:Co)(t v s:Int)(e:Evt)(tx:List UInt8):CallG Tryz.prog 215 [.ptr 5 0 0 0] (z4++[coO c t v s,lwO e,scO tx]) fun r H=>r=.tup []/\H=z4++[coO c t v s,lwO e,scO (tx)]:=by
 refine Ze Tryz.func215 rfl fun g w=>?_
 exact Zv (v':=.tup []) (Hl:=z4++[coO c t v s,lwO e,scO (tx)]) (c4 [4,5,6]) ⟨rfl,rfl⟩ Zx6
end Go.Proofs.YtgdmlkgjpcnelaaGreatDoor
namespace Go.Proofs.YtgdmlkgjpcnelaaGreatDoor
open Go Go.Vc
set_option linter.unusedVariables false
set_option maxRecDepth 100000
set_option maxHeartbeats 1000000
theorem vmayT_at (e:Evt)(t v s:Int)(hr:EvR e)(h:MayP e t v s):CallG Tryz.prog 17 [evS e,.int .i64 t,.int .i64 v,.int .i64 s] (bH []) fun r H=>r=.bool true/\H=bH []:=by
 have:=vmay_at e t v s hr
 rw[decide_eq_true h]at this
 exact this
def CoNew (t v s:Int):Prop:=(1<=t/\t<=6)/\(1<=v/\v<=32)/\1<=s/\s<=v
theorem may_wait {t v s:Int}(h:CoNew t v s):MayP ⟨12,0,0,0,0,0,0⟩ t v s:=by
 obtain⟨h1,h2,h3,h4⟩:=h
 refine⟨h1,h2,⟨h3,h4⟩,by decide,fun q=>absurd (show(12:Int)=10 from q) (by decide),⟨by decide,by show(0:Int)<=t-1;omega⟩,by decide,⟨by decide,by decide⟩,⟨by decide,by show(0:Int)<=s-1;omega⟩,rfl⟩
theorem nthD_rep (z:SV):∀n i,i<n->nthD (List.replicate n z) i=z
 |0,i,h=>by omega
 |n+1,0,h=>rfl
 |n+1,i+1,h=>nthD_rep z n i (by omega)
theorem vcoNew_at (t v s:Int)(h:CoNew t v s):CallG Tryz.prog 58 [.int .i64 t,.int .i64 v,.int .i64 s] (bH []) fun r H=>r=.tup [.ptr 15 0 0 0,.int .i64 0]/\H=bH [coO co0 t v s]:=by
 refine Ze Tryz.func58 rfl fun g w=>?_
 refine Zc (c15 []) (n15 []) [] (vmayT_at ⟨12,0,0,0,0,0,0⟩ t v s ⟨by decide,by decide⟩ (may_wait h)) Zx0 Zx12 ?_
 refine Zr2 ?_
 exact Zv (v':=.tup [.ptr 15 0 0 0,.int .i64 0]) (Hl:=bH [coO co0 t v s]) (c15 [15]) ⟨rfl,rfl⟩ (fitB rfl ⟨.s ⟨rfl,rfl,rfl,rfl,rfl,rfl,(fun i hi=>nthD_rep (.int .i64 0) 44 i (by omega)),rfl,(fun i hi=>nthD_rep (.int .i64 0) 38 i (by omega)),rfl,(fun i hi=>nthD_rep (.int .i64 0) 32 i hi),trivial⟩,trivial⟩)
theorem vtells_at (c:Co)(t v s:Int)(e:Evt)(hr:EvR e)(h:TellsP c e t v s):CallG Tryz.prog 145 [.ptr 15 0 0 0,evS e] (bH [coO c t v s]) fun r H=>r=.bool true/\H=bH [coO c t v s]:=by
 obtain⟨hm,k1,k2,k5,k7⟩:=h
 have hk:1<=e.kind/\e.kind<=13:=hm.2.2.2.1
 have ht:0<=e.thread/\e.thread<6:=by obtain⟨q1,q2,q3,q4,q5,q6,_⟩:=hm;omega
 obtain⟨ek,th,tx,at_,ev,ex,why⟩:=e
 dsimp only at k1 k2 k5 k7 hk ht
 have hti:th.toNat<6:=by omega
 refine Ze Tryz.func145 rfl fun g w=>?_
 refine Zw Zl3 ?_
 refine Zd (c15 []) (n15 []) [] (vmayT_at ⟨ek,th,tx,at_,ev,ex,why⟩ t v s hr hm) Zx0 Zx12 ?_
 refine Zr2 ?_
 have hh:ek=1\/ek=2\/ek=3\/ek=4\/ek=5\/ek=6\/ek=7\/ek=8\/ek=9\/ek=10\/ek=11\/ek=12\/ek=13:=by omega
 rcases hh with rfl|rfl|rfl|rfl|rfl|rfl|rfl|rfl|rfl|rfl|rfl|rfl|rfl
 ·refine Zr1 ?_
  refine Zw Zl15 ?_
  conv=>whnf
  rw[decide_eq_true (k1 rfl)]
  exact Zv (v':=.bool true) (Hl:=bH [coO c t v s]) (c15 [15]) ⟨rfl,rfl⟩ Zx14
 ·refine Zr6 ?_
  refine Zw Zl7 ?_
  refine Zr10 ?_
  conv=>whnf
  rw[decide_eq_true (k2 rfl)]
  exact Zv (v':=.bool true) (Hl:=bH [coO c t v s]) (c15 [15]) ⟨rfl,rfl⟩ Zx14
 ·refine Zr2 ?_
  exact Zv (v':=.bool true) (Hl:=bH [coO c t v s]) (c15 [15]) ⟨rfl,rfl⟩ Zx14
 ·refine Zr2 ?_
  exact Zv (v':=.bool true) (Hl:=bH [coO c t v s]) (c15 [15]) ⟨rfl,rfl⟩ Zx14
 ·refine Zr6 ?_
  refine Zw Zl15 ?_
  conv=>whnf
  rw[decide_eq_true (k5 rfl)]
  exact Zv (v':=.bool true) (Hl:=bH [coO c t v s]) (c15 [15]) ⟨rfl,rfl⟩ Zx14
 ·refine Zr2 ?_
  exact Zv (v':=.bool true) (Hl:=bH [coO c t v s]) (c15 [15]) ⟨rfl,rfl⟩ Zx14
 ·refine Zr6 ?_
  refine Zw Zl0 ?_
  refine Br.o (fun h1=>?_) (fun h1=>?_)
  ·refine Zr1 ?_
   exact Zv (v':=.bool true) (Hl:=bH [coO c t v s]) (c15 [15]) ⟨rfl,rfl⟩ Zx14
  ·have p1:ev=c.bumped th.toNat:=by have h1:¬ev=0:=of_decide_eq_false h1;have:=k7 rfl;omega
   refine Zr3 ?_
   conv=>whnf
   rw[decide_eq_true p1]
   exact Zv (v':=.bool true) (Hl:=bH [coO c t v s]) (c15 [15]) ⟨rfl,rfl⟩ Zx14
 ·refine Zr2 ?_
  exact Zv (v':=.bool true) (Hl:=bH [coO c t v s]) (c15 [15]) ⟨rfl,rfl⟩ Zx14
 ·refine Zr2 ?_
  exact Zv (v':=.bool true) (Hl:=bH [coO c t v s]) (c15 [15]) ⟨rfl,rfl⟩ Zx14
 ·refine Zr2 ?_
  exact Zv (v':=.bool true) (Hl:=bH [coO c t v s]) (c15 [15]) ⟨rfl,rfl⟩ Zx14
 ·refine Zr2 ?_
  exact Zv (v':=.bool true) (Hl:=bH [coO c t v s]) (c15 [15]) ⟨rfl,rfl⟩ Zx14
 ·refine Zr2 ?_
  exact Zv (v':=.bool true) (Hl:=bH [coO c t v s]) (c15 [15]) ⟨rfl,rfl⟩ Zx14
 ·refine Zr2 ?_
  exact Zv (v':=.bool true) (Hl:=bH [coO c t v s]) (c15 [15]) ⟨rfl,rfl⟩ Zx14
theorem updI_c (f:Nat->Int)(i:Nat)(v:Int)(k:Nat):(bif Nat.beq k i then SV.int .i64 v else SV.int .i64 (f k))=SV.int .i64 (updI f i v k):=by
 unfold updI
 by_cases h:k=i
 ·subst h;rw[Nat.beq_refl,if_pos rfl];rfl
 ·rw[beq_ne h,if_neg h];rfl
theorem vknows_at (c:Co)(t v s:Int)(e:Evt)(hk:1<=e.kind/\e.kind<=13)(ht:0<=e.thread/\e.thread<6)(ha:0<=e.at_/\e.at_<32):CallG Tryz.prog 151 [.ptr 15 0 0 0,evS e] (bH [coO c t v s]) fun r H=>r=.tup []/\H=bH [coO (knowS c e) t v s]:=by
 obtain⟨ek,th,tx,at_,ev,ex,why⟩:=e
 have hti:th.toNat<6:=by dsimp only at ht;omega
 have hai:at_.toNat<32:=by dsimp only at ha;omega
 dsimp only at hk ht ha
 refine Ze Tryz.func151 rfl fun g w=>?_
 have hh:ek=1\/ek=2\/ek=3\/ek=4\/ek=5\/ek=6\/ek=7\/ek=8\/ek=9\/ek=10\/ek=11\/ek=12\/ek=13:=by omega
 rcases hh with rfl|rfl|rfl|rfl|rfl|rfl|rfl|rfl|rfl|rfl|rfl|rfl|rfl
 ·refine Zr1 ?_
  refine Zw Zl22 ?_
  refine Zr17 ?_
  exact Zv (v':=.tup []) (Hl:=bH [coO (knowS c ⟨1,th,tx,at_,ev,ex,why⟩) t v s]) (c15 [15]) ⟨rfl,rfl⟩ (fitB rfl ⟨.s ⟨rfl,rfl,rfl,rfl,rfl,rfl,(fun i hi=>updI_c _ _ _ i),rfl,(fun i hi=>rfl),rfl,(fun i hi=>rfl),trivial⟩,trivial⟩)
 ·refine Zr4 ?_
  exact Zv (v':=.tup []) (Hl:=bH [coO (knowS c ⟨2,th,tx,at_,ev,ex,why⟩) t v s]) (c15 [15]) ⟨rfl,rfl⟩ Zx14
 ·refine Zr4 ?_
  refine Zw Zl13 ?_
  refine Zr10 ?_
  exact Zv (v':=.tup []) (Hl:=bH [coO (knowS c ⟨3,th,tx,at_,ev,ex,why⟩) t v s]) (c15 [15]) ⟨rfl,rfl⟩ Zx43
 ·refine Zr4 ?_
  exact Zv (v':=.tup []) (Hl:=bH [coO (knowS c ⟨4,th,tx,at_,ev,ex,why⟩) t v s]) (c15 [15]) ⟨rfl,rfl⟩ Zx14
 ·refine Zr6 ?_
  refine Zw Zl22 ?_
  refine Zr17 ?_
  exact Zv (v':=.tup []) (Hl:=bH [coO (knowS c ⟨5,th,tx,at_,ev,ex,why⟩) t v s]) (c15 [15]) ⟨rfl,rfl⟩ (fitB rfl ⟨.s ⟨rfl,rfl,rfl,rfl,rfl,rfl,(fun i hi=>rfl),rfl,(fun i hi=>updI_c _ _ _ i),rfl,(fun i hi=>rfl),trivial⟩,trivial⟩)
 ·refine Zr4 ?_
  exact Zv (v':=.tup []) (Hl:=bH [coO (knowS c ⟨6,th,tx,at_,ev,ex,why⟩) t v s]) (c15 [15]) ⟨rfl,rfl⟩ Zx14
 ·refine Zr4 ?_
  exact Zv (v':=.tup []) (Hl:=bH [coO (knowS c ⟨7,th,tx,at_,ev,ex,why⟩) t v s]) (c15 [15]) ⟨rfl,rfl⟩ Zx14
 ·refine Zr4 ?_
  refine Zw Zl13 ?_
  refine Zr10 ?_
  exact Zv (v':=.tup []) (Hl:=bH [coO (knowS c ⟨8,th,tx,at_,ev,ex,why⟩) t v s]) (c15 [15]) ⟨rfl,rfl⟩ Zx43
 ·refine Zr4 ?_
  exact Zv (v':=.tup []) (Hl:=bH [coO (knowS c ⟨9,th,tx,at_,ev,ex,why⟩) t v s]) (c15 [15]) ⟨rfl,rfl⟩ Zx14
 ·refine Zr4 ?_
  exact Zv (v':=.tup []) (Hl:=bH [coO (knowS c ⟨10,th,tx,at_,ev,ex,why⟩) t v s]) (c15 [15]) ⟨rfl,rfl⟩ Zx14
 ·refine Zr4 ?_
  exact Zv (v':=.tup []) (Hl:=bH [coO (knowS c ⟨11,th,tx,at_,ev,ex,why⟩) t v s]) (c15 [15]) ⟨rfl,rfl⟩ Zx14
 ·refine Zr4 ?_
  exact Zv (v':=.tup []) (Hl:=bH [coO (knowS c ⟨12,th,tx,at_,ev,ex,why⟩) t v s]) (c15 [15]) ⟨rfl,rfl⟩ Zx14
 ·refine Zr4 ?_
  exact Zv (v':=.tup []) (Hl:=bH [coO (knowS c ⟨13,th,tx,at_,ev,ex,why⟩) t v s]) (c15 [15]) ⟨rfl,rfl⟩ Zx14
end Go.Proofs.YtgdmlkgjpcnelaaGreatDoor
