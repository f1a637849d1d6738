import Derived.Test.YtgdmlkgjpcnelaaGreatDoorTbY
namespace Go.Proofs.YtgdmlkgjpcnelaaGreatDoor
open Go Go.Vc
set_option linter.unusedVariables false
set_option maxRecDepth 100000
set_option maxHeartbeats 1000000
noncomputable abbrev rcO (b:Nat):Ob:=.row [.c (.ptr b 0 0 0)] 150 0
noncomputable abbrev plO (n:Nat):Ob:=.row [.c (.int .i64 (n:Int))] 3 0
noncomputable abbrev lrX (co rc pl:Nat)(k th tx at_ ev ex why:Int):Ob:=.row [.c (.ptr co 0 0 0),.c (.int .u8 k),.c (.int .i64 th),.c (.int .i64 tx),.c (.int .i64 at_),.c (.int .i64 ev),.c (.int .i64 ex),.c (.int .u8 why),.c (.fn 220 [] [.ptr rc 0 0 0,.ptr pl 0 0 0]),.c (.fn 221 [] [.ptr rc 0 0 0]),.c (.fn 223 [] [.ptr rc 0 0 0,.ptr pl 0 0 0])] 248 0
theorem vrnum_at (l:List UInt8)(r:Rs)(pl:Nat)(n most:Int)(hm:0<=most/\most<=1099511627776)(hl:l.length<=10000000)(hp:r.p<=l.length):CallG Tryz.prog 220 [.int .i64 n,.int .i64 most,.ptr 4 0 0 0,.ptr 5 0 0 0] (z4++[rcO 6,plO pl,rdO l r]) fun v H=>v=.int .i64 (numF l most r).1/\H=z4++[rcO 6,plO r.p,rdO l (numF l most r).2]:=by
 have hc:=vrNum_at l r most hl hp
 have hb:=numF_bd (l:=l) (r:=r) hm.1
 generalize numF l most r=q at hb hc ⊢
 refine Ze Tryz.func220 rfl fun g w=>?_
 refine Zc [0,1,2,3,6] [none,none,none,none,none] [] (vrAt_at l r) Zx3 Zx5 ?_
 refine Zr0 ?_
 refine Zc [0,1,2,3,6] [none,none,none,none,some (rdO l q.2)] [] (hc) Zx3 Zx5 ?_
 refine Zr0 ?_
 exact Zv (v':=.int .i64 q.1) (Hl:=z4++[rcO 6,plO r.p,rdO l q.2]) (c4 [4,5,6]) ⟨rfl,rfl⟩ Zx6
theorem vrint_at (l:List UInt8)(r:Rs)(n:Int)(hl:l.length<=10000000)(hp:r.p<=l.length):CallG Tryz.prog 221 [.int .i64 n,.ptr 4 0 0 0] (z4++[rcO 5,rdO l r]) fun v H=>v=.int .i64 (intF l r).1/\H=z4++[rcO 5,rdO l (intF l r).2]:=by
 have hc:=vrInt_at l r hl hp
 generalize intF l r=q at hc ⊢
 refine Ze Tryz.func221 rfl fun g w=>?_
 refine Zc [0,1,2,3,5] [none,none,none,none,some (rdO l q.2)] [] (hc) Zx3 Zx5 ?_
 exact Zv (v':=.int .i64 q.1) (Hl:=z4++[rcO 5,rdO l q.2]) (c4 [4,5]) ⟨rfl,rfl⟩ Zx7
theorem vrbad_at (l:List UInt8)(r:Rs)(pl:Nat):CallG Tryz.prog 223 [.ptr 4 0 0 0,.ptr 5 0 0 0] (z4++[rcO 6,plO pl,rdO l r]) fun v H=>v=.tup []/\H=z4++[rcO 6,plO pl,rdO l (failF pl 20 r)]:=by
 have hc:=vfail_at l r pl 20 (by decide)
 generalize failF pl 20 r=q at hc ⊢
 generalize failV pl 20 r=x at hc
 refine Ze Tryz.func223 rfl fun g w=>?_
 refine Zc [0,1,2,3,6] [none,none,none,none,some (rdO l q)] [] (hc) Zx3 Zx5 ?_
 exact Zv (v':=.tup []) (Hl:=z4++[rcO 6,plO pl,rdO l q]) (c4 [4,5,6]) ⟨rfl,rfl⟩ Zx6
noncomputable abbrev rM (c:Co)(t v s:Int)(l:List UInt8)(k th tx at_ ev ex why:Int)(pl:Nat)(r:Rs):Hv:=z4++[coO c t v s,lrX 4 6 7 k th tx at_ ev ex why,rcO 8,plO pl,rdO l r]
theorem vrat_at (c:Co)(t v s:Int)(l:List UInt8)(k th tx at_ ev ex why:Int)(pl:Nat)(r:Rs)(hl:l.length<=10000000)(hp:r.p<=l.length)(m:Int)(hm:1<=m/\m<=32):CallG Tryz.prog 274 [.ptr 5 0 0 0,.int .i64 m] (rM c t v s l k th tx at_ ev ex why pl r) fun x H=>x=.tup []/\H=rM c t v s l k th tx (numF l (m-1) r).1 ev ex why r.p (numF l (m-1) r).2:=by
 have b1:=numF_bd (l:=l) (r:=r) (show 0<=m-1 by omega)
 have p1:=numF_p (most:=m-1) hp
 have c1:=vrnum_at l (r) pl (at_) (m-1) ⟨by omega,by omega⟩ hl hp
 generalize numF l (m-1) (r)=q1 at b1 p1 c1 ⊢
 refine Ze Tryz.func274 rfl fun g w=>?_
 refine Zw Zl17 ?_
 refine Zr0 ?_
 refine Zd [0,1,2,3,6,7,8] [none,none,none,none,none,some (plO r.p),some (rdO l q1.2)] [] (c1) Zx6 Zx9 ?_
 exact Zv (v':=.tup []) (Hl:=rM c t v s l k th tx q1.1 ev ex why r.p q1.2) (c4 [4,5,6,7,8]) ⟨rfl,rfl⟩ Zx8
theorem vrstripe_at (c:Co)(t v s:Int)(l:List UInt8)(k th tx at_ ev ex why:Int)(pl:Nat)(r:Rs)(hl:l.length<=10000000)(hp:r.p<=l.length)(hs:1<=s/\s<=32):CallG Tryz.prog 211 [.ptr 5 0 0 0] (rM c t v s l k th tx at_ ev ex why pl r) fun x H=>x=.tup []/\H=rM c t v s l k th tx (numF l (s-1) r).1 ev ex why r.p (numF l (s-1) r).2:=by
 have c1:=vrat_at c t v s l k th tx at_ ev ex why pl r hl hp s hs
 have b1:=numF_bd (l:=l) (r:=r) (show 0<=s-1 by omega)
 have p1:=numF_p (most:=s-1) hp
 generalize numF l (s-1) r=q1 at b1 p1 c1 ⊢
 refine Ze Tryz.func211 rfl fun g w=>?_
 refine Zc [0,1,2,3,4,5,6,7,8] [none,none,none,none,none,some (lrX 4 6 7 k th tx q1.1 ev ex why),none,some (plO r.p),some (rdO l q1.2)] [] (c1) Zx8 Zx15 ?_
 exact Zv (v':=.tup []) (Hl:=rM c t v s l k th tx q1.1 ev ex why r.p q1.2) (c4 [4,5,6,7,8]) ⟨rfl,rfl⟩ Zx8
theorem vrbegin_at (c:Co)(t v s:Int)(l:List UInt8)(k th tx at_ ev ex why:Int)(pl:Nat)(r:Rs)(hl:l.length<=10000000)(hp:r.p<=l.length)(hc:0<=c.clock/\c.clock<=1099511627776)(hv:ev=0):CallG Tryz.prog 208 [.ptr 5 0 0 0] (rM c t v s l k th tx at_ ev ex why pl r) fun x H=>x=.tup []/\H=rM c t v s l k th (numF l (5) r).1 at_ (c.clock+(numF l (1099511627776-c.clock) (numF l (5) r).2).1) ex why (numF l (5) r).2.p (numF l (1099511627776-c.clock) (numF l (5) r).2).2:=by
 subst hv
 have b1:=numF_bd (l:=l) (r:=r) (show 0<=5 by omega)
 have p1:=numF_p (most:=5) hp
 have c1:=vrnum_at l (r) pl (tx) (5) ⟨by omega,by omega⟩ hl hp
 generalize numF l (5) (r)=q1 at b1 p1 c1 ⊢
 have b2:=numF_bd (l:=l) (r:=q1.2) (show 0<=1099511627776-c.clock by omega)
 have p2:=numF_p (most:=1099511627776-c.clock) p1.2
 have c2:=vrnum_at l (q1.2) r.p (0-c.clock) (1099511627776-c.clock) ⟨by omega,by omega⟩ hl p1.2
 generalize numF l (1099511627776-c.clock) (q1.2)=q2 at b2 p2 c2 ⊢
 refine Ze Tryz.func208 rfl fun g w=>?_
 refine Zw Zl18 ?_
 refine Zd [0,1,2,3,6,7,8] [none,none,none,none,none,some (plO r.p),some (rdO l q1.2)] [] (c1) Zx6 Zx9 ?_
 refine Zw Zl19 ?_
 refine Zr0 ?_
 refine Zd [0,1,2,3,6,7,8] [none,none,none,none,none,some (plO q1.2.p),some (rdO l q2.2)] [] (c2) Zx6 Zx9 ?_
 refine Zr12 ?_
 exact Zv (v':=.tup []) (Hl:=rM c t v s l k th q1.1 at_ (c.clock+q2.1) ex why q1.2.p q2.2) (c4 [4,5,6,7,8]) ⟨rfl,rfl⟩ Zx8
theorem vrlook_at (c:Co)(t v s:Int)(l:List UInt8)(k th tx at_ ev ex why:Int)(pl:Nat)(r:Rs)(hl:l.length<=10000000)(hp:r.p<=l.length)(hs:1<=s/\s<=32)(hc:0<=c.begun th.toNat/\c.begun th.toNat<=1099511627776)(ht:0<=th/\th<6)(hv:ev=0):CallG Tryz.prog 209 [.ptr 5 0 0 0] (rM c t v s l k th tx at_ ev ex why pl r) fun x H=>x=.tup []/\H=rM c t v s l k th tx (numF l (s-1) r).1 (c.begun th.toNat-(numF l (c.begun th.toNat) (numF l (s-1) r).2).1) ex why (numF l (s-1) r).2.p (numF l (c.begun th.toNat) (numF l (s-1) r).2).2:=by
 subst hv
 have c1:=vrat_at c t v s l k th tx at_ 0 ex why pl r hl hp s hs
 have b1:=numF_bd (l:=l) (r:=r) (show 0<=s-1 by omega)
 have p1:=numF_p (most:=s-1) hp
 generalize numF l (s-1) r=q1 at b1 p1 c1 ⊢
 have b2:=numF_bd (l:=l) (r:=q1.2) (show 0<=c.begun th.toNat by omega)
 have p2:=numF_p (most:=c.begun th.toNat) p1.2
 have c2:=vrnum_at l (q1.2) r.p (c.begun th.toNat-0) (c.begun th.toNat) ⟨by omega,by omega⟩ hl p1.2
 generalize numF l (c.begun th.toNat) (q1.2)=q2 at b2 p2 c2 ⊢
 have hti:th.toNat<6:=by omega
 refine Ze Tryz.func209 rfl fun g w=>?_
 refine Zc [0,1,2,3,4,5,6,7,8] [none,none,none,none,none,some (lrX 4 6 7 k th tx q1.1 0 ex why),none,some (plO r.p),some (rdO l q1.2)] [] (c1) Zx8 Zx15 ?_
 refine Zw Zl9 ?_
 refine Zr10 ?_
 refine Zw Zl20 ?_
 refine Zr0 ?_
 refine Zd [0,1,2,3,6,7,8] [none,none,none,none,none,some (plO q1.2.p),some (rdO l q2.2)] [] (c2) Zx6 Zx9 ?_
 refine Zr0 ?_
 exact Zv (v':=.tup []) (Hl:=rM c t v s l k th tx q1.1 (c.begun th.toNat-q2.1) ex why q1.2.p q2.2) (c4 [4,5,6,7,8]) ⟨rfl,rfl⟩ Zx8
theorem vrvalue_at (c:Co)(t v s:Int)(l:List UInt8)(k th tx at_ ev ex why:Int)(pl:Nat)(r:Rs)(hl:l.length<=10000000)(hp:r.p<=l.length)(hs:1<=v/\v<=32):CallG Tryz.prog 210 [.ptr 5 0 0 0] (rM c t v s l k th tx at_ ev ex why pl r) fun x H=>x=.tup []/\H=rM c t v s l k th tx (numF l (v-1) r).1 ev (IntKind.i64.wrap (c.x (numF l (v-1) r).1.toNat+(intF l (numF l (v-1) r).2).1)) why r.p (intF l (numF l (v-1) r).2).2:=by
 have c1:=vrat_at c t v s l k th tx at_ ev ex why pl r hl hp v hs
 have b1:=numF_bd (l:=l) (r:=r) (show 0<=v-1 by omega)
 have p1:=numF_p (most:=v-1) hp
 generalize numF l (v-1) r=q1 at b1 p1 c1 ⊢
 have h32:0<=q1.1/\q1.1<32:=⟨by omega,by omega⟩
 have h32n:q1.1.toNat<32:=by omega
 have c2:=vrint_at l q1.2 (IntKind.i64.wrap (ex-c.x q1.1.toNat)) hl p1.2
 generalize intF l q1.2=q2 at c2 ⊢
 refine CallG.enter (X:=cxw) cxw_ok (fun _=>[]) Tryz.func210 rfl (by kernel_rfl) rfl rfl fun g w=>?_
 refine Zc [0,1,2,3,4,5,6,7,8] [none,none,none,none,none,some (lrX 4 6 7 k th tx q1.1 ev ex why),none,some (plO r.p),some (rdO l q1.2)] [] (c1) Zx8 Zx15 ?_
 refine DrawG.by cxw_ok [(0,0),(1,0),(2,0),(3,0),(4,0),(5,0),(6,0),(7,0),(8,0),(9,0),(10,0),(11,0),(12,0),(13,0)] (by kernel_rfl) (by kernel_rfl) rfl ?_
 refine Zr10 ?_
 refine DrawG.by cxw_ok [(2,0),(3,0),(4,0),(5,0),(6,0),(7,0),(8,0),(9,0),(10,0),(11,0),(12,0),(13,0),(0,1),(1,1),(14,0),(15,0),(16,0),(17,0),(18,0)] (by kernel_rfl) (by kernel_rfl) rfl ?_
 refine Zd [0,1,2,3,6,8] [none,none,none,none,none,some (rdO l q2.2)] [] (c2) Zx7 Zx10 ?_
 exact Zv (v':=.tup []) (Hl:=rM c t v s l k th tx q1.1 ev (IntKind.i64.wrap (c.x q1.1.toNat+q2.1)) why r.p q2.2) (c4 [4,5,6,7,8]) ⟨rfl,rfl⟩ Zx8
theorem vrbump_at (c:Co)(t v s:Int)(l:List UInt8)(k th tx at_ ev ex why:Int)(pl:Nat)(r:Rs)(hl:l.length<=10000000)(hp:r.p<=l.length)(hc:0<=c.clock/\c.clock<=1099511627776)(hv:ev=0):CallG Tryz.prog 212 [.ptr 5 0 0 0] (rM c t v s l k th tx at_ ev ex why pl r) fun x H=>x=.tup []/\H=rM c t v s l k th tx at_ (c.clock+(numF l (1099511627776-c.clock) r).1) ex why r.p (if(numF l (1099511627776-c.clock) r).1=0 then failF r.p 20 (numF l (1099511627776-c.clock) r).2 else(numF l (1099511627776-c.clock) r).2):=by
 subst hv
 have b1:=numF_bd (l:=l) (r:=r) (show 0<=1099511627776-c.clock by omega)
 have p1:=numF_p (most:=1099511627776-c.clock) hp
 have c1:=vrnum_at l (r) pl (0-c.clock) (1099511627776-c.clock) ⟨by omega,by omega⟩ hl hp
 generalize numF l (1099511627776-c.clock) (r)=q1 at b1 p1 c1 ⊢
 refine Ze Tryz.func212 rfl fun g w=>?_
 refine Zw Zl12 ?_
 refine Zr0 ?_
 refine Zd [0,1,2,3,6,7,8] [none,none,none,none,none,some (plO r.p),some (rdO l q1.2)] [] (c1) Zx6 Zx9 ?_
 refine Zr7 ?_
 refine Br.o (fun h1=>?_) (fun h1=>?_)
 ·have e1:q1.1=0:=of_decide_eq_true h1
  rw[if_pos e1]
  refine Zc [0,1,2,3,6,7,8] [none,none,none,none,none,none,some (rdO l (failF r.p 20 q1.2))] [] (vrbad_at l q1.2 r.p) Zx6 Zx9 ?_
  refine Zr0 ?_
  exact Zv (v':=.tup []) (Hl:=rM c t v s l k th tx at_ (c.clock+q1.1) ex why r.p (failF r.p 20 q1.2)) (c4 [4,5,6,7,8]) ⟨rfl,rfl⟩ Zx8
 ·have e1:¬q1.1=0:=of_decide_eq_false h1
  rw[if_neg e1]
  refine Zr0 ?_
  exact Zv (v':=.tup []) (Hl:=rM c t v s l k th tx at_ (c.clock+q1.1) ex why r.p q1.2) (c4 [4,5,6,7,8]) ⟨rfl,rfl⟩ Zx8
theorem vrcommit_at (c:Co)(t v s:Int)(l:List UInt8)(k th tx at_ ev ex why:Int)(pl:Nat)(r:Rs)(hl:l.length<=10000000)(hp:r.p<=l.length)(ht:0<=th/\th<6)(hv:ev=0):CallG Tryz.prog 213 [.ptr 5 0 0 0] (rM c t v s l k th tx at_ ev ex why pl r) fun x H=>x=.tup []/\H=rM c t v s l k th tx at_ (if(numF l 1 r).1=0 then 0 else c.bumped th.toNat) ex why r.p (if(numF l 1 r).1=0 then(numF l 1 r).2 else if c.bumped th.toNat=0 then failF r.p 20 (numF l 1 r).2 else(numF l 1 r).2):=by
 subst hv
 have b1:=numF_bd (l:=l) (r:=r) (show 0<=1 by omega)
 have p1:=numF_p (most:=1) hp
 have c1:=vrnum_at l (r) pl (min 0 1) (1) ⟨by omega,by omega⟩ hl hp
 generalize numF l (1) (r)=q1 at b1 p1 c1 ⊢
 have hti:th.toNat<6:=by omega
 refine Ze Tryz.func213 rfl fun g w=>?_
 refine Zc [0,1,2,3,6,7,8] [none,none,none,none,none,some (plO r.p),some (rdO l q1.2)] [] (c1) Zx6 Zx9 ?_
 refine Br.o (fun h1=>?_) (fun h1=>?_)
 ·have e1:q1.1=0:=of_decide_eq_true h1
  rw[if_pos e1,if_pos e1]
  exact Zv (v':=.tup []) (Hl:=rM c t v s l k th tx at_ 0 ex why r.p q1.2) (c4 [4,5,6,7,8]) ⟨rfl,rfl⟩ Zx8
 have e1:¬q1.1=0:=of_decide_eq_false h1
 rw[if_neg e1,if_neg e1]
 refine Zw Zl8 ?_
 refine Zr10 ?_
 refine Br.o (fun h2=>?_) (fun h2=>?_)
 ·have e2:c.bumped th.toNat=0:=of_decide_eq_true h2
  rw[if_pos e2]
  refine Zc [0,1,2,3,6,7,8] [none,none,none,none,none,none,some (rdO l (failF r.p 20 q1.2))] [] (vrbad_at l q1.2 r.p) Zx6 Zx9 ?_
  exact Zv (v':=.tup []) (Hl:=rM c t v s l k th tx at_ (c.bumped th.toNat) ex why r.p (failF r.p 20 q1.2)) (c4 [4,5,6,7,8]) ⟨rfl,rfl⟩ Zx8
 ·have e2:¬c.bumped th.toNat=0:=of_decide_eq_false h2
  rw[if_neg e2]
  exact Zv (v':=.tup []) (Hl:=rM c t v s l k th tx at_ (c.bumped th.toNat) ex why r.p q1.2) (c4 [4,5,6,7,8]) ⟨rfl,rfl⟩ Zx8
theorem vrabort_at (c:Co)(t v s:Int)(l:List UInt8)(k th tx at_ ev ex why:Int)(pl:Nat)(r:Rs)(hl:l.length<=10000000)(hp:r.p<=l.length)(hs:1<=s/\s<=32)(hw:why=0):CallG Tryz.prog 214 [.ptr 5 0 0 0] (rM c t v s l k th tx at_ ev ex why pl r) fun x H=>x=.tup []/\H=if(numF l 5 r).1=5 then rM c t v s l k th tx at_ ev ex 6 r.p (numF l 5 r).2 else rM c t v s l k th tx (numF l (s-1) (numF l 5 r).2).1 ev ex ((numF l 5 r).1+1) (numF l 5 r).2.p (numF l (s-1) (numF l 5 r).2).2:=by
 subst hw
 have b1:=numF_bd (l:=l) (r:=r) (show 0<=5 by omega)
 have p1:=numF_p (most:=5) hp
 have c1:=vrnum_at l (r) pl (0-1) (5) ⟨by omega,by omega⟩ hl hp
 generalize numF l (5) (r)=q1 at b1 p1 c1 ⊢
 refine Ze Tryz.func214 rfl fun g w=>?_
 refine Zw Zl21 ?_
 refine Zr0 ?_
 refine Zd [0,1,2,3,6,7,8] [none,none,none,none,none,some (plO r.p),some (rdO l q1.2)] [] (c1) Zx6 Zx9 ?_
 refine Zr0 ?_
 refine Br.o (fun h1=>?_) (fun h1=>?_)
 ·have e1:¬q1.1=5:=by have h1:¬q1.1+1=6:=of_decide_eq_true h1;omega
  rw[if_neg e1]
  have c2:=vrstripe_at c t v s l k th tx at_ ev ex (q1.1+1) r.p q1.2 hl p1.2 hs
  generalize numF l (s-1) q1.2=q2 at c2 ⊢
  refine Zc [0,1,2,3,4,5,6,7,8] [none,none,none,none,none,some (lrX 4 6 7 k th tx q2.1 ev ex (q1.1+1)),none,some (plO q1.2.p),some (rdO l q2.2)] [] (c2) Zx8 Zx15 ?_
  exact Zv (v':=.tup []) (Hl:=rM c t v s l k th tx q2.1 ev ex (q1.1+1) q1.2.p q2.2) (c4 [4,5,6,7,8]) ⟨rfl,rfl⟩ Zx8
 ·have e1:q1.1+1=6:=Classical.not_not.1 (of_decide_eq_false h1)
  rw[if_pos (by omega)]
  conv=>whnf
  rw[e1]
  exact Zv (v':=.tup []) (Hl:=rM c t v s l k th tx at_ ev ex 6 r.p q1.2) (c4 [4,5,6,7,8]) ⟨rfl,rfl⟩ Zx8
theorem vrnone_at (c:Co)(t v s:Int)(l:List UInt8)(k th tx at_ ev ex why:Int)(pl:Nat)(r:Rs)(hl:l.length<=10000000)(hp:r.p<=l.length):CallG Tryz.prog 215 [.ptr 5 0 0 0] (rM c t v s l k th tx at_ ev ex why pl r) fun x H=>x=.tup []/\H=rM c t v s l k th tx at_ ev ex why pl r:=by
 refine Ze Tryz.func215 rfl fun g w=>?_
 exact Zv (v':=.tup []) (Hl:=rM c t v s l k th tx at_ ev ex why pl r) (c4 [4,5,6,7,8]) ⟨rfl,rfl⟩ Zx8
end Go.Proofs.YtgdmlkgjpcnelaaGreatDoor
