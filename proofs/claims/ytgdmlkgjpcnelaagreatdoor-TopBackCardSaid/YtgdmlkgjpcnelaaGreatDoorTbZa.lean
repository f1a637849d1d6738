import Derived.Test.YtgdmlkgjpcnelaaGreatDoorTbZ
namespace Go.Proofs.YtgdmlkgjpcnelaaGreatDoor
open Go Go.Vc
set_option linter.unusedVariables false
set_option maxRecDepth 100000
set_option maxHeartbeats 1000000
def placeK (l:List UInt8)(s:Int)(k:Int)(p0:Nat)(r:Rs):Nat:=match k with
 |1=>(numF l 5 r).2.p
 |2=>(numF l (s-1) r).2.p
 |10=>if(numF l 5 r).1=5 then r.p else(numF l 5 r).2.p
 |12=>p0
 |13=>p0
 |_=>r.p
noncomputable abbrev lrE (co rc pl:Nat)(e:Evt):Ob:=lrX co rc pl e.kind e.thread e.tx e.at_ e.v e.x e.why
noncomputable def rMe (c:Co)(t v s:Int)(l:List UInt8)(e:Evt)(pl:Nat)(r:Rs):Hv:=rM c t v s l e.kind e.thread e.tx e.at_ e.v e.x e.why pl r
theorem vrover1_at (c:Co)(t v s:Int)(l:List UInt8)(pl:Nat)(r:Rs)(hl:l.length<=10000000)(hp:r.p<=l.length)(hc:CoOk c t)(hn:CoNew t v s)(hk:kindF t (numF l (13*t-1) r).1=1):CallG Tryz.prog 150 [.ptr 5 0 0 0] (rM c t v s l 12 0 0 0 0 0 0 pl r) fun x H=>x=.tup []/\H=rMe c t v s l (readE l t v s c r).1 (placeK l s 1 r.p (numF l (13*t-1) r).2) (readE l t v s c r).2:=by
 obtain⟨n1,n2,n3,n4⟩:=hn
 have hs32:1<=s/\s<=32:=⟨n3,by omega⟩
 have hv32:=n2
 have hcl:=hc.clock
 have hla:=hc.last
 have t0:t≠0:=by omega
 have m0:0<=(0-c.last+t).tmod t/\(0-c.last+t).tmod t<t:=by rw[Int.tmod_eq_emod_of_nonneg (by omega)];exact⟨Int.emod_nonneg _ (by omega),Int.emod_lt_of_pos _ (by omega)⟩
 have f0:=numF_bd (l:=l) (r:=r) (show 0<=13*t-1 by omega)
 have p0:=numF_p (most:=13*t-1) hp
 have c0:=vrnum_at l r pl ((12-1)*t+(0-c.last+t).tmod t) (13*t-1) ⟨by omega,by omega⟩ hl hp
 have hR:readE l t v s c r=readK l v s c (kindF t (numF l (13*t-1) r).1) (thrF t c.last (numF l (13*t-1) r).1) (numF l (13*t-1) r).2:=rfl
 rw[hR,hk]
 generalize numF l (13*t-1) r=q0 at f0 p0 c0 hk ⊢
 obtain⟨bk,bt,_⟩:=first_back n1 f0 hc.last
 have hth6:0<=thrF t c.last q0.1/\thrF t c.last q0.1<6:=⟨bt.1,by omega⟩
 have hm:0<=q0.1.tmod t/\q0.1.tmod t<t:=by rw[Int.tmod_eq_emod_of_nonneg f0.1];exact⟨Int.emod_nonneg _ (by omega),Int.emod_lt_of_pos _ (by omega)⟩
 have hk':q0.1.tdiv t+1=1:=hk
 have ht':(q0.1.tmod t+c.last).tmod t=thrF t c.last q0.1:=rfl
 clear hR bk bt hk
 generalize thrF t c.last q0.1=TH at hth6 ht' ⊢
 have hbg:=hc.begun TH.toNat
 rw[show rMe c t v s l (readK l v s c 1 TH q0.2).1 (placeK l s 1 r.p q0.2) (readK l v s c 1 TH q0.2).2=rM c t v s l 1 TH (numF l (5) q0.2).1 0 (c.clock+(numF l (1099511627776-c.clock) (numF l (5) q0.2).2).1) 0 0 (numF l (5) q0.2).2.p (numF l (1099511627776-c.clock) (numF l (5) q0.2).2).2 from rfl]
 have c1:=vrbegin_at c t v s l 1 TH 0 0 0 0 0 r.p q0.2 hl p0.2 hcl rfl
 generalize (numF l (5) q0.2)=q1 at c1 ⊢
 generalize numF l (1099511627776-c.clock) q1.2=q2 at c1 ⊢
 refine Ze Tryz.func150 rfl fun g w=>?_
 refine Zw Zl1 ?_
 refine Zr0 ?_
 refine Zw Zl0 ?_
 refine Zr0 ?_
 refine Zd [0,1,2,3,6,7,8] [none,none,none,none,none,some (plO r.p),some (rdO l q0.2)] [] (c0) Zx6 Zx9 ?_
 refine Zw Zl2 ?_
 refine Zr0 ?_
 conv=>whnf
 rw[hk',ht']
 refine Zr5 ?_
 refine Zc [0,1,2,3,4,5,6,7,8] [none,none,none,none,none,some (lrX 4 6 7 1 TH q1.1 0 (c.clock+q2.1) 0 0),none,some (plO q1.2.p),some (rdO l q2.2)] [] (c1) Zx8 Zx15 ?_
 exact Zv (v':=.tup []) (Hl:=rM c t v s l 1 TH q1.1 0 (c.clock+q2.1) 0 0 q1.2.p q2.2) (c4 [4,5,6,7,8]) ⟨rfl,rfl⟩ Zx8
theorem vrover2_at (c:Co)(t v s:Int)(l:List UInt8)(pl:Nat)(r:Rs)(hl:l.length<=10000000)(hp:r.p<=l.length)(hc:CoOk c t)(hn:CoNew t v s)(hk:kindF t (numF l (13*t-1) r).1=2):CallG Tryz.prog 150 [.ptr 5 0 0 0] (rM c t v s l 12 0 0 0 0 0 0 pl r) fun x H=>x=.tup []/\H=rMe c t v s l (readE l t v s c r).1 (placeK l s 2 r.p (numF l (13*t-1) r).2) (readE l t v s c r).2:=by
 obtain⟨n1,n2,n3,n4⟩:=hn
 have hs32:1<=s/\s<=32:=⟨n3,by omega⟩
 have hv32:=n2
 have hcl:=hc.clock
 have hla:=hc.last
 have t0:t≠0:=by omega
 have m0:0<=(0-c.last+t).tmod t/\(0-c.last+t).tmod t<t:=by rw[Int.tmod_eq_emod_of_nonneg (by omega)];exact⟨Int.emod_nonneg _ (by omega),Int.emod_lt_of_pos _ (by omega)⟩
 have f0:=numF_bd (l:=l) (r:=r) (show 0<=13*t-1 by omega)
 have p0:=numF_p (most:=13*t-1) hp
 have c0:=vrnum_at l r pl ((12-1)*t+(0-c.last+t).tmod t) (13*t-1) ⟨by omega,by omega⟩ hl hp
 have hR:readE l t v s c r=readK l v s c (kindF t (numF l (13*t-1) r).1) (thrF t c.last (numF l (13*t-1) r).1) (numF l (13*t-1) r).2:=rfl
 rw[hR,hk]
 generalize numF l (13*t-1) r=q0 at f0 p0 c0 hk ⊢
 obtain⟨bk,bt,_⟩:=first_back n1 f0 hc.last
 have hth6:0<=thrF t c.last q0.1/\thrF t c.last q0.1<6:=⟨bt.1,by omega⟩
 have hm:0<=q0.1.tmod t/\q0.1.tmod t<t:=by rw[Int.tmod_eq_emod_of_nonneg f0.1];exact⟨Int.emod_nonneg _ (by omega),Int.emod_lt_of_pos _ (by omega)⟩
 have hk':q0.1.tdiv t+1=2:=hk
 have ht':(q0.1.tmod t+c.last).tmod t=thrF t c.last q0.1:=rfl
 clear hR bk bt hk
 generalize thrF t c.last q0.1=TH at hth6 ht' ⊢
 have hbg:=hc.begun TH.toNat
 rw[show rMe c t v s l (readK l v s c 2 TH q0.2).1 (placeK l s 2 r.p q0.2) (readK l v s c 2 TH q0.2).2=rM c t v s l 2 TH 0 (numF l (s-1) q0.2).1 (c.begun TH.toNat-(numF l (c.begun TH.toNat) (numF l (s-1) q0.2).2).1) 0 0 (numF l (s-1) q0.2).2.p (numF l (c.begun TH.toNat) (numF l (s-1) q0.2).2).2 from rfl]
 have c1:=vrlook_at c t v s l 2 TH 0 0 0 0 0 r.p q0.2 hl p0.2 hs32 hbg hth6 rfl
 generalize (numF l (s-1) q0.2)=q1 at c1 ⊢
 generalize numF l (c.begun TH.toNat) q1.2=q2 at c1 ⊢
 refine Ze Tryz.func150 rfl fun g w=>?_
 refine Zw Zl1 ?_
 refine Zr0 ?_
 refine Zw Zl0 ?_
 refine Zr0 ?_
 refine Zd [0,1,2,3,6,7,8] [none,none,none,none,none,some (plO r.p),some (rdO l q0.2)] [] (c0) Zx6 Zx9 ?_
 refine Zw Zl2 ?_
 refine Zr0 ?_
 conv=>whnf
 rw[hk',ht']
 refine Zr5 ?_
 refine Zc [0,1,2,3,4,5,6,7,8] [none,none,none,none,none,some (lrX 4 6 7 2 TH 0 q1.1 (c.begun TH.toNat-q2.1) 0 0),none,some (plO q1.2.p),some (rdO l q2.2)] [] (c1) Zx8 Zx15 ?_
 exact Zv (v':=.tup []) (Hl:=rM c t v s l 2 TH 0 q1.1 (c.begun TH.toNat-q2.1) 0 0 q1.2.p q2.2) (c4 [4,5,6,7,8]) ⟨rfl,rfl⟩ Zx8
theorem vrover3_at (c:Co)(t v s:Int)(l:List UInt8)(pl:Nat)(r:Rs)(hl:l.length<=10000000)(hp:r.p<=l.length)(hc:CoOk c t)(hn:CoNew t v s)(hk:kindF t (numF l (13*t-1) r).1=3):CallG Tryz.prog 150 [.ptr 5 0 0 0] (rM c t v s l 12 0 0 0 0 0 0 pl r) fun x H=>x=.tup []/\H=rMe c t v s l (readE l t v s c r).1 (placeK l s 3 r.p (numF l (13*t-1) r).2) (readE l t v s c r).2:=by
 obtain⟨n1,n2,n3,n4⟩:=hn
 have hs32:1<=s/\s<=32:=⟨n3,by omega⟩
 have hv32:=n2
 have hcl:=hc.clock
 have hla:=hc.last
 have t0:t≠0:=by omega
 have m0:0<=(0-c.last+t).tmod t/\(0-c.last+t).tmod t<t:=by rw[Int.tmod_eq_emod_of_nonneg (by omega)];exact⟨Int.emod_nonneg _ (by omega),Int.emod_lt_of_pos _ (by omega)⟩
 have f0:=numF_bd (l:=l) (r:=r) (show 0<=13*t-1 by omega)
 have p0:=numF_p (most:=13*t-1) hp
 have c0:=vrnum_at l r pl ((12-1)*t+(0-c.last+t).tmod t) (13*t-1) ⟨by omega,by omega⟩ hl hp
 have hR:readE l t v s c r=readK l v s c (kindF t (numF l (13*t-1) r).1) (thrF t c.last (numF l (13*t-1) r).1) (numF l (13*t-1) r).2:=rfl
 rw[hR,hk]
 generalize numF l (13*t-1) r=q0 at f0 p0 c0 hk ⊢
 obtain⟨bk,bt,_⟩:=first_back n1 f0 hc.last
 have hth6:0<=thrF t c.last q0.1/\thrF t c.last q0.1<6:=⟨bt.1,by omega⟩
 have hm:0<=q0.1.tmod t/\q0.1.tmod t<t:=by rw[Int.tmod_eq_emod_of_nonneg f0.1];exact⟨Int.emod_nonneg _ (by omega),Int.emod_lt_of_pos _ (by omega)⟩
 have hk':q0.1.tdiv t+1=3:=hk
 have ht':(q0.1.tmod t+c.last).tmod t=thrF t c.last q0.1:=rfl
 clear hR bk bt hk
 generalize thrF t c.last q0.1=TH at hth6 ht' ⊢
 have hbg:=hc.begun TH.toNat
 rw[show rMe c t v s l (readK l v s c 3 TH q0.2).1 (placeK l s 3 r.p q0.2) (readK l v s c 3 TH q0.2).2=rM c t v s l 3 TH 0 (numF l (v-1) q0.2).1 0 (IntKind.i64.wrap (c.x (numF l (v-1) q0.2).1.toNat+(intF l (numF l (v-1) q0.2).2).1)) 0 q0.2.p (intF l (numF l (v-1) q0.2).2).2 from rfl]
 have c1:=vrvalue_at c t v s l 3 TH 0 0 0 0 0 r.p q0.2 hl p0.2 hv32
 generalize (numF l (v-1) q0.2)=q1 at c1 ⊢
 generalize intF l q1.2=q2 at c1 ⊢
 refine Ze Tryz.func150 rfl fun g w=>?_
 refine Zw Zl1 ?_
 refine Zr0 ?_
 refine Zw Zl0 ?_
 refine Zr0 ?_
 refine Zd [0,1,2,3,6,7,8] [none,none,none,none,none,some (plO r.p),some (rdO l q0.2)] [] (c0) Zx6 Zx9 ?_
 refine Zw Zl2 ?_
 refine Zr0 ?_
 conv=>whnf
 rw[hk',ht']
 refine Zr5 ?_
 refine Zc [0,1,2,3,4,5,6,7,8] [none,none,none,none,none,some (lrX 4 6 7 3 TH 0 q1.1 0 (IntKind.i64.wrap (c.x q1.1.toNat+q2.1)) 0),none,some (plO q0.2.p),some (rdO l q2.2)] [] (c1) Zx8 Zx15 ?_
 exact Zv (v':=.tup []) (Hl:=rM c t v s l 3 TH 0 q1.1 0 (IntKind.i64.wrap (c.x q1.1.toNat+q2.1)) 0 q0.2.p q2.2) (c4 [4,5,6,7,8]) ⟨rfl,rfl⟩ Zx8
theorem vrover4_at (c:Co)(t v s:Int)(l:List UInt8)(pl:Nat)(r:Rs)(hl:l.length<=10000000)(hp:r.p<=l.length)(hc:CoOk c t)(hn:CoNew t v s)(hk:kindF t (numF l (13*t-1) r).1=4):CallG Tryz.prog 150 [.ptr 5 0 0 0] (rM c t v s l 12 0 0 0 0 0 0 pl r) fun x H=>x=.tup []/\H=rMe c t v s l (readE l t v s c r).1 (placeK l s 4 r.p (numF l (13*t-1) r).2) (readE l t v s c r).2:=by
 obtain⟨n1,n2,n3,n4⟩:=hn
 have hs32:1<=s/\s<=32:=⟨n3,by omega⟩
 have hv32:=n2
 have hcl:=hc.clock
 have hla:=hc.last
 have t0:t≠0:=by omega
 have m0:0<=(0-c.last+t).tmod t/\(0-c.last+t).tmod t<t:=by rw[Int.tmod_eq_emod_of_nonneg (by omega)];exact⟨Int.emod_nonneg _ (by omega),Int.emod_lt_of_pos _ (by omega)⟩
 have f0:=numF_bd (l:=l) (r:=r) (show 0<=13*t-1 by omega)
 have p0:=numF_p (most:=13*t-1) hp
 have c0:=vrnum_at l r pl ((12-1)*t+(0-c.last+t).tmod t) (13*t-1) ⟨by omega,by omega⟩ hl hp
 have hR:readE l t v s c r=readK l v s c (kindF t (numF l (13*t-1) r).1) (thrF t c.last (numF l (13*t-1) r).1) (numF l (13*t-1) r).2:=rfl
 rw[hR,hk]
 generalize numF l (13*t-1) r=q0 at f0 p0 c0 hk ⊢
 obtain⟨bk,bt,_⟩:=first_back n1 f0 hc.last
 have hth6:0<=thrF t c.last q0.1/\thrF t c.last q0.1<6:=⟨bt.1,by omega⟩
 have hm:0<=q0.1.tmod t/\q0.1.tmod t<t:=by rw[Int.tmod_eq_emod_of_nonneg f0.1];exact⟨Int.emod_nonneg _ (by omega),Int.emod_lt_of_pos _ (by omega)⟩
 have hk':q0.1.tdiv t+1=4:=hk
 have ht':(q0.1.tmod t+c.last).tmod t=thrF t c.last q0.1:=rfl
 clear hR bk bt hk
 generalize thrF t c.last q0.1=TH at hth6 ht' ⊢
 have hbg:=hc.begun TH.toNat
 rw[show rMe c t v s l (readK l v s c 4 TH q0.2).1 (placeK l s 4 r.p q0.2) (readK l v s c 4 TH q0.2).2=rM c t v s l 4 TH 0 (numF l (s-1) q0.2).1 0 0 0 q0.2.p (numF l (s-1) q0.2).2 from rfl]
 have c1:=vrstripe_at c t v s l 4 TH 0 0 0 0 0 r.p q0.2 hl p0.2 hs32
 generalize (numF l (s-1) q0.2)=q1 at c1 ⊢
 refine Ze Tryz.func150 rfl fun g w=>?_
 refine Zw Zl1 ?_
 refine Zr0 ?_
 refine Zw Zl0 ?_
 refine Zr0 ?_
 refine Zd [0,1,2,3,6,7,8] [none,none,none,none,none,some (plO r.p),some (rdO l q0.2)] [] (c0) Zx6 Zx9 ?_
 refine Zw Zl2 ?_
 refine Zr0 ?_
 conv=>whnf
 rw[hk',ht']
 refine Zr5 ?_
 refine Zc [0,1,2,3,4,5,6,7,8] [none,none,none,none,none,some (lrX 4 6 7 4 TH 0 q1.1 0 0 0),none,some (plO q0.2.p),some (rdO l q1.2)] [] (c1) Zx8 Zx15 ?_
 exact Zv (v':=.tup []) (Hl:=rM c t v s l 4 TH 0 q1.1 0 0 0 q0.2.p q1.2) (c4 [4,5,6,7,8]) ⟨rfl,rfl⟩ Zx8
theorem vrover5_at (c:Co)(t v s:Int)(l:List UInt8)(pl:Nat)(r:Rs)(hl:l.length<=10000000)(hp:r.p<=l.length)(hc:CoOk c t)(hn:CoNew t v s)(hk:kindF t (numF l (13*t-1) r).1=5):CallG Tryz.prog 150 [.ptr 5 0 0 0] (rM c t v s l 12 0 0 0 0 0 0 pl r) fun x H=>x=.tup []/\H=rMe c t v s l (readE l t v s c r).1 (placeK l s 5 r.p (numF l (13*t-1) r).2) (readE l t v s c r).2:=by
 obtain⟨n1,n2,n3,n4⟩:=hn
 have hs32:1<=s/\s<=32:=⟨n3,by omega⟩
 have hv32:=n2
 have hcl:=hc.clock
 have hla:=hc.last
 have t0:t≠0:=by omega
 have m0:0<=(0-c.last+t).tmod t/\(0-c.last+t).tmod t<t:=by rw[Int.tmod_eq_emod_of_nonneg (by omega)];exact⟨Int.emod_nonneg _ (by omega),Int.emod_lt_of_pos _ (by omega)⟩
 have f0:=numF_bd (l:=l) (r:=r) (show 0<=13*t-1 by omega)
 have p0:=numF_p (most:=13*t-1) hp
 have c0:=vrnum_at l r pl ((12-1)*t+(0-c.last+t).tmod t) (13*t-1) ⟨by omega,by omega⟩ hl hp
 have hR:readE l t v s c r=readK l v s c (kindF t (numF l (13*t-1) r).1) (thrF t c.last (numF l (13*t-1) r).1) (numF l (13*t-1) r).2:=rfl
 rw[hR,hk]
 generalize numF l (13*t-1) r=q0 at f0 p0 c0 hk ⊢
 obtain⟨bk,bt,_⟩:=first_back n1 f0 hc.last
 have hth6:0<=thrF t c.last q0.1/\thrF t c.last q0.1<6:=⟨bt.1,by omega⟩
 have hm:0<=q0.1.tmod t/\q0.1.tmod t<t:=by rw[Int.tmod_eq_emod_of_nonneg f0.1];exact⟨Int.emod_nonneg _ (by omega),Int.emod_lt_of_pos _ (by omega)⟩
 have hk':q0.1.tdiv t+1=5:=hk
 have ht':(q0.1.tmod t+c.last).tmod t=thrF t c.last q0.1:=rfl
 clear hR bk bt hk
 generalize thrF t c.last q0.1=TH at hth6 ht' ⊢
 have hbg:=hc.begun TH.toNat
 rw[show rMe c t v s l (readK l v s c 5 TH q0.2).1 (placeK l s 5 r.p q0.2) (readK l v s c 5 TH q0.2).2=rM c t v s l 5 TH 0 0 (c.clock+(numF l (1099511627776-c.clock) q0.2).1) 0 0 q0.2.p (if(numF l (1099511627776-c.clock) q0.2).1=0 then failF q0.2.p 20 (numF l (1099511627776-c.clock) q0.2).2 else(numF l (1099511627776-c.clock) q0.2).2)from rfl]
 have c1:=vrbump_at c t v s l 5 TH 0 0 0 0 0 r.p q0.2 hl p0.2 hcl rfl
 generalize (numF l (1099511627776-c.clock) q0.2)=q1 at c1 ⊢
 generalize (if q1.1=0 then failF q0.2.p 20 q1.2 else q1.2)=q2 at c1 ⊢
 refine Ze Tryz.func150 rfl fun g w=>?_
 refine Zw Zl1 ?_
 refine Zr0 ?_
 refine Zw Zl0 ?_
 refine Zr0 ?_
 refine Zd [0,1,2,3,6,7,8] [none,none,none,none,none,some (plO r.p),some (rdO l q0.2)] [] (c0) Zx6 Zx9 ?_
 refine Zw Zl2 ?_
 refine Zr0 ?_
 conv=>whnf
 rw[hk',ht']
 refine Zr5 ?_
 refine Zc [0,1,2,3,4,5,6,7,8] [none,none,none,none,none,some (lrX 4 6 7 5 TH 0 0 (c.clock+q1.1) 0 0),none,some (plO q0.2.p),some (rdO l q2)] [] (c1) Zx8 Zx15 ?_
 exact Zv (v':=.tup []) (Hl:=rM c t v s l 5 TH 0 0 (c.clock+q1.1) 0 0 q0.2.p q2) (c4 [4,5,6,7,8]) ⟨rfl,rfl⟩ Zx8
theorem vrover6_at (c:Co)(t v s:Int)(l:List UInt8)(pl:Nat)(r:Rs)(hl:l.length<=10000000)(hp:r.p<=l.length)(hc:CoOk c t)(hn:CoNew t v s)(hk:kindF t (numF l (13*t-1) r).1=6):CallG Tryz.prog 150 [.ptr 5 0 0 0] (rM c t v s l 12 0 0 0 0 0 0 pl r) fun x H=>x=.tup []/\H=rMe c t v s l (readE l t v s c r).1 (placeK l s 6 r.p (numF l (13*t-1) r).2) (readE l t v s c r).2:=by
 obtain⟨n1,n2,n3,n4⟩:=hn
 have hs32:1<=s/\s<=32:=⟨n3,by omega⟩
 have hv32:=n2
 have hcl:=hc.clock
 have hla:=hc.last
 have t0:t≠0:=by omega
 have m0:0<=(0-c.last+t).tmod t/\(0-c.last+t).tmod t<t:=by rw[Int.tmod_eq_emod_of_nonneg (by omega)];exact⟨Int.emod_nonneg _ (by omega),Int.emod_lt_of_pos _ (by omega)⟩
 have f0:=numF_bd (l:=l) (r:=r) (show 0<=13*t-1 by omega)
 have p0:=numF_p (most:=13*t-1) hp
 have c0:=vrnum_at l r pl ((12-1)*t+(0-c.last+t).tmod t) (13*t-1) ⟨by omega,by omega⟩ hl hp
 have hR:readE l t v s c r=readK l v s c (kindF t (numF l (13*t-1) r).1) (thrF t c.last (numF l (13*t-1) r).1) (numF l (13*t-1) r).2:=rfl
 rw[hR,hk]
 generalize numF l (13*t-1) r=q0 at f0 p0 c0 hk ⊢
 obtain⟨bk,bt,_⟩:=first_back n1 f0 hc.last
 have hth6:0<=thrF t c.last q0.1/\thrF t c.last q0.1<6:=⟨bt.1,by omega⟩
 have hm:0<=q0.1.tmod t/\q0.1.tmod t<t:=by rw[Int.tmod_eq_emod_of_nonneg f0.1];exact⟨Int.emod_nonneg _ (by omega),Int.emod_lt_of_pos _ (by omega)⟩
 have hk':q0.1.tdiv t+1=6:=hk
 have ht':(q0.1.tmod t+c.last).tmod t=thrF t c.last q0.1:=rfl
 clear hR bk bt hk
 generalize thrF t c.last q0.1=TH at hth6 ht' ⊢
 have hbg:=hc.begun TH.toNat
 rw[show rMe c t v s l (readK l v s c 6 TH q0.2).1 (placeK l s 6 r.p q0.2) (readK l v s c 6 TH q0.2).2=rM c t v s l 6 TH 0 (numF l (s-1) q0.2).1 0 0 0 q0.2.p (numF l (s-1) q0.2).2 from rfl]
 have c1:=vrstripe_at c t v s l 6 TH 0 0 0 0 0 r.p q0.2 hl p0.2 hs32
 generalize (numF l (s-1) q0.2)=q1 at c1 ⊢
 refine Ze Tryz.func150 rfl fun g w=>?_
 refine Zw Zl1 ?_
 refine Zr0 ?_
 refine Zw Zl0 ?_
 refine Zr0 ?_
 refine Zd [0,1,2,3,6,7,8] [none,none,none,none,none,some (plO r.p),some (rdO l q0.2)] [] (c0) Zx6 Zx9 ?_
 refine Zw Zl2 ?_
 refine Zr0 ?_
 conv=>whnf
 rw[hk',ht']
 refine Zr5 ?_
 refine Zc [0,1,2,3,4,5,6,7,8] [none,none,none,none,none,some (lrX 4 6 7 6 TH 0 q1.1 0 0 0),none,some (plO q0.2.p),some (rdO l q1.2)] [] (c1) Zx8 Zx15 ?_
 exact Zv (v':=.tup []) (Hl:=rM c t v s l 6 TH 0 q1.1 0 0 0 q0.2.p q1.2) (c4 [4,5,6,7,8]) ⟨rfl,rfl⟩ Zx8
theorem vrover7_at (c:Co)(t v s:Int)(l:List UInt8)(pl:Nat)(r:Rs)(hl:l.length<=10000000)(hp:r.p<=l.length)(hc:CoOk c t)(hn:CoNew t v s)(hk:kindF t (numF l (13*t-1) r).1=7):CallG Tryz.prog 150 [.ptr 5 0 0 0] (rM c t v s l 12 0 0 0 0 0 0 pl r) fun x H=>x=.tup []/\H=rMe c t v s l (readE l t v s c r).1 (placeK l s 7 r.p (numF l (13*t-1) r).2) (readE l t v s c r).2:=by
 obtain⟨n1,n2,n3,n4⟩:=hn
 have hs32:1<=s/\s<=32:=⟨n3,by omega⟩
 have hv32:=n2
 have hcl:=hc.clock
 have hla:=hc.last
 have t0:t≠0:=by omega
 have m0:0<=(0-c.last+t).tmod t/\(0-c.last+t).tmod t<t:=by rw[Int.tmod_eq_emod_of_nonneg (by omega)];exact⟨Int.emod_nonneg _ (by omega),Int.emod_lt_of_pos _ (by omega)⟩
 have f0:=numF_bd (l:=l) (r:=r) (show 0<=13*t-1 by omega)
 have p0:=numF_p (most:=13*t-1) hp
 have c0:=vrnum_at l r pl ((12-1)*t+(0-c.last+t).tmod t) (13*t-1) ⟨by omega,by omega⟩ hl hp
 have hR:readE l t v s c r=readK l v s c (kindF t (numF l (13*t-1) r).1) (thrF t c.last (numF l (13*t-1) r).1) (numF l (13*t-1) r).2:=rfl
 rw[hR,hk]
 generalize numF l (13*t-1) r=q0 at f0 p0 c0 hk ⊢
 obtain⟨bk,bt,_⟩:=first_back n1 f0 hc.last
 have hth6:0<=thrF t c.last q0.1/\thrF t c.last q0.1<6:=⟨bt.1,by omega⟩
 have hm:0<=q0.1.tmod t/\q0.1.tmod t<t:=by rw[Int.tmod_eq_emod_of_nonneg f0.1];exact⟨Int.emod_nonneg _ (by omega),Int.emod_lt_of_pos _ (by omega)⟩
 have hk':q0.1.tdiv t+1=7:=hk
 have ht':(q0.1.tmod t+c.last).tmod t=thrF t c.last q0.1:=rfl
 clear hR bk bt hk
 generalize thrF t c.last q0.1=TH at hth6 ht' ⊢
 have hbg:=hc.begun TH.toNat
 have hE:rMe c t v s l (readK l v s c 7 TH q0.2).1 (placeK l s 7 r.p q0.2) (readK l v s c 7 TH q0.2).2=rM c t v s l 7 TH 0 0 (if(numF l (1) q0.2).1=0 then 0 else c.bumped TH.toNat) 0 0 q0.2.p (if(numF l (1) q0.2).1=0 then(numF l (1) q0.2).2 else if c.bumped TH.toNat=0 then failF q0.2.p 20 (numF l (1) q0.2).2 else(numF l (1) q0.2).2):=by
  show rMe c t v s l (if(numF l (1) q0.2).1=0 then((⟨7,TH,0,0,0,0,0⟩:Evt),(numF l (1) q0.2).2)else((⟨7,TH,0,0,c.bumped TH.toNat,0,0⟩:Evt),if c.bumped TH.toNat=0 then failF q0.2.p 20 (numF l (1) q0.2).2 else(numF l (1) q0.2).2)).1 q0.2.p (if(numF l (1) q0.2).1=0 then((⟨7,TH,0,0,0,0,0⟩:Evt),(numF l (1) q0.2).2)else((⟨7,TH,0,0,c.bumped TH.toNat,0,0⟩:Evt),if c.bumped TH.toNat=0 then failF q0.2.p 20 (numF l (1) q0.2).2 else(numF l (1) q0.2).2)).2=_
  by_cases q:(numF l (1) q0.2).1=0
  ·rw[if_pos q,if_pos q,if_pos q];rfl
  ·rw[if_neg q,if_neg q,if_neg q];rfl
 rw[hE]
 clear hE
 have c1:=vrcommit_at c t v s l 7 TH 0 0 0 0 0 r.p q0.2 hl p0.2 hth6 rfl
 generalize (numF l (1) q0.2)=q1 at c1 ⊢
 generalize (if q1.1=0 then q1.2 else if c.bumped TH.toNat=0 then failF q0.2.p 20 q1.2 else q1.2)=q2 at c1 ⊢
 generalize (if q1.1=0 then 0 else c.bumped TH.toNat)=q3 at c1 ⊢
 refine Ze Tryz.func150 rfl fun g w=>?_
 refine Zw Zl1 ?_
 refine Zr0 ?_
 refine Zw Zl0 ?_
 refine Zr0 ?_
 refine Zd [0,1,2,3,6,7,8] [none,none,none,none,none,some (plO r.p),some (rdO l q0.2)] [] (c0) Zx6 Zx9 ?_
 refine Zw Zl2 ?_
 refine Zr0 ?_
 conv=>whnf
 rw[hk',ht']
 refine Zr5 ?_
 refine Zc [0,1,2,3,4,5,6,7,8] [none,none,none,none,none,some (lrX 4 6 7 7 TH 0 0 q3 0 0),none,some (plO q0.2.p),some (rdO l q2)] [] (c1) Zx8 Zx15 ?_
 exact Zv (v':=.tup []) (Hl:=rM c t v s l 7 TH 0 0 q3 0 0 q0.2.p q2) (c4 [4,5,6,7,8]) ⟨rfl,rfl⟩ Zx8
theorem vrover8_at (c:Co)(t v s:Int)(l:List UInt8)(pl:Nat)(r:Rs)(hl:l.length<=10000000)(hp:r.p<=l.length)(hc:CoOk c t)(hn:CoNew t v s)(hk:kindF t (numF l (13*t-1) r).1=8):CallG Tryz.prog 150 [.ptr 5 0 0 0] (rM c t v s l 12 0 0 0 0 0 0 pl r) fun x H=>x=.tup []/\H=rMe c t v s l (readE l t v s c r).1 (placeK l s 8 r.p (numF l (13*t-1) r).2) (readE l t v s c r).2:=by
 obtain⟨n1,n2,n3,n4⟩:=hn
 have hs32:1<=s/\s<=32:=⟨n3,by omega⟩
 have hv32:=n2
 have hcl:=hc.clock
 have hla:=hc.last
 have t0:t≠0:=by omega
 have m0:0<=(0-c.last+t).tmod t/\(0-c.last+t).tmod t<t:=by rw[Int.tmod_eq_emod_of_nonneg (by omega)];exact⟨Int.emod_nonneg _ (by omega),Int.emod_lt_of_pos _ (by omega)⟩
 have f0:=numF_bd (l:=l) (r:=r) (show 0<=13*t-1 by omega)
 have p0:=numF_p (most:=13*t-1) hp
 have c0:=vrnum_at l r pl ((12-1)*t+(0-c.last+t).tmod t) (13*t-1) ⟨by omega,by omega⟩ hl hp
 have hR:readE l t v s c r=readK l v s c (kindF t (numF l (13*t-1) r).1) (thrF t c.last (numF l (13*t-1) r).1) (numF l (13*t-1) r).2:=rfl
 rw[hR,hk]
 generalize numF l (13*t-1) r=q0 at f0 p0 c0 hk ⊢
 obtain⟨bk,bt,_⟩:=first_back n1 f0 hc.last
 have hth6:0<=thrF t c.last q0.1/\thrF t c.last q0.1<6:=⟨bt.1,by omega⟩
 have hm:0<=q0.1.tmod t/\q0.1.tmod t<t:=by rw[Int.tmod_eq_emod_of_nonneg f0.1];exact⟨Int.emod_nonneg _ (by omega),Int.emod_lt_of_pos _ (by omega)⟩
 have hk':q0.1.tdiv t+1=8:=hk
 have ht':(q0.1.tmod t+c.last).tmod t=thrF t c.last q0.1:=rfl
 clear hR bk bt hk
 generalize thrF t c.last q0.1=TH at hth6 ht' ⊢
 have hbg:=hc.begun TH.toNat
 rw[show rMe c t v s l (readK l v s c 8 TH q0.2).1 (placeK l s 8 r.p q0.2) (readK l v s c 8 TH q0.2).2=rM c t v s l 8 TH 0 (numF l (v-1) q0.2).1 0 (IntKind.i64.wrap (c.x (numF l (v-1) q0.2).1.toNat+(intF l (numF l (v-1) q0.2).2).1)) 0 q0.2.p (intF l (numF l (v-1) q0.2).2).2 from rfl]
 have c1:=vrvalue_at c t v s l 8 TH 0 0 0 0 0 r.p q0.2 hl p0.2 hv32
 generalize (numF l (v-1) q0.2)=q1 at c1 ⊢
 generalize intF l q1.2=q2 at c1 ⊢
 refine Ze Tryz.func150 rfl fun g w=>?_
 refine Zw Zl1 ?_
 refine Zr0 ?_
 refine Zw Zl0 ?_
 refine Zr0 ?_
 refine Zd [0,1,2,3,6,7,8] [none,none,none,none,none,some (plO r.p),some (rdO l q0.2)] [] (c0) Zx6 Zx9 ?_
 refine Zw Zl2 ?_
 refine Zr0 ?_
 conv=>whnf
 rw[hk',ht']
 refine Zr5 ?_
 refine Zc [0,1,2,3,4,5,6,7,8] [none,none,none,none,none,some (lrX 4 6 7 8 TH 0 q1.1 0 (IntKind.i64.wrap (c.x q1.1.toNat+q2.1)) 0),none,some (plO q0.2.p),some (rdO l q2.2)] [] (c1) Zx8 Zx15 ?_
 exact Zv (v':=.tup []) (Hl:=rM c t v s l 8 TH 0 q1.1 0 (IntKind.i64.wrap (c.x q1.1.toNat+q2.1)) 0 q0.2.p q2.2) (c4 [4,5,6,7,8]) ⟨rfl,rfl⟩ Zx8
theorem vrover9_at (c:Co)(t v s:Int)(l:List UInt8)(pl:Nat)(r:Rs)(hl:l.length<=10000000)(hp:r.p<=l.length)(hc:CoOk c t)(hn:CoNew t v s)(hk:kindF t (numF l (13*t-1) r).1=9):CallG Tryz.prog 150 [.ptr 5 0 0 0] (rM c t v s l 12 0 0 0 0 0 0 pl r) fun x H=>x=.tup []/\H=rMe c t v s l (readE l t v s c r).1 (placeK l s 9 r.p (numF l (13*t-1) r).2) (readE l t v s c r).2:=by
 obtain⟨n1,n2,n3,n4⟩:=hn
 have hs32:1<=s/\s<=32:=⟨n3,by omega⟩
 have hv32:=n2
 have hcl:=hc.clock
 have hla:=hc.last
 have t0:t≠0:=by omega
 have m0:0<=(0-c.last+t).tmod t/\(0-c.last+t).tmod t<t:=by rw[Int.tmod_eq_emod_of_nonneg (by omega)];exact⟨Int.emod_nonneg _ (by omega),Int.emod_lt_of_pos _ (by omega)⟩
 have f0:=numF_bd (l:=l) (r:=r) (show 0<=13*t-1 by omega)
 have p0:=numF_p (most:=13*t-1) hp
 have c0:=vrnum_at l r pl ((12-1)*t+(0-c.last+t).tmod t) (13*t-1) ⟨by omega,by omega⟩ hl hp
 have hR:readE l t v s c r=readK l v s c (kindF t (numF l (13*t-1) r).1) (thrF t c.last (numF l (13*t-1) r).1) (numF l (13*t-1) r).2:=rfl
 rw[hR,hk]
 generalize numF l (13*t-1) r=q0 at f0 p0 c0 hk ⊢
 obtain⟨bk,bt,_⟩:=first_back n1 f0 hc.last
 have hth6:0<=thrF t c.last q0.1/\thrF t c.last q0.1<6:=⟨bt.1,by omega⟩
 have hm:0<=q0.1.tmod t/\q0.1.tmod t<t:=by rw[Int.tmod_eq_emod_of_nonneg f0.1];exact⟨Int.emod_nonneg _ (by omega),Int.emod_lt_of_pos _ (by omega)⟩
 have hk':q0.1.tdiv t+1=9:=hk
 have ht':(q0.1.tmod t+c.last).tmod t=thrF t c.last q0.1:=rfl
 clear hR bk bt hk
 generalize thrF t c.last q0.1=TH at hth6 ht' ⊢
 have hbg:=hc.begun TH.toNat
 rw[show rMe c t v s l (readK l v s c 9 TH q0.2).1 (placeK l s 9 r.p q0.2) (readK l v s c 9 TH q0.2).2=rM c t v s l 9 TH 0 (numF l (s-1) q0.2).1 0 0 0 q0.2.p (numF l (s-1) q0.2).2 from rfl]
 have c1:=vrstripe_at c t v s l 9 TH 0 0 0 0 0 r.p q0.2 hl p0.2 hs32
 generalize (numF l (s-1) q0.2)=q1 at c1 ⊢
 refine Ze Tryz.func150 rfl fun g w=>?_
 refine Zw Zl1 ?_
 refine Zr0 ?_
 refine Zw Zl0 ?_
 refine Zr0 ?_
 refine Zd [0,1,2,3,6,7,8] [none,none,none,none,none,some (plO r.p),some (rdO l q0.2)] [] (c0) Zx6 Zx9 ?_
 refine Zw Zl2 ?_
 refine Zr0 ?_
 conv=>whnf
 rw[hk',ht']
 refine Zr5 ?_
 refine Zc [0,1,2,3,4,5,6,7,8] [none,none,none,none,none,some (lrX 4 6 7 9 TH 0 q1.1 0 0 0),none,some (plO q0.2.p),some (rdO l q1.2)] [] (c1) Zx8 Zx15 ?_
 exact Zv (v':=.tup []) (Hl:=rM c t v s l 9 TH 0 q1.1 0 0 0 q0.2.p q1.2) (c4 [4,5,6,7,8]) ⟨rfl,rfl⟩ Zx8
theorem vrover10_at (c:Co)(t v s:Int)(l:List UInt8)(pl:Nat)(r:Rs)(hl:l.length<=10000000)(hp:r.p<=l.length)(hc:CoOk c t)(hn:CoNew t v s)(hk:kindF t (numF l (13*t-1) r).1=10):CallG Tryz.prog 150 [.ptr 5 0 0 0] (rM c t v s l 12 0 0 0 0 0 0 pl r) fun x H=>x=.tup []/\H=rMe c t v s l (readE l t v s c r).1 (placeK l s 10 r.p (numF l (13*t-1) r).2) (readE l t v s c r).2:=by
 obtain⟨n1,n2,n3,n4⟩:=hn
 have hs32:1<=s/\s<=32:=⟨n3,by omega⟩
 have hv32:=n2
 have hcl:=hc.clock
 have hla:=hc.last
 have t0:t≠0:=by omega
 have m0:0<=(0-c.last+t).tmod t/\(0-c.last+t).tmod t<t:=by rw[Int.tmod_eq_emod_of_nonneg (by omega)];exact⟨Int.emod_nonneg _ (by omega),Int.emod_lt_of_pos _ (by omega)⟩
 have f0:=numF_bd (l:=l) (r:=r) (show 0<=13*t-1 by omega)
 have p0:=numF_p (most:=13*t-1) hp
 have c0:=vrnum_at l r pl ((12-1)*t+(0-c.last+t).tmod t) (13*t-1) ⟨by omega,by omega⟩ hl hp
 have hR:readE l t v s c r=readK l v s c (kindF t (numF l (13*t-1) r).1) (thrF t c.last (numF l (13*t-1) r).1) (numF l (13*t-1) r).2:=rfl
 rw[hR,hk]
 generalize numF l (13*t-1) r=q0 at f0 p0 c0 hk ⊢
 obtain⟨bk,bt,_⟩:=first_back n1 f0 hc.last
 have hth6:0<=thrF t c.last q0.1/\thrF t c.last q0.1<6:=⟨bt.1,by omega⟩
 have hm:0<=q0.1.tmod t/\q0.1.tmod t<t:=by rw[Int.tmod_eq_emod_of_nonneg f0.1];exact⟨Int.emod_nonneg _ (by omega),Int.emod_lt_of_pos _ (by omega)⟩
 have hk':q0.1.tdiv t+1=10:=hk
 have ht':(q0.1.tmod t+c.last).tmod t=thrF t c.last q0.1:=rfl
 clear hR bk bt hk
 generalize thrF t c.last q0.1=TH at hth6 ht' ⊢
 have hbg:=hc.begun TH.toNat
 have c1:=vrabort_at c t v s l 10 TH 0 0 0 0 0 r.p q0.2 hl p0.2 hs32 rfl
 have hE:rMe c t v s l (readK l v s c 10 TH q0.2).1 (placeK l s 10 r.p q0.2) (readK l v s c 10 TH q0.2).2=if(numF l (5) q0.2).1=5 then rM c t v s l 10 TH 0 0 0 0 6 q0.2.p (numF l (5) q0.2).2 else rM c t v s l 10 TH 0 (numF l (s-1) (numF l (5) q0.2).2).1 0 0 ((numF l (5) q0.2).1+1) (numF l (5) q0.2).2.p (numF l (s-1) (numF l (5) q0.2).2).2:=by
  show rMe c t v s l (if(numF l (5) q0.2).1=5 then((⟨10,TH,0,0,0,0,6⟩:Evt),(numF l (5) q0.2).2)else((⟨10,TH,0,(numF l (s-1) (numF l (5) q0.2).2).1,0,0,(numF l (5) q0.2).1+1⟩:Evt),(numF l (s-1) (numF l (5) q0.2).2).2)).1 (if(numF l (5) q0.2).1=5 then q0.2.p else(numF l (5) q0.2).2.p) (if(numF l (5) q0.2).1=5 then((⟨10,TH,0,0,0,0,6⟩:Evt),(numF l (5) q0.2).2)else((⟨10,TH,0,(numF l (s-1) (numF l (5) q0.2).2).1,0,0,(numF l (5) q0.2).1+1⟩:Evt),(numF l (s-1) (numF l (5) q0.2).2).2)).2=_
  by_cases q:(numF l (5) q0.2).1=5
  ·rw[if_pos q,if_pos q,if_pos q];rfl
  ·rw[if_neg q,if_neg q,if_neg q];rfl
 rw[hE]
 clear hE
 by_cases q:(numF l (5) q0.2).1=5
 ·rw[if_pos q]at c1 ⊢
  generalize (numF l (5) q0.2)=q1 at c1 q ⊢
  refine Ze Tryz.func150 rfl fun g w=>?_
  refine Zw Zl1 ?_
  refine Zr0 ?_
  refine Zw Zl0 ?_
  refine Zr0 ?_
  refine Zd [0,1,2,3,6,7,8] [none,none,none,none,none,some (plO r.p),some (rdO l q0.2)] [] (c0) Zx6 Zx9 ?_
  refine Zw Zl2 ?_
  refine Zr0 ?_
  conv=>whnf
  rw[hk',ht']
  refine Zr5 ?_
  refine Zc [0,1,2,3,4,5,6,7,8] [none,none,none,none,none,some (lrX 4 6 7 10 TH 0 0 0 0 6),none,some (plO q0.2.p),some (rdO l q1.2)] [] (c1) Zx8 Zx15 ?_
  exact Zv (v':=.tup []) (Hl:=rM c t v s l 10 TH 0 0 0 0 6 q0.2.p q1.2) (c4 [4,5,6,7,8]) ⟨rfl,rfl⟩ Zx8
 ·rw[if_neg q]at c1 ⊢
  generalize (numF l (5) q0.2)=q1 at c1 q ⊢
  generalize numF l (s-1) q1.2=q2 at c1 ⊢
  refine Ze Tryz.func150 rfl fun g w=>?_
  refine Zw Zl1 ?_
  refine Zr0 ?_
  refine Zw Zl0 ?_
  refine Zr0 ?_
  refine Zd [0,1,2,3,6,7,8] [none,none,none,none,none,some (plO r.p),some (rdO l q0.2)] [] (c0) Zx6 Zx9 ?_
  refine Zw Zl2 ?_
  refine Zr0 ?_
  conv=>whnf
  rw[hk',ht']
  refine Zr5 ?_
  refine Zc [0,1,2,3,4,5,6,7,8] [none,none,none,none,none,some (lrX 4 6 7 10 TH 0 q2.1 0 0 (q1.1+1)),none,some (plO q1.2.p),some (rdO l q2.2)] [] (c1) Zx8 Zx15 ?_
  exact Zv (v':=.tup []) (Hl:=rM c t v s l 10 TH 0 q2.1 0 0 (q1.1+1) q1.2.p q2.2) (c4 [4,5,6,7,8]) ⟨rfl,rfl⟩ Zx8
theorem vrover11_at (c:Co)(t v s:Int)(l:List UInt8)(pl:Nat)(r:Rs)(hl:l.length<=10000000)(hp:r.p<=l.length)(hc:CoOk c t)(hn:CoNew t v s)(hk:kindF t (numF l (13*t-1) r).1=11):CallG Tryz.prog 150 [.ptr 5 0 0 0] (rM c t v s l 12 0 0 0 0 0 0 pl r) fun x H=>x=.tup []/\H=rMe c t v s l (readE l t v s c r).1 (placeK l s 11 r.p (numF l (13*t-1) r).2) (readE l t v s c r).2:=by
 obtain⟨n1,n2,n3,n4⟩:=hn
 have hs32:1<=s/\s<=32:=⟨n3,by omega⟩
 have hv32:=n2
 have hcl:=hc.clock
 have hla:=hc.last
 have t0:t≠0:=by omega
 have m0:0<=(0-c.last+t).tmod t/\(0-c.last+t).tmod t<t:=by rw[Int.tmod_eq_emod_of_nonneg (by omega)];exact⟨Int.emod_nonneg _ (by omega),Int.emod_lt_of_pos _ (by omega)⟩
 have f0:=numF_bd (l:=l) (r:=r) (show 0<=13*t-1 by omega)
 have p0:=numF_p (most:=13*t-1) hp
 have c0:=vrnum_at l r pl ((12-1)*t+(0-c.last+t).tmod t) (13*t-1) ⟨by omega,by omega⟩ hl hp
 have hR:readE l t v s c r=readK l v s c (kindF t (numF l (13*t-1) r).1) (thrF t c.last (numF l (13*t-1) r).1) (numF l (13*t-1) r).2:=rfl
 rw[hR,hk]
 generalize numF l (13*t-1) r=q0 at f0 p0 c0 hk ⊢
 obtain⟨bk,bt,_⟩:=first_back n1 f0 hc.last
 have hth6:0<=thrF t c.last q0.1/\thrF t c.last q0.1<6:=⟨bt.1,by omega⟩
 have hm:0<=q0.1.tmod t/\q0.1.tmod t<t:=by rw[Int.tmod_eq_emod_of_nonneg f0.1];exact⟨Int.emod_nonneg _ (by omega),Int.emod_lt_of_pos _ (by omega)⟩
 have hk':q0.1.tdiv t+1=11:=hk
 have ht':(q0.1.tmod t+c.last).tmod t=thrF t c.last q0.1:=rfl
 clear hR bk bt hk
 generalize thrF t c.last q0.1=TH at hth6 ht' ⊢
 have hbg:=hc.begun TH.toNat
 rw[show rMe c t v s l (readK l v s c 11 TH q0.2).1 (placeK l s 11 r.p q0.2) (readK l v s c 11 TH q0.2).2=rM c t v s l 11 TH 0 (numF l (s-1) q0.2).1 0 0 0 q0.2.p (numF l (s-1) q0.2).2 from rfl]
 have c1:=vrstripe_at c t v s l 11 TH 0 0 0 0 0 r.p q0.2 hl p0.2 hs32
 generalize (numF l (s-1) q0.2)=q1 at c1 ⊢
 refine Ze Tryz.func150 rfl fun g w=>?_
 refine Zw Zl1 ?_
 refine Zr0 ?_
 refine Zw Zl0 ?_
 refine Zr0 ?_
 refine Zd [0,1,2,3,6,7,8] [none,none,none,none,none,some (plO r.p),some (rdO l q0.2)] [] (c0) Zx6 Zx9 ?_
 refine Zw Zl2 ?_
 refine Zr0 ?_
 conv=>whnf
 rw[hk',ht']
 refine Zr5 ?_
 refine Zc [0,1,2,3,4,5,6,7,8] [none,none,none,none,none,some (lrX 4 6 7 11 TH 0 q1.1 0 0 0),none,some (plO q0.2.p),some (rdO l q1.2)] [] (c1) Zx8 Zx15 ?_
 exact Zv (v':=.tup []) (Hl:=rM c t v s l 11 TH 0 q1.1 0 0 0 q0.2.p q1.2) (c4 [4,5,6,7,8]) ⟨rfl,rfl⟩ Zx8
theorem vrover12_at (c:Co)(t v s:Int)(l:List UInt8)(pl:Nat)(r:Rs)(hl:l.length<=10000000)(hp:r.p<=l.length)(hc:CoOk c t)(hn:CoNew t v s)(hk:kindF t (numF l (13*t-1) r).1=12):CallG Tryz.prog 150 [.ptr 5 0 0 0] (rM c t v s l 12 0 0 0 0 0 0 pl r) fun x H=>x=.tup []/\H=rMe c t v s l (readE l t v s c r).1 (placeK l s 12 r.p (numF l (13*t-1) r).2) (readE l t v s c r).2:=by
 obtain⟨n1,n2,n3,n4⟩:=hn
 have hs32:1<=s/\s<=32:=⟨n3,by omega⟩
 have hv32:=n2
 have hcl:=hc.clock
 have hla:=hc.last
 have t0:t≠0:=by omega
 have m0:0<=(0-c.last+t).tmod t/\(0-c.last+t).tmod t<t:=by rw[Int.tmod_eq_emod_of_nonneg (by omega)];exact⟨Int.emod_nonneg _ (by omega),Int.emod_lt_of_pos _ (by omega)⟩
 have f0:=numF_bd (l:=l) (r:=r) (show 0<=13*t-1 by omega)
 have p0:=numF_p (most:=13*t-1) hp
 have c0:=vrnum_at l r pl ((12-1)*t+(0-c.last+t).tmod t) (13*t-1) ⟨by omega,by omega⟩ hl hp
 have hR:readE l t v s c r=readK l v s c (kindF t (numF l (13*t-1) r).1) (thrF t c.last (numF l (13*t-1) r).1) (numF l (13*t-1) r).2:=rfl
 rw[hR,hk]
 generalize numF l (13*t-1) r=q0 at f0 p0 c0 hk ⊢
 obtain⟨bk,bt,_⟩:=first_back n1 f0 hc.last
 have hth6:0<=thrF t c.last q0.1/\thrF t c.last q0.1<6:=⟨bt.1,by omega⟩
 have hm:0<=q0.1.tmod t/\q0.1.tmod t<t:=by rw[Int.tmod_eq_emod_of_nonneg f0.1];exact⟨Int.emod_nonneg _ (by omega),Int.emod_lt_of_pos _ (by omega)⟩
 have hk':q0.1.tdiv t+1=12:=hk
 have ht':(q0.1.tmod t+c.last).tmod t=thrF t c.last q0.1:=rfl
 clear hR bk bt hk
 generalize thrF t c.last q0.1=TH at hth6 ht' ⊢
 have hbg:=hc.begun TH.toNat
 rw[show rMe c t v s l (readK l v s c 12 TH q0.2).1 (placeK l s 12 r.p q0.2) (readK l v s c 12 TH q0.2).2=rM c t v s l 12 TH 0 0 0 0 0 r.p q0.2 from rfl]
 have c1:=vrnone_at c t v s l 12 TH 0 0 0 0 0 r.p q0.2 hl p0.2
 refine Ze Tryz.func150 rfl fun g w=>?_
 refine Zw Zl1 ?_
 refine Zr0 ?_
 refine Zw Zl0 ?_
 refine Zr0 ?_
 refine Zd [0,1,2,3,6,7,8] [none,none,none,none,none,some (plO r.p),some (rdO l q0.2)] [] (c0) Zx6 Zx9 ?_
 refine Zw Zl2 ?_
 refine Zr0 ?_
 conv=>whnf
 rw[hk',ht']
 refine Zr5 ?_
 refine Zc [0,1,2,3,4,5,6,7,8] [none,none,none,none,none,some (lrX 4 6 7 12 TH 0 0 0 0 0),none,some (plO r.p),some (rdO l q0.2)] [] (c1) Zx8 Zx15 ?_
 exact Zv (v':=.tup []) (Hl:=rM c t v s l 12 TH 0 0 0 0 0 r.p q0.2) (c4 [4,5,6,7,8]) ⟨rfl,rfl⟩ Zx8
theorem vrover13_at (c:Co)(t v s:Int)(l:List UInt8)(pl:Nat)(r:Rs)(hl:l.length<=10000000)(hp:r.p<=l.length)(hc:CoOk c t)(hn:CoNew t v s)(hk:kindF t (numF l (13*t-1) r).1=13):CallG Tryz.prog 150 [.ptr 5 0 0 0] (rM c t v s l 12 0 0 0 0 0 0 pl r) fun x H=>x=.tup []/\H=rMe c t v s l (readE l t v s c r).1 (placeK l s 13 r.p (numF l (13*t-1) r).2) (readE l t v s c r).2:=by
 obtain⟨n1,n2,n3,n4⟩:=hn
 have hs32:1<=s/\s<=32:=⟨n3,by omega⟩
 have hv32:=n2
 have hcl:=hc.clock
 have hla:=hc.last
 have t0:t≠0:=by omega
 have m0:0<=(0-c.last+t).tmod t/\(0-c.last+t).tmod t<t:=by rw[Int.tmod_eq_emod_of_nonneg (by omega)];exact⟨Int.emod_nonneg _ (by omega),Int.emod_lt_of_pos _ (by omega)⟩
 have f0:=numF_bd (l:=l) (r:=r) (show 0<=13*t-1 by omega)
 have p0:=numF_p (most:=13*t-1) hp
 have c0:=vrnum_at l r pl ((12-1)*t+(0-c.last+t).tmod t) (13*t-1) ⟨by omega,by omega⟩ hl hp
 have hR:readE l t v s c r=readK l v s c (kindF t (numF l (13*t-1) r).1) (thrF t c.last (numF l (13*t-1) r).1) (numF l (13*t-1) r).2:=rfl
 rw[hR,hk]
 generalize numF l (13*t-1) r=q0 at f0 p0 c0 hk ⊢
 obtain⟨bk,bt,_⟩:=first_back n1 f0 hc.last
 have hth6:0<=thrF t c.last q0.1/\thrF t c.last q0.1<6:=⟨bt.1,by omega⟩
 have hm:0<=q0.1.tmod t/\q0.1.tmod t<t:=by rw[Int.tmod_eq_emod_of_nonneg f0.1];exact⟨Int.emod_nonneg _ (by omega),Int.emod_lt_of_pos _ (by omega)⟩
 have hk':q0.1.tdiv t+1=13:=hk
 have ht':(q0.1.tmod t+c.last).tmod t=thrF t c.last q0.1:=rfl
 clear hR bk bt hk
 generalize thrF t c.last q0.1=TH at hth6 ht' ⊢
 have hbg:=hc.begun TH.toNat
 rw[show rMe c t v s l (readK l v s c 13 TH q0.2).1 (placeK l s 13 r.p q0.2) (readK l v s c 13 TH q0.2).2=rM c t v s l 13 TH 0 0 0 0 0 r.p q0.2 from rfl]
 have c1:=vrnone_at c t v s l 13 TH 0 0 0 0 0 r.p q0.2 hl p0.2
 refine Ze Tryz.func150 rfl fun g w=>?_
 refine Zw Zl1 ?_
 refine Zr0 ?_
 refine Zw Zl0 ?_
 refine Zr0 ?_
 refine Zd [0,1,2,3,6,7,8] [none,none,none,none,none,some (plO r.p),some (rdO l q0.2)] [] (c0) Zx6 Zx9 ?_
 refine Zw Zl2 ?_
 refine Zr0 ?_
 conv=>whnf
 rw[hk',ht']
 refine Zr5 ?_
 refine Zc [0,1,2,3,4,5,6,7,8] [none,none,none,none,none,some (lrX 4 6 7 13 TH 0 0 0 0 0),none,some (plO r.p),some (rdO l q0.2)] [] (c1) Zx8 Zx15 ?_
 exact Zv (v':=.tup []) (Hl:=rM c t v s l 13 TH 0 0 0 0 0 r.p q0.2) (c4 [4,5,6,7,8]) ⟨rfl,rfl⟩ Zx8
structure EvOk (e:Evt)(t:Int):Prop where
 kind:1<=e.kind/\e.kind<=13
 thread:0<=e.thread/\e.thread<t
 at_:0<=e.at_/\e.at_<32
 v:0<=e.v/\e.v<=1099511627776
 why:0<=e.why/\e.why<=255
theorem readE_ok {l:List UInt8}{t v s:Int}{c:Co}{r:Rs}(h1:1<=t/\t<=6)(hv:1<=v/\v<=32)(hs:1<=s/\s<=32)(hc:CoOk c t):EvOk (readE l t v s c r).1 t:=by
 have hf:=numF_bd (l:=l) (r:=r) (show 0<=13*t-1 by omega)
 obtain⟨b1,b2,b3⟩:=first_back h1 hf hc.last
 have hR:readE l t v s c r=readK l v s c (kindF t (numF l (13*t-1) r).1) (thrF t c.last (numF l (13*t-1) r).1) (numF l (13*t-1) r).2:=rfl
 rw[hR]
 generalize kindF t (numF l (13*t-1) r).1=k at b1 ⊢
 generalize thrF t c.last (numF l (13*t-1) r).1=th at b2 ⊢
 generalize (numF l (13*t-1) r).2=r
 have hb:=hc.begun th.toNat
 have hu:=hc.bumped th.toNat
 have hcl:=hc.clock
 have z:(0:Int)<=0/\(0:Int)<32:=by decide
 have zv:(0:Int)<=0/\(0:Int)<=1099511627776:=by decide
 have zw:(0:Int)<=0/\(0:Int)<=255:=by decide
 have sb:=numF_bd (l:=l) (r:=r) (show 0<=s-1 by omega)
 have vb:=numF_bd (l:=l) (r:=r) (show 0<=v-1 by omega)
 have cb:=fun r=>numF_bd (l:=l) (r:=r) (show 0<=1099511627776-c.clock by omega)
 have gb:=fun r=>numF_bd (l:=l) (r:=r) hb.1
 have wb:=numF_bd (l:=l) (r:=r) (show(0:Int)<=5 by decide)
 have hh:k=1\/k=2\/k=3\/k=4\/k=5\/k=6\/k=7\/k=8\/k=9\/k=10\/k=11\/k=12\/k=13:=by omega
 rcases hh with rfl|rfl|rfl|rfl|rfl|rfl|rfl|rfl|rfl|rfl|rfl|rfl|rfl
 ·have:=cb (numF l 5 r).2
  exact⟨b1,b2,z,⟨by show 0<=c.clock+(numF l (1099511627776-c.clock) (numF l 5 r).2).1;omega,by show c.clock+(numF l (1099511627776-c.clock) (numF l 5 r).2).1<=1099511627776;omega⟩,zw⟩
 ·have:=gb (numF l (s-1) r).2
  exact⟨b1,b2,⟨sb.1,Int.lt_of_le_of_lt sb.2 (by omega)⟩,⟨by show 0<=c.begun th.toNat-(numF l (c.begun th.toNat) (numF l (s-1) r).2).1;omega,by show c.begun th.toNat-(numF l (c.begun th.toNat) (numF l (s-1) r).2).1<=1099511627776;omega⟩,zw⟩
 ·exact⟨b1,b2,⟨vb.1,Int.lt_of_le_of_lt vb.2 (by omega)⟩,zv,zw⟩
 ·exact⟨b1,b2,⟨sb.1,Int.lt_of_le_of_lt sb.2 (by omega)⟩,zv,zw⟩
 ·have:=cb r
  exact⟨b1,b2,z,⟨by show 0<=c.clock+(numF l (1099511627776-c.clock) r).1;omega,by show c.clock+(numF l (1099511627776-c.clock) r).1<=1099511627776;omega⟩,zw⟩
 ·exact⟨b1,b2,⟨sb.1,Int.lt_of_le_of_lt sb.2 (by omega)⟩,zv,zw⟩
 ·have e:readK l v s c 7 th r=if(numF l 1 r).1=0 then(⟨7,th,0,0,0,0,0⟩,(numF l 1 r).2)else(⟨7,th,0,0,c.bumped th.toNat,0,0⟩,if c.bumped th.toNat=0 then failF r.p 20 (numF l 1 r).2 else(numF l 1 r).2):=rfl
  rw[e]
  split
  ·exact⟨b1,b2,z,zv,zw⟩
  ·exact⟨b1,b2,z,hu,zw⟩
 ·exact⟨b1,b2,⟨vb.1,Int.lt_of_le_of_lt vb.2 (by omega)⟩,zv,zw⟩
 ·exact⟨b1,b2,⟨sb.1,Int.lt_of_le_of_lt sb.2 (by omega)⟩,zv,zw⟩
 ·have e:readK l v s c 10 th r=if(numF l 5 r).1=5 then(⟨10,th,0,0,0,0,6⟩,(numF l 5 r).2)else(⟨10,th,0,(numF l (s-1) (numF l 5 r).2).1,0,0,(numF l 5 r).1+1⟩,(numF l (s-1) (numF l 5 r).2).2):=rfl
  rw[e]
  have sb2:=numF_bd (l:=l) (r:=(numF l 5 r).2) (show 0<=s-1 by omega)
  split
  ·exact⟨b1,b2,z,zv,(by decide:(0:Int)<=6/\(6:Int)<=255)⟩
  ·exact⟨b1,b2,⟨sb2.1,Int.lt_of_le_of_lt sb2.2 (by omega)⟩,zv,⟨by show 0<=(numF l 5 r).1+1;omega,by show(numF l 5 r).1+1<=255;omega⟩⟩
 ·exact⟨b1,b2,⟨sb.1,Int.lt_of_le_of_lt sb.2 (by omega)⟩,zv,zw⟩
 ·exact⟨b1,b2,z,zv,zw⟩
 ·exact⟨b1,b2,z,zv,zw⟩
theorem vrover_at (c:Co)(t v s:Int)(l:List UInt8)(pl:Nat)(r:Rs)(hl:l.length<=10000000)(hp:r.p<=l.length)(hc:CoOk c t)(hn:CoNew t v s):CallG Tryz.prog 150 [.ptr 5 0 0 0] (rM c t v s l 12 0 0 0 0 0 0 pl r) fun x H=>x=.tup []/\H=rMe c t v s l (readE l t v s c r).1 (placeK l s (kindF t (numF l (13*t-1) r).1) r.p (numF l (13*t-1) r).2) (readE l t v s c r).2:=by
 have h1:=hn.1
 obtain⟨bk,_⟩:=first_back h1 (numF_bd (l:=l) (r:=r) (show 0<=13*t-1 by omega)) hc.last
 have hh:kindF t (numF l (13*t-1) r).1=1\/kindF t (numF l (13*t-1) r).1=2\/kindF t (numF l (13*t-1) r).1=3\/kindF t (numF l (13*t-1) r).1=4\/kindF t (numF l (13*t-1) r).1=5\/kindF t (numF l (13*t-1) r).1=6\/kindF t (numF l (13*t-1) r).1=7\/kindF t (numF l (13*t-1) r).1=8\/kindF t (numF l (13*t-1) r).1=9\/kindF t (numF l (13*t-1) r).1=10\/kindF t (numF l (13*t-1) r).1=11\/kindF t (numF l (13*t-1) r).1=12\/kindF t (numF l (13*t-1) r).1=13:=by omega
 rcases hh with hk|hk|hk|hk|hk|hk|hk|hk|hk|hk|hk|hk|hk
 ·rw[hk];exact vrover1_at c t v s l pl r hl hp hc hn hk
 ·rw[hk];exact vrover2_at c t v s l pl r hl hp hc hn hk
 ·rw[hk];exact vrover3_at c t v s l pl r hl hp hc hn hk
 ·rw[hk];exact vrover4_at c t v s l pl r hl hp hc hn hk
 ·rw[hk];exact vrover5_at c t v s l pl r hl hp hc hn hk
 ·rw[hk];exact vrover6_at c t v s l pl r hl hp hc hn hk
 ·rw[hk];exact vrover7_at c t v s l pl r hl hp hc hn hk
 ·rw[hk];exact vrover8_at c t v s l pl r hl hp hc hn hk
 ·rw[hk];exact vrover9_at c t v s l pl r hl hp hc hn hk
 ·rw[hk];exact vrover10_at c t v s l pl r hl hp hc hn hk
 ·rw[hk];exact vrover11_at c t v s l pl r hl hp hc hn hk
 ·rw[hk];exact vrover12_at c t v s l pl r hl hp hc hn hk
 ·rw[hk];exact vrover13_at c t v s l pl r hl hp hc hn hk
theorem vread_at (c:Co)(t v s:Int)(l:List UInt8)(r:Rs)(hl:l.length<=10000000)(hp:r.p<=l.length)(hc:CoOk c t)(hn:CoNew t v s):CallG Tryz.prog 160 [.ptr 15 0 0 0,.ptr 16 0 0 0] (bH [coO c t v s,rdO l r]) fun x H=>x=(if(readE l t v s c r).2.e≠0 then .tup [evS ⟨0,0,0,0,0,0,0⟩,.int .i64 (readE l t v s c r).2.e]else .tup [evS (readE l t v s c r).1,.int .i64 0])/\H=(if(readE l t v s c r).2.e≠0 then bH [coO c t v s,rdO l (readE l t v s c r).2]else bH [coO (knowS c (readE l t v s c r).1) t v s,rdO l (readE l t v s c r).2]):=by
 have hv:=vrover_at c t v s l r.p r hl hp hc hn
 obtain⟨n1,n2,n3,n4⟩:=hn
 have hok:=readE_ok (l:=l) (r:=r) n1 n2 ⟨n3,by omega⟩ hc
 generalize placeK l s (kindF t (numF l (13*t-1) r).1) r.p (numF l (13*t-1) r).2=pl at hv
 generalize readE l t v s c r=q at hv hok ⊢
 obtain⟨e,r2⟩:=q
 obtain⟨ek,th,tx,at_,ev,ex,why⟩:=e
 have o1:1<=ek/\ek<=13:=hok.kind
 have o2:0<=th/\th<6:=⟨hok.thread.1,Int.lt_of_lt_of_le hok.thread.2 n1.2⟩
 have o3:0<=at_/\at_<32:=hok.at_
 dsimp only at hv ⊢
 refine Ze Tryz.func160 rfl fun g w=>?_
 refine Zr2 ?_
 refine Zc [0,1,2,3,16] [none,none,none,none,none] [] (vrAt_at l r) Zx3 Zx5 ?_
 refine Zc [0,1,2,3,15,20,17,19,16] [none,none,none,none,none,some (lrX 15 17 19 ek th tx at_ ev ex why),none,some (plO pl),some (rdO l r2)] [] (hv) Zx8 Zx15 ?_
 refine Zc [0,1,2,3,16] [none,none,none,none,none] [] (vwrong_at l r2) Zx3 Zx5 ?_
 refine Br.o (fun h1=>?_) (fun h1=>?_)
 ·have p1:r2.e≠0:=of_decide_eq_true h1
  rw[if_pos p1,if_pos p1]
  exact Zv (v':=.tup [evS ⟨0,0,0,0,0,0,0⟩,.int .i64 r2.e]) (Hl:=bH [coO c t v s,rdO l r2]) (c15 [15,16]) ⟨rfl,rfl⟩ Zx23
 ·have p1:¬r2.e≠0:=of_decide_eq_false h1
  rw[if_neg p1,if_neg p1]
  refine Zc (c15 [15]) (n15 [some (coO (knowS c ⟨ek,th,tx,at_,ev,ex,why⟩) t v s)]) [] (vknows_at c t v s ⟨ek,th,tx,at_,ev,ex,why⟩ o1 o2 o3) Zx14 Zx24 ?_
  exact Zv (v':=.tup [evS ⟨ek,th,tx,at_,ev,ex,why⟩,.int .i64 0]) (Hl:=bH [coO (knowS c ⟨ek,th,tx,at_,ev,ex,why⟩) t v s,rdO l r2]) (c15 [15,16]) ⟨rfl,rfl⟩ Zx23
end Go.Proofs.YtgdmlkgjpcnelaaGreatDoor
