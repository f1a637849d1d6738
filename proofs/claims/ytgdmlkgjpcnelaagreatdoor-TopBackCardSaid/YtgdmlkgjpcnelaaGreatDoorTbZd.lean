import Derived.Test.YtgdmlkgjpcnelaaGreatDoorTbZb
namespace Go.Proofs.YtgdmlkgjpcnelaaGreatDoor
open Go Go.Vc
set_option linter.unusedVariables false
set_option maxRecDepth 100000
set_option maxHeartbeats 2000000
noncomputable abbrev tr0:SV:=.agg [.int .i64 0,.int .i64 0,.int .i64 0,.nils]
theorem vdecBad_at (s:List UInt8)(hs:s.length<=99999)(he:(unwrapF s).2.2≠0):CallG Tryz.prog 18 [.str s] (bH []) fun x H=>x=.tup [tr0,.int .i64 ((unwrapF s).2.1:Int),.int .i64 (unwrapF s).2.2]/\H=bH []:=by
 have hc:=vunwrap_at s (by omega)
 generalize unwrapF s=u at hc he ⊢
 refine Ze Tryz.func18 rfl fun g w=>?_
 refine Zc [0,1,2,3] [none,none,none,none] [] (hc) Zx2 Zx4 ?_
 refine Br.t (decide_eq_true he) ?_
 exact Zv (v':=.tup [tr0,.int .i64 (u.2.1:Int),.int .i64 u.2.2]) (Hl:=bH []) (c15 []) ⟨rfl,rfl⟩ Zx0
theorem one7_ones (x:Evt):ones 1 7 (one7 x):=fun i j hi hj=>by
 obtain rfl:i=0:=by omega
 have:j=0\/j=1\/j=2\/j=3\/j=4\/j=5\/j=6:=by omega
 rcases this with rfl|rfl|rfl|rfl|rfl|rfl|rfl<;>rfl
theorem hd_p (l:List UInt8):(hd1 l).2.p<=l.length/\(hd2 l).2.p<=l.length/\(hd3 l).2.p<=l.length/\(hd4 l).2.p<=l.length:=by
 have p1:(hd1 l).2.p<=l.length:=sizeF_p (Nat.zero_le _)
 have p2:(hd2 l).2.p<=l.length:=sizeF_p p1
 have p3:(hd3 l).2.p<=l.length:=sizeF_p p2
 exact⟨p1,p2,p3,sizeF_p p3⟩
def DecQ (s l:List UInt8)(t v ns:Int)(es:List Evt)(r:Rs)(x:SV)(H:Hv):Prop:=
 if r.e≠0 then x=.tup [tr0,.int .i64 ((s.length:Int)-l.length-4+r.p),.int .i64 r.e]/\H=bH []else
 if es=[]then x=.tup [trV t v ns .nils,.int .i64 0,.int .i64 0]/\H=bH []else
 x=.tup [trV t v ns (.sl 15 0 7 es.length (.u 0)),.int .i64 0,.int .i64 0]/\H=bH [evsO es]
theorem decQ_bad {s l:List UInt8}{t v ns:Int}{es:List Evt}{r:Rs}(h:r.e≠0):DecQ s l t v ns es r (.tup [tr0,.int .i64 ((s.length:Int)-l.length-4+r.p),.int .i64 r.e]) (bH []):=by
 unfold DecQ;rw[if_pos h];exact⟨rfl,rfl⟩
theorem decQ_nil {s l:List UInt8}{t v ns:Int}{r:Rs}(h:¬r.e≠0):DecQ s l t v ns [] r (.tup [trV t v ns .nils,.int .i64 0,.int .i64 0]) (bH []):=by
 unfold DecQ;rw[if_neg h,if_pos rfl];exact⟨rfl,rfl⟩
theorem decQ_some {s l:List UInt8}{t v ns:Int}{es:List Evt}{r:Rs}(h:¬r.e≠0)(he:es≠[]):DecQ s l t v ns es r (.tup [trV t v ns (.sl 15 0 7 es.length (.u 0)),.int .i64 0,.int .i64 0]) (bH [evsO es]):=by
 unfold DecQ;rw[if_neg h,if_neg he];exact⟨rfl,rfl⟩
theorem vdecE0_at (s l:List UInt8)(pl0:Nat)(hs:s.length<=99999)(hu:unwrapF s=(l,pl0,0))(hl:l.length<=s.length)(a d many v:Int)(r1 r2 r3 r4:Rs)(e1:hd1 l=((a:Int),r1))(e2:hd2 l=(v,r2))(e3:hd3 l=((d:Int),r3))(e4:hd4 l=((many:Int),r4))(hz:a=0)(he:¬r4.e=0):CallG Tryz.prog 18 [.str s] (bH []) (DecQ s l (a:Int) v (d:Int) (evsF l).1 (lastF l)):=by
 have hc:=vunwrap_at s (by omega)
 rw[hu]at hc
 dsimp only at hc
 obtain⟨p1,p2,p3,p4⟩:=hd_p l
 have hv32:0<=v/\v<=32:=by have:0<=(hd2 l).1/\(hd2 l).1<=32:=numF_bd (by decide);rw[e2]at this;exact this
 have s1:=vsize_at l ⟨0,0⟩ 0 6 (by decide) (by omega) (Nat.zero_le _)
 have s2:=vsize_at l (hd1 l).2 1 32 (by decide) (by omega) p1
 have s3:=vsize_at l (hd2 l).2 1 (hd2 l).1 (by rw[e2];dsimp only;omega) (by omega) p2
 have s4:=vsize_at l (hd3 l).2 0 (if(hd1 l).1=0 then 0 else 1048576) (by split<;>decide) (by omega) p3
 have hev:evsF l=if(hd4 l).2.e=0 then decF l (hd1 l).1 (hd2 l).1 (hd3 l).1 (hd4 l).1.toNat co0 (sh0 (hd2 l).1 (hd1 l).1.toNat (hd3 l).1.toNat) (hd4 l).2 else([],(hd4 l).2):=rfl
 rw[show sizeF l 0 6 ⟨0,0⟩=hd1 l from rfl,e1]at s1
 rw[show sizeF l 1 32 (hd1 l).2=hd2 l from rfl,e1,e2]at s2
 rw[show sizeF l 1 (hd2 l).1 (hd2 l).2=hd3 l from rfl,e2,e3]at s3
 rw[show sizeF l 0 (if(hd1 l).1=0 then 0 else 1048576) (hd3 l).2=hd4 l from rfl,e1,e3,e4]at s4
 rw[e1,e2,e3,e4]at hev
 rw[e1]at p1
 rw[e2]at p2
 rw[e3]at p3
 rw[e4]at p4
 dsimp only at s1 s2 s3 s4 hev p1 p2 p3 p4
 rw[if_pos hz]at s4
 refine Ze Tryz.func18 rfl fun g w=>?_
 refine Zc [0,1,2,3] [none,none,none,none] [] (hc) Zx2 Zx4 ?_
 refine Zr2 ?_
 refine Zc [0,1,2,3] [none,none,none,none] [rdO l ⟨0,0⟩] (vnewReader_at l (by omega)) Zx2 Zx5 ?_
 refine Zr2 ?_
 refine Zc [0,1,2,3,17,16] [none,none,none,none,none,some (rdO l r1)] [] (s1) Zx7 Zx10 ?_
 refine Zc [0,1,2,3,17,16] [none,none,none,none,none,some (rdO l r2)] [] (s2) Zx7 Zx10 ?_
 refine Zc [0,1,2,3,17,16] [none,none,none,none,none,some (rdO l r3)] [] (s3) Zx7 Zx10 ?_
 refine Zr7 ?_
 refine Br.t (decide_eq_true hz) ?_
 refine Zc [0,1,2,3,17,16] [none,none,none,none,none,some (rdO l r4)] [] (s4) Zx7 Zx10 ?_
 refine Zr7 ?_
 refine Zc [0,1,2,3,16] [none,none,none,none,none] [] (vwrong_at l r4) Zx3 Zx5 ?_
 refine Br.f (decide_eq_false he) ?_
 have hend:=vend_at l r4 (by omega) p4
 have hq:evsF l=([],r4):=by rw[hev,if_neg he]
 have hlast:lastF l=endF l r4:=by unfold lastF;rw[hq]
 have hp9:(endF l r4).p<=l.length:=by have:=last_p l;rw[hlast]at this;exact this
 rw[hlast,hq]
 generalize endF l r4=r9 at hend hp9 ⊢
 dsimp only
 refine Zc [0,1,2,3,16] [none,none,none,none,some (rdO l r9)] [] (hend) Zx3 Zx5 ?_
 refine Zc [0,1,2,3,16] [none,none,none,none,none] [] (vwrong_at l r9) Zx3 Zx5 ?_
 refine Br.o (fun g9=>?_) (fun g9=>?_)
 ·have p9:r9.e≠0:=of_decide_eq_true g9
  conv=>whnf
  rw[if_neg p9]
  refine Zr0 ?_
  exact Zv (v':=.tup [tr0,.int .i64 ((s.length:Int)-l.length-4+r9.p),.int .i64 r9.e]) (Hl:=bH []) (c15 []) (decQ_bad p9) Zx0
 ·have p9:¬r9.e≠0:=of_decide_eq_false g9
  exact Zv (v':=.tup [trV a v d .nils,.int .i64 0,.int .i64 0]) (Hl:=bH []) (c15 []) (decQ_nil p9) Zx0
theorem vdecE1_at (s l:List UInt8)(pl0:Nat)(hs:s.length<=99999)(hu:unwrapF s=(l,pl0,0))(hl:l.length<=s.length)(a d many v:Int)(r1 r2 r3 r4:Rs)(e1:hd1 l=((a:Int),r1))(e2:hd2 l=(v,r2))(e3:hd3 l=((d:Int),r3))(e4:hd4 l=((many:Int),r4))(hz:¬a=0)(he:¬r4.e=0):CallG Tryz.prog 18 [.str s] (bH []) (DecQ s l (a:Int) v (d:Int) (evsF l).1 (lastF l)):=by
 have hc:=vunwrap_at s (by omega)
 rw[hu]at hc
 dsimp only at hc
 obtain⟨p1,p2,p3,p4⟩:=hd_p l
 have hv32:0<=v/\v<=32:=by have:0<=(hd2 l).1/\(hd2 l).1<=32:=numF_bd (by decide);rw[e2]at this;exact this
 have s1:=vsize_at l ⟨0,0⟩ 0 6 (by decide) (by omega) (Nat.zero_le _)
 have s2:=vsize_at l (hd1 l).2 1 32 (by decide) (by omega) p1
 have s3:=vsize_at l (hd2 l).2 1 (hd2 l).1 (by rw[e2];dsimp only;omega) (by omega) p2
 have s4:=vsize_at l (hd3 l).2 0 (if(hd1 l).1=0 then 0 else 1048576) (by split<;>decide) (by omega) p3
 have hev:evsF l=if(hd4 l).2.e=0 then decF l (hd1 l).1 (hd2 l).1 (hd3 l).1 (hd4 l).1.toNat co0 (sh0 (hd2 l).1 (hd1 l).1.toNat (hd3 l).1.toNat) (hd4 l).2 else([],(hd4 l).2):=rfl
 rw[show sizeF l 0 6 ⟨0,0⟩=hd1 l from rfl,e1]at s1
 rw[show sizeF l 1 32 (hd1 l).2=hd2 l from rfl,e1,e2]at s2
 rw[show sizeF l 1 (hd2 l).1 (hd2 l).2=hd3 l from rfl,e2,e3]at s3
 rw[show sizeF l 0 (if(hd1 l).1=0 then 0 else 1048576) (hd3 l).2=hd4 l from rfl,e1,e3,e4]at s4
 rw[e1,e2,e3,e4]at hev
 rw[e1]at p1
 rw[e2]at p2
 rw[e3]at p3
 rw[e4]at p4
 dsimp only at s1 s2 s3 s4 hev p1 p2 p3 p4
 rw[if_neg hz]at s4
 refine Ze Tryz.func18 rfl fun g w=>?_
 refine Zc [0,1,2,3] [none,none,none,none] [] (hc) Zx2 Zx4 ?_
 refine Zr2 ?_
 refine Zc [0,1,2,3] [none,none,none,none] [rdO l ⟨0,0⟩] (vnewReader_at l (by omega)) Zx2 Zx5 ?_
 refine Zr2 ?_
 refine Zc [0,1,2,3,17,16] [none,none,none,none,none,some (rdO l r1)] [] (s1) Zx7 Zx10 ?_
 refine Zc [0,1,2,3,17,16] [none,none,none,none,none,some (rdO l r2)] [] (s2) Zx7 Zx10 ?_
 refine Zc [0,1,2,3,17,16] [none,none,none,none,none,some (rdO l r3)] [] (s3) Zx7 Zx10 ?_
 refine Zr7 ?_
 refine Br.f (decide_eq_false hz) ?_
 refine Zc [0,1,2,3,17,16] [none,none,none,none,none,some (rdO l r4)] [] (s4) Zx7 Zx10 ?_
 refine Zr7 ?_
 refine Zc [0,1,2,3,16] [none,none,none,none,none] [] (vwrong_at l r4) Zx3 Zx5 ?_
 refine Br.f (decide_eq_false he) ?_
 have hend:=vend_at l r4 (by omega) p4
 have hq:evsF l=([],r4):=by rw[hev,if_neg he]
 have hlast:lastF l=endF l r4:=by unfold lastF;rw[hq]
 have hp9:(endF l r4).p<=l.length:=by have:=last_p l;rw[hlast]at this;exact this
 rw[hlast,hq]
 generalize endF l r4=r9 at hend hp9 ⊢
 dsimp only
 refine Zc [0,1,2,3,16] [none,none,none,none,some (rdO l r9)] [] (hend) Zx3 Zx5 ?_
 refine Zc [0,1,2,3,16] [none,none,none,none,none] [] (vwrong_at l r9) Zx3 Zx5 ?_
 refine Br.o (fun g9=>?_) (fun g9=>?_)
 ·have p9:r9.e≠0:=of_decide_eq_true g9
  conv=>whnf
  rw[if_neg p9]
  refine Zr0 ?_
  exact Zv (v':=.tup [tr0,.int .i64 ((s.length:Int)-l.length-4+r9.p),.int .i64 r9.e]) (Hl:=bH []) (c15 []) (decQ_bad p9) Zx0
 ·have p9:¬r9.e≠0:=of_decide_eq_false g9
  exact Zv (v':=.tup [trV a v d .nils,.int .i64 0,.int .i64 0]) (Hl:=bH []) (c15 []) (decQ_nil p9) Zx0
theorem vdecZ_at (s l:List UInt8)(pl0:Nat)(hs:s.length<=99999)(hu:unwrapF s=(l,pl0,0))(hl:l.length<=s.length)(nt ns:Nat)(many:Nat)(v:Int)(r1 r2 r3 r4:Rs)(e1:hd1 l=((nt:Int),r1))(e2:hd2 l=(v,r2))(e3:hd3 l=((ns:Int),r3))(e4:hd4 l=((many:Int),r4))(h:NewOk nt v ns)(ht:¬1<=(nt:Int))(hm:many=0)(he:r4.e=0):CallG Tryz.prog 18 [.str s] (bH []) (DecQ s l (nt:Int) v (ns:Int) (evsF l).1 (lastF l)):=by
 have hc:=vunwrap_at s (by omega)
 rw[hu]at hc
 dsimp only at hc
 obtain⟨p1,p2,p3,p4⟩:=hd_p l
 have hv32:0<=v/\v<=32:=by have:0<=(hd2 l).1/\(hd2 l).1<=32:=numF_bd (by decide);rw[e2]at this;exact this
 have s1:=vsize_at l ⟨0,0⟩ 0 6 (by decide) (by omega) (Nat.zero_le _)
 have s2:=vsize_at l (hd1 l).2 1 32 (by decide) (by omega) p1
 have s3:=vsize_at l (hd2 l).2 1 (hd2 l).1 (by rw[e2];dsimp only;omega) (by omega) p2
 have s4:=vsize_at l (hd3 l).2 0 (if(hd1 l).1=0 then 0 else 1048576) (by split<;>decide) (by omega) p3
 have hev:evsF l=if(hd4 l).2.e=0 then decF l (hd1 l).1 (hd2 l).1 (hd3 l).1 (hd4 l).1.toNat co0 (sh0 (hd2 l).1 (hd1 l).1.toNat (hd3 l).1.toNat) (hd4 l).2 else([],(hd4 l).2):=rfl
 rw[show sizeF l 0 6 ⟨0,0⟩=hd1 l from rfl,e1]at s1
 rw[show sizeF l 1 32 (hd1 l).2=hd2 l from rfl,e1,e2]at s2
 rw[show sizeF l 1 (hd2 l).1 (hd2 l).2=hd3 l from rfl,e2,e3]at s3
 rw[show sizeF l 0 (if(hd1 l).1=0 then 0 else 1048576) (hd3 l).2=hd4 l from rfl,e1,e3,e4]at s4
 rw[e1,e2,e3,e4]at hev
 rw[e1]at p1
 rw[e2]at p2
 rw[e3]at p3
 rw[e4]at p4
 dsimp only at s1 s2 s3 s4 hev p1 p2 p3 p4
 rw[if_pos (show(nt:Int)=0 by omega)]at s4
 refine Ze Tryz.func18 rfl fun g w=>?_
 refine Zc [0,1,2,3] [none,none,none,none] [] (hc) Zx2 Zx4 ?_
 refine Zr2 ?_
 refine Zc [0,1,2,3] [none,none,none,none] [rdO l ⟨0,0⟩] (vnewReader_at l (by omega)) Zx2 Zx5 ?_
 refine Zr2 ?_
 refine Zc [0,1,2,3,17,16] [none,none,none,none,none,some (rdO l r1)] [] (s1) Zx7 Zx10 ?_
 refine Zc [0,1,2,3,17,16] [none,none,none,none,none,some (rdO l r2)] [] (s2) Zx7 Zx10 ?_
 refine Zc [0,1,2,3,17,16] [none,none,none,none,none,some (rdO l r3)] [] (s3) Zx7 Zx10 ?_
 refine Zr7 ?_
 refine Br.t (decide_eq_true (show(nt:Int)=0 by omega)) ?_
 refine Zc [0,1,2,3,17,16] [none,none,none,none,none,some (rdO l r4)] [] (s4) Zx7 Zx10 ?_
 refine Zr7 ?_
 refine Zc [0,1,2,3,16] [none,none,none,none,none] [] (vwrong_at l r4) Zx3 Zx5 ?_
 refine Br.t (decide_eq_true he) ?_
 refine Zc [0,1,2,3,16] [none,none,none,none,none] [rcO 16,trO nt v ns .nils,inO many] (vevents_at l r4 nt v ns many) Zx3 Zx39 ?_
 refine RangeG.mk (T.ren [0,1,2,3,4,5,6,7,8,9,10,11,12,13,14,15,16,17,18,19,20] (l:=frD s l) (Hl:=bH [trO nt v ns .nils,rdO l r4,rcO 16,rcO 16,trO nt v ns .nils,inO many]) ?_ (hasR_cons rfl (hasR_cons rfl (hasR_cons rfl (hasR_cons rfl (hasR_cons rfl (hasR_nil _ _)))))) (fitB rfl ⟨.r rfl,.r rfl,.r rfl,.r rfl,.r rfl,.r rfl,trivial⟩) rfl rfl rfl rfl rfl (by kernel_rfl))
 refine(RangeG.by cx_ok rfl 18 Tryz.func18 rfl (by kernel_rfl) rfl ?_).ex
 refine Sd.mk (by kernel_rfl) ?_
 refine CallG.mono (vevsZ_at _ _ s nt ns v many l r4 h ht hm) ?_
 rintro _ _ rfl
 have hev0:evsF l=([],r4):=by rw[hev,if_pos he,hm];rfl
 have hend:=vend_at l r4 (by omega) p4
 have hq:evsF l=([],r4):=hev0
 have hlast:lastF l=endF l r4:=by unfold lastF;rw[hq]
 have hp9:(endF l r4).p<=l.length:=by have:=last_p l;rw[hlast]at this;exact this
 rw[hlast,hq]
 generalize endF l r4=r9 at hend hp9 ⊢
 dsimp only
 refine Zc [0,1,2,3,16] [none,none,none,none,some (rdO l r9)] [] (hend) Zx3 Zx5 ?_
 refine Zc [0,1,2,3,16] [none,none,none,none,none] [] (vwrong_at l r9) Zx3 Zx5 ?_
 refine Br.o (fun g9=>?_) (fun g9=>?_)
 ·have p9:r9.e≠0:=of_decide_eq_true g9
  conv=>whnf
  rw[if_neg p9]
  refine Zr0 ?_
  exact Zv (v':=.tup [tr0,.int .i64 ((s.length:Int)-l.length-4+r9.p),.int .i64 r9.e]) (Hl:=bH []) (c15 []) (decQ_bad p9) Zx0
 ·have p9:¬r9.e≠0:=of_decide_eq_false g9
  exact Zv (v':=.tup [trV nt v ns .nils,.int .i64 0,.int .i64 0]) (Hl:=bH []) (c15 []) (decQ_nil p9) Zx0
theorem vdecO_at (s l:List UInt8)(pl0:Nat)(hs:s.length<=99999)(hu:unwrapF s=(l,pl0,0))(hl:l.length<=s.length)(nt ns:Nat)(many:Nat)(v:Int)(r1 r2 r3 r4:Rs)(e1:hd1 l=((nt:Int),r1))(e2:hd2 l=(v,r2))(e3:hd3 l=((ns:Int),r3))(e4:hd4 l=((many:Int),r4))(h:NewOk nt v ns)(ht:1<=nt)(hm:many=0)(he:r4.e=0):CallG Tryz.prog 18 [.str s] (bH []) (DecQ s l (nt:Int) v (ns:Int) (evsF l).1 (lastF l)):=by
 have hc:=vunwrap_at s (by omega)
 rw[hu]at hc
 dsimp only at hc
 obtain⟨p1,p2,p3,p4⟩:=hd_p l
 have hv32:0<=v/\v<=32:=by have:0<=(hd2 l).1/\(hd2 l).1<=32:=numF_bd (by decide);rw[e2]at this;exact this
 have s1:=vsize_at l ⟨0,0⟩ 0 6 (by decide) (by omega) (Nat.zero_le _)
 have s2:=vsize_at l (hd1 l).2 1 32 (by decide) (by omega) p1
 have s3:=vsize_at l (hd2 l).2 1 (hd2 l).1 (by rw[e2];dsimp only;omega) (by omega) p2
 have s4:=vsize_at l (hd3 l).2 0 (if(hd1 l).1=0 then 0 else 1048576) (by split<;>decide) (by omega) p3
 have hev:evsF l=if(hd4 l).2.e=0 then decF l (hd1 l).1 (hd2 l).1 (hd3 l).1 (hd4 l).1.toNat co0 (sh0 (hd2 l).1 (hd1 l).1.toNat (hd3 l).1.toNat) (hd4 l).2 else([],(hd4 l).2):=rfl
 rw[show sizeF l 0 6 ⟨0,0⟩=hd1 l from rfl,e1]at s1
 rw[show sizeF l 1 32 (hd1 l).2=hd2 l from rfl,e1,e2]at s2
 rw[show sizeF l 1 (hd2 l).1 (hd2 l).2=hd3 l from rfl,e2,e3]at s3
 rw[show sizeF l 0 (if(hd1 l).1=0 then 0 else 1048576) (hd3 l).2=hd4 l from rfl,e1,e3,e4]at s4
 rw[e1,e2,e3,e4]at hev
 rw[e1]at p1
 rw[e2]at p2
 rw[e3]at p3
 rw[e4]at p4
 dsimp only at s1 s2 s3 s4 hev p1 p2 p3 p4
 rw[if_neg (show ¬(nt:Int)=0 by omega)]at s4
 refine Ze Tryz.func18 rfl fun g w=>?_
 refine Zc [0,1,2,3] [none,none,none,none] [] (hc) Zx2 Zx4 ?_
 refine Zr2 ?_
 refine Zc [0,1,2,3] [none,none,none,none] [rdO l ⟨0,0⟩] (vnewReader_at l (by omega)) Zx2 Zx5 ?_
 refine Zr2 ?_
 refine Zc [0,1,2,3,17,16] [none,none,none,none,none,some (rdO l r1)] [] (s1) Zx7 Zx10 ?_
 refine Zc [0,1,2,3,17,16] [none,none,none,none,none,some (rdO l r2)] [] (s2) Zx7 Zx10 ?_
 refine Zc [0,1,2,3,17,16] [none,none,none,none,none,some (rdO l r3)] [] (s3) Zx7 Zx10 ?_
 refine Zr7 ?_
 refine Br.f (decide_eq_false (show ¬(nt:Int)=0 by omega)) ?_
 refine Zc [0,1,2,3,17,16] [none,none,none,none,none,some (rdO l r4)] [] (s4) Zx7 Zx10 ?_
 refine Zr7 ?_
 refine Zc [0,1,2,3,16] [none,none,none,none,none] [] (vwrong_at l r4) Zx3 Zx5 ?_
 refine Br.t (decide_eq_true he) ?_
 refine Zc [0,1,2,3,16] [none,none,none,none,none] [rcO 16,trO nt v ns .nils,inO many] (vevents_at l r4 nt v ns many) Zx3 Zx39 ?_
 refine RangeG.mk (T.ren [0,1,2,3,4,5,6,7,8,9,10,11,12,13,14,15,16,17,18,19,20] (l:=frD s l) (Hl:=bH [trO nt v ns .nils,rdO l r4,rcO 16,rcO 16,trO nt v ns .nils,inO many]) ?_ (hasR_cons rfl (hasR_cons rfl (hasR_cons rfl (hasR_cons rfl (hasR_cons rfl (hasR_nil _ _)))))) (fitB rfl ⟨.r rfl,.r rfl,.r rfl,.r rfl,.r rfl,.r rfl,trivial⟩) rfl rfl rfl rfl rfl (by kernel_rfl))
 refine(RangeG.by cx_ok rfl 18 Tryz.func18 rfl (by kernel_rfl) rfl ?_).ex
 refine Sd.mk (by kernel_rfl) ?_
 refine CallG.mono (vevs0_at _ _ s nt ns v many l r4 h ht hm) ?_
 rintro _ _ rfl
 have hev0:evsF l=([],r4):=by rw[hev,if_pos he,hm];rfl
 have hend:=vend_at l r4 (by omega) p4
 have hq:evsF l=([],r4):=hev0
 have hlast:lastF l=endF l r4:=by unfold lastF;rw[hq]
 have hp9:(endF l r4).p<=l.length:=by have:=last_p l;rw[hlast]at this;exact this
 rw[hlast,hq]
 generalize endF l r4=r9 at hend hp9 ⊢
 dsimp only
 refine Zc [0,1,2,3,16] [none,none,none,none,some (rdO l r9)] [] (hend) Zx3 Zx5 ?_
 refine Zc [0,1,2,3,16] [none,none,none,none,none] [] (vwrong_at l r9) Zx3 Zx5 ?_
 refine Br.o (fun g9=>?_) (fun g9=>?_)
 ·have p9:r9.e≠0:=of_decide_eq_true g9
  conv=>whnf
  rw[if_neg p9]
  refine Zr0 ?_
  exact Zv (v':=.tup [tr0,.int .i64 ((s.length:Int)-l.length-4+r9.p),.int .i64 r9.e]) (Hl:=bH []) (c15 []) (decQ_bad p9) Zx0
 ·have p9:¬r9.e≠0:=of_decide_eq_false g9
  exact Zv (v':=.tup [trV nt v ns .nils,.int .i64 0,.int .i64 0]) (Hl:=bH []) (c15 []) (decQ_nil p9) Zx0
theorem vdecC_at (s l:List UInt8)(pl0:Nat)(hs:s.length<=99999)(hu:unwrapF s=(l,pl0,0))(hl:l.length<=s.length)(nt ns:Nat)(many:Nat)(v:Int)(r1 r2 r3 r4:Rs)(e1:hd1 l=((nt:Int),r1))(e2:hd2 l=(v,r2))(e3:hd3 l=((ns:Int),r3))(e4:hd4 l=((many:Int),r4))(h:NewOk nt v ns)(ht:1<=nt)(hm:1<=many/\many<=1048576)(he:r4.e=0):CallG Tryz.prog 18 [.str s] (bH []) (DecQ s l (nt:Int) v (ns:Int) (evsF l).1 (lastF l)):=by
 have hc:=vunwrap_at s (by omega)
 rw[hu]at hc
 dsimp only at hc
 obtain⟨p1,p2,p3,p4⟩:=hd_p l
 have hv32:0<=v/\v<=32:=by have:0<=(hd2 l).1/\(hd2 l).1<=32:=numF_bd (by decide);rw[e2]at this;exact this
 have s1:=vsize_at l ⟨0,0⟩ 0 6 (by decide) (by omega) (Nat.zero_le _)
 have s2:=vsize_at l (hd1 l).2 1 32 (by decide) (by omega) p1
 have s3:=vsize_at l (hd2 l).2 1 (hd2 l).1 (by rw[e2];dsimp only;omega) (by omega) p2
 have s4:=vsize_at l (hd3 l).2 0 (if(hd1 l).1=0 then 0 else 1048576) (by split<;>decide) (by omega) p3
 have hev:evsF l=if(hd4 l).2.e=0 then decF l (hd1 l).1 (hd2 l).1 (hd3 l).1 (hd4 l).1.toNat co0 (sh0 (hd2 l).1 (hd1 l).1.toNat (hd3 l).1.toNat) (hd4 l).2 else([],(hd4 l).2):=rfl
 rw[show sizeF l 0 6 ⟨0,0⟩=hd1 l from rfl,e1]at s1
 rw[show sizeF l 1 32 (hd1 l).2=hd2 l from rfl,e1,e2]at s2
 rw[show sizeF l 1 (hd2 l).1 (hd2 l).2=hd3 l from rfl,e2,e3]at s3
 rw[show sizeF l 0 (if(hd1 l).1=0 then 0 else 1048576) (hd3 l).2=hd4 l from rfl,e1,e3,e4]at s4
 rw[e1,e2,e3,e4]at hev
 rw[e1]at p1
 rw[e2]at p2
 rw[e3]at p3
 rw[e4]at p4
 dsimp only at s1 s2 s3 s4 hev p1 p2 p3 p4
 rw[if_neg (show ¬(nt:Int)=0 by omega)]at s4
 refine Ze Tryz.func18 rfl fun g w=>?_
 refine Zc [0,1,2,3] [none,none,none,none] [] (hc) Zx2 Zx4 ?_
 refine Zr2 ?_
 refine Zc [0,1,2,3] [none,none,none,none] [rdO l ⟨0,0⟩] (vnewReader_at l (by omega)) Zx2 Zx5 ?_
 refine Zr2 ?_
 refine Zc [0,1,2,3,17,16] [none,none,none,none,none,some (rdO l r1)] [] (s1) Zx7 Zx10 ?_
 refine Zc [0,1,2,3,17,16] [none,none,none,none,none,some (rdO l r2)] [] (s2) Zx7 Zx10 ?_
 refine Zc [0,1,2,3,17,16] [none,none,none,none,none,some (rdO l r3)] [] (s3) Zx7 Zx10 ?_
 refine Zr7 ?_
 refine Br.f (decide_eq_false (show ¬(nt:Int)=0 by omega)) ?_
 refine Zc [0,1,2,3,17,16] [none,none,none,none,none,some (rdO l r4)] [] (s4) Zx7 Zx10 ?_
 refine Zr7 ?_
 refine Zc [0,1,2,3,16] [none,none,none,none,none] [] (vwrong_at l r4) Zx3 Zx5 ?_
 refine Br.t (decide_eq_true he) ?_
 refine Zc [0,1,2,3,16] [none,none,none,none,none] [rcO 16,trO nt v ns .nils,inO many] (vevents_at l r4 nt v ns many) Zx3 Zx39 ?_
 refine RangeG.mk (T.ren [0,1,2,3,4,5,6,7,8,9,10,11,12,13,14,15,16,17,18,19,20] (l:=frD s l) (Hl:=bH [trO nt v ns .nils,rdO l r4,rcO 16,rcO 16,trO nt v ns .nils,inO many]) ?_ (hasR_cons rfl (hasR_cons rfl (hasR_cons rfl (hasR_cons rfl (hasR_cons rfl (hasR_nil _ _)))))) (fitB rfl ⟨.r rfl,.r rfl,.r rfl,.r rfl,.r rfl,.r rfl,trivial⟩) rfl rfl rfl rfl rfl (by kernel_rfl))
 refine(RangeG.by cx_ok rfl 18 Tryz.func18 rfl (by kernel_rfl) rfl ?_).ex
 refine Sd.mk (by kernel_rfl) ?_
 refine CallG.mono (vevs_at _ _ s nt ns v many l r4 (by omega) p4 h ht hm ?_ ?_) ?_
 ·intro c m r x
  refine YieldG.by cx_ok Tryz.func18 rfl rfl rfl rfl fun ρ g w=>vCode_ok cx_ok (by kernel_rfl) ?_
  refine vCode_ok cx_ok (by kernel_rfl) ?_
  refine Zr2 ?_
  conv=>whnf
  refine Sd.mk ⟨by decide,one7_ones x⟩ ?_
  exact⟨rfl,rfl⟩
 ·intro es c m r x hes hlen
  refine YieldG.by cx_ok Tryz.func18 rfl rfl rfl rfl fun ρ g w=>vCode_ok cx_ok (by kernel_rfl) ?_
  refine vCode_ok cx_ok (by kernel_rfl) ?_
  conv=>whnf
  refine Sd.mk ⟨by omega,one7_ones x⟩ ?_
  refine Zr3 ?_
  exact⟨rfl,rfl⟩
 ·rintro _ _ ⟨es,r,hd,hsh⟩
  have hrp:r.p<=l.length:=by have:=decF_p (t:=nt) (v:=v) (s:=ns) many co0 (sh0 v nt ns) r4 p4;rw[hd]at this;exact this
  have hev0:evsF l=(es,r):=by rw[hev,if_pos he,Int.toNat_natCast,Int.toNat_natCast,Int.toNat_natCast,hd]
  rcases hsh with⟨hes,rfl⟩|⟨hes,rfl⟩
  ·subst hes
   have hend:=vend_at l r (by omega) hrp
   have hq:evsF l=([],r):=hev0
   have hlast:lastF l=endF l r:=by unfold lastF;rw[hq]
   have hp9:(endF l r).p<=l.length:=by have:=last_p l;rw[hlast]at this;exact this
   rw[hlast,hq]
   generalize endF l r=r9 at hend hp9 ⊢
   dsimp only
   refine Zc [0,1,2,3,16] [none,none,none,none,some (rdO l r9)] [] (hend) Zx3 Zx5 ?_
   refine Zc [0,1,2,3,16] [none,none,none,none,none] [] (vwrong_at l r9) Zx3 Zx5 ?_
   refine Br.o (fun g9=>?_) (fun g9=>?_)
   ·have p9:r9.e≠0:=of_decide_eq_true g9
    conv=>whnf
    rw[if_neg p9]
    refine Zr0 ?_
    exact Zv (v':=.tup [tr0,.int .i64 ((s.length:Int)-l.length-4+r9.p),.int .i64 r9.e]) (Hl:=bH []) (c15 []) (decQ_bad p9) Zx0
   ·have p9:¬r9.e≠0:=of_decide_eq_false g9
    exact Zv (v':=.tup [trV nt v ns .nils,.int .i64 0,.int .i64 0]) (Hl:=bH []) (c15 []) (decQ_nil p9) Zx0
  ·skip
   have hend:=vend_at l r (by omega) hrp
   have hq:evsF l=(es,r):=hev0
   have hlast:lastF l=endF l r:=by unfold lastF;rw[hq]
   have hp9:(endF l r).p<=l.length:=by have:=last_p l;rw[hlast]at this;exact this
   rw[hlast,hq]
   generalize endF l r=r9 at hend hp9 ⊢
   dsimp only
   refine Zc [0,1,2,3,16] [none,none,none,none,some (rdO l r9)] [] (hend) Zx3 Zx5 ?_
   refine Zc [0,1,2,3,16] [none,none,none,none,none] [] (vwrong_at l r9) Zx3 Zx5 ?_
   refine Br.o (fun g9=>?_) (fun g9=>?_)
   ·have p9:r9.e≠0:=of_decide_eq_true g9
    conv=>whnf
    rw[if_neg p9]
    refine Zr0 ?_
    exact Zv (v':=.tup [tr0,.int .i64 ((s.length:Int)-l.length-4+r9.p),.int .i64 r9.e]) (Hl:=bH []) (c15 []) (decQ_bad p9) Zx0
   ·have p9:¬r9.e≠0:=of_decide_eq_false g9
    exact Zv (v':=.tup [trV nt v ns (.sl 15 0 7 es.length (.u 0)),.int .i64 0,.int .i64 0]) (Hl:=bH [evsO es]) (c15 [23]) (decQ_some p9 hes) Zx18
theorem hd_ok {l:List UInt8}(h4:(hd4 l).2.e=0):NewOk (hd1 l).1 (hd2 l).1 (hd3 l).1/\0<=(hd4 l).1/\(hd4 l).1<=1048576/\((hd1 l).1=0->(hd4 l).1=0):=by
 have p1:(hd1 l).2.p<=l.length:=sizeF_p (Nat.zero_le _)
 have p2:(hd2 l).2.p<=l.length:=sizeF_p p1
 have p3:(hd3 l).2.p<=l.length:=sizeF_p p2
 have hm:(0:Int)<=(if(hd1 l).1=0 then 0 else 1048576):=by split<;>decide
 obtain⟨d1,d2,d3,d4,d5,d6⟩:=sizeF_back (least:=0) (most:=if(hd1 l).1=0 then 0 else 1048576) h4 p3 hm
 have hv0:0<=(hd2 l).1:=by unfold hd2 sizeF;exact(numF_bd (by decide)).1
 obtain⟨c1,c2,c3,c4,c5,c6⟩:=sizeF_back (least:=1) (most:=(hd2 l).1) d1 p2 hv0
 obtain⟨b1,b2,b3,b4,b5,b6⟩:=sizeF_back (least:=1) (most:=32) c1 p1 (by decide)
 obtain⟨a1,a2,a3,a4,a5,a6⟩:=sizeF_back (least:=0) (most:=6) (r:=⟨0,0⟩) b1 (Nat.zero_le _) (by decide)
 have a5:0<=(hd1 l).1:=a5
 have a6:(hd1 l).1<=6:=a6
 have b4:1<=(hd2 l).1:=b4
 have b6:(hd2 l).1<=32:=b6
 have c4:1<=(hd3 l).1:=c4
 have c6:(hd3 l).1<=(hd2 l).1:=c6
 have d5:0<=(hd4 l).1:=d5
 have d6:(hd4 l).1<=(if(hd1 l).1=0 then 0 else 1048576):=d6
 refine⟨⟨⟨a5,a6⟩,⟨b4,b6⟩,c4,c6⟩,d5,?_,fun q=>?_⟩
 ·split at d6<;>omega
 ·rw[if_pos q]at d6;omega
theorem vdec_at (s:List UInt8)(hs:s.length<=99999)(hu:(unwrapF s).2.2=0):CallG Tryz.prog 18 [.str s] (bH []) (DecQ s (unwrapF s).1 (hd1 (unwrapF s).1).1 (hd2 (unwrapF s).1).1 (hd3 (unwrapF s).1).1 (evsF (unwrapF s).1).1 (lastF (unwrapF s).1)):=by
 have hb:=unwrap_back hu
 have hu2:unwrapF s=((unwrapF s).1,(unwrapF s).2.1,0):=by rw[<-hu]
 generalize (unwrapF s).1=l at hb hu2 ⊢
 generalize (unwrapF s).2.1=pl0 at hu2
 have hl:l.length<=s.length:=by omega
 have hok:=hd_ok (l:=l)
 cases e1:hd1 l with
 |mk a r1=>
 cases e2:hd2 l with
 |mk b r2=>
 cases e3:hd3 l with
 |mk d r3=>
 cases e4:hd4 l with
 |mk m r4=>
 rw[e1,e2,e3,e4]at hok
 dsimp only at hok ⊢
 by_cases he:r4.e=0
 ·obtain⟨⟨h1,h2,h3,h4⟩,h5,h6,h7⟩:=hok he
  obtain⟨nt,rfl⟩:∃n:Nat,a=n:=⟨a.toNat,by omega⟩
  obtain⟨ns,rfl⟩:∃n:Nat,d=n:=⟨d.toNat,by omega⟩
  obtain⟨many,rfl⟩:∃n:Nat,m=n:=⟨m.toNat,by omega⟩
  by_cases ht:1<=(nt:Int)
  ·by_cases hm:many=0
   ·exact vdecO_at s l pl0 hs hu2 hl nt ns many b r1 r2 r3 r4 e1 e2 e3 e4 ⟨h1,h2,h3,h4⟩ (by omega) hm he
   ·exact vdecC_at s l pl0 hs hu2 hl nt ns many b r1 r2 r3 r4 e1 e2 e3 e4 ⟨h1,h2,h3,h4⟩ (by omega) ⟨by omega,by omega⟩ he
  ·exact vdecZ_at s l pl0 hs hu2 hl nt ns many b r1 r2 r3 r4 e1 e2 e3 e4 ⟨h1,h2,h3,h4⟩ ht (by have:=h7 (by omega);omega) he
 ·by_cases hz:a=0
  ·exact vdecE0_at s l pl0 hs hu2 hl a d m b r1 r2 r3 r4 e1 e2 e3 e4 hz he
  ·exact vdecE1_at s l pl0 hs hu2 hl a d m b r1 r2 r3 r4 e1 e2 e3 e4 hz he
end Go.Proofs.YtgdmlkgjpcnelaaGreatDoor
