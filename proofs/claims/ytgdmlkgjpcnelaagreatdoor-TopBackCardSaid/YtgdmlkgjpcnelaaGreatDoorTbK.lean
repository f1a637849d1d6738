import Derived.Test.YtgdmlkgjpcnelaaGreatDoorTbJ
namespace Go.Proofs.YtgdmlkgjpcnelaaGreatDoor
open Go Go.Vc
set_option linter.unusedVariables false
set_option maxRecDepth 100000
set_option maxHeartbeats 1000000
noncomputable def evG (ev:Nat->Evt):Nat->Nat->SV:=fun i j=>match j with
 |0=>.int .u8 (ev i).kind|1=>.int .i64 (ev i).thread|2=>.int .i64 (ev i).tx|3=>.int .i64 (ev i).at_|4=>.int .i64 (ev i).v|5=>.int .i64 (ev i).x|_=>.int .u8 (ev i).why
instance plEv (ev):PlainG (evG ev):=⟨fun τ i j=>by unfold evG;split<;>rfl,fun i j=>by unfold evG;split<;>rfl⟩
noncomputable def chkF (ev:Nat->Evt):Nat->Sh->Nat->Int × Int
 |0,_,k=>(k,0)
 |f+1,m,k=>if(nextS m (ev k)).1≠0 then((k:Int),(nextS m (ev k)).1)else chkF ev f (nextS m (ev k)).2 (k+1)
noncomputable abbrev ckA (m:Sh):Ob:=.row [.c (.int .i64 m.vars),.c (.int .i64 m.clock),.c (.int .i64 m.events),.c (.sl 18 0 13 m.nt (.k m.nt)),.c (.sl 19 0 2 m.ns (.k m.ns))] 227 0
theorem vcheckBad_at (t v s:Int)(ev:Nat->Evt)(n me:Nat)(c:Cap)(h:¬NewOk t v s):CallG Tryz.prog 15 [.agg [.int .i64 t,.int .i64 v,.int .i64 s,.sl 15 0 7 n c]] (bH [.rows n 7 (evG ev) 65 me]) fun r H=>r=.tup [.int .i64 0,.int .i64 1]/\H=bH [.rows n 7 (evG ev) 65 me]:=by
 refine Ze Tryz.func15 rfl fun g w=>?_
 refine Zc (c15 []) (n15 []) [] (vnewBad_at t v s h) Zx0 Zx12 ?_
 refine Zr1 ?_
 exact Zv (v':=.tup [.int .i64 0,.int .i64 1]) (Hl:=bH [.rows n 7 (evG ev) 65 me]) (c15 [15]) ⟨rfl,rfl⟩ Zx18
theorem vcheckBig_at (nt ns:Nat)(v:Int)(ev:Nat->Evt)(n me:Nat)(c:Cap)(h:NewOk nt v ns)(hn:¬n<=1048576):CallG Tryz.prog 15 [.agg [.int .i64 nt,.int .i64 v,.int .i64 ns,.sl 15 0 7 n c]] (bH [.rows n 7 (evG ev) 65 me]) fun r H=>r=.tup [.int .i64 0,.int .i64 40]/\H=bH [.rows n 7 (evG ev) 65 me]:=by
 refine Ze Tryz.func15 rfl fun g w=>?_
 refine Zc (c15 []) (n15 []) [ckA (sh0 v nt ns),.rows nt 13 (thG (sh0 v nt ns).th) 234 0,.rows ns 2 (stG (sh0 v nt ns).st) 225 0] (vnewOk_at nt ns v h) Zx0 Zx13 ?_
 repeat ((show Br _ _ _;first|refine Br.f rfl ?_|refine Br.t (decide_eq_true (by omega)) ?_))
 exact Zv (v':=.tup [.int .i64 0,.int .i64 40]) (Hl:=bH [.rows n 7 (evG ev) 65 me]) (c15 [15]) ⟨rfl,rfl⟩ Zx18
theorem vcheck_at (nt ns:Nat)(v:Int)(ev:Nat->Evt)(n me:Nat)(c:Cap)(h:NewOk nt v ns)(hn:n<=1048576)(hr:∀i,i<n->EvR (ev i)):CallG Tryz.prog 15 [.agg [.int .i64 nt,.int .i64 v,.int .i64 ns,.sl 15 0 7 n c]] (bH [.rows n 7 (evG ev) 65 me]) fun r H=>r=.tup [.int .i64 (chkF ev n (sh0 v nt ns) 0).1,.int .i64 (chkF ev n (sh0 v nt ns) 0).2]/\H=bH [.rows n 7 (evG ev) 65 me]:=by
 refine Ze Tryz.func15 rfl fun g w=>?_
 refine Zc (c15 []) (n15 []) [ckA (sh0 v nt ns),.rows nt 13 (thG (sh0 v nt ns).th) 234 0,.rows ns 2 (stG (sh0 v nt ns).st) 225 0] (vnewOk_at nt ns v h) Zx0 Zx13 ?_
 refine Zr15 ?_
 refine LoopG.by (α:=Nat × Sh) (fun p fr ds H=>p.1<=n/\Inv p.2/\chkF ev (n-p.1) p.2 p.1=chkF ev n (sh0 v nt ns) 0/\HasR [0,1,2,3,4,5,6,7,8,9,10,11,12,13,14,15,16,17,18,19] [(4,.ptr 17 0 0 0),(28,.sl 15 0 7 n c),(29,.int .i64 n),(30,.int .i64 (p.1:Int)),(1,.ptr 16 0 0 0)] fr/\ds=[]/\allLt [0,1,2,3,4,5,6,7,8,9,10,11,12,13,14,15,16,17,18,19] (len H)=true/\Fits (ren [0,1,2,3,4,5,6,7,8,9,10,11,12,13,14,15,16,17,18,19]) H (bH [.rows n 7 (evG ev) 65 me,.row [.c (.int .i64 nt),.c (.int .i64 v),.c (.int .i64 ns),.c (.sl 15 0 7 n c)] 31 0,ckA p.2,.rows p.2.nt 13 (thG p.2.th) 234 0,.rows p.2.ns 2 (stG p.2.st) 225 0]) 0) (fun p=>n-p.1) (0,sh0 v nt ns) ⟨Nat.zero_le _,sh0_inv h,rfl,hasR_cons rfl (hasR_cons rfl (hasR_cons rfl (hasR_cons rfl (hasR_cons rfl (hasR_nil _ _))))),rfl,rfl,fitB rfl ⟨.p,.r rfl,.r rfl,.p,.p,trivial⟩⟩ ?_
 rintro ⟨k,m⟩ fr ds H ⟨hk,hm,hc,hfr,rfl,hlt,hfit⟩
 dsimp only at hk hm hc hfr hfit
 refine T.ren [0,1,2,3,4,5,6,7,8,9,10,11,12,13,14,15,16,17,18,19] (vCode_ok cx_ok (by kernel_rfl) ?_) hfr hfit rfl hlt rfl rfl rfl (by kernel_rfl)
 refine Br.o (fun h1=>?_) (fun h1=>?_)
 rotate_left
 ·have p1:¬(k:Int)<n:=of_decide_eq_false h1
  obtain rfl:k=n:=by omega
  rw[Nat.sub_self]at hc
  exact Zv (v':=.tup [.int .i64 k,.int .i64 0]) (Hl:=bH [.rows k 7 (evG ev) 65 me]) (c15 [15]) ⟨by rw[<-hc];rfl,rfl⟩ Zx18
 have p1:(k:Int)<n:=of_decide_eq_true h1
 refine Zr0 ?_
 have he:=vnext_at m (ev k) (hr k (by omega)) hm.ok
 have hnx:=next_inv (ev k) hm
 have hc2:(if(nextS m (ev k)).1≠0 then((k:Int),(nextS m (ev k)).1)else chkF ev (n-(k+1)) (nextS m (ev k)).2 (k+1))=chkF ev n (sh0 v nt ns) 0:=by
  rw[<-hc,show n-k=(n-(k+1))+1 by omega];rfl
 cases hN:nextS m (ev k)with
 |mk c' m'=>
  rw[hN]at he hnx hc2
  dsimp only at he hnx hc2
  refine Zc (c15 [17,18,19]) (n15 [some (ckA m'),some (.rows m'.nt 13 (thG m'.th) 234 0),some (.rows m'.ns 2 (stG m'.st) 225 0)]) [] (he) Zx1 Zx13 ?_
  refine Br.o (fun h2=>?_) (fun h2=>?_)
  ·have h3:c'≠0:=of_decide_eq_true h2
   rw[if_pos h3]at hc2
   exact Zv (v':=.tup [.int .i64 k,.int .i64 c']) (Hl:=bH [.rows n 7 (evG ev) 65 me]) (c15 [15]) ⟨by rw[<-hc2],rfl⟩ Zx18
  ·have h3:¬c'≠0:=of_decide_eq_false h2
   rw[if_neg h3]at hc2
   refine Zr0 ?_
   exact Exists.intro (k+1,m') ⟨by show n-(k+1)<n-k;omega,by show k+1<=n;omega,hnx,hc2,hasR_cons rfl (hasR_cons rfl (hasR_cons rfl (hasR_cons rfl (hasR_cons rfl (hasR_nil _ _))))),rfl,rfl,fitB rfl ⟨.p,.r rfl,.r rfl,.p,.p,trivial⟩⟩
noncomputable abbrev ckN (m:Sh):Ob:=.row [.c (.int .i64 m.vars),.c (.int .i64 m.clock),.c (.int .i64 m.events),.c (.sl 17 0 13 m.nt (.k m.nt)),.c (.sl 18 0 2 m.ns (.k m.ns))] 227 0
theorem vcheckNilBad_at (t v s:Int)(h:¬NewOk t v s):CallG Tryz.prog 15 [.agg [.int .i64 t,.int .i64 v,.int .i64 s,.nils]] (bH []) fun r H=>r=.tup [.int .i64 0,.int .i64 1]/\H=bH []:=by
 refine Ze Tryz.func15 rfl fun g w=>?_
 refine Zc (c15 []) (n15 []) [] (vnewBad_at t v s h) Zx0 Zx12 ?_
 refine Zr1 ?_
 exact Zv (v':=.tup [.int .i64 0,.int .i64 1]) (Hl:=bH []) (c15 []) ⟨rfl,rfl⟩ Zx0
theorem vcheckNil_at (nt ns:Nat)(v:Int)(h:NewOk nt v ns):CallG Tryz.prog 15 [.agg [.int .i64 nt,.int .i64 v,.int .i64 ns,.nils]] (bH []) fun r H=>r=.tup [.int .i64 0,.int .i64 0]/\H=bH []:=by
 refine Ze Tryz.func15 rfl fun g w=>?_
 refine Zc (c15 []) (n15 []) [ckN (sh0 v nt ns),.rows nt 13 (thG (sh0 v nt ns).th) 234 0,.rows ns 2 (stG (sh0 v nt ns).st) 225 0] (vnewOk_at nt ns v h) Zx0 Zx13 ?_
 refine Zr2 ?_
 refine LoopG.rounds cx_ok 1 (by kernel_rfl) ?_
 refine Zr2 ?_
 exact Zv (v':=.tup [.int .i64 0,.int .i64 0]) (Hl:=bH []) (c15 []) ⟨rfl,rfl⟩ Zx0
end Go.Proofs.YtgdmlkgjpcnelaaGreatDoor
