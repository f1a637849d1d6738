/-  -/
import Derived.Test.YtgdmlkgjpcnelaaGreatDoorTbZa
namespace Go.Proofs.YtgdmlkgjpcnelaaGreatDoor
open Go Go.Vc
set_option linter.unusedVariables false
set_option maxRecDepth 100000
set_option maxHeartbeats 1000000
theorem vsize_at (l:List UInt8)(r:Rs)(least most:Int)(hm:0<=most/\most<=1099511627776)(hl:l.length<=10000000)(hp:r.p<=l.length):CallG Tryz.prog 67 [.int .i64 least,.int .i64 most,.ptr 4 0 0 0] (z4++[rcO 5,rdO l r]) fun v H=>v=.int .i64 (sizeF l least most r).1/\H=z4++[rcO 5,rdO l (sizeF l least most r).2]:=by
 have hc:=vrNum_at l r most hl hp
 have hb:=numF_bd (l:=l) (r:=r) hm.1
 unfold sizeF
 generalize numF l most r=q at hb hc ⊢
 have hf:=vfail_at l q.2 r.p 20 (by decide)
 generalize failV r.p 20 q.2=fx at hf
 dsimp only
 refine Ze Tryz.func67 rfl fun g w=>?_
 refine Zc [0,1,2,3,5] [none,none,none,none,none] [] (vrAt_at l r) Zx3 Zx5 ?_
 refine Zr0 ?_
 refine Zc [0,1,2,3,5] [none,none,none,none,some (rdO l q.2)] [] (hc) Zx3 Zx5 ?_
 refine Zr7 ?_
 refine Br.o (fun h1=>?_) (fun h1=>?_)
 ·have p1:q.2.e=0:=of_decide_eq_true h1
  refine Zr3 ?_
  refine Br.o (fun h2=>?_) (fun h2=>?_)
  ·have p2:q.1<least:=of_decide_eq_true h2
   rw[if_pos ⟨p1,p2⟩]
   generalize failF r.p 20 q.2=r3 at hf ⊢
   refine Zc [0,1,2,3,5] [none,none,none,none,some (rdO l r3)] [] (hf) Zx3 Zx5 ?_
   refine Zr0 ?_
   exact Zv (v':=.int .i64 q.1) (Hl:=z4++[rcO 5,rdO l r3]) (c4 [4,5]) ⟨rfl,rfl⟩ Zx7
  ·have p2:¬q.1<least:=of_decide_eq_false h2
   rw[if_neg (fun k=>p2 k.2)]
   refine Zr0 ?_
   exact Zv (v':=.int .i64 q.1) (Hl:=z4++[rcO 5,rdO l q.2]) (c4 [4,5]) ⟨rfl,rfl⟩ Zx7
 ·have p1:¬q.2.e=0:=of_decide_eq_false h1
  rw[if_neg (fun k=>p1 k.1)]
  refine Zr3 ?_
  exact Zv (v':=.int .i64 q.1) (Hl:=z4++[rcO 5,rdO l q.2]) (c4 [4,5]) ⟨rfl,rfl⟩ Zx7
noncomputable abbrev trO (t v s:Int)(x:SV):Ob:=.row [.c (.int .i64 t),.c (.int .i64 v),.c (.int .i64 s),.c x] 31 0
noncomputable abbrev inO (n:Int):Ob:=.row [.c (.int .i64 n)] 3 0
theorem vevents_at (l:List UInt8)(r:Rs)(t v s n:Int):CallG Tryz.prog 72 [.ptr 4 0 0 0,trV t v s .nils,.int .i64 n] (z4++[rdO l r]) fun x H=>x=.fn 159 [] [.ptr 6 0 0 0,.ptr 7 0 0 0,.ptr 5 0 0 0]/\H=z4++[rdO l r,rcO 4,trO t v s .nils,inO n]:=by
 refine Ze Tryz.func72 rfl fun g w=>?_
 exact Zv (v':=.fn 159 [] [.ptr 6 0 0 0,.ptr 7 0 0 0,.ptr 5 0 0 0]) (Hl:=z4++[rdO l r,rcO 4,trO t v s .nils,inO n]) (c4 [4,5,6,7]) ⟨rfl,rfl⟩ ⟨trivial,trivial,trivial,trivial,.r rfl,.r rfl,.r rfl,.r rfl,trivial⟩
theorem vmayF_at (e:Evt)(t v s:Int)(hr:EvR e)(h:¬MayP e t v s):CallG Tryz.prog 17 [evS e,.int .i64 t,.int .i64 v,.int .i64 s] (bH []) fun r H=>r=.bool false/\H=bH []:=by
 have:=vmay_at e t v s hr
 rw[decide_eq_false h]at this
 exact this
theorem vcoNewBad_at (t v s:Int)(h:¬1<=t):CallG Tryz.prog 58 [.int .i64 t,.int .i64 v,.int .i64 s] (bH []) fun r H=>r=.tup [.nilp,.int .i64 1]/\H=bH []:=by
 refine Ze Tryz.func58 rfl fun g w=>?_
 refine Zc (c15 []) (n15 []) [] (vmayF_at ⟨12,0,0,0,0,0,0⟩ t v s ⟨by decide,by decide⟩ (fun q=>h q.1.1)) Zx0 Zx12 ?_
 refine Zr1 ?_
 exact Zv (v':=.tup [.nilp,.int .i64 1]) (Hl:=bH []) (c15 []) ⟨rfl,rfl⟩ Zx0
end Go.Proofs.YtgdmlkgjpcnelaaGreatDoor
namespace Go.Proofs.YtgdmlkgjpcnelaaGreatDoor
open Go Go.Vc
set_option linter.unusedVariables false
set_option maxRecDepth 100000
set_option maxHeartbeats 2000000
theorem CallG.mono {P:Program}{f:FuncId}{args:List SV}{H:Hv}{K K':SV->Hv->Prop}(h:CallG P f args H K)(hk:∀v H,K v H->K' v H):CallG P f args H K':=fun g w us ho hg hr=>by
 rcases h g w us ho hg hr with⟨h1,h2⟩|⟨u,w',h1,v,H',g',h2,h3⟩
 ·exact .inl ⟨h1,h2.mono fun e w' ⟨u,e1,v,H',g',k,r⟩=>⟨u,e1,v,H',g',hk _ _ k,r⟩⟩
 ·exact .inr ⟨u,w',h1,v,H',g',hk _ _ h2,h3⟩
theorem roundIn_mono {F:Fence}{d:Nat}{P:Program}{b:Nat}{fn:FuncId}{tmps:Array Value}{x y:Code}{w:World}{Q Q':Ending->World->Prop}(h:RoundIn F d P b fn tmps x y w Q)(hq:∀e w,Q e w->Q' e w):RoundIn F d P b fn tmps x y w Q':=h.mono hq
theorem YieldG.mono {P:Program}{l:Nat}{args:List SV}{H:Hv}{K K':SV->Hv->Prop}(h:YieldG P l args H K)(hk:∀v H,K v H->K' v H):YieldG P l args H K':=fun g w us L ho hg hr hl=>by
 obtain⟨fn,tmps,x,y,h1,h2⟩:=h g w us L ho hg hr hl
 exact⟨fn,tmps,x,y,h1,roundIn_mono h2 fun e w' ⟨u,e1,v,H',g',k,r⟩=>⟨u,e1,v,H',g',hk _ _ k,r⟩⟩
def nthE (es:List Evt)(i:Nat):Evt:=es.getD i ⟨0,0,0,0,0,0,0⟩
noncomputable abbrev evsO (es:List Evt):Ob:=.rows es.length 7 (evG (nthE es)) 65 1
noncomputable def one7 (x:Evt):Nat->Nat->SV:=fun i j=>nthD (evC x) (i*7+j)
theorem one7_at (x:Evt){j:Nat}(hj:j<7):one7 x 0 j=evG (nthE [x]) 0 j:=by
 have:j=0\/j=1\/j=2\/j=3\/j=4\/j=5\/j=6:=by omega
 rcases this with rfl|rfl|rfl|rfl|rfl|rfl|rfl<;>rfl
theorem one7_s (x:Evt){i j:Nat}(hi:i<1)(hj:j<7):one7 x i j=evG (nthE [x]) i j:=by
 obtain rfl:i=0:=by omega
 exact one7_at x hj
theorem evG_at (e e':Nat->Evt){i i' j:Nat}(h:e i=e' i'):evG e i j=evG e' i' j:=by
 unfold evG;rw[h]
theorem nthE_left (es:List Evt)(x:Evt){i:Nat}(h:i<es.length):nthE (es++[x]) i=nthE es i:=by
 unfold nthE;rw[List.getD_eq_getElem?_getD,List.getElem?_append_left h,<-List.getD_eq_getElem?_getD]
theorem nthE_right (es:List Evt)(x:Evt):nthE (es++[x]) es.length=x:=by
 unfold nthE;rw[List.getD_eq_getElem?_getD,List.getElem?_append_right (Nat.le_refl _),Nat.sub_self];rfl
theorem ev_snoc (es:List Evt)(x:Evt){i j:Nat}(hi:i<es.length+1)(hj:j<7):addG es.length (evG (nthE es)) (one7 x) i j=evG (nthE (es++[x])) i j:=by
 show(bif lt i es.length then evG (nthE es) i j else one7 x (i-es.length) j)=_
 by_cases h:i<es.length
 ·rw[show lt i es.length=true from Nat.ble_eq_true_of_le h]
  exact evG_at _ _ (nthE_left es x h).symm
 ·obtain rfl:i=es.length:=by omega
  rw[lt_no h,Nat.sub_self]
  show one7 x 0 j=_
  rw[one7_at x hj]
  exact evG_at _ _ (nthE_right es x).symm
noncomputable abbrev evCell (x:Evt):Ob:=.row ((evC x).map .c) 65 0
noncomputable abbrev frD (s l:List UInt8):Fv:=[(2,.ptr 15 0 0 0),(6,.ptr 17 0 0 0),(0,.str s),(5,.str l),(63,.fn 159 [] [.ptr 19 0 0 0,.ptr 20 0 0 0,.ptr 18 0 0 0])]
noncomputable abbrev ckE (m:Sh):Ob:=.row [.c (.int .i64 m.vars),.c (.int .i64 m.clock),.c (.int .i64 m.events),.c (.sl 25 0 13 m.nt (.k m.nt)),.c (.sl 26 0 2 m.ns (.k m.ns))] 227 0
theorem vevs0_at (ca cb:Code)(s:List UInt8)(nt ns:Nat)(v:Int)(many:Nat)(l:List UInt8)(r0:Rs)(h:NewOk nt v ns)(ht:1<=nt)(hm:many=0):CallG Tryz.prog 159 [.yld 22,.ptr 19 0 0 0,.ptr 20 0 0 0,.ptr 18 0 0 0] (bH [trO nt v ns (.nils),rdO l (r0),rcO 16,rcO 16,trO nt v ns .nils,inO (many:Int),.mark true,.loop 0 18 (frD s l) [64] ca cb 21 none]) fun x H=>H=bH [trO nt v ns (.nils),rdO l (r0),rcO 16,rcO 16,trO nt v ns .nils,inO (many:Int),.mark true,.loop 0 18 (frD s l) [64] ca cb 21 none]:=by
 subst hm
 refine Ze Tryz.func159 rfl fun g w=>?_
 refine Zc (c15 []) (n15 []) [coO co0 nt v ns] (vcoNew_at nt v ns ⟨⟨by omega,h.1.2⟩,h.2.1,h.2.2.1,h.2.2.2⟩) Zx0 Zx24 ?_
 refine Zc (c15 []) (n15 []) [ckE (sh0 v nt ns),.rows (sh0 v nt ns).nt 13 (thG (sh0 v nt ns).th) 234 0,.rows (sh0 v nt ns).ns 2 (stG (sh0 v nt ns).st) 225 0] (vnewOk_at nt ns v h) Zx0 Zx13 ?_
 refine Zr1 ?_
 exact Zv (v':=.tup []) (Hl:=bH [trO nt v ns (.nils),rdO l (r0),rcO 16,rcO 16,trO nt v ns .nils,inO ((0:Nat):Int),.mark true,.loop 0 18 (frD s l) [64] ca cb 21 none]) (c15 [15,16,17,18,19,20,21,22]) rfl Zx30
theorem vevsZ_at (ca cb:Code)(s:List UInt8)(nt ns:Nat)(v:Int)(many:Nat)(l:List UInt8)(r0:Rs)(h:NewOk nt v ns)(ht:¬1<=(nt:Int))(hm:many=0):CallG Tryz.prog 159 [.yld 22,.ptr 19 0 0 0,.ptr 20 0 0 0,.ptr 18 0 0 0] (bH [trO nt v ns (.nils),rdO l (r0),rcO 16,rcO 16,trO nt v ns .nils,inO (many:Int),.mark true,.loop 0 18 (frD s l) [64] ca cb 21 none]) fun x H=>H=bH [trO nt v ns (.nils),rdO l (r0),rcO 16,rcO 16,trO nt v ns .nils,inO (many:Int),.mark true,.loop 0 18 (frD s l) [64] ca cb 21 none]:=by
 subst hm
 refine Ze Tryz.func159 rfl fun g w=>?_
 refine Zc (c15 []) (n15 []) [] (vcoNewBad_at nt v ns ht) Zx0 Zx12 ?_
 refine Zc (c15 []) (n15 []) [.row [.c (.int .i64 v),.c (.int .i64 0),.c (.int .i64 0),.c (.sl 24 0 13 nt (.k nt)),.c (.sl 25 0 2 ns (.k ns))] 227 0,.rows (sh0 v nt ns).nt 13 (thG (sh0 v nt ns).th) 234 0,.rows (sh0 v nt ns).ns 2 (stG (sh0 v nt ns).st) 225 0] (vnewOk_at nt ns v h) Zx0 Zx13 ?_
 refine Zr1 ?_
 exact Zv (v':=.tup []) (Hl:=bH [trO nt v ns (.nils),rdO l (r0),rcO 16,rcO 16,trO nt v ns .nils,inO ((0:Nat):Int),.mark true,.loop 0 18 (frD s l) [64] ca cb 21 none]) (c15 [15,16,17,18,19,20,21,22]) rfl Zx30
noncomputable def EvsP (ca cb:Code)(s:List UInt8)(nt ns:Nat)(v:Int)(many:Nat)(l:List UInt8)(r0:Rs)(x:SV)(H:Hv):Prop:=∃es r,decF l nt v ns many co0 (sh0 v nt ns) r0=(es,r)/\((es=[]/\H=bH [trO nt v ns (.nils),rdO l (r),rcO 16,rcO 16,trO nt v ns .nils,inO (many:Int),.mark true,.loop 0 18 (frD s l) [64] ca cb 21 none])\/(es≠[]/\H=bH [trO nt v ns (.sl 23 0 7 es.length (.u 0)),rdO l (r),rcO 16,rcO 16,trO nt v ns .nils,inO (many:Int),.mark true,.loop 0 18 (frD s l) [64] ca cb 21 none,evsO es]))
theorem vevs_at (ca cb:Code)(s:List UInt8)(nt ns:Nat)(v:Int)(many:Nat)(l:List UInt8)(r0:Rs)(hl:l.length<=99999)(hp:r0.p<=l.length)(h:NewOk nt v ns)(ht:1<=nt)(hm:1<=many/\many<=1048576)(hy0:∀c m r x,YieldG Tryz.prog 22 [evS x] (bH [trO nt v ns (.nils),rdO l (r),rcO 16,rcO 16,trO nt v ns .nils,inO (many:Int),.mark true,.loop 0 18 (frD s l) [64] ca cb 21 none,coO c nt v ns,ckE (m),.rows (m).nt 13 (thG (m).th) 234 0,.rows (m).ns 2 (stG (m).st) 225 0,evCell x]) fun b H=>b=.bool true/\H=bH [trO nt v ns (.sl 30 0 7 1 (.u 0)),rdO l (r),rcO 16,rcO 16,trO nt v ns .nils,inO (many:Int),.mark true,.loop 0 18 (frD s l) [64] ca cb 21 none,coO c nt v ns,ckE (m),.rows (m).nt 13 (thG (m).th) 234 0,.rows (m).ns 2 (stG (m).st) 225 0,evCell x,evCell x,evCell x,.rows 1 7 (one7 x) 65 1])(hy1:∀es c m r x,es≠[]->es.length<100000->YieldG Tryz.prog 22 [evS x] (bH [trO nt v ns (.sl 27 0 7 es.length (.u 0)),rdO l (r),rcO 16,rcO 16,trO nt v ns .nils,inO (many:Int),.mark true,.loop 0 18 (frD s l) [64] ca cb 21 none,coO c nt v ns,ckE (m),.rows (m).nt 13 (thG (m).th) 234 0,.rows (m).ns 2 (stG (m).st) 225 0,evsO es,evCell x]) fun b H=>b=.bool true/\H=bH [trO nt v ns (.sl 31 0 7 (es.length+1) (.u 0)),rdO l (r),rcO 16,rcO 16,trO nt v ns .nils,inO (many:Int),.mark true,.loop 0 18 (frD s l) [64] ca cb 21 none,coO c nt v ns,ckE (m),.rows (m).nt 13 (thG (m).th) 234 0,.rows (m).ns 2 (stG (m).st) 225 0,.dead,evCell x,evCell x,evCell x,.rows (es.length+1) 7 (addG es.length (evG (nthE es)) (one7 x)) 65 1]):CallG Tryz.prog 159 [.yld 22,.ptr 19 0 0 0,.ptr 20 0 0 0,.ptr 18 0 0 0] (bH [trO nt v ns (.nils),rdO l (r0),rcO 16,rcO 16,trO nt v ns .nils,inO (many:Int),.mark true,.loop 0 18 (frD s l) [64] ca cb 21 none]) (EvsP ca cb s nt ns v many l r0):=by
 obtain⟨n1,n2,n3,n4⟩:=id h
 have hnew:CoNew nt v ns:=⟨⟨by omega,n1.2⟩,n2,n3,n4⟩
 refine Ze Tryz.func159 rfl fun g w=>?_
 refine Zc (c15 []) (n15 []) [coO co0 nt v ns] (vcoNew_at nt v ns hnew) Zx0 Zx24 ?_
 refine Zc (c15 []) (n15 []) [ckE (sh0 v nt ns),.rows (sh0 v nt ns).nt 13 (thG (sh0 v nt ns).th) 234 0,.rows (sh0 v nt ns).ns 2 (stG (sh0 v nt ns).st) 225 0] (vnewOk_at nt ns v h) Zx0 Zx13 ?_
 refine Zr15 ?_
 refine LoopG.by (α:=Nat) (fun p fr ds H=>ds=[]/\∃c m es r,p=many-es.length/\es.length<=many/\Link c m/\CoOk c nt/\Inv m/\(m.nt=nt/\m.ns=ns/\m.vars=v)/\(r.p<=l.length/\es.length<=r.p)/\decF l nt v ns many co0 (sh0 v nt ns) r0=(es++(decF l nt v ns (many-es.length) c m r).1,(decF l nt v ns (many-es.length) c m r).2)/\((es=[]/\HasR [0,1,2,3,4,5,6,7,8,9,10,11,12,13,14,15,16,17,18,19,20,21,22,23,24,25,26] [(0,.yld 22),(3,.ptr 18 0 0 0),(5,.ptr 23 0 0 0),(7,.ptr 24 0 0 0),(42,.int .i64 (many:Int)),(43,.int .i64 (es.length:Int))] fr/\allLt [0,1,2,3,4,5,6,7,8,9,10,11,12,13,14,15,16,17,18,19,20,21,22,23,24,25,26] (len H)=true/\Fits (ren [0,1,2,3,4,5,6,7,8,9,10,11,12,13,14,15,16,17,18,19,20,21,22,23,24,25,26]) H (bH [trO nt v ns (.nils),rdO l (r),rcO 16,rcO 16,trO nt v ns .nils,inO (many:Int),.mark true,.loop 0 18 (frD s l) [64] ca cb 21 none,coO c nt v ns,ckE (m),.rows (m).nt 13 (thG (m).th) 234 0,.rows (m).ns 2 (stG (m).st) 225 0]) 0)\/(es≠[]/\∃j,nodupN [0,1,2,3,4,5,6,7,8,9,10,11,12,13,14,15,16,17,18,19,20,21,22,23,24,25,26,j]=true/\HasR [0,1,2,3,4,5,6,7,8,9,10,11,12,13,14,15,16,17,18,19,20,21,22,23,24,25,26,j] [(0,.yld 22),(3,.ptr 18 0 0 0),(5,.ptr 23 0 0 0),(7,.ptr 24 0 0 0),(42,.int .i64 (many:Int)),(43,.int .i64 (es.length:Int))] fr/\allLt [0,1,2,3,4,5,6,7,8,9,10,11,12,13,14,15,16,17,18,19,20,21,22,23,24,25,26,j] (len H)=true/\Fits (ren [0,1,2,3,4,5,6,7,8,9,10,11,12,13,14,15,16,17,18,19,20,21,22,23,24,25,26,j]) H (bH [trO nt v ns (.sl 27 0 7 es.length (.u 0)),rdO l (r),rcO 16,rcO 16,trO nt v ns .nils,inO (many:Int),.mark true,.loop 0 18 (frD s l) [64] ca cb 21 none,coO c nt v ns,ckE (m),.rows (m).nt 13 (thG (m).th) 234 0,.rows (m).ns 2 (stG (m).st) 225 0,evsO es]) 0))) (fun p=>p) many ⟨rfl,co0,sh0 v nt ns,[],r0,rfl,Nat.zero_le _,link0 v nt ns,co0_ok (by omega),sh0_inv h,⟨rfl,rfl,rfl⟩,⟨hp,Nat.zero_le _⟩,rfl,.inl ⟨rfl,hasR_cons rfl (hasR_cons rfl (hasR_cons rfl (hasR_cons rfl (hasR_cons rfl (hasR_cons rfl (hasR_nil _ _)))))),rfl,fitB rfl ⟨.r rfl,.r rfl,.r rfl,.r rfl,.r rfl,.r rfl,.r rfl,.r rfl,.r rfl,.r rfl,.p,.p,trivial⟩⟩⟩ ?_
 rintro pm fr ds H ⟨rfl,c,m,es,r,rfl,hk,hli,hco,hin,⟨hm1,hm2,hm3⟩,⟨hrp,hre⟩,hdec,hsh⟩
 have hx:=readE_ok (l:=l) (t:=nt) (v:=v) (s:=ns) (r:=r) ⟨by omega,n1.2⟩ n2 ⟨n3,by omega⟩ hco
 have hxx:=readE_x (l:=l) (t:=nt) (v:=v) (s:=ns) (r:=r) ⟨by omega,n1.2⟩ hco
 have hxp:=readE_p (l:=l) (t:=nt) (v:=v) (s:=ns) (c:=c) hrp
 have hrd:=vread_at c nt v ns l r (by omega) hrp hco hnew
 have hnx:=next_inv (readE l nt v ns c r).1 hin
 have hvn:=vnext_at m (readE l nt v ns c r).1 ⟨⟨by have:=hx.kind;omega,by have:=hx.kind;omega⟩,hx.why⟩ hin.ok
 have hfl:=vfail_at l (readE l nt v ns c r).2 r.p 4 (by decide)
 have hgo:es.length<many->∀f,many-es.length=f+1->decF l nt v ns (many-es.length) c m r=if(readE l nt v ns c r).2.e≠0 then([],(readE l nt v ns c r).2)else if(nextS m (readE l nt v ns c r).1).1≠0 then([],failF r.p 4 (readE l nt v ns c r).2)else((readE l nt v ns c r).1::(decF l nt v ns f (knowS c (readE l nt v ns c r).1) (nextS m (readE l nt v ns c r).1).2 (readE l nt v ns c r).2).1,(decF l nt v ns f (knowS c (readE l nt v ns c r).1) (nextS m (readE l nt v ns c r).1).2 (readE l nt v ns c r).2).2):=fun _ f hf=>by rw[hf];rfl
 have hstep:(readE l nt v ns c r).2.e=0->r.p<(readE l nt v ns c r).2.p:=fun q=>(enc_dec (t:=nt) (v:=v) (s:=ns) ⟨by omega,n1.2⟩ n2.1 n3 hco hrp q).2.2.1
 generalize readE l nt v ns c r=q at hx hxx hxp hrd hnx hvn hfl hgo hstep
 obtain⟨x,r2⟩:=q
 dsimp only at hx hxx hxp hrd hnx hvn hfl hgo hstep
 generalize failV r.p 4 r2=fv at hfl
 rcases hsh with⟨hes,hfr,hlt,hfit⟩|⟨hes,j,hnd,hfr,hlt,hfit⟩
 ·subst hes
  refine T.ren [0,1,2,3,4,5,6,7,8,9,10,11,12,13,14,15,16,17,18,19,20,21,22,23,24,25,26] (vCode_ok cx_ok (by kernel_rfl) ?_) hfr hfit rfl hlt rfl rfl rfl (by kernel_rfl)
  refine Br.o (fun g1=>?_) (fun g1=>?_)
  rotate_left
  ·have e1:¬((([]:List Evt)).length:Int)<(many:Int):=of_decide_eq_false g1
   have e2:many-(([]:List Evt)).length=0:=by omega
   have hd:decF l nt v ns many co0 (sh0 v nt ns) r0=(([]:List Evt),r):=by rw[hdec,e2];exact congrArg (fun z=>(z,r)) (List.append_nil _)
   exact Zv (v':=.tup []) (Hl:=bH [trO nt v ns (.nils),rdO l (r),rcO 16,rcO 16,trO nt v ns .nils,inO (many:Int),.mark true,.loop 0 18 (frD s l) [64] ca cb 21 none]) (c15 [15,16,17,18,19,20,21,22]) ⟨[],r,hd,.inl ⟨rfl,rfl⟩⟩ Zx30
  have e1:((([]:List Evt)).length:Int)<(many:Int):=of_decide_eq_true g1
  have hgo:=hgo (by omega) (many-(([]:List Evt)).length-1) (by omega)
  refine Zc [0,1,2,3,16] [none,none,none,none,none] [] (vrAt_at l r) Zx3 Zx5 ?_
  by_cases h1:r2.e≠0
  ·rw[if_pos h1,if_pos h1]at hrd
   rw[if_pos h1]at hgo
   have hd:decF l nt v ns many co0 (sh0 v nt ns) r0=(([]:List Evt),r2):=by rw[hdec,hgo];exact congrArg (fun z=>(z,r2)) (List.append_nil _)
   refine Zc (c15 [23,16]) (n15 [none,some (rdO l r2)]) [] (hrd) Zx23 Zx35 ?_
   refine Br.t (decide_eq_true h1) ?_
   exact Zv (v':=.tup []) (Hl:=bH [trO nt v ns (.nils),rdO l (r2),rcO 16,rcO 16,trO nt v ns .nils,inO (many:Int),.mark true,.loop 0 18 (frD s l) [64] ca cb 21 none]) (c15 [15,16,17,18,19,20,21,22]) ⟨[],r2,hd,.inl ⟨rfl,rfl⟩⟩ Zx30
  rw[if_neg h1,if_neg h1]at hrd
  rw[if_neg h1]at hgo
  have hp2:=hstep (Classical.not_not.1 h1)
  refine Zc (c15 [23,16]) (n15 [some (coO (knowS c x) nt v ns),some (rdO l r2)]) [] (hrd) Zx23 Zx35 ?_
  refine Zr2 ?_
  cases hN:nextS m x with
  |mk cd m'=>
   rw[hN]at hvn hnx hgo
   dsimp only at hvn hnx hgo
   refine Zc (c15 [24,25,26]) (n15 [some (ckE m'),some (.rows m'.nt 13 (thG m'.th) 234 0),some (.rows m'.ns 2 (stG m'.st) 225 0)]) [] (hvn) Zx1 Zx13 ?_
   by_cases h2:cd≠0
   ·rw[if_pos h2]at hgo
    have hd:decF l nt v ns many co0 (sh0 v nt ns) r0=(([]:List Evt),failF r.p 4 r2):=by rw[hdec,hgo];exact congrArg (fun z=>(z,failF r.p 4 r2)) (List.append_nil _)
    generalize failF r.p 4 r2=r3 at hd hfl
    refine Br.t (decide_eq_true h2) ?_
    refine Zc [0,1,2,3,16] [none,none,none,none,some (rdO l r3)] [] (hfl) Zx3 Zx5 ?_
    exact Zv (v':=.tup []) (Hl:=bH [trO nt v ns (.nils),rdO l (r3),rcO 16,rcO 16,trO nt v ns .nils,inO (many:Int),.mark true,.loop 0 18 (frD s l) [64] ca cb 21 none]) (c15 [15,16,17,18,19,20,21,22]) ⟨[],r3,hd,.inl ⟨rfl,rfl⟩⟩ Zx30
   rw[if_neg h2]at hgo
   have h3:cd=0:=Classical.not_not.1 h2
   subst h3
   obtain⟨k1,k2⟩:=tells_next hli hN
   obtain⟨w1,w2,w3⟩:=next_keep hN
   rw[hm1,hm2,hm3]at k1
   refine Zr2 ?_
   refine YieldS.mk (YieldG.mono (hy0 (knowS c x) m' r2 x) ?_)
   rintro _ _ ⟨rfl,rfl⟩
   refine Zr3 ?_
   have e5:(([]:List Evt)++[x]).length=(([]:List Evt)).length+1:=by simp
   refine Exists.intro (many-(([]:List Evt)++[x]).length) ⟨by rw[e5];omega,rfl,knowS c x,m',([]:List Evt)++[x],r2,rfl,by rw[e5];omega,k2,tells_know k1 hco hxx,hnx,⟨w1.trans hm1,w2.trans hm2,w3.trans hm3⟩,⟨hxp,by rw[e5];omega⟩,?_,.inr ⟨by simp,30,?_⟩⟩
   ·rw[hdec,hgo,e5,show many-(([]:List Evt)).length-1=many-((([]:List Evt)).length+1) by omega]
    exact congrArg (fun z=>(z,_)) (List.append_assoc ([]:List Evt) [x] _).symm
   ·delta evsO
    rw[e5]
    exact⟨rfl,hasR_cons rfl (hasR_cons rfl (hasR_cons rfl (hasR_cons rfl (hasR_cons rfl (hasR_cons rfl (hasR_nil _ _)))))),rfl,fitB rfl ⟨.r rfl,.r rfl,.r rfl,.r rfl,.r rfl,.r rfl,.r rfl,.r rfl,.r rfl,.r rfl,.p,.p,LiesAt.gp (fun i k hi hk=>one7_s x hi hk),trivial⟩⟩
 ·refine T.ren [0,1,2,3,4,5,6,7,8,9,10,11,12,13,14,15,16,17,18,19,20,21,22,23,24,25,26,j] (vCode_ok cx_ok (by kernel_rfl) ?_) hfr hfit hnd hlt rfl rfl rfl (by kernel_rfl)
  refine Br.o (fun g1=>?_) (fun g1=>?_)
  rotate_left
  ·have e1:¬((es).length:Int)<(many:Int):=of_decide_eq_false g1
   have e2:many-(es).length=0:=by omega
   have hd:decF l nt v ns many co0 (sh0 v nt ns) r0=(es,r):=by rw[hdec,e2];exact congrArg (fun z=>(z,r)) (List.append_nil _)
   exact Zv (v':=.tup []) (Hl:=bH [trO nt v ns (.sl 23 0 7 es.length (.u 0)),rdO l (r),rcO 16,rcO 16,trO nt v ns .nils,inO (many:Int),.mark true,.loop 0 18 (frD s l) [64] ca cb 21 none,evsO es]) (c15 [15,16,17,18,19,20,21,22,27]) ⟨es,r,hd,.inr ⟨hes,rfl⟩⟩ Zx40
  have e1:((es).length:Int)<(many:Int):=of_decide_eq_true g1
  have hgo:=hgo (by omega) (many-(es).length-1) (by omega)
  refine Zc [0,1,2,3,16] [none,none,none,none,none] [] (vrAt_at l r) Zx3 Zx5 ?_
  by_cases h1:r2.e≠0
  ·rw[if_pos h1,if_pos h1]at hrd
   rw[if_pos h1]at hgo
   have hd:decF l nt v ns many co0 (sh0 v nt ns) r0=(es,r2):=by rw[hdec,hgo];exact congrArg (fun z=>(z,r2)) (List.append_nil _)
   refine Zc (c15 [23,16]) (n15 [none,some (rdO l r2)]) [] (hrd) Zx23 Zx35 ?_
   refine Br.t (decide_eq_true h1) ?_
   exact Zv (v':=.tup []) (Hl:=bH [trO nt v ns (.sl 23 0 7 es.length (.u 0)),rdO l (r2),rcO 16,rcO 16,trO nt v ns .nils,inO (many:Int),.mark true,.loop 0 18 (frD s l) [64] ca cb 21 none,evsO es]) (c15 [15,16,17,18,19,20,21,22,27]) ⟨es,r2,hd,.inr ⟨hes,rfl⟩⟩ Zx40
  rw[if_neg h1,if_neg h1]at hrd
  rw[if_neg h1]at hgo
  have hp2:=hstep (Classical.not_not.1 h1)
  refine Zc (c15 [23,16]) (n15 [some (coO (knowS c x) nt v ns),some (rdO l r2)]) [] (hrd) Zx23 Zx35 ?_
  refine Zr2 ?_
  cases hN:nextS m x with
  |mk cd m'=>
   rw[hN]at hvn hnx hgo
   dsimp only at hvn hnx hgo
   refine Zc (c15 [24,25,26]) (n15 [some (ckE m'),some (.rows m'.nt 13 (thG m'.th) 234 0),some (.rows m'.ns 2 (stG m'.st) 225 0)]) [] (hvn) Zx1 Zx13 ?_
   by_cases h2:cd≠0
   ·rw[if_pos h2]at hgo
    have hd:decF l nt v ns many co0 (sh0 v nt ns) r0=(es,failF r.p 4 r2):=by rw[hdec,hgo];exact congrArg (fun z=>(z,failF r.p 4 r2)) (List.append_nil _)
    generalize failF r.p 4 r2=r3 at hd hfl
    refine Br.t (decide_eq_true h2) ?_
    refine Zc [0,1,2,3,16] [none,none,none,none,some (rdO l r3)] [] (hfl) Zx3 Zx5 ?_
    exact Zv (v':=.tup []) (Hl:=bH [trO nt v ns (.sl 23 0 7 es.length (.u 0)),rdO l (r3),rcO 16,rcO 16,trO nt v ns .nils,inO (many:Int),.mark true,.loop 0 18 (frD s l) [64] ca cb 21 none,evsO es]) (c15 [15,16,17,18,19,20,21,22,27]) ⟨es,r3,hd,.inr ⟨hes,rfl⟩⟩ Zx40
   rw[if_neg h2]at hgo
   have h3:cd=0:=Classical.not_not.1 h2
   subst h3
   obtain⟨k1,k2⟩:=tells_next hli hN
   obtain⟨w1,w2,w3⟩:=next_keep hN
   rw[hm1,hm2,hm3]at k1
   refine Zr2 ?_
   refine YieldS.mk (YieldG.mono (hy1 es (knowS c x) m' r2 x hes (by omega)) ?_)
   rintro _ _ ⟨rfl,rfl⟩
   refine Zr3 ?_
   have e5:(es++[x]).length=(es).length+1:=by simp
   refine Exists.intro (many-(es++[x]).length) ⟨by rw[e5];omega,rfl,knowS c x,m',es++[x],r2,rfl,by rw[e5];omega,k2,tells_know k1 hco hxx,hnx,⟨w1.trans hm1,w2.trans hm2,w3.trans hm3⟩,⟨hxp,by rw[e5];omega⟩,?_,.inr ⟨by simp,31,?_⟩⟩
   ·rw[hdec,hgo,e5,show many-(es).length-1=many-((es).length+1) by omega]
    exact congrArg (fun z=>(z,_)) (List.append_assoc es [x] _).symm
   ·delta evsO
    rw[e5]
    exact⟨rfl,hasR_cons rfl (hasR_cons rfl (hasR_cons rfl (hasR_cons rfl (hasR_cons rfl (hasR_cons rfl (hasR_nil _ _)))))),rfl,fitB rfl ⟨.r rfl,.r rfl,.r rfl,.r rfl,.r rfl,.r rfl,.r rfl,.r rfl,.r rfl,.r rfl,.p,.p,LiesAt.gp (fun i k hi hk=>ev_snoc es x hi hk),trivial⟩⟩
end Go.Proofs.YtgdmlkgjpcnelaaGreatDoor
