/-  -/
import Derived.Test.YtgdmlkgjpcnelaaGreatDoorTbK
import Derived.Test.YtgdmlkgjpcnelaaGreatDoorVarP2
namespace Go.Proofs.YtgdmlkgjpcnelaaGreatDoor
open Go Go.Vc
set_option linter.unusedVariables false
set_option maxRecDepth 100000
structure Co where
 last:Int
 clock:Int
 begun:Nat->Int
 bumped:Nat->Int
 x:Nat->Int
def updI (f:Nat->Int)(i:Nat)(v:Int):Nat->Int:=fun k=>if k=i then v else f k
def co0:Co:=⟨0,0,fun _=>0,fun _=>0,fun _=>0⟩
def knowS (c:Co)(e:Evt):Co:=match e.kind with
 |1=>{c with last:=e.thread,clock:=e.v,begun:=updI c.begun e.thread.toNat e.v}
 |5=>{c with last:=e.thread,clock:=e.v,bumped:=updI c.bumped e.thread.toNat e.v}
 |3=>{c with last:=e.thread,x:=updI c.x e.at_.toNat e.x}
 |8=>{c with last:=e.thread,x:=updI c.x e.at_.toNat e.x}
 |_=>{c with last:=e.thread}
structure TellsP (c:Co)(e:Evt)(t v s:Int):Prop where
 may:MayP e t v s
 k1:e.kind=1->c.clock<=e.v
 k2:e.kind=2->e.v<=c.begun e.thread.toNat
 k5:e.kind=5->c.clock<e.v
 k7:e.kind=7->e.v=0\/e.v=c.bumped e.thread.toNat
def firstE (t:Int)(c:Co)(e:Evt):Int:=(e.kind-1)*t+(e.thread-c.last+t).tmod t
def restE (c:Co)(e:Evt):List UInt8:=match e.kind with
 |1=>putB e.tx.toNat++putB (e.v-c.clock).toNat
 |2=>putB e.at_.toNat++putB (c.begun e.thread.toNat-e.v).toNat
 |3=>putB e.at_.toNat++putB (zigI (IntKind.i64.wrap (e.x-c.x e.at_.toNat))).toNat
 |8=>putB e.at_.toNat++putB (zigI (IntKind.i64.wrap (e.x-c.x e.at_.toNat))).toNat
 |5=>putB (e.v-c.clock).toNat
 |7=>putB (min e.v 1).toNat
 |10=>putB (e.why-1).toNat++if e.why=6 then []else putB e.at_.toNat
 |12=>[]
 |13=>[]
 |_=>putB e.at_.toNat
def encE (t:Int)(c:Co)(e:Evt):List UInt8:=putB (firstE t c e).toNat++restE c e
structure Rs where
 p:Nat
 e:Int
def numF (l:List UInt8)(most:Int)(r:Rs):Int × Rs:=
 if r.e≠0 then(0,r)else if(getB (l.drop r.p)).2.2≠0 then(0,⟨r.p,(getB (l.drop r.p)).2.2⟩)else
 if most<(getB (l.drop r.p)).1 then(0,⟨r.p,20⟩)else((getB (l.drop r.p)).1,⟨r.p+(getB (l.drop r.p)).2.1,0⟩)
def intF (l:List UInt8)(r:Rs):Int × Rs:=(zagI (numF l 18446744073709551615 r).1,(numF l 18446744073709551615 r).2)
def failF (place:Nat)(err:Int)(r:Rs):Rs:=if r.e≠0 then r else if r.p<place\/err=0 then r else⟨place,err⟩
def readK (l:List UInt8)(v s:Int)(c:Co)(k th:Int)(r:Rs):Evt × Rs:=match k with
 |1=>(⟨1,th,(numF l 5 r).1,0,c.clock+(numF l (1099511627776-c.clock) (numF l 5 r).2).1,0,0⟩,(numF l (1099511627776-c.clock) (numF l 5 r).2).2)
 |2=>(⟨2,th,0,(numF l (s-1) r).1,c.begun th.toNat-(numF l (c.begun th.toNat) (numF l (s-1) r).2).1,0,0⟩,(numF l (c.begun th.toNat) (numF l (s-1) r).2).2)
 |3=>(⟨3,th,0,(numF l (v-1) r).1,0,IntKind.i64.wrap (c.x (numF l (v-1) r).1.toNat+(intF l (numF l (v-1) r).2).1),0⟩,(intF l (numF l (v-1) r).2).2)
 |8=>(⟨8,th,0,(numF l (v-1) r).1,0,IntKind.i64.wrap (c.x (numF l (v-1) r).1.toNat+(intF l (numF l (v-1) r).2).1),0⟩,(intF l (numF l (v-1) r).2).2)
 |5=>(⟨5,th,0,0,c.clock+(numF l (1099511627776-c.clock) r).1,0,0⟩,if(numF l (1099511627776-c.clock) r).1=0 then failF r.p 20 (numF l (1099511627776-c.clock) r).2 else(numF l (1099511627776-c.clock) r).2)
 |7=>if(numF l 1 r).1=0 then(⟨7,th,0,0,0,0,0⟩,(numF l 1 r).2)else(⟨7,th,0,0,c.bumped th.toNat,0,0⟩,if c.bumped th.toNat=0 then failF r.p 20 (numF l 1 r).2 else(numF l 1 r).2)
 |10=>if(numF l 5 r).1=5 then(⟨10,th,0,0,0,0,6⟩,(numF l 5 r).2)else(⟨10,th,0,(numF l (s-1) (numF l 5 r).2).1,0,0,(numF l 5 r).1+1⟩,(numF l (s-1) (numF l 5 r).2).2)
 |12=>(⟨12,th,0,0,0,0,0⟩,r)
 |13=>(⟨13,th,0,0,0,0,0⟩,r)
 |k=>(⟨k,th,0,(numF l (s-1) r).1,0,0,0⟩,(numF l (s-1) r).2)
def kindF (t f:Int):Int:=f.tdiv t+1
def thrF (t last f:Int):Int:=(f.tmod t+last).tmod t
def readE (l:List UInt8)(t v s:Int)(c:Co)(r:Rs):Evt × Rs:=
 readK l v s c (kindF t (numF l (13*t-1) r).1) (thrF t c.last (numF l (13*t-1) r).1) (numF l (13*t-1) r).2
structure CoOk (c:Co)(t:Int):Prop where
 last:0<=c.last/\c.last<t
 clock:0<=c.clock/\c.clock<=1099511627776
 begun:∀i,0<=c.begun i/\c.begun i<=1099511627776
 bumped:∀i,0<=c.bumped i/\c.bumped i<=1099511627776
 x:∀i,-9223372036854775808<=c.x i/\c.x i<=9223372036854775807
theorem updI_all {P:Int->Prop}{f:Nat->Int}{i:Nat}{v:Int}(h:∀k,P (f k))(hv:P v):∀k,P (updI f i v k):=fun k=>by
 unfold updI;split
 ·exact hv
 ·exact h k
theorem co0_ok {t:Int}(h:1<=t):CoOk co0 t:=⟨⟨by decide,by show(0:Int)<t;omega⟩,by decide,fun _=>by show(0:Int)<=0/\(0:Int)<=1099511627776;decide,fun _=>by show(0:Int)<=0/\(0:Int)<=1099511627776;decide,fun _=>by show(-9223372036854775808:Int)<=0/\(0:Int)<=9223372036854775807;decide⟩
theorem know_ok {c:Co}{e:Evt}{t:Int}(h:CoOk c t)(ht:0<=e.thread/\e.thread<t)(hv:0<=e.v/\e.v<=1099511627776)(hx:-9223372036854775808<=e.x/\e.x<=9223372036854775807):CoOk (knowS c e) t:=by
 unfold knowS
 split
 ·exact⟨ht,hv,updI_all (P:=fun z=>0<=z/\z<=1099511627776) h.begun hv,h.bumped,h.x⟩
 ·exact⟨ht,hv,h.begun,updI_all (P:=fun z=>0<=z/\z<=1099511627776) h.bumped hv,h.x⟩
 ·exact⟨ht,h.clock,h.begun,h.bumped,updI_all (P:=fun z=>-9223372036854775808<=z/\z<=9223372036854775807) h.x hx⟩
 ·exact⟨ht,h.clock,h.begun,h.bumped,updI_all (P:=fun z=>-9223372036854775808<=z/\z<=9223372036854775807) h.x hx⟩
 ·exact⟨ht,h.clock,h.begun,h.bumped,h.x⟩
theorem drop_step {l a r:List UInt8}{p:Nat}(h:l.drop p=a++r):l.drop (p+a.length)=r:=by
 rw[<-List.drop_drop,h,List.drop_left]
theorem numF_put {l r:List UInt8}{p:Nat}{x:Int}{most:Int}(h:l.drop p=putB x.toNat++r)(h0:0<=x)(h1:x<=most)(h2:x<18446744073709551616):numF l most ⟨p,0⟩=(x,⟨p+(putB x.toNat).length,0⟩):=by
 unfold numF
 rw[if_neg (by simp)]
 dsimp only
 rw[h,getB_putB _ _ (by omega),if_neg (by simp)]
 dsimp only
 rw[if_neg (by omega),Int.toNat_of_nonneg h0]
theorem numF_bad {l:List UInt8}{most:Int}{r:Rs}(h:r.e≠0):numF l most r=(0,r):=by unfold numF;rw[if_pos h]
theorem numF_bd {l:List UInt8}{most:Int}{r:Rs}(hm:0<=most):0<=(numF l most r).1/\(numF l most r).1<=most:=by
 unfold numF
 repeat' split
 all_goals (dsimp only;omega)
theorem numF_lt {l:List UInt8}{most:Int}{r:Rs}:(numF l most r).1<18446744073709551616:=by
 unfold numF
 split
 ·dsimp only;omega
 ·split
  ·dsimp only;omega
  ·split
   ·dsimp only;omega
   ·rcases hg:getB (l.drop r.p)with⟨m,size,e⟩
    rcases getB_back _ _ _ _ hg with⟨_,h1,_⟩|⟨h1,_⟩<;>(dsimp only;omega)
theorem numF_back {l:List UInt8}{most:Int}{r:Rs}(h:(numF l most r).2.e=0)(hp:r.p<=l.length) :
  r.e=0/\l.drop r.p=putB (numF l most r).1.toNat++l.drop (numF l most r).2.p/\r.p<=(numF l most r).2.p/\(numF l most r).2.p<=l.length:=by
 unfold numF at h ⊢
 by_cases h1:r.e≠0
 ·rw[if_pos h1]at h;exact absurd h h1
 rw[if_neg h1]at h ⊢
 rcases hg:getB (l.drop r.p)with⟨m,size,e⟩
 rw[hg]at h
 dsimp only at h ⊢
 by_cases h2:e≠0
 ·rw[if_pos (by exact h2)]at h;dsimp only at h;omega
 rw[if_neg h2]at h ⊢
 by_cases h3:most<(m:Int)
 ·rw[if_pos h3]at h;dsimp only at h;omega
 rw[if_neg h3]
 dsimp only
 have h4:=getB_back _ _ _ _ hg
 obtain⟨_,k1,k2,k3,k4,k5⟩:e=0/\m<18446744073709551616/\size=(putB m).length/\1<=size/\size<=(l.drop r.p).length/\putB m=(l.drop r.p).take size:=by
  rcases h4 with h|h
  ·exact h
  ·omega
 have k6:(l.drop r.p).length=l.length-r.p:=List.length_drop
 refine⟨by omega,?_,by omega,by omega⟩
 rw[Int.toNat_natCast,k5,<-List.drop_drop,List.take_append_drop]
theorem numF_p {l:List UInt8}{most:Int}{r:Rs}(hp:r.p<=l.length):r.p<=(numF l most r).2.p/\(numF l most r).2.p<=l.length:=by
 unfold numF
 by_cases h1:r.e≠0
 ·rw[if_pos h1];exact⟨Nat.le_refl _,hp⟩
 rw[if_neg h1]
 rcases hg:getB (l.drop r.p)with⟨m,size,e⟩
 dsimp only
 have k6:(l.drop r.p).length=l.length-r.p:=List.length_drop
 by_cases h2:e≠0
 ·rw[if_pos h2];exact⟨Nat.le_refl _,hp⟩
 rw[if_neg h2]
 by_cases h3:most<(m:Int)
 ·rw[if_pos h3];exact⟨Nat.le_refl _,hp⟩
 rw[if_neg h3]
 dsimp only
 rcases getB_back _ _ _ _ hg with h|h<;>omega
theorem wrap_back (x y:Int)(h:-9223372036854775808<=x/\x<=9223372036854775807):IntKind.i64.wrap (y+IntKind.i64.wrap (x-y))=x:=by
 simp only[IntKind.wrap,IntKind.bits,IntKind.signed]
 repeat' split
 all_goals (simp at *;omega)
theorem wrap_back2 (x y:Int)(h:-9223372036854775808<=x/\x<=9223372036854775807):IntKind.i64.wrap (IntKind.i64.wrap (y+x)-y)=x:=by
 simp only[IntKind.wrap,IntKind.bits,IntKind.signed]
 repeat' split
 all_goals (simp at *;omega)
theorem wrap_bd (x:Int):-9223372036854775808<=IntKind.i64.wrap x/\IntKind.i64.wrap x<=9223372036854775807:=by
 simp only[IntKind.wrap,IntKind.bits,IntKind.signed]
 repeat' split
 all_goals (simp at *;omega)
end Go.Proofs.YtgdmlkgjpcnelaaGreatDoor
namespace Go.Proofs.YtgdmlkgjpcnelaaGreatDoor
open Go Go.Vc
set_option linter.unusedVariables false
set_option maxRecDepth 100000
theorem first_fwd {t k th last:Int}(h1:1<=t/\t<=6)(hk:1<=k/\k<=13)(ht:0<=th/\th<t)(hl:0<=last/\last<t) :
  (0<=(k-1)*t+(th-last+t).tmod t/\(k-1)*t+(th-last+t).tmod t<=13*t-1)/\kindF t ((k-1)*t+(th-last+t).tmod t)=k/\thrF t last ((k-1)*t+(th-last+t).tmod t)=th:=by
 unfold kindF thrF
 rw[Int.tmod_eq_emod_of_nonneg (by omega)]
 have hc:t=1\/t=2\/t=3\/t=4\/t=5\/t=6:=by omega
 have b:0<=(k-1)*t+(th-last+t) % t:=by rcases hc with rfl|rfl|rfl|rfl|rfl|rfl<;>omega
 rw[Int.tdiv_eq_ediv_of_nonneg b,Int.tmod_eq_emod_of_nonneg b,Int.tmod_eq_emod_of_nonneg (by have:=Int.emod_nonneg ((k-1)*t+(th-last+t) % t) (show t≠0 by omega);omega)]
 rcases hc with rfl|rfl|rfl|rfl|rfl|rfl<;>omega
theorem first_back {t f last:Int}(h1:1<=t/\t<=6)(hf:0<=f/\f<=13*t-1)(hl:0<=last/\last<t) :
  (1<=kindF t f/\kindF t f<=13)/\(0<=thrF t last f/\thrF t last f<t)/\(kindF t f-1)*t+(thrF t last f-last+t).tmod t=f:=by
 unfold kindF thrF
 rw[Int.tdiv_eq_ediv_of_nonneg hf.1,Int.tmod_eq_emod_of_nonneg hf.1,Int.tmod_eq_emod_of_nonneg (by have:=Int.emod_nonneg f (show t≠0 by omega);omega)]
 have hc:t=1\/t=2\/t=3\/t=4\/t=5\/t=6:=by omega
 have g:=Int.emod_nonneg (f % t+last) (show t≠0 by omega)
 rw[Int.tmod_eq_emod_of_nonneg (by omega)]
 rcases hc with rfl|rfl|rfl|rfl|rfl|rfl<;>omega
theorem dec_enc {c:Co}{e:Evt}{t v s:Int}{l r:List UInt8}{p:Nat}(h:TellsP c e t v s)(hc:CoOk c t)(hx:-9223372036854775808<=e.x/\e.x<=9223372036854775807)(hl:l.drop p=encE t c e++r) :
  readE l t v s c ⟨p,0⟩=(e,⟨p+(encE t c e).length,0⟩):=by
 obtain⟨⟨q1,q2,q3,q4,q5,q6,q7,q8,q9,q10⟩,k1,k2,k5,k7⟩:=h
 obtain⟨g1,g2,g3⟩:=first_fwd q1 q4 (th:=e.thread) ⟨q6.1,by omega⟩ hc.last
 have e1:l.drop p=putB (firstE t c e).toNat++(restE c e++r):=by rw[hl];unfold encE;rw[List.append_assoc]
 have e2:=drop_step e1
 unfold readE
 rw[numF_put e1 g1.1 g1.2 (by have:=g1.2;unfold firstE;omega)]
 dsimp only
 rw[show kindF t (firstE t c e)=e.kind from g2,show thrF t c.last (firstE t c e)=e.thread from g3]
 have e3:p+(encE t c e).length=p+(putB (firstE t c e).toNat).length+(restE c e).length:=by unfold encE;rw[List.length_append];omega
 rw[e3]
 generalize p+(putB (firstE t c e).toNat).length=p at e2 ⊢
 clear e1 e3 hl g1 g2 g3
 have hb:=hc.begun e.thread.toNat
 have hu:=hc.bumped e.thread.toNat
 have hcl:=hc.clock
 obtain⟨ek,th,tx,at_,ev,ex,why⟩:=e
 dsimp only at *
 have hh:ek=1\/ek=2\/ek=3\/ek=4\/ek=5\/ek=6\/ek=7\/ek=8\/ek=9\/ek=10\/ek=11\/ek=12\/ek=13:=by omega
 rcases hh with rfl|rfl|rfl|rfl|rfl|rfl|rfl|rfl|rfl|rfl|rfl|rfl|rfl
 ·have k:=k1 rfl
  simp only[evL,bareE,List.cons.injEq,true_and,and_true]at q10
  obtain⟨rfl,rfl,rfl⟩:=q10
  have e3:l.drop p=putB tx.toNat++(putB (ev-c.clock).toNat++r):=by rw[e2];exact List.append_assoc ..
  show((⟨1,th,(numF l 5 ⟨p,0⟩).1,0,c.clock+(numF l (1099511627776-c.clock) (numF l 5 ⟨p,0⟩).2).1,0,0⟩:Evt),(numF l (1099511627776-c.clock) (numF l 5 ⟨p,0⟩).2).2)=_
  rw[numF_put e3 (by omega) (by omega) (by omega)]
  dsimp only
  rw[numF_put (drop_step e3) (by omega) (by omega) (by omega)]
  dsimp only
  rw[show c.clock+(ev-c.clock)=ev by omega,show restE c ⟨1,th,tx,0,ev,0,0⟩=putB tx.toNat++putB (ev-c.clock).toNat from rfl,List.length_append,Nat.add_assoc]
 ·have k:=k2 rfl
  simp only[evL,bareE,List.cons.injEq,true_and,and_true]at q10
  obtain⟨rfl,rfl,rfl⟩:=q10
  have e3:l.drop p=putB at_.toNat++(putB (c.begun th.toNat-ev).toNat++r):=by rw[e2];exact List.append_assoc ..
  have b:at_<=s-1:=q9.2
  have b2:0<=ev:=q8.1
  show((⟨2,th,0,(numF l (s-1) ⟨p,0⟩).1,c.begun th.toNat-(numF l (c.begun th.toNat) (numF l (s-1) ⟨p,0⟩).2).1,0,0⟩:Evt),(numF l (c.begun th.toNat) (numF l (s-1) ⟨p,0⟩).2).2)=_
  rw[numF_put e3 (by omega) (by omega) (by omega)]
  dsimp only
  rw[numF_put (drop_step e3) (by omega) (by omega) (by omega)]
  dsimp only
  rw[show c.begun th.toNat-(c.begun th.toNat-ev)=ev by omega,show restE c ⟨2,th,0,at_,ev,0,0⟩=putB at_.toNat++putB (c.begun th.toNat-ev).toNat from rfl,List.length_append,Nat.add_assoc]
 ·simp only[evL,bareE,List.cons.injEq,true_and,and_true]at q10
  obtain⟨rfl,rfl,rfl⟩:=q10
  have e3:l.drop p=putB at_.toNat++(putB (zigI (IntKind.i64.wrap (ex-c.x at_.toNat))).toNat++r):=by rw[e2];exact List.append_assoc ..
  have b:at_<=v-1:=q9.2
  have z:=zig_bd _ (wrap_bd (ex-c.x at_.toNat)).1 (wrap_bd (ex-c.x at_.toNat)).2
  show((⟨3,th,0,(numF l (v-1) ⟨p,0⟩).1,0,IntKind.i64.wrap (c.x (numF l (v-1) ⟨p,0⟩).1.toNat+(intF l (numF l (v-1) ⟨p,0⟩).2).1),0⟩:Evt),(intF l (numF l (v-1) ⟨p,0⟩).2).2)=_
  rw[numF_put e3 (by omega) (by omega) (by omega)]
  unfold intF
  dsimp only
  rw[numF_put (drop_step e3) (by omega) (by omega) (by omega)]
  dsimp only
  rw[zag_zig,wrap_back _ _ hx,show restE c ⟨3,th,0,at_,0,ex,0⟩=putB at_.toNat++putB (zigI (IntKind.i64.wrap (ex-c.x at_.toNat))).toNat from rfl,List.length_append,Nat.add_assoc]
 ·simp only[evL,bareE,List.cons.injEq,true_and,and_true]at q10
  obtain⟨rfl,rfl,rfl,rfl⟩:=q10
  have b:at_<=s-1:=q9.2
  have e3:l.drop p=putB at_.toNat++r:=e2
  show((⟨4,th,0,(numF l (s-1) ⟨p,0⟩).1,0,0,0⟩:Evt),(numF l (s-1) ⟨p,0⟩).2)=_
  rw[numF_put e3 (by omega) (by omega) (by omega)]
  rfl
 ·have k:=k5 rfl
  simp only[evL,bareE,List.cons.injEq,true_and,and_true]at q10
  obtain⟨rfl,rfl,rfl,rfl⟩:=q10
  have e3:l.drop p=putB (ev-c.clock).toNat++r:=e2
  show((⟨5,th,0,0,c.clock+(numF l (1099511627776-c.clock) ⟨p,0⟩).1,0,0⟩:Evt),if(numF l (1099511627776-c.clock) ⟨p,0⟩).1=0 then failF p 20 (numF l (1099511627776-c.clock) ⟨p,0⟩).2 else(numF l (1099511627776-c.clock) ⟨p,0⟩).2)=_
  rw[numF_put e3 (by omega) (by omega) (by omega)]
  dsimp only
  rw[if_neg (by omega),show c.clock+(ev-c.clock)=ev by omega]
  rfl
 ·simp only[evL,bareE,List.cons.injEq,true_and,and_true]at q10
  obtain⟨rfl,rfl,rfl,rfl⟩:=q10
  have b:at_<=s-1:=q9.2
  have e3:l.drop p=putB at_.toNat++r:=e2
  show((⟨6,th,0,(numF l (s-1) ⟨p,0⟩).1,0,0,0⟩:Evt),(numF l (s-1) ⟨p,0⟩).2)=_
  rw[numF_put e3 (by omega) (by omega) (by omega)]
  rfl
 ·have k:=k7 rfl
  simp only[evL,bareE,List.cons.injEq,true_and,and_true]at q10
  obtain⟨rfl,rfl,rfl,rfl⟩:=q10
  have e3:l.drop p=putB (min ev 1).toNat++r:=e2
  have b2:0<=ev:=q8.1
  show(if(numF l 1 ⟨p,0⟩).1=0 then((⟨7,th,0,0,0,0,0⟩:Evt),(numF l 1 ⟨p,0⟩).2)else((⟨7,th,0,0,c.bumped th.toNat,0,0⟩:Evt),if c.bumped th.toNat=0 then failF p 20 (numF l 1 ⟨p,0⟩).2 else(numF l 1 ⟨p,0⟩).2))=_
  rw[numF_put e3 (by omega) (by omega) (by omega)]
  dsimp only
  by_cases h0:ev=0
  ·subst h0
   rw[if_pos (by decide)]
   rfl
  ·rw[if_neg (by omega),if_neg (by omega),show c.bumped th.toNat=ev by omega]
   rfl
 ·simp only[evL,bareE,List.cons.injEq,true_and,and_true]at q10
  obtain⟨rfl,rfl,rfl⟩:=q10
  have e3:l.drop p=putB at_.toNat++(putB (zigI (IntKind.i64.wrap (ex-c.x at_.toNat))).toNat++r):=by rw[e2];exact List.append_assoc ..
  have b:at_<=v-1:=q9.2
  have z:=zig_bd _ (wrap_bd (ex-c.x at_.toNat)).1 (wrap_bd (ex-c.x at_.toNat)).2
  show((⟨8,th,0,(numF l (v-1) ⟨p,0⟩).1,0,IntKind.i64.wrap (c.x (numF l (v-1) ⟨p,0⟩).1.toNat+(intF l (numF l (v-1) ⟨p,0⟩).2).1),0⟩:Evt),(intF l (numF l (v-1) ⟨p,0⟩).2).2)=_
  rw[numF_put e3 (by omega) (by omega) (by omega)]
  unfold intF
  dsimp only
  rw[numF_put (drop_step e3) (by omega) (by omega) (by omega)]
  dsimp only
  rw[zag_zig,wrap_back _ _ hx,show restE c ⟨8,th,0,at_,0,ex,0⟩=putB at_.toNat++putB (zigI (IntKind.i64.wrap (ex-c.x at_.toNat))).toNat from rfl,List.length_append,Nat.add_assoc]
 ·simp only[evL,bareE,List.cons.injEq,true_and,and_true]at q10
  obtain⟨rfl,rfl,rfl,rfl⟩:=q10
  have b:at_<=s-1:=q9.2
  have e3:l.drop p=putB at_.toNat++r:=e2
  show((⟨9,th,0,(numF l (s-1) ⟨p,0⟩).1,0,0,0⟩:Evt),(numF l (s-1) ⟨p,0⟩).2)=_
  rw[numF_put e3 (by omega) (by omega) (by omega)]
  rfl
 ·have k:=q5 rfl
  simp only[evL,bareE,List.cons.injEq,true_and,and_true]at q10
  obtain⟨rfl,rfl,rfl⟩:=q10
  have e3:l.drop p=putB (why-1).toNat++((if why=6 then []else putB at_.toNat)++r):=by rw[e2];exact List.append_assoc ..
  have b:=q9.2
  have e4:restE c ⟨10,th,0,at_,0,0,why⟩=putB (why-1).toNat++(if why=6 then []else putB at_.toNat):=rfl
  rw[e4]
  show(if(numF l 5 ⟨p,0⟩).1=5 then((⟨10,th,0,0,0,0,6⟩:Evt),(numF l 5 ⟨p,0⟩).2)else((⟨10,th,0,(numF l (s-1) (numF l 5 ⟨p,0⟩).2).1,0,0,(numF l 5 ⟨p,0⟩).1+1⟩:Evt),(numF l (s-1) (numF l 5 ⟨p,0⟩).2).2))=_
  rw[numF_put e3 (by omega) (by omega) (by omega)]
  dsimp only
  by_cases h6:why=6
  ·subst h6
   have b1:at_<=1-1:=b
   obtain rfl:at_=0:=by omega
   rw[if_pos (by decide),if_pos rfl,List.append_nil]
  ·rw[if_neg h6]at e3
   have b1:at_<=s-1:=by
    have:placesE ⟨10,th,0,at_,0,0,why⟩ v s=s:=by
     unfold placesE
     rw[if_neg (show ¬((10:Int)=3\/(10:Int)=8) by decide),if_neg (fun q=>h6 q.2)]
    omega
   rw[if_neg (by omega),numF_put (drop_step e3) (by omega) (by omega) (by omega),if_neg h6]
   dsimp only
   rw[show why-1+1=why by omega,List.length_append,Nat.add_assoc]
 ·simp only[evL,bareE,List.cons.injEq,true_and,and_true]at q10
  obtain⟨rfl,rfl,rfl,rfl⟩:=q10
  have b:at_<=s-1:=q9.2
  have e3:l.drop p=putB at_.toNat++r:=e2
  show((⟨11,th,0,(numF l (s-1) ⟨p,0⟩).1,0,0,0⟩:Evt),(numF l (s-1) ⟨p,0⟩).2)=_
  rw[numF_put e3 (by omega) (by omega) (by omega)]
  rfl
 ·simp only[evL,bareE,List.cons.injEq,true_and,and_true]at q10
  obtain⟨rfl,rfl,rfl,rfl,rfl⟩:=q10
  rfl
 ·simp only[evL,bareE,List.cons.injEq,true_and,and_true]at q10
  obtain⟨rfl,rfl,rfl,rfl,rfl⟩:=q10
  rfl
end Go.Proofs.YtgdmlkgjpcnelaaGreatDoor
namespace Go.Proofs.YtgdmlkgjpcnelaaGreatDoor
open Go Go.Vc
set_option linter.unusedVariables false
set_option maxRecDepth 100000
theorem bad_stays {l:List UInt8}{most:Int}{r:Rs}(h:(numF l most r).2.e=0):r.e=0:=by
 apply Classical.byContradiction
 intro g
 rw[numF_bad g]at h
 exact g h
theorem fail_e {p:Nat}{r:Rs}(h:(failF p 20 r).e=0)(hp:p<=r.p):False:=by
 unfold failF at h
 by_cases g:r.e≠0
 ·rw[if_pos g]at h;exact g h
 ·rw[if_neg g,if_neg (by omega)]at h;dsimp only at h;omega
theorem enc_dec {c:Co}{t v s:Int}{l:List UInt8}{r:Rs}(h1:1<=t/\t<=6)(hv:1<=v)(hs:1<=s)(hc:CoOk c t)(hp:r.p<=l.length)(h:(readE l t v s c r).2.e=0) :
  r.e=0/\l.drop r.p=encE t c (readE l t v s c r).1++l.drop (readE l t v s c r).2.p/\r.p<(readE l t v s c r).2.p/\(readE l t v s c r).2.p<=l.length:=by
 have hf:=numF_bd (l:=l) (r:=r) (show 0<=13*t-1 by omega)
 obtain⟨b1,b2,b3⟩:=first_back h1 hf hc.last
 have hp0:=numF_p (l:=l) (most:=13*t-1) hp
 suffices H:(numF l (13*t-1) r).2.e=0/\l.drop (numF l (13*t-1) r).2.p=restE c (readE l t v s c r).1++l.drop (readE l t v s c r).2.p/\(readE l t v s c r).1.kind=kindF t (numF l (13*t-1) r).1/\(readE l t v s c r).1.thread=thrF t c.last (numF l (13*t-1) r).1/\(numF l (13*t-1) r).2.p<=(readE l t v s c r).2.p/\(readE l t v s c r).2.p<=l.length by
  obtain⟨a1,a2,a3,a4,a5,a6⟩:=H
  obtain⟨d1,d2,d3,d4⟩:=numF_back a1 hp
  have e1:encE t c (readE l t v s c r).1=putB (numF l (13*t-1) r).1.toNat++restE c (readE l t v s c r).1:=by
   unfold encE firstE
   rw[a3,a4,b3]
  refine⟨d1,?_,?_,a6⟩
  ·rw[e1,List.append_assoc,<-a2];exact d2
  ·have:=congrArg List.length d2
   rw[List.length_append,List.length_drop,List.length_drop]at this
   have:=(putB_len (numF l (13*t-1) r).1.toNat).1
   omega
 have hR:readE l t v s c r=readK l v s c (kindF t (numF l (13*t-1) r).1) (thrF t c.last (numF l (13*t-1) r).1) (numF l (13*t-1) r).2:=rfl
 rw[hR]at h ⊢
 generalize kindF t (numF l (13*t-1) r).1=k at b1 h ⊢
 generalize thrF t c.last (numF l (13*t-1) r).1=th at b2 h ⊢
 generalize (numF l (13*t-1) r).2=r at hp0 h ⊢
 have hp:=hp0.2
 clear hR b3 hp0 hf
 have hb:=hc.begun th.toNat
 have hu:=hc.bumped th.toNat
 have hcl:=hc.clock
 have hh:k=1\/k=2\/k=3\/k=4\/k=5\/k=6\/k=7\/k=8\/k=9\/k=10\/k=11\/k=12\/k=13:=by omega
 have plain:∀k',(restE c ⟨k',th,0,(numF l (s-1) r).1,0,0,0⟩=putB (numF l (s-1) r).1.toNat)->(numF l (s-1) r).2.e=0->r.e=0/\l.drop r.p=restE c ⟨k',th,0,(numF l (s-1) r).1,0,0,0⟩++l.drop (numF l (s-1) r).2.p/\k'=k'/\th=th/\r.p<=(numF l (s-1) r).2.p/\(numF l (s-1) r).2.p<=l.length:=fun k' e h=>by
  obtain⟨d1,d2,d3,d4⟩:=numF_back h hp
  exact⟨d1,by rw[e];exact d2,rfl,rfl,d3,d4⟩
 have value:∀k',(restE c ⟨k',th,0,(numF l (v-1) r).1,0,IntKind.i64.wrap (c.x (numF l (v-1) r).1.toNat+(intF l (numF l (v-1) r).2).1),0⟩=putB (numF l (v-1) r).1.toNat++putB (zigI (IntKind.i64.wrap (IntKind.i64.wrap (c.x (numF l (v-1) r).1.toNat+(intF l (numF l (v-1) r).2).1)-c.x (numF l (v-1) r).1.toNat))).toNat)->(intF l (numF l (v-1) r).2).2.e=0->r.e=0/\l.drop r.p=restE c ⟨k',th,0,(numF l (v-1) r).1,0,IntKind.i64.wrap (c.x (numF l (v-1) r).1.toNat+(intF l (numF l (v-1) r).2).1),0⟩++l.drop (intF l (numF l (v-1) r).2).2.p/\k'=k'/\th=th/\r.p<=(intF l (numF l (v-1) r).2).2.p/\(intF l (numF l (v-1) r).2).2.p<=l.length:=fun k' e h=>by
  have g1:=numF_p (l:=l) (most:=v-1) hp
  obtain⟨d1,d2,d3,d4⟩:=numF_back (most:=18446744073709551615) h g1.2
  obtain⟨f1,f2,f3,f4⟩:=numF_back d1 hp
  have hi:=numF_bd (l:=l) (r:=(numF l (v-1) r).2) (show(0:Int)<=18446744073709551615 by decide)
  have z:=zag_bd _ hi.1 (by omega)
  refine⟨f1,?_,rfl,rfl,by show r.p<=(numF l 18446744073709551615 (numF l (v-1) r).2).2.p;omega,d4⟩
  rw[e,wrap_back2 (intF l (numF l (v-1) r).2).1 _ ⟨z.1,z.2⟩,f2,List.append_assoc]
  refine congrArg _ ?_
  show _=putB (zigI (zagI (numF l 18446744073709551615 (numF l (v-1) r).2).1)).toNat++_
  rw[zig_zag _ hi.1]
  exact d2
 rcases hh with rfl|rfl|rfl|rfl|rfl|rfl|rfl|rfl|rfl|rfl|rfl|rfl|rfl
 ·have g1:=numF_p (l:=l) (most:=5) hp
  obtain⟨d1,d2,d3,d4⟩:=numF_back (most:=1099511627776-c.clock) h g1.2
  obtain⟨f1,f2,f3,f4⟩:=numF_back d1 hp
  have hi:=numF_bd (l:=l) (r:=(numF l 5 r).2) (show(0:Int)<=1099511627776-c.clock by omega)
  refine⟨f1,?_,rfl,rfl,by show r.p<=(numF l (1099511627776-c.clock) (numF l 5 r).2).2.p;omega,d4⟩
  show l.drop r.p=(putB (numF l 5 r).1.toNat++putB (c.clock+(numF l (1099511627776-c.clock) (numF l 5 r).2).1-c.clock).toNat)++l.drop (numF l (1099511627776-c.clock) (numF l 5 r).2).2.p
  rw[show c.clock+(numF l (1099511627776-c.clock) (numF l 5 r).2).1-c.clock=(numF l (1099511627776-c.clock) (numF l 5 r).2).1 by omega,List.append_assoc,<-d2]
  exact f2
 ·have g1:=numF_p (l:=l) (most:=s-1) hp
  obtain⟨d1,d2,d3,d4⟩:=numF_back (most:=c.begun th.toNat) h g1.2
  obtain⟨f1,f2,f3,f4⟩:=numF_back d1 hp
  refine⟨f1,?_,rfl,rfl,by show r.p<=(numF l (c.begun th.toNat) (numF l (s-1) r).2).2.p;omega,d4⟩
  show l.drop r.p=(putB (numF l (s-1) r).1.toNat++putB (c.begun th.toNat-(c.begun th.toNat-(numF l (c.begun th.toNat) (numF l (s-1) r).2).1)).toNat)++l.drop (numF l (c.begun th.toNat) (numF l (s-1) r).2).2.p
  rw[show c.begun th.toNat-(c.begun th.toNat-(numF l (c.begun th.toNat) (numF l (s-1) r).2).1)=(numF l (c.begun th.toNat) (numF l (s-1) r).2).1 by omega,List.append_assoc,<-d2]
  exact f2
 ·exact value 3 rfl h
 ·exact plain 4 rfl h
 ·have h':(if(numF l (1099511627776-c.clock) r).1=0 then failF r.p 20 (numF l (1099511627776-c.clock) r).2 else(numF l (1099511627776-c.clock) r).2).e=0:=h
  have g1:=numF_p (l:=l) (most:=1099511627776-c.clock) hp
  have hq:¬(numF l (1099511627776-c.clock) r).1=0:=fun q=>by
   rw[if_pos q]at h'
   exact fail_e h' g1.1
  rw[if_neg hq]at h'
  obtain⟨d1,d2,d3,d4⟩:=numF_back h' hp
  have e1:readK l v s c 5 th r=(⟨5,th,0,0,c.clock+(numF l (1099511627776-c.clock) r).1,0,0⟩,(numF l (1099511627776-c.clock) r).2):=by
   show(_,(if(numF l (1099511627776-c.clock) r).1=0 then failF r.p 20 (numF l (1099511627776-c.clock) r).2 else(numF l (1099511627776-c.clock) r).2))=_
   rw[if_neg hq]
  rw[e1]
  refine⟨d1,?_,rfl,rfl,d3,d4⟩
  show l.drop r.p=putB (c.clock+(numF l (1099511627776-c.clock) r).1-c.clock).toNat++_
  rw[show c.clock+(numF l (1099511627776-c.clock) r).1-c.clock=(numF l (1099511627776-c.clock) r).1 by omega]
  exact d2
 ·exact plain 6 rfl h
 ·have g1:=numF_p (l:=l) (most:=1) hp
  have hi:=numF_bd (l:=l) (r:=r) (show(0:Int)<=1 by decide)
  by_cases hq:(numF l 1 r).1=0
  ·have e1:readK l v s c 7 th r=(⟨7,th,0,0,0,0,0⟩,(numF l 1 r).2):=by
    show(if(numF l 1 r).1=0 then _ else _)=_
    rw[if_pos hq]
   rw[e1]at h ⊢
   obtain⟨d1,d2,d3,d4⟩:=numF_back h hp
   refine⟨d1,?_,rfl,rfl,d3,d4⟩
   rw[hq]at d2
   exact d2
  ·have e1:readK l v s c 7 th r=(⟨7,th,0,0,c.bumped th.toNat,0,0⟩,if c.bumped th.toNat=0 then failF r.p 20 (numF l 1 r).2 else(numF l 1 r).2):=by
    show(if(numF l 1 r).1=0 then _ else _)=_
    rw[if_neg hq]
   rw[e1]at h ⊢
   by_cases hz:c.bumped th.toNat=0
   ·rw[if_pos hz]at h
    exact(fail_e h g1.1).elim
   rw[if_neg hz]at h ⊢
   obtain⟨d1,d2,d3,d4⟩:=numF_back h hp
   refine⟨d1,?_,rfl,rfl,d3,d4⟩
   show l.drop r.p=putB (min (c.bumped th.toNat) 1).toNat++_
   rw[show min (c.bumped th.toNat) 1=(numF l 1 r).1 by omega]
   exact d2
 ·exact value 8 rfl h
 ·exact plain 9 rfl h
 ·have g1:=numF_p (l:=l) (most:=5) hp
  have hi:=numF_bd (l:=l) (r:=r) (show(0:Int)<=5 by decide)
  by_cases hq:(numF l 5 r).1=5
  ·have e1:readK l v s c 10 th r=(⟨10,th,0,0,0,0,6⟩,(numF l 5 r).2):=by
    show(if(numF l 5 r).1=5 then _ else _)=_
    rw[if_pos hq]
   rw[e1]at h ⊢
   obtain⟨d1,d2,d3,d4⟩:=numF_back h hp
   refine⟨d1,?_,rfl,rfl,d3,d4⟩
   rw[hq]at d2
   exact d2
  ·have e1:readK l v s c 10 th r=(⟨10,th,0,(numF l (s-1) (numF l 5 r).2).1,0,0,(numF l 5 r).1+1⟩,(numF l (s-1) (numF l 5 r).2).2):=by
    show(if(numF l 5 r).1=5 then _ else _)=_
    rw[if_neg hq]
   rw[e1]at h ⊢
   obtain⟨d1,d2,d3,d4⟩:=numF_back h g1.2
   obtain⟨f1,f2,f3,f4⟩:=numF_back d1 hp
   refine⟨f1,?_,rfl,rfl,by dsimp only;omega,d4⟩
   show l.drop r.p=(putB ((numF l 5 r).1+1-1).toNat++if(numF l 5 r).1+1=6 then []else putB (numF l (s-1) (numF l 5 r).2).1.toNat)++_
   rw[if_neg (by omega),show(numF l 5 r).1+1-1=(numF l 5 r).1 by omega,List.append_assoc,<-d2]
   exact f2
 ·exact plain 11 rfl h
 ·exact⟨h,rfl,rfl,rfl,Nat.le_refl _,hp⟩
 ·exact⟨h,rfl,rfl,rfl,Nat.le_refl _,hp⟩
end Go.Proofs.YtgdmlkgjpcnelaaGreatDoor
namespace Go.Proofs.YtgdmlkgjpcnelaaGreatDoor
open Go Go.Vc
set_option linter.unusedVariables false
set_option maxRecDepth 100000
structure Link (c:Co)(m:Sh):Prop where
 clock:c.clock=m.clock
 rv:∀i,i<m.nt->c.begun i=(m.th i).rv
 wv:∀i,i<m.nt->(m.th i).at_=4->c.bumped i=(m.th i).wv
theorem link0 (v:Int)(nt ns:Nat):Link co0 (sh0 v nt ns):=⟨rfl,fun _ _=>rfl,fun _ _ _=>rfl⟩
theorem Link.one {c c':Co}{m m':Sh}{i:Nat}(h:Link c m)(hn:m'.nt=m.nt)(hc:c'.clock=c.clock)(hb:c'.begun=c.begun)(hu:c'.bumped=c.bumped)(k1:m'.clock=m.clock)(k2:∀j,j≠i->m'.th j=m.th j)(k3:(m'.th i).rv=(m.th i).rv)(k4:(m'.th i).at_=4->(m.th i).at_=4/\(m'.th i).wv=(m.th i).wv):Link c' m':=by
 refine⟨by rw[hc,k1];exact h.clock,fun j hj=>?_,fun j hj g=>?_⟩
 ·rw[hb,h.rv j (by omega)]
  by_cases q:j=i
  ·subst q;exact k3.symm
  ·rw[k2 j q]
 ·rw[hu]
  by_cases q:j=i
  ·subst q
   rw[h.wv j (by omega) (k4 g).1];exact(k4 g).2.symm
  ·rw[k2 j q]at g ⊢
   exact h.wv j (by omega) g
theorem upd_th (f:Nat->Th)(i:Nat)(x:Th):updT f i x i=x:=by unfold updT;rw[if_pos rfl]
theorem upd_ne (f:Nat->Th){i j:Nat}(x:Th)(h:j≠i):updT f i x j=f j:=by unfold updT;rw[if_neg h]
theorem updI_at (f:Nat->Int)(i:Nat)(x:Int):updI f i x i=x:=by unfold updI;rw[if_pos rfl]
theorem updI_ne (f:Nat->Int){i j:Nat}(x:Int)(h:j≠i):updI f i x j=f j:=by unfold updI;rw[if_neg h]
theorem Link.th {c c':Co}{m m':Sh}{i:Nat}{x:Th}(h:Link c m)(hn:m'.nt=m.nt)(hc:c'.clock=c.clock)(hb:c'.begun=c.begun)(hu:c'.bumped=c.bumped)(k1:m'.clock=m.clock)(k2:m'.th=updT m.th i x)(k3:x.rv=(m.th i).rv)(k4:x.at_=4->(m.th i).at_=4/\x.wv=(m.th i).wv):Link c' m':=by
 refine h.one (i:=i) hn hc hb hu k1 (fun j hj=>by rw[k2,upd_ne _ _ hj]) ?_ ?_
 ·rw[k2,upd_th];exact k3
 ·rw[k2,upd_th];exact k4
theorem next_ok {m m':Sh}{e:Evt}(h:nextS m e=(0,m')):MayP e m.nt m.vars m.ns/\∃m1,stepS m e.thread.toNat e=some m1/\m'={m1 with events:=m1.events+1}:=by
 unfold nextS at h
 by_cases h1:m.events ≥ 1048576
 ·rw[if_pos h1]at h;injection h with h _;exact absurd h (by decide)
 rw[if_neg h1]at h
 by_cases h2:¬MayP e m.nt m.vars m.ns
 ·rw[if_pos h2]at h;injection h with h _;exact absurd h (by decide)
 rw[if_neg h2]at h
 refine⟨Classical.not_not.1 h2,?_⟩
 cases hs:stepS m e.thread.toNat e with
 |none=>rw[hs]at h;injection h with h _;exact absurd h (by decide)
 |some m1=>rw[hs]at h;injection h with _ h;exact⟨m1,rfl,h.symm⟩
theorem Link.ev {c:Co}{m:Sh}{n:Int}(h:Link c m):Link c {m with events:=n}:=⟨h.clock,h.rv,h.wv⟩
theorem tells_next {c:Co}{m m':Sh}{e:Evt}(hl:Link c m)(h:nextS m e=(0,m')):TellsP c e m.nt m.vars m.ns/\Link (knowS c e) m':=by
 obtain⟨hmay,m1,hs,rfl⟩:=next_ok h
 suffices H:((e.kind=1->c.clock<=e.v)/\(e.kind=2->e.v<=c.begun e.thread.toNat)/\(e.kind=5->c.clock<e.v)/\(e.kind=7->e.v=0\/e.v=c.bumped e.thread.toNat))/\Link (knowS c e) m1 from⟨⟨hmay,H.1.1,H.1.2.1,H.1.2.2.1,H.1.2.2.2⟩,H.2.ev⟩
 have hi:e.thread.toNat<m.nt:=by obtain⟨q1,q2,q3,q4,q5,q6,_⟩:=hmay;omega
 have hk:1<=e.kind/\e.kind<=13:=hmay.2.2.2.1
 clear h hmay
 obtain⟨ek,th,tx,at_,ev,ex,why⟩:=e
 have hh:ek=1\/ek=2\/ek=3\/ek=4\/ek=5\/ek=6\/ek=7\/ek=8\/ek=9\/ek=10\/ek=11\/ek=12\/ek=13:=by have:1<=ek/\ek<=13:=hk;omega
 dsimp only at *
 rcases hh with rfl|rfl|rfl|rfl|rfl|rfl|rfl|rfl|rfl|rfl|rfl|rfl|rfl
 ·have hs:beginS m th.toNat ⟨1,th,tx,at_,ev,ex,why⟩=some m1:=hs
  unfold beginS at hs
  (repeat' split at hs)<;>first|(cases hs;done)|skip
  rename_i g1 g2 g3
  injection hs with hs;subst hs
  dsimp only at g3
  refine⟨⟨fun _=>by rw[hl.clock];omega,fun q=>absurd q (by decide),fun q=>absurd q (by decide),fun q=>absurd q (by decide)⟩,rfl,fun j hj=>?_,fun j hj g=>?_⟩
  ·show updI c.begun th.toNat ev j=_
   by_cases q:j=th.toNat
   ·rw[q,updI_at];dsimp only;rw[upd_th]
   ·rw[updI_ne _ _ q];dsimp only;rw[upd_ne _ _ q];exact hl.rv j hj
  ·dsimp only at g ⊢
   by_cases q:j=th.toNat
   ·rw[q,upd_th]at g;have g:(1:Int)=4:=g;omega
   ·rw[upd_ne _ _ q]at g ⊢;exact hl.wv j hj g
 ·have hs:lookS m th.toNat ⟨2,th,tx,at_,ev,ex,why⟩=some m1:=hs
  unfold lookS at hs
  (repeat' split at hs)<;>first|(cases hs;done)|skip
  rename_i g1 g2 g3 g4
  injection hs with hs;subst hs
  dsimp only at g4
  refine⟨⟨fun q=>absurd q (by decide),fun _=>by rw[hl.rv _ hi];omega,fun q=>absurd q (by decide),fun q=>absurd q (by decide)⟩,hl.th rfl rfl rfl rfl rfl rfl rfl (fun q=>by have q:(2:Int)=4:=q;omega)⟩
 ·have hs:loadS m th.toNat ⟨3,th,tx,at_,ev,ex,why⟩=some m1:=hs
  unfold loadS at hs
  (repeat' split at hs)<;>first|(cases hs;done)|skip
  injection hs with hs;subst hs
  refine⟨⟨fun q=>absurd q (by decide),fun q=>absurd q (by decide),fun q=>absurd q (by decide),fun q=>absurd q (by decide)⟩,hl.th rfl rfl rfl rfl rfl rfl rfl (fun q=>by have q:(1:Int)=4:=q;omega)⟩
 ·have hs:lockS m th.toNat ⟨4,th,tx,at_,ev,ex,why⟩=some m1:=hs
  unfold lockS at hs
  (repeat' split at hs)<;>first|(cases hs;done)|skip
  injection hs with hs;subst hs
  refine⟨⟨fun q=>absurd q (by decide),fun q=>absurd q (by decide),fun q=>absurd q (by decide),fun q=>absurd q (by decide)⟩,hl.th rfl rfl rfl rfl rfl rfl rfl (fun q=>by have q:(3:Int)=4:=q;omega)⟩
 ·have hs:bumpS m th.toNat ⟨5,th,tx,at_,ev,ex,why⟩=some m1:=hs
  unfold bumpS at hs
  split at hs
  ·cases hs
  split at hs
  ·cases hs
  ·rename_i g1 g2
   injection hs with hs
   subst hs
   dsimp only at g2
   refine⟨⟨fun q=>absurd q (by decide),fun q=>absurd q (by decide),fun _=>by rw[hl.clock];omega,fun q=>absurd q (by decide)⟩,rfl,fun j hj=>?_,fun j hj g=>?_⟩
   ·show c.begun j=_
    by_cases q:j=th.toNat
    ·rw[q];dsimp only;rw[upd_th,hl.rv _ hi]
    ·dsimp only;rw[upd_ne _ _ q];exact hl.rv j hj
   ·show updI c.bumped th.toNat ev j=_
    dsimp only at g ⊢
    by_cases q:j=th.toNat
    ·rw[q,upd_th,updI_at]
    ·rw[upd_ne _ _ q]at g ⊢;rw[updI_ne _ _ q];exact hl.wv j hj g
 ·have hs:checkedS m th.toNat ⟨6,th,tx,at_,ev,ex,why⟩=some m1:=hs
  unfold checkedS at hs
  (repeat' split at hs)<;>first|(cases hs;done)|skip
  injection hs with hs;subst hs
  refine⟨⟨fun q=>absurd q (by decide),fun q=>absurd q (by decide),fun q=>absurd q (by decide),fun q=>absurd q (by decide)⟩,hl.th rfl rfl rfl rfl rfl rfl rfl (fun q=>⟨q,rfl⟩)⟩
 ·have hs:commitS m th.toNat ⟨7,th,tx,at_,ev,ex,why⟩=some m1:=hs
  unfold commitS at hs
  (repeat' split at hs)<;>first|(cases hs;done)|skip
  ·rename_i g1
   injection hs with hs;subst hs
   refine⟨⟨fun q=>absurd q (by decide),fun q=>absurd q (by decide),fun q=>absurd q (by decide),fun _=>.inl g1.1⟩,hl.th rfl rfl rfl rfl rfl rfl rfl (fun q=>by have q:(0:Int)=4:=q;omega)⟩
  ·rename_i g1 g2
   injection hs with hs;subst hs
   refine⟨⟨fun q=>absurd q (by decide),fun q=>absurd q (by decide),fun q=>absurd q (by decide),fun _=>.inr (by rw[hl.wv _ hi g2.2.1];exact g2.2.2.2)⟩,hl.th rfl rfl rfl rfl rfl rfl rfl (fun q=>by have q:(5:Int)=4:=q;omega)⟩
 ·have hs:storeS m th.toNat ⟨8,th,tx,at_,ev,ex,why⟩=some m1:=hs
  unfold storeS at hs
  (repeat' split at hs)<;>first|(cases hs;done)|skip
  rename_i g1 g2 g3
  injection hs with hs;subst hs
  refine⟨⟨fun q=>absurd q (by decide),fun q=>absurd q (by decide),fun q=>absurd q (by decide),fun q=>absurd q (by decide)⟩,hl.th rfl rfl rfl rfl rfl rfl rfl (fun q=>by have g5:(m.th th.toNat).at_=5:=Classical.not_not.1 g1;have q:(m.th th.toNat).at_=4:=q;omega)⟩
 ·have hs:freedS m th.toNat ⟨9,th,tx,at_,ev,ex,why⟩=some m1:=hs
  unfold freedS at hs
  (repeat' split at hs)<;>first|(cases hs;done)|skip
  all_goals
   injection hs with hs;subst hs
   refine⟨⟨fun q=>absurd q (by decide),fun q=>absurd q (by decide),fun q=>absurd q (by decide),fun q=>absurd q (by decide)⟩,?_⟩
   refine hl.one (i:=th.toNat) rfl rfl rfl rfl rfl (fun j hj=>?_) ?_ ?_
   ·simp only[endsS,freeS,leaveS,upd_ne _ _ hj]
   ·simp only[endsS,freeS,leaveS,upd_th]
   ·simp only[endsS,freeS,leaveS,upd_th]
    intro q
    first|exact absurd q (by decide)|skip
 ·have hs:abortS m th.toNat ⟨10,th,tx,at_,ev,ex,why⟩=some m1:=hs
  unfold abortS at hs
  (repeat' split at hs)<;>first|(cases hs;done)|skip
  injection hs with hs;subst hs
  refine⟨⟨fun q=>absurd q (by decide),fun q=>absurd q (by decide),fun q=>absurd q (by decide),fun q=>absurd q (by decide)⟩,hl.th rfl rfl rfl rfl rfl rfl rfl (fun q=>by exfalso;revert q;dsimp only;(repeat' split)<;>decide)⟩
 ·have hs:undoS m th.toNat ⟨11,th,tx,at_,ev,ex,why⟩=some m1:=hs
  unfold undoS at hs
  by_cases g1:(m.th th.toNat).at_≠7
  ·rw[if_pos g1]at hs;cases hs
  rw[if_neg g1]at hs
  split at hs
  ·cases hs
  injection hs with hs;subst hs
  refine⟨⟨fun q=>absurd q (by decide),fun q=>absurd q (by decide),fun q=>absurd q (by decide),fun q=>absurd q (by decide)⟩,?_⟩
  have g7:(m.th th.toNat).at_=7:=Classical.not_not.1 g1
  split
  ·exact hl.one (i:=th.toNat) rfl rfl rfl rfl rfl (fun j hj=>by simp only[leaveS,upd_ne _ _ hj]) (by simp only[leaveS,upd_th]) (by simp only[leaveS,upd_th];intro q;exact absurd q (by decide))
  split
  ·exact hl.one (i:=th.toNat) rfl rfl rfl rfl rfl (fun j hj=>by simp only[leaveS,upd_ne _ _ hj]) (by simp only[leaveS,upd_th]) (by simp only[leaveS,upd_th];intro q;exact absurd q (by decide))
  ·exact hl.one (i:=th.toNat) rfl rfl rfl rfl rfl (fun j hj=>by simp only[leaveS,upd_ne _ _ hj]) (by simp only[leaveS,upd_th]) (by simp only[leaveS,upd_th];intro q;exact⟨q,trivial⟩)
 ·have hs:waitS m th.toNat ⟨12,th,tx,at_,ev,ex,why⟩=some m1:=hs
  unfold waitS at hs
  (repeat' split at hs)<;>first|(cases hs;done)|skip
  injection hs with hs;subst hs
  refine⟨⟨fun q=>absurd q (by decide),fun q=>absurd q (by decide),fun q=>absurd q (by decide),fun q=>absurd q (by decide)⟩,hl.th rfl rfl rfl rfl rfl rfl rfl (fun q=>by have q:(8:Int)=4:=q;omega)⟩
 ·have hs:wakeS m th.toNat ⟨13,th,tx,at_,ev,ex,why⟩=some m1:=hs
  unfold wakeS at hs
  (repeat' split at hs)<;>first|(cases hs;done)|skip
  injection hs with hs;subst hs
  refine⟨⟨fun q=>absurd q (by decide),fun q=>absurd q (by decide),fun q=>absurd q (by decide),fun q=>absurd q (by decide)⟩,hl.th rfl rfl rfl rfl rfl rfl rfl (fun q=>by have q:(0:Int)=4:=q;omega)⟩
end Go.Proofs.YtgdmlkgjpcnelaaGreatDoor
namespace Go.Proofs.YtgdmlkgjpcnelaaGreatDoor
open Go Go.Vc
set_option linter.unusedVariables false
set_option maxRecDepth 100000
def encL (t:Int):Co->List Evt->List UInt8
 |_,[]=>[]
 |c,e::l=>encE t c e++encL t (knowS c e) l
noncomputable def okL:Sh->List Evt->Prop
 |_,[]=>True
 |m,e::l=>(nextS m e).1=0/\okL (nextS m e).2 l
def XOk (e:Evt):Prop:=-9223372036854775808<=e.x/\e.x<=9223372036854775807
noncomputable def decF (l:List UInt8)(t v s:Int):Nat->Co->Sh->Rs->List Evt × Rs
 |0,_,_,r=>([],r)
 |f+1,c,m,r=>if(readE l t v s c r).2.e≠0 then([],(readE l t v s c r).2)else
  if(nextS m (readE l t v s c r).1).1≠0 then([],failF r.p 4 (readE l t v s c r).2)else
  ((readE l t v s c r).1::(decF l t v s f (knowS c (readE l t v s c r).1) (nextS m (readE l t v s c r).1).2 (readE l t v s c r).2).1,(decF l t v s f (knowS c (readE l t v s c r).1) (nextS m (readE l t v s c r).1).2 (readE l t v s c r).2).2)
theorem next_keep {m m':Sh}{e:Evt}(h:nextS m e=(0,m')):m'.nt=m.nt/\m'.ns=m.ns/\m'.vars=m.vars:=by
 obtain⟨hmay,m1,hs,rfl⟩:=next_ok h
 have hk:1<=e.kind/\e.kind<=13:=hmay.2.2.2.1
 have K:Keeps m m1:=by
  clear h hmay
  generalize e.thread.toNat=i at hs
  obtain⟨ek,th,tx,at_,ev,ex,why⟩:=e
  have hh:ek=1\/ek=2\/ek=3\/ek=4\/ek=5\/ek=6\/ek=7\/ek=8\/ek=9\/ek=10\/ek=11\/ek=12\/ek=13:=by have:1<=ek/\ek<=13:=hk;omega
  rcases hh with rfl|rfl|rfl|rfl|rfl|rfl|rfl|rfl|rfl|rfl|rfl|rfl|rfl
  ·exact begin_keeps (e:=⟨1,th,tx,at_,ev,ex,why⟩) hs
  ·exact look_keeps (e:=⟨2,th,tx,at_,ev,ex,why⟩) hs
  ·exact load_keeps (e:=⟨3,th,tx,at_,ev,ex,why⟩) hs
  ·exact lock_keeps (e:=⟨4,th,tx,at_,ev,ex,why⟩) hs
  ·exact bump_keeps (e:=⟨5,th,tx,at_,ev,ex,why⟩) hs
  ·exact checked_keeps (e:=⟨6,th,tx,at_,ev,ex,why⟩) hs
  ·exact commit_keeps (e:=⟨7,th,tx,at_,ev,ex,why⟩) hs
  ·exact store_keeps (e:=⟨8,th,tx,at_,ev,ex,why⟩) hs
  ·exact freed_keeps (e:=⟨9,th,tx,at_,ev,ex,why⟩) hs
  ·exact abort_keeps (e:=⟨10,th,tx,at_,ev,ex,why⟩) hs
  ·exact undo_keeps (e:=⟨11,th,tx,at_,ev,ex,why⟩) hs
  ·exact wait_keeps (e:=⟨12,th,tx,at_,ev,ex,why⟩) hs
  ·exact wake_keeps (e:=⟨13,th,tx,at_,ev,ex,why⟩) hs
 exact⟨K.2.1,K.2.2.1,K.2.2.2⟩
theorem tells_know {c:Co}{e:Evt}{t v s:Int}(h:TellsP c e t v s)(hc:CoOk c t)(hx:XOk e):CoOk (knowS c e) t:=by
 obtain⟨⟨q1,q2,q3,q4,q5,q6,q7,q8,q9,q10⟩,_⟩:=h
 refine know_ok hc ⟨q6.1,by omega⟩ ⟨?_,q8.2⟩ hx
 have:=q8.1
 unfold leastE at this
 split at this<;>omega
theorem dec_encL (l:List UInt8)(v:Int):∀(es:List Evt) (c:Co) (m:Sh) (p:Nat) (r:List UInt8),Link c m->CoOk c m.nt->m.vars=v->okL m es->(∀e,e∈es->XOk e)->l.drop p=encL m.nt c es++r ->
  decF l m.nt v m.ns es.length c m ⟨p,0⟩=(es,⟨p+(encL m.nt c es).length,0⟩)
 |[],c,m,p,r,_,_,_,_,_,_=>rfl
 |e::es,c,m,p,r,hl,hc,hv,ho,hx,h=>by
  cases hn:nextS m e with
  |mk a m'=>
   have h1:a=0:=by have:=ho.1;rw[hn]at this;exact this
   subst h1
   have h2:okL m' es:=by have:=ho.2;rw[hn]at this;exact this
   obtain⟨k1,k2⟩:=tells_next hl hn
   obtain⟨g1,g2,g3⟩:=next_keep hn
   have e1:l.drop p=encE m.nt c e++(encL m.nt (knowS c e) es++r):=by rw[h,<-List.append_assoc];rfl
   have e2:=dec_enc (hv▸k1) hc (hx e (List.mem_cons_self ..)) e1
   have hc2:=tells_know k1 hc (hx e (List.mem_cons_self ..))
   have ih:=dec_encL l v es (knowS c e) m' (p+(encE m.nt c e).length) r k2 (by rw[g1];exact hc2) (by omega) h2 (fun e' he=>hx e' (List.mem_cons_of_mem _ he)) (by rw[g1];exact drop_step e1)
   rw[g1,g2]at ih
   show(if(readE l m.nt v m.ns c ⟨p,0⟩).2.e≠0 then _ else _)=_
   rw[e2]
   dsimp only
   rw[if_neg (by simp),hn]
   dsimp only
   rw[if_neg (by simp),ih]
   rw[show encL m.nt c (e::es)=encE m.nt c e++encL m.nt (knowS c e) es from rfl,List.length_append,Nat.add_assoc]
theorem readE_x {l:List UInt8}{t v s:Int}{c:Co}{r:Rs}(h1:1<=t/\t<=6)(hc:CoOk c t):XOk (readE l t v s c r).1:=by
 have hf:=numF_bd (l:=l) (r:=r) (show 0<=13*t-1 by omega)
 obtain⟨b1,b2,b3⟩:=first_back h1 hf hc.last
 have hR:readE l t v s c r=readK l v s c (kindF t (numF l (13*t-1) r).1) (thrF t c.last (numF l (13*t-1) r).1) (numF l (13*t-1) r).2:=rfl
 rw[hR]
 have z:-9223372036854775808<=(0:Int)/\(0:Int)<=9223372036854775807:=by decide
 unfold readK
 repeat' split
 all_goals first|exact z|exact wrap_bd _
theorem fail_p {p:Nat}{x:Int}{r:Rs}:(failF p x r).p<=r.p:=by
 unfold failF
 split
 ·exact Nat.le_refl _
 split
 ·exact Nat.le_refl _
 ·dsimp only;omega
theorem fail_le {l:List UInt8}{p:Nat}{x:Int}{r:Rs}(h:r.p<=l.length):(failF p x r).p<=l.length:=Nat.le_trans fail_p h
theorem readE_p {l:List UInt8}{t v s:Int}{c:Co}{r:Rs}(hp:r.p<=l.length):(readE l t v s c r).2.p<=l.length:=by
 have hp:=(numF_p (l:=l) (most:=13*t-1) hp).2
 have hR:readE l t v s c r=readK l v s c (kindF t (numF l (13*t-1) r).1) (thrF t c.last (numF l (13*t-1) r).1) (numF l (13*t-1) r).2:=rfl
 rw[hR]
 generalize (numF l (13*t-1) r).2=r at hp
 unfold readK intF
 repeat' split
 all_goals first|exact hp|exact(numF_p hp).2|exact(numF_p (numF_p hp).2).2|exact fail_le (numF_p hp).2
theorem decF_p {l:List UInt8}{t v s:Int}:∀(f:Nat) (c:Co) (m:Sh) (r:Rs),r.p<=l.length->(decF l t v s f c m r).2.p<=l.length
 |0,c,m,r,h=>h
 |f+1,c,m,r,h=>by
  unfold decF
  have hp:=readE_p (t:=t) (v:=v) (s:=s) (c:=c) h
  split
  ·exact hp
  split
  ·exact fail_le hp
  ·exact decF_p f _ _ _ hp
theorem enc_decL (l:List UInt8)(v:Int):∀(f:Nat) (c:Co) (m:Sh) (r:Rs),Link c m->(1<=m.nt/\m.nt<=6)->1<=v->1<=m.ns->CoOk c m.nt->m.vars=v->r.p<=l.length->(decF l m.nt v m.ns f c m r).2.e=0 ->
  r.e=0/\(decF l m.nt v m.ns f c m r).1.length=f/\okL m (decF l m.nt v m.ns f c m r).1/\(∀e,e∈(decF l m.nt v m.ns f c m r).1->XOk e)/\l.drop r.p=encL m.nt c (decF l m.nt v m.ns f c m r).1++l.drop (decF l m.nt v m.ns f c m r).2.p/\r.p+f<=(decF l m.nt v m.ns f c m r).2.p/\(decF l m.nt v m.ns f c m r).2.p<=l.length
 |0,c,m,r,hl,ht,hv,hs,hc,hm,hp,h=>⟨h,rfl,trivial,(fun e he=>by cases he),rfl,Nat.le_refl _,hp⟩
 |f+1,c,m,r,hl,ht,hv,hs,hc,hm,hp,h=>by
  have hlast:=decF_p (t:=m.nt) (v:=v) (s:=m.ns) (f+1) c m r hp
  unfold decF at h ⊢
  by_cases h1:(readE l m.nt v m.ns c r).2.e≠0
  ·rw[if_pos h1]at h;exact absurd h h1
  rw[if_neg h1]at h ⊢
  have hx:=readE_x (l:=l) (v:=v) (s:=m.ns) (r:=r) (t:=m.nt) (by omega) hc
  obtain⟨a1,a2,a3,a4⟩:=enc_dec (l:=l) (t:=m.nt) (v:=v) (s:=m.ns) (by omega) hv (by omega) hc hp (Classical.not_not.1 h1)
  by_cases h2:(nextS m (readE l m.nt v m.ns c r).1).1≠0
  ·rw[if_pos h2]at h
   exfalso
   unfold failF at h
   rw[if_neg h1,if_neg (by omega)]at h
   have h:(4:Int)=0:=h
   omega
  rw[if_neg h2]at h ⊢
  dsimp only at h ⊢
  generalize readE l m.nt v m.ns c r=q at *
  obtain⟨e,r'⟩:=q
  dsimp only at *
  cases hn:nextS m e with
  |mk a m'=>
   rw[hn]at h h2
   dsimp only at h h2 ⊢
   have h3:a=0:=Classical.not_not.1 h2
   subst h3
   obtain⟨k1,k2⟩:=tells_next hl hn
   obtain⟨g1,g2,g3⟩:=next_keep hn
   have ih:=enc_decL l v f (knowS c e) m' r' k2 (by omega) hv (by omega) (by rw[g1];exact tells_know k1 hc hx) (by omega) a4
   rw[g1,g2]at ih
   obtain⟨_,i1,i2,i3,i4,i5,i6⟩:=ih h
   refine⟨a1,by rw[List.length_cons,i1],⟨by rw[hn],by rw[hn];exact i2⟩,fun e' he=>?_,?_,by omega,i6⟩
   ·rcases List.mem_cons.1 he with rfl|he
    ·exact hx
    ·exact i3 e' he
   ·show l.drop r.p=(encE m.nt c e++encL m.nt (knowS c e) _)++_
    rw[List.append_assoc,<-i4]
    exact a2
theorem encE_len (t:Int)(c:Co)(e:Evt):1<=(encE t c e).length/\(encE t c e).length<=30:=by
 unfold encE restE
 rw[List.length_append]
 have:=putB_len (firstE t c e).toNat
 refine⟨by omega,?_⟩
 repeat' split
 all_goals try simp only[List.length_append,List.length_nil]
 all_goals first|(have a1:=putB_len e.tx.toNat;have a2:=putB_len (e.v-c.clock).toNat;omega)|(have a1:=putB_len e.at_.toNat;have a2:=putB_len (c.begun e.thread.toNat-e.v).toNat;omega)|(have a1:=putB_len e.at_.toNat;have a2:=putB_len (zigI (IntKind.i64.wrap (e.x-c.x e.at_.toNat))).toNat;omega)|(have a1:=putB_len (min e.v 1).toNat;omega)|(have a1:=putB_len (e.why-1).toNat;have a2:=putB_len e.at_.toNat;omega)|omega
theorem encL_len (t:Int):∀(es:List Evt) (c:Co),(encL t c es).length<=30*es.length
 |[],c=>Nat.le_refl _
 |e::es,c=>by
  rw[show encL t c (e::es)=encE t c e++encL t (knowS c e) es from rfl,List.length_append,List.length_cons]
  have:=(encE_len t c e).2
  have:=encL_len t es (knowS c e)
  omega
end Go.Proofs.YtgdmlkgjpcnelaaGreatDoor
namespace Go.Proofs.YtgdmlkgjpcnelaaGreatDoor
open Go Go.Vc
set_option linter.unusedVariables false
set_option maxRecDepth 100000
def bitF (r:Int):Int:=if bitR .and .u32 r 1=1 then bitR .xor .u32 (r.fdiv (2 ^ shf .u32 1)) 3988292384 else r.fdiv (2 ^ shf .u32 1)
def bitsF:Nat->Int->Int
 |0,r=>r
 |n+1,r=>bitsF n (bitF r)
def byteF (r:Int)(b:UInt8):Int:=bitsF 8 (bitR .xor .u32 r (b.toNat:Int))
def crcF:Int->List UInt8->Int
 |r,[]=>r
 |r,b::l=>crcF (byteF r b) l
theorem crc_app (a b:List UInt8):∀r,crcF r (a++b)=crcF (crcF r a) b:=by
 induction a with
 |nil=>intro r;rfl
 |cons x a ih=>intro r;exact ih _
def regF (r:Int):Int:=bitR .xor .u32 4294967295 r
def sealF (n:Int):List UInt8:=[UInt8.ofNat (IntKind.u8.wrap n).toNat,UInt8.ofNat (IntKind.u8.wrap (n.fdiv (2 ^ shf .u32 8))).toNat,UInt8.ofNat (IntKind.u8.wrap (n.fdiv (2 ^ shf .u32 16))).toNat,UInt8.ofNat (IntKind.u8.wrap (n.fdiv (2 ^ shf .u32 24))).toNat]
def sumF (l:List UInt8):List UInt8:=sealF (regF (crcF 4294967295 l))
def wrapF (b:List UInt8):List UInt8:=putB b.length++b++sumF (putB b.length++b)
def unwrapF (s:List UInt8):List UInt8 × Nat × Int:=
 if(getB s).2.2≠0 then([],0,(getB s).2.2)else
 if 16777216<(getB s).1 then([],0,20)else
 if s.length<(getB s).2.1+(getB s).1+4 then([],s.length,8)else
 if(getB s).2.1+(getB s).1+4<s.length then([],(getB s).2.1+(getB s).1+4,10)else
 if s.drop ((getB s).2.1+(getB s).1)≠sumF (s.take ((getB s).2.1+(getB s).1))then([],(getB s).2.1+(getB s).1,9)else
 ((s.take ((getB s).2.1+(getB s).1)).drop (getB s).2.1,0,0)
theorem unwrap_wrap (b:List UInt8)(h:b.length<=16777216):unwrapF (wrapF b)=(b,0,0):=by
 have e:getB (wrapF b)=(b.length,(putB b.length).length,0):=by
  unfold wrapF
  rw[List.append_assoc]
  exact getB_putB _ _ (by omega)
 have hl:(wrapF b).length=(putB b.length).length+b.length+4:=by
  unfold wrapF sumF sealF
  rw[List.length_append,List.length_append];rfl
 have ht:(wrapF b).take ((putB b.length).length+b.length)=putB b.length++b:=by
  unfold wrapF
  rw[<-List.length_append,List.take_left]
 have hd:(wrapF b).drop ((putB b.length).length+b.length)=sumF (putB b.length++b):=by
  unfold wrapF
  rw[<-List.length_append,List.drop_left]
 unfold unwrapF
 rw[e]
 dsimp only
 rw[if_neg (by simp),if_neg (by omega),if_neg (by omega),if_neg (by omega),hd,ht,if_neg (by simp),List.drop_left]
theorem unwrap_back {s:List UInt8}(h:(unwrapF s).2.2=0):s=wrapF (unwrapF s).1/\(unwrapF s).1.length<=16777216/\(unwrapF s).1.length+4<=s.length:=by
 rcases hg:getB s with⟨m,size,e⟩
 unfold unwrapF at h ⊢
 rw[hg]at h ⊢
 dsimp only at h ⊢
 by_cases h1:e≠0
 ·rw[if_pos h1]at h;dsimp only at h;omega
 rw[if_neg h1]at h ⊢
 by_cases h2:16777216<m
 ·rw[if_pos h2]at h;exact absurd (show(20:Int)=0 from h) (by decide)
 rw[if_neg h2]at h ⊢
 by_cases h3:s.length<size+m+4
 ·rw[if_pos h3]at h;exact absurd (show(8:Int)=0 from h) (by decide)
 rw[if_neg h3]at h ⊢
 by_cases h4:size+m+4<s.length
 ·rw[if_pos h4]at h;exact absurd (show(10:Int)=0 from h) (by decide)
 rw[if_neg h4]at h ⊢
 by_cases h5:s.drop (size+m)≠sumF (s.take (size+m))
 ·rw[if_pos h5]at h;exact absurd (show(9:Int)=0 from h) (by decide)
 rw[if_neg h5]
 dsimp only
 obtain⟨_,k1,k2,k3,k4,k5⟩:e=0/\m<18446744073709551616/\size=(putB m).length/\1<=size/\size<=s.length/\putB m=s.take size:=by
  rcases getB_back _ _ _ _ hg with h|h
  ·exact h
  ·omega
 have hb:((s.take (size+m)).drop size).length=m:=by
  rw[List.length_drop,List.length_take];omega
 have e1:putB m++(s.take (size+m)).drop size=s.take (size+m):=by
  rw[k5]
  have:s.take size=(s.take (size+m)).take size:=by rw[List.take_take];congr 1;omega
  rw[this,List.take_append_drop]
 refine⟨?_,by omega,by omega⟩
 unfold wrapF
 rw[hb,e1,<-Classical.not_not.1 h5,List.take_append_drop]
theorem unwrap_place {s:List UInt8}:(unwrapF s).2.1<=s.length:=by
 unfold unwrapF
 repeat' split
 all_goals (dsimp only;omega)
def sizeF (l:List UInt8)(least most:Int)(r:Rs):Int × Rs:=((numF l most r).1,if(numF l most r).2.e=0/\(numF l most r).1<least then failF r.p 20 (numF l most r).2 else(numF l most r).2)
def endF (l:List UInt8)(r:Rs):Rs:=if r.e≠0 then r else if l.drop r.p≠[]then⟨r.p,10⟩else r
def hd1 (l:List UInt8):Int × Rs:=sizeF l 0 6 ⟨0,0⟩
def hd2 (l:List UInt8):Int × Rs:=sizeF l 1 32 (hd1 l).2
def hd3 (l:List UInt8):Int × Rs:=sizeF l 1 (hd2 l).1 (hd2 l).2
def hd4 (l:List UInt8):Int × Rs:=sizeF l 0 (if(hd1 l).1=0 then 0 else 1048576) (hd3 l).2
noncomputable def evsF (l:List UInt8):List Evt × Rs:=if(hd4 l).2.e=0 then decF l (hd1 l).1 (hd2 l).1 (hd3 l).1 (hd4 l).1.toNat co0 (sh0 (hd2 l).1 (hd1 l).1.toNat (hd3 l).1.toNat) (hd4 l).2 else([],(hd4 l).2)
noncomputable def lastF (l:List UInt8):Rs:=endF l (evsF l).2
def bodyF (t v s:Int)(es:List Evt):List UInt8:=putB t.toNat++(putB v.toNat++(putB s.toNat++(putB es.length++encL t co0 es)))
theorem sizeF_put {l r:List UInt8}{p:Nat}{x least most:Int}(h:l.drop p=putB x.toNat++r)(h0:0<=x)(h1:x<=most)(h2:x<18446744073709551616)(h3:least<=x):sizeF l least most ⟨p,0⟩=(x,⟨p+(putB x.toNat).length,0⟩):=by
 unfold sizeF
 rw[numF_put h h0 h1 h2]
 dsimp only
 rw[if_neg (by omega)]
theorem okL_nil {m:Sh}{es:List Evt}(h:okL m es)(h0:m.nt=0):es=[]:=by
 cases es with
 |nil=>rfl
 |cons e es=>
  exfalso
  have h1:=h.1
  cases hn:nextS m e with
  |mk a m'=>
   rw[hn]at h1
   have h1:a=0:=h1
   subst h1
   have q:=(next_ok hn).1.1.1
   omega
theorem dec_body (nt ns:Nat)(v:Int)(es:List Evt)(h:NewOk nt v ns)(ho:okL (sh0 v nt ns) es)(hx:∀e,e∈es->XOk e)(hn:es.length<=1048576) :
  (hd1 (bodyF nt v ns es)).1=nt/\(hd2 (bodyF nt v ns es)).1=v/\(hd3 (bodyF nt v ns es)).1=ns/\evsF (bodyF nt v ns es)=(es,⟨(bodyF nt v ns es).length,0⟩)/\lastF (bodyF nt v ns es)=⟨(bodyF nt v ns es).length,0⟩/\(hd4 (bodyF nt v ns es)).2.e=0/\(hd4 (bodyF nt v ns es)).1=es.length:=by
 generalize hl:bodyF nt v ns es=l
 obtain⟨q1,q2,q3,q4⟩:=h
 have e1:l.drop 0=putB (nt:Int).toNat++(putB v.toNat++(putB (ns:Int).toNat++(putB es.length++encL nt co0 es))):=by rw[<-hl];rfl
 have e2:=drop_step e1
 have e3:=drop_step e2
 have e4:=drop_step e3
 have e5:=drop_step e4
 have a1:hd1 l=((nt:Int),⟨0+(putB (nt:Int).toNat).length,0⟩):=sizeF_put e1 (by omega) (by omega) (by omega) (by omega)
 have a2:hd2 l=(v,⟨0+(putB (nt:Int).toNat).length+(putB v.toNat).length,0⟩):=by unfold hd2;rw[a1];exact sizeF_put e2 (by omega) (by omega) (by omega) (by omega)
 have a3:hd3 l=((ns:Int),⟨0+(putB (nt:Int).toNat).length+(putB v.toNat).length+(putB (ns:Int).toNat).length,0⟩):=by unfold hd3;rw[a2];exact sizeF_put e3 (by omega) (by omega) (by omega) (by omega)
 have hz:nt=0->es=[]:=fun q=>okL_nil ho q
 have a4:hd4 l=((es.length:Int),⟨0+(putB (nt:Int).toNat).length+(putB v.toNat).length+(putB (ns:Int).toNat).length+(putB es.length).length,0⟩):=by
  unfold hd4
  rw[a1,a3]
  dsimp only
  exact sizeF_put (x:=(es.length:Int)) e4 (by omega) (by
   by_cases q:(nt:Int)=0
   ·rw[if_pos q,hz (by omega)];exact Int.le_refl _
   ·rw[if_neg q];omega) (by omega) (by omega)
 have hlen:l.length=0+(putB (nt:Int).toNat).length+(putB v.toNat).length+(putB (ns:Int).toNat).length+(putB es.length).length+(encL nt co0 es).length:=by
  rw[<-hl];unfold bodyF;simp only[List.length_append];omega
 have a5:evsF l=(es,⟨l.length,0⟩):=by
  unfold evsF
  rw[a4,a1,a2,a3,hlen]
  dsimp only
  rw[if_pos rfl]
  by_cases q:nt=0
  ·subst q
   rw[hz rfl]
   rfl
  ·exact dec_encL l v es co0 (sh0 v nt ns) _ [] (link0 v nt ns) (co0_ok (by show(1:Int)<=nt;omega)) rfl ho hx (by rw[List.append_nil];exact e5)
 refine⟨by rw[a1],by rw[a2],by rw[a3],a5,?_,by rw[a4],by rw[a4]⟩
 unfold lastF endF
 rw[a5]
 dsimp only
 rw[if_neg (by simp),List.drop_length,if_neg (by simp)]
theorem sizeF_back {l:List UInt8}{least most:Int}{r:Rs}(h:(sizeF l least most r).2.e=0)(hp:r.p<=l.length)(hm:0<=most) :
  r.e=0/\l.drop r.p=putB (sizeF l least most r).1.toNat++l.drop (sizeF l least most r).2.p/\(sizeF l least most r).2.p<=l.length/\least<=(sizeF l least most r).1/\0<=(sizeF l least most r).1/\(sizeF l least most r).1<=most:=by
 have hb:=numF_bd (l:=l) (r:=r) hm
 have hp1:=numF_p (l:=l) (most:=most) hp
 unfold sizeF at h ⊢
 dsimp only at h ⊢
 by_cases h1:(numF l most r).2.e=0/\(numF l most r).1<least
 ·rw[if_pos h1]at h
  exact(fail_e h hp1.1).elim
 rw[if_neg h1]at h ⊢
 obtain⟨d1,d2,d3,d4⟩:=numF_back h hp
 exact⟨d1,d2,d4,by omega,hb.1,hb.2⟩
theorem sizeF_p {l:List UInt8}{least most:Int}{r:Rs}(hp:r.p<=l.length):(sizeF l least most r).2.p<=l.length:=by
 unfold sizeF
 dsimp only
 split
 ·exact fail_le (numF_p hp).2
 ·exact(numF_p hp).2
theorem last_p (l:List UInt8):(lastF l).p<=l.length:=by
 have h4:(hd4 l).2.p<=l.length:=sizeF_p (sizeF_p (sizeF_p (sizeF_p (Nat.zero_le _))))
 have h5:(evsF l).2.p<=l.length:=by
  unfold evsF
  split
  ·exact decF_p _ _ _ _ h4
  ·exact h4
 unfold lastF endF
 repeat' split
 all_goals exact h5
theorem body_dec {l:List UInt8}(h:(lastF l).e=0):∃nt ns:Nat,(hd1 l).1=nt/\(hd3 l).1=ns/\NewOk nt (hd2 l).1 ns/\okL (sh0 (hd2 l).1 nt ns) (evsF l).1/\(∀e,e∈(evsF l).1->XOk e)/\l=bodyF nt (hd2 l).1 ns (evsF l).1/\(evsF l).1.length<=l.length/\(evsF l).1.length<=1048576:=by
 have he:(evsF l).2.e=0/\l.drop (evsF l).2.p=[]:=by
  unfold lastF endF at h
  by_cases h1:(evsF l).2.e≠0
  ·rw[if_pos h1]at h;exact absurd h h1
  rw[if_neg h1]at h
  by_cases h2:l.drop (evsF l).2.p≠[]
  ·rw[if_pos h2]at h;exact absurd (show(10:Int)=0 from h) (by decide)
  exact⟨Classical.not_not.1 h1,Classical.not_not.1 h2⟩
 have h4:(hd4 l).2.e=0:=by
  apply Classical.byContradiction
  intro g
  have:=he.1
  unfold evsF at this
  rw[if_neg g]at this
  exact g this
 have p1:(hd1 l).2.p<=l.length:=sizeF_p (Nat.zero_le _)
 have p2:(hd2 l).2.p<=l.length:=sizeF_p p1
 have p3:(hd3 l).2.p<=l.length:=sizeF_p p2
 have hm:(0:Int)<=(if(hd1 l).1=0 then 0 else 1048576):=by split<;>decide
 obtain⟨d1,d2,d3,d4,d5,d6⟩:=sizeF_back (least:=0) (most:=if(hd1 l).1=0 then 0 else 1048576) h4 p3 hm
 have hv0:0<=(hd2 l).1:=by unfold hd2 sizeF;exact(numF_bd (by decide)).1
 obtain⟨c1,c2,c3,c4,c5,c6⟩:=sizeF_back (least:=1) (most:=(hd2 l).1) d1 p2 hv0
 obtain⟨b1,b2,b3,b4,b5,b6⟩:=sizeF_back (least:=1) (most:=32) c1 p1 (by decide)
 obtain⟨a1,a2,a3,a4,a5,a6⟩:=sizeF_back (least:=0) (most:=6) (r:=⟨0,0⟩) b1 (Nat.zero_le _) (by decide)
 have a2:l.drop 0=putB (hd1 l).1.toNat++l.drop (hd1 l).2.p:=a2
 have b2:l.drop (hd1 l).2.p=putB (hd2 l).1.toNat++l.drop (hd2 l).2.p:=b2
 have c2:l.drop (hd2 l).2.p=putB (hd3 l).1.toNat++l.drop (hd3 l).2.p:=c2
 have d2:l.drop (hd3 l).2.p=putB (hd4 l).1.toNat++l.drop (hd4 l).2.p:=d2
 have a5:0<=(hd1 l).1:=a5
 have a6:(hd1 l).1<=6:=a6
 have b4:1<=(hd2 l).1:=b4
 have b6:(hd2 l).1<=32:=b6
 have c4:1<=(hd3 l).1:=c4
 have c6:(hd3 l).1<=(hd2 l).1:=c6
 have d5:0<=(hd4 l).1:=d5
 have d6:(hd4 l).1<=(if(hd1 l).1=0 then 0 else 1048576):=d6
 have d3:(hd4 l).2.p<=l.length:=d3
 have n1:(hd1 l).1=((hd1 l).1.toNat:Int):=by omega
 have n3:(hd3 l).1=((hd3 l).1.toNat:Int):=by omega
 have hnew:NewOk ((hd1 l).1.toNat:Int) (hd2 l).1 ((hd3 l).1.toNat:Int):=⟨by omega,by omega,by omega,by omega⟩
 refine⟨(hd1 l).1.toNat,(hd3 l).1.toNat,n1,n3,hnew,?_⟩
 have hev:evsF l=decF l (hd1 l).1 (hd2 l).1 (hd3 l).1 (hd4 l).1.toNat co0 (sh0 (hd2 l).1 (hd1 l).1.toNat (hd3 l).1.toNat) (hd4 l).2:=by unfold evsF;rw[if_pos h4]
 by_cases q:(hd1 l).1=0
 ·rw[if_pos q]at d6
  have q4:(hd4 l).1.toNat=0:=by omega
  rw[q4]at hev
  have hev:evsF l=([],(hd4 l).2):=hev
  rw[hev]at he ⊢
  refine⟨trivial,(fun e he=>by cases he),?_,Nat.zero_le _,Nat.zero_le _⟩
  show l=putB ((hd1 l).1.toNat:Int).toNat++(putB (hd2 l).1.toNat++(putB ((hd3 l).1.toNat:Int).toNat++(putB 0++[])))
  rw[Int.toNat_natCast,Int.toNat_natCast,<-q4,<-he.2,<-d2,<-c2,<-b2,<-a2];rfl
 ·rw[n1,n3]at hev
  have i:=enc_decL l (hd2 l).1 (hd4 l).1.toNat co0 (sh0 (hd2 l).1 (hd1 l).1.toNat (hd3 l).1.toNat) (hd4 l).2 (link0 _ _ _) (by show 1<=(hd1 l).1.toNat/\(hd1 l).1.toNat<=6;omega) b4 (by show 1<=(hd3 l).1.toNat;omega) (co0_ok (by show(1:Int)<=((hd1 l).1.toNat:Int);omega)) rfl d3
  have i:=i (by rw[show((sh0 (hd2 l).1 (hd1 l).1.toNat (hd3 l).1.toNat).nt:Int)=((hd1 l).1.toNat:Int)from rfl,show((sh0 (hd2 l).1 (hd1 l).1.toNat (hd3 l).1.toNat).ns:Int)=((hd3 l).1.toNat:Int)from rfl];rw[Int.toNat_natCast]at hev;rw[Int.toNat_natCast]at hev;rw[<-hev];exact he.1)
  rw[show((sh0 (hd2 l).1 (hd1 l).1.toNat (hd3 l).1.toNat).nt:Int)=((hd1 l).1.toNat:Int)from rfl,show((sh0 (hd2 l).1 (hd1 l).1.toNat (hd3 l).1.toNat).ns:Int)=((hd3 l).1.toNat:Int)from rfl]at i
  rw[Int.toNat_natCast]at hev;rw[Int.toNat_natCast]at hev
  rw[<-hev]at i
  obtain⟨i0,i1,i2,i3,i4,i5,i6⟩:=i
  rw[if_neg q]at d6
  refine⟨i2,i3,?_,by omega,by omega⟩
  show l=putB ((hd1 l).1.toNat:Int).toNat++(putB (hd2 l).1.toNat++(putB ((hd3 l).1.toNat:Int).toNat++(putB (evsF l).1.length++encL _ co0 (evsF l).1)))
  rw[he.2,List.append_nil]at i4
  rw[i1,Int.toNat_natCast,Int.toNat_natCast,<-i4,<-d2,<-c2,<-b2,<-a2];rfl
end Go.Proofs.YtgdmlkgjpcnelaaGreatDoor
