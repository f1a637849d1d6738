import Derived.Test.YtgdmlkgjpcnelaaGreatDoorTbZf
namespace Go.Proofs.YtgdmlkgjpcnelaaGreatDoor
open Go Go.Vc
set_option linter.unusedVariables false
set_option maxRecDepth 100000
set_option maxHeartbeats 4000000
theorem newOk_nat {t v s:Int}(h:NewOk t v s):∃nt ns:Nat,t=nt/\s=ns/\NewOk nt v ns:=by
 obtain⟨⟨h1,h2⟩,h3,h4,h5⟩:=h
 exact⟨t.toNat,s.toNat,by omega,by omega,⟨by omega,by omega⟩,h3,by omega,by omega⟩
instance (t v s:Int):Decidable (NewOk t v s):=by unfold NewOk;infer_instance
theorem chkEnc_at (t v s:Int)(ev:Nat->Evt)(n me:Nat)(c:Cap)(hn:n<=20000)(hr:∀i,i<n->EvR (ev i))(hx:∀i,i<n->XOk (ev i)):∃(p x:Int) (b:List UInt8) (f:Int),
  CallG Tryz.prog 15 [trV t v s (.sl 15 0 7 n c)] (bH [.rows n 7 (evG ev) 65 me]) (fun r H=>r=.tup [.int .i64 p,.int .i64 x]/\H=bH [.rows n 7 (evG ev) 65 me]) /\
  CallG Tryz.prog 16 [trV t v s (.sl 15 0 7 n c)] (bH [.rows n 7 (evG ev) 65 me]) (fun r H=>r=.tup [.str b,.int .i64 f]/\H=bH [.rows n 7 (evG ev) 65 me])/\(x=0↔f=0) /\
  (f=0->∃nt ns:Nat,t=nt/\s=ns/\NewOk nt v ns/\okL (sh0 v nt ns) (evs ev n 0)/\b=wrapF (bodyF nt v ns (evs ev n 0))):=by
 by_cases h:NewOk t v s
 ·obtain⟨nt,ns,rfl,rfl,h⟩:=newOk_nat h
  have h1:=vcheck_at nt ns v ev n me c h (by omega) hr
  by_cases hb:(chkF ev n (sh0 v nt ns) 0).2=0
  ·have ho:=(chk_ok ev n (sh0 v nt ns) 0).1 hb
   refine⟨_,_,_,_,h1,vencOk_at nt ns v ev n me c h hn hr hx ho,by rw[hb],fun _=>⟨nt,ns,rfl,rfl,h,ho,rfl⟩⟩
  ·exact⟨_,_,_,_,h1,vencBad_at nt ns v ev n me c h (by omega) hr hb,Iff.rfl,fun q=>absurd q hb⟩
 ·exact⟨_,_,_,_,vcheckBad_at t v s ev n me c h,vencArg_at t s v ev n me c h,Iff.rfl,fun q=>absurd q (by decide)⟩
theorem chkEncNil_at (t v s:Int):∃(p x:Int) (b:List UInt8) (f:Int),
  CallG Tryz.prog 15 [trV t v s .nils] (bH []) (fun r H=>r=.tup [.int .i64 p,.int .i64 x]/\H=bH []) /\
  CallG Tryz.prog 16 [trV t v s .nils] (bH []) (fun r H=>r=.tup [.str b,.int .i64 f]/\H=bH [])/\(x=0↔f=0) /\
  (f=0->∃nt ns:Nat,t=nt/\s=ns/\NewOk nt v ns/\b=wrapF (bodyF nt v ns [])):=by
 by_cases h:NewOk t v s
 ·obtain⟨nt,ns,rfl,rfl,h⟩:=newOk_nat h
  exact⟨_,_,_,_,vcheckNil_at nt ns v h,vencNil_at nt ns v h,Iff.rfl,fun _=>⟨nt,ns,rfl,rfl,h,rfl⟩⟩
 ·exact⟨_,_,_,_,vcheckNilBad_at t v s h,vencArgNil_at t s v h,Iff.rfl,fun q=>absurd q (by decide)⟩
theorem evs_self:∀(es:List Evt),evs (nthE es) es.length 0=es:=by
 have key:∀(es:List Evt) (f k:Nat),k+f=es.length->evs (nthE es) f k=es.drop k:=by
  intro es f
  induction f with
  |zero=>intro k h;rw[List.drop_eq_nil_of_le (by omega)];rfl
  |succ f ih=>
   intro k h
   rw[List.drop_eq_getElem_cons (by omega),evs,ih (k+1) (by omega)]
   congr 1
   unfold nthE
   rw[List.getD_eq_getElem?_getD,List.getElem?_eq_getElem (by omega)];rfl
 intro es
 exact(key es es.length 0 (by omega)).trans (List.drop_zero ..)
theorem nthE_evs (ev:Nat->Evt):∀(f k i:Nat),i<f->nthE (evs ev f k) i=ev (k+i)
 |0,k,i,h=>by omega
 |f+1,k,0,h=>rfl
 |f+1,k,i+1,h=>by
  show nthE (evs ev f (k+1)) i=_
  rw[nthE_evs ev f (k+1) i (by omega)]
  congr 1;omega
theorem decBad {s:List UInt8}(hs:s.length<=99999):((unwrapF s).2.2≠0\/(lastF (unwrapF s).1).e≠0)->∃(pl:Int) (e:Int),e≠0/\0<=pl/\pl<=s.length/\CallG Tryz.prog 18 [.str s] (bH []) (fun x H=>x=.tup [tr0,.int .i64 pl,.int .i64 e]/\H=bH []):=by
 intro h
 by_cases hu:(unwrapF s).2.2=0
 ·have hl:(lastF (unwrapF s).1).e≠0:=h.resolve_left (fun q=>q hu)
  have hb:=unwrap_back hu
  have hp:=last_p (unwrapF s).1
  refine⟨(s.length:Int)-(unwrapF s).1.length-4+(lastF (unwrapF s).1).p,_,hl,by omega,by omega,CallG.mono (vdec_at s hs hu) fun x H q=>?_⟩
  unfold DecQ at q
  rw[if_pos hl]at q
  exact q
 ·exact⟨_,_,hu,by omega,by have:=unwrap_place (s:=s);omega,vdecBad_at s hs hu⟩
theorem decGood {s:List UInt8}(hs:s.length<=99999)(hu:(unwrapF s).2.2=0)(hl:(lastF (unwrapF s).1).e=0):∃(nt ns:Nat) (v:Int) (es:List Evt),NewOk nt v ns/\okL (sh0 v nt ns) es/\(∀e,e∈es->XOk e)/\s=wrapF (bodyF nt v ns es)/\es.length<=s.length /\
  CallG Tryz.prog 18 [.str s] (bH []) (fun x H=>if es=[]then x=.tup [trV nt v ns .nils,.int .i64 0,.int .i64 0]/\H=bH []else x=.tup [trV nt v ns (.sl 15 0 7 es.length (.u 0)),.int .i64 0,.int .i64 0]/\H=bH [evsO es]):=by
 obtain⟨nt,ns,e1,e2,h1,h2,h3,h4,h5,h6⟩:=body_dec hl
 obtain⟨b1,b2,b3⟩:=unwrap_back hu
 refine⟨nt,ns,(hd2 (unwrapF s).1).1,(evsF (unwrapF s).1).1,h1,h2,h3,by rw[<-h4];exact b1,by omega,CallG.mono (vdec_at s hs hu) fun x H q=>?_⟩
 unfold DecQ at q
 rw[if_neg (fun k=>k hl),e1,e2]at q
 exact q
theorem wrapF_len (b:List UInt8):(wrapF b).length<=b.length+14:=by
 unfold wrapF
 rw[List.length_append,List.length_append]
 have:=(putB_len b.length).2
 show _+_+4<=_
 omega
theorem bodyF_len (t v s:Int)(es:List Evt):(bodyF t v s es).length<=40+30*es.length:=by
 unfold bodyF
 simp only[List.length_append]
 have:=putB_len t.toNat
 have:=putB_len v.toNat
 have:=putB_len s.toNat
 have:=putB_len es.length
 have:=encL_len t es co0
 omega
theorem decEnc (nt ns:Nat)(v:Int)(es:List Evt)(h:NewOk nt v ns)(ho:okL (sh0 v nt ns) es)(hx:∀e,e∈es->XOk e)(hn:es.length<=1000):CallG Tryz.prog 18 [.str (wrapF (bodyF nt v ns es))] (bH []) (fun x H=>if es=[]then x=.tup [trV nt v ns .nils,.int .i64 0,.int .i64 0]/\H=bH []else x=.tup [trV nt v ns (.sl 15 0 7 es.length (.u 0)),.int .i64 0,.int .i64 0]/\H=bH [evsO es]):=by
 have l1:=wrapF_len (bodyF nt v ns es)
 have l2:=bodyF_len nt v ns es
 have hu:=unwrap_wrap (bodyF nt v ns es) (by omega)
 obtain⟨d1,d2,d3,d4,d5,d6⟩:=dec_body nt ns v es h ho hx (by omega)
 have hc:=vdec_at (wrapF (bodyF nt v ns es)) (by omega) (by rw[hu])
 rw[hu]at hc
 dsimp only at hc
 rw[d1,d2,d3,d4,d5]at hc
 refine CallG.mono hc fun x H q=>?_
 unfold DecQ at q
 rw[if_neg (by simp)]at q
 exact q
theorem ok_evR {m:Sh}:∀{es:List Evt},okL m es->∀e,e∈es->EvR e
 |[],_,e,h=>by cases h
 |x::es,⟨h1,h2⟩,e,h=>by
  rcases List.mem_cons.1 h with rfl|h
  ·obtain⟨q1,q2,q3,q4,q5,q6,q7,q8,q9,q10⟩:=(sh_may (m':=m) h1).1
   have hw:e.why=0\/(1<=e.why/\e.why<=6):=by
    by_cases hk:e.kind=10
    ·exact .inr (q5 hk)
    ·left
     obtain⟨ek,th,tx,at_,ev,ex,why⟩:=e
     have hh:ek=1\/ek=2\/ek=3\/ek=4\/ek=5\/ek=6\/ek=7\/ek=8\/ek=9\/ek=11\/ek=12\/ek=13:=by dsimp only at q4 hk;omega
     rcases hh with rfl|rfl|rfl|rfl|rfl|rfl|rfl|rfl|rfl|rfl|rfl|rfl<;>(simp only[evL,bareE,List.cons.injEq,true_and,and_true]at q10;simp only[q10])
   exact⟨by omega,by omega⟩
  ·exact ok_evR h2 e h
theorem getD_mem {es:List Evt}{i:Nat}(h:i<es.length):nthE es i∈es:=by
 unfold nthE
 rw[List.getD_eq_getElem?_getD,List.getElem?_eq_getElem h]
 exact List.getElem_mem h
theorem fitTT {ts:List Nat}{H L:Hv}(ht:headId 15 0 ts=true)(h:Fits (ren ts) (tH H) L 15):Fits (ren ts) (tH H) (tH L) 0:=by
 have k:∀j,j<15->ren ts j=j:=fun j hj=>ren_id ht hj
 have at':∀{j:Nat} {o o':Ob},j<15->nth (tH H) j=some o->o'=o->LiesAt (nth (tH H) (ren ts j)) o':=fun {j o o'} hj h1 h2=>by rw[k j hj,h1,h2];exact .r rfl
 exact⟨at' (by decide) rfl (kdB k),at' (j:=1) (by decide) rfl rfl,at' (j:=2) (by decide) rfl rfl,trivial,at' (j:=4) (by decide) rfl rfl,at' (j:=5) (by decide) rfl rfl,at' (j:=6) (by decide) rfl rfl,at' (j:=7) (by decide) rfl rfl,at' (j:=8) (by decide) rfl rfl,at' (j:=9) (by decide) rfl rfl,at' (j:=10) (by decide) rfl rfl,at' (j:=11) (by decide) rfl rfl,at' (j:=12) (by decide) rfl rfl,at' (j:=13) (by decide) rfl rfl,at' (j:=14) (by decide) rfl rfl,h⟩
theorem vtopS_at (t v st:Int)(s:List UInt8)(ev:Nat->Evt)(n me:Nat)(c:Cap)(hr:∀i,i<n->EvR (ev i))(hx:∀i,i<n->XOk (ev i)):CallG Tryz.prog 5 [trV t v st (.sl 20 0 7 n c),.str s] (tH [.dead,.dead,.dead,.dead,.dead,Ob.rows n 7 (evG ev) 65 me]) fun r H=>r=.bool true/\H=tH [.dead,.dead,.dead,.dead,.dead,Ob.rows n 7 (evG ev) 65 me]:=by
 refine Ze Tryz.func5 rfl fun g w=>?_
 refine Br.o (fun h1=>?_) (fun h1=>?_)
 ·refine Zr1 ?_
  refine Zc [0,1,2,3,15,16,17,18,19,4,5,6,7,8,9,10,11,12,13,14] (n15 [none,none,none,none,none]) [] valive9_at Zx27 Zx28 ?_
  exact Zv (v':=.bool true) (Hl:=tH [.dead,.dead,.dead,.dead,.dead,Ob.rows n 7 (evG ev) 65 me]) (c15 [15,16,17,18,19,20]) ⟨rfl,rfl⟩ Zx29
 have n1:¬(1000:Int)<(n:Int):=of_decide_eq_false h1
 refine Zr2 ?_
 refine Br.o (fun h2=>?_) (fun h2=>?_)
 ·refine Zr1 ?_
  refine Zc [0,1,2,3,15,16,17,18,19,4,5,6,7,8,9,10,11,12,13,14] (n15 [none,none,none,none,none]) [] valive9_at Zx27 Zx28 ?_
  exact Zv (v':=.bool true) (Hl:=tH [.dead,.dead,.dead,.dead,.dead,Ob.rows n 7 (evG ev) 65 me]) (c15 [15,16,17,18,19,20]) ⟨rfl,rfl⟩ Zx29
 have n2:¬(20000:Int)<(s.length:Int):=of_decide_eq_false h2
 refine Zc [0,1,2,3,15,16,17,18,19,4,5,6,7,8,9,10,11,12,13,14] (n15 [none,none,none,none,none]) [] valive9_at Zx27 Zx28 ?_
 obtain⟨pp,x,b,f,hck,hen,hxf,hgood⟩:=chkEnc_at t v st ev n me c (by omega) hr hx
 refine Zr2 ?_
 refine Zc (c15 [20]) (n15 [none]) [] (hck) Zx25 Zx26 ?_
 refine Zc (c15 [20]) (n15 [none]) [] (hen) Zx25 Zx26 ?_
 refine Br.f ?_ ?_
 ·show(decide (x=0) != decide (f=0))=false
  by_cases q:f=0
  ·rw[decide_eq_true q,decide_eq_true (hxf.2 q)];rfl
  ·rw[decide_eq_false q,decide_eq_false (fun k=>q (hxf.1 k))];rfl
 conv=>whnf
 refine SeqG.cut (fun fr ds H=>ds=[]/\HasR [0,1,2,3,4,5,6,7,8,9,10,11,12,13,14,15,16,17,18,19,20] [(1,.str s)] fr/\allLt [0,1,2,3,4,5,6,7,8,9,10,11,12,13,14,15,16,17,18,19,20] (len H)=true/\Fits (ren [0,1,2,3,4,5,6,7,8,9,10,11,12,13,14,15,16,17,18,19,20]) H (tH [.dead,.dead,.dead,.dead,.dead,Ob.rows n 7 (evG ev) 65 me]) 0) (vCode_ok cx_ok (by kernel_rfl) ?_) ?_
 ·skip
  refine Br.o (fun g1=>?_) (fun g1=>?_)
  rotate_left
  ·skip
   exact⟨rfl,hasR_cons rfl (hasR_nil _ _),rfl,fitTT rfl ⟨trivial,trivial,trivial,trivial,trivial,.p,trivial⟩⟩
  have f0:f=0:=of_decide_eq_true g1
  obtain⟨nt,ns,rfl,rfl,hnew,hok,rfl⟩:=hgood f0
  have hd:=decEnc nt ns v (evs ev n 0) hnew hok (fun e he=>by obtain⟨i,_,h2,rfl⟩:=evs_mem ev n 0 he;exact hx i (by omega)) (by rw[evs_len];omega)
  by_cases hz:n=0
  ·subst hz
   rw[show evs ev 0 0=[]from rfl]at hd
   simp only[if_pos]at hd
   refine Zc (c15 []) (n15 []) [] (hd) Zx16 Zx19 ?_
   refine Zr2 ?_
   refine Zc [0,1,2,3,20] [none,none,none,none,none] [] (vsame0_at nt v ns me c ev) Zx32 (by exact⟨.p,trivial⟩) ?_
   refine Zr2 ?_
   exact⟨rfl,hasR_cons rfl (hasR_nil _ _),rfl,fitTT rfl ⟨trivial,trivial,trivial,trivial,trivial,.p,trivial⟩⟩
  ·simp only[if_neg (show ¬evs ev n 0=[]from fun q=>hz (by have:=evs_len ev n 0;rw[q]at this;exact this.symm))]at hd
   delta evsO at hd
   rw[evs_len]at hd
   refine Zc (c15 []) (n15 []) [Ob.rows n 7 (evG (nthE (evs ev n 0))) 65 1] (hd) Zx16 Zx38 ?_
   refine Zr2 ?_
   refine Zc [0,1,2,3,20,22] [none,none,none,none,none,none] [] (vsame_at nt v ns n me 1 c (.u 0) ev (nthE (evs ev n 0)) (fun i hi=>by rw[nthE_evs ev n 0 i hi,Nat.zero_add]) (by omega)) Zx33 (by exact⟨.p,.p,trivial⟩) ?_
   refine Zr2 ?_
   exact⟨rfl,hasR_cons rfl (hasR_nil _ _),rfl,fitTT rfl ⟨trivial,trivial,trivial,trivial,trivial,.p,trivial⟩⟩
 rintro fr ds H ⟨rfl,hfr,hlt,hfit⟩
 clear hgood hen hck hxf
 refine T.ren [0,1,2,3,4,5,6,7,8,9,10,11,12,13,14,15,16,17,18,19,20] (vCode_ok cx_ok (by kernel_rfl) ?_) hfr hfit rfl hlt rfl rfl rfl (by kernel_rfl)
 by_cases hbad:(unwrapF s).2.2≠0\/(lastF (unwrapF s).1).e≠0
 ·obtain⟨pl,e,he,hp0,hp1,hd⟩:=decBad (by omega) hbad
  refine Zc (c15 []) (n15 []) [] (hd) Zx16 Zx19 ?_
  refine Br.t (decide_eq_true he) ?_
  refine Zr13 ?_
  exact Zv (v':=.bool true) (Hl:=tH [.dead,.dead,.dead,.dead,.dead,Ob.rows n 7 (evG ev) 65 me]) (c15 [15,16,17,18,19,20]) ⟨rfl,rfl⟩ Zx29
 have hu:(unwrapF s).2.2=0:=Classical.not_not.1 fun q=>hbad (.inl q)
 have hl:(lastF (unwrapF s).1).e=0:=Classical.not_not.1 fun q=>hbad (.inr q)
 obtain⟨nt,ns,v2,es,hnew,hok,hxe,heq,hlen,hd⟩:=decGood (by omega) hu hl
 by_cases hes:es=[]
 ·subst hes
  simp only[if_pos]at hd
  refine Zc (c15 []) (n15 []) [] (hd) Zx16 Zx19 ?_
  refine Zr2 ?_
  refine Zc (c15 []) (n15 []) [] (vcheckNil_at nt ns v2 hnew) Zx16 Zx19 ?_
  refine Zc (c15 []) (n15 []) [] (vencNil_at nt ns v2 hnew) Zx16 Zx19 ?_
  refine Zr1 ?_
  conv=>whnf
  rw[decide_eq_true heq.symm]
  exact Zv (v':=.bool true) (Hl:=tH [.dead,.dead,.dead,.dead,.dead,Ob.rows n 7 (evG ev) 65 me]) (c15 [15,16,17,18,19,20]) ⟨rfl,rfl⟩ Zx29
 ·simp only[if_neg hes]at hd
  have hev:∀i,i<es.length->EvR (nthE es i):=fun i hi=>ok_evR hok _ (getD_mem hi)
  have hxv:∀i,i<es.length->XOk (nthE es i):=fun i hi=>hxe _ (getD_mem hi)
  have h1:=vcheck_at nt ns v2 (nthE es) es.length 1 (.u 0) hnew (by omega) hev
  have h2:=vencOk_at nt ns v2 (nthE es) es.length 1 (.u 0) hnew (by omega) hev hxv (by rw[evs_self];exact hok)
  rw[(chk_ok (nthE es) es.length (sh0 v2 nt ns) 0).2 (by rw[evs_self];exact hok)]at h1
  generalize (chkF (nthE es) es.length (sh0 v2 nt ns) 0).1=pc at h1
  rw[evs_self]at h2
  refine Zc (c15 []) (n15 []) [evsO es] (hd) Zx16 Zx38 ?_
  refine Zr2 ?_
  refine Zc (c15 [21]) (n15 [none]) [] (h1) Zx25 Zx26 ?_
  refine Zc (c15 [21]) (n15 [none]) [] (h2) Zx25 Zx26 ?_
  refine Zr1 ?_
  conv=>whnf
  rw[decide_eq_true heq.symm]
  exact Zv (v':=.bool true) (Hl:=tH [.dead,.dead,.dead,.dead,.dead,Ob.rows n 7 (evG ev) 65 me]) (c15 [15,16,17,18,19,20]) ⟨rfl,rfl⟩ Zx29
theorem vtopN_at (t v st:Int)(s:List UInt8):CallG Tryz.prog 5 [trV t v st (.nils),.str s] (tH [.dead,.dead,.dead,.dead,.dead]) fun r H=>r=.bool true/\H=tH [.dead,.dead,.dead,.dead,.dead]:=by
 refine Ze Tryz.func5 rfl fun g w=>?_
 refine Zr2 ?_
 refine Br.o (fun h2=>?_) (fun h2=>?_)
 ·refine Zr1 ?_
  refine Zc [0,1,2,3,15,16,17,18,19,4,5,6,7,8,9,10,11,12,13,14] (n15 [none,none,none,none,none]) [] valive9_at Zx27 Zx28 ?_
  exact Zv (v':=.bool true) (Hl:=tH [.dead,.dead,.dead,.dead,.dead]) (c15 [15,16,17,18,19]) ⟨rfl,rfl⟩ Zx34
 have n2:¬(20000:Int)<(s.length:Int):=of_decide_eq_false h2
 refine Zc [0,1,2,3,15,16,17,18,19,4,5,6,7,8,9,10,11,12,13,14] (n15 [none,none,none,none,none]) [] valive9_at Zx27 Zx28 ?_
 obtain⟨pp,x,b,f,hck,hen,hxf,hgood⟩:=chkEncNil_at t v st
 refine Zr2 ?_
 refine Zc (c15 []) (n15 []) [] (hck) Zx16 Zx19 ?_
 refine Zc (c15 []) (n15 []) [] (hen) Zx16 Zx19 ?_
 refine Br.f ?_ ?_
 ·show(decide (x=0) != decide (f=0))=false
  by_cases q:f=0
  ·rw[decide_eq_true q,decide_eq_true (hxf.2 q)];rfl
  ·rw[decide_eq_false q,decide_eq_false (fun k=>q (hxf.1 k))];rfl
 conv=>whnf
 refine SeqG.cut (fun fr ds H=>ds=[]/\HasR [0,1,2,3,4,5,6,7,8,9,10,11,12,13,14,15,16,17,18,19] [(1,.str s)] fr/\allLt [0,1,2,3,4,5,6,7,8,9,10,11,12,13,14,15,16,17,18,19] (len H)=true/\Fits (ren [0,1,2,3,4,5,6,7,8,9,10,11,12,13,14,15,16,17,18,19]) H (tH [.dead,.dead,.dead,.dead,.dead]) 0) (vCode_ok cx_ok (by kernel_rfl) ?_) ?_
 ·skip
  refine Br.o (fun g1=>?_) (fun g1=>?_)
  rotate_left
  ·skip
   exact⟨rfl,hasR_cons rfl (hasR_nil _ _),rfl,fitTT rfl ⟨trivial,trivial,trivial,trivial,trivial,trivial⟩⟩
  have f0:f=0:=of_decide_eq_true g1
  obtain⟨nt,ns,rfl,rfl,hnew,rfl⟩:=hgood f0
  have hd:=decEnc nt ns v [] hnew trivial (fun e he=>by cases he) (Nat.zero_le _)
  simp only[if_pos]at hd
  refine Zc (c15 []) (n15 []) [] (hd) Zx16 Zx19 ?_
  refine Zr2 ?_
  refine Zc [0,1,2,3] [none,none,none,none] [] (vsameNil_at nt v ns) Zx2 Zx4 ?_
  refine Zr2 ?_
  exact⟨rfl,hasR_cons rfl (hasR_nil _ _),rfl,fitTT rfl ⟨trivial,trivial,trivial,trivial,trivial,trivial⟩⟩
 rintro fr ds H ⟨rfl,hfr,hlt,hfit⟩
 clear hgood hen hck hxf
 refine T.ren [0,1,2,3,4,5,6,7,8,9,10,11,12,13,14,15,16,17,18,19] (vCode_ok cx_ok (by kernel_rfl) ?_) hfr hfit rfl hlt rfl rfl rfl (by kernel_rfl)
 by_cases hbad:(unwrapF s).2.2≠0\/(lastF (unwrapF s).1).e≠0
 ·obtain⟨pl,e,he,hp0,hp1,hd⟩:=decBad (by omega) hbad
  refine Zc (c15 []) (n15 []) [] (hd) Zx16 Zx19 ?_
  refine Br.t (decide_eq_true he) ?_
  refine Zr13 ?_
  exact Zv (v':=.bool true) (Hl:=tH [.dead,.dead,.dead,.dead,.dead]) (c15 [15,16,17,18,19]) ⟨rfl,rfl⟩ Zx34
 have hu:(unwrapF s).2.2=0:=Classical.not_not.1 fun q=>hbad (.inl q)
 have hl:(lastF (unwrapF s).1).e=0:=Classical.not_not.1 fun q=>hbad (.inr q)
 obtain⟨nt,ns,v2,es,hnew,hok,hxe,heq,hlen,hd⟩:=decGood (by omega) hu hl
 by_cases hes:es=[]
 ·subst hes
  simp only[if_pos]at hd
  refine Zc (c15 []) (n15 []) [] (hd) Zx16 Zx19 ?_
  refine Zr2 ?_
  refine Zc (c15 []) (n15 []) [] (vcheckNil_at nt ns v2 hnew) Zx16 Zx19 ?_
  refine Zc (c15 []) (n15 []) [] (vencNil_at nt ns v2 hnew) Zx16 Zx19 ?_
  refine Zr1 ?_
  conv=>whnf
  rw[decide_eq_true heq.symm]
  exact Zv (v':=.bool true) (Hl:=tH [.dead,.dead,.dead,.dead,.dead]) (c15 [15,16,17,18,19]) ⟨rfl,rfl⟩ Zx34
 ·simp only[if_neg hes]at hd
  have hev:∀i,i<es.length->EvR (nthE es i):=fun i hi=>ok_evR hok _ (getD_mem hi)
  have hxv:∀i,i<es.length->XOk (nthE es i):=fun i hi=>hxe _ (getD_mem hi)
  have h1:=vcheck_at nt ns v2 (nthE es) es.length 1 (.u 0) hnew (by omega) hev
  have h2:=vencOk_at nt ns v2 (nthE es) es.length 1 (.u 0) hnew (by omega) hev hxv (by rw[evs_self];exact hok)
  rw[(chk_ok (nthE es) es.length (sh0 v2 nt ns) 0).2 (by rw[evs_self];exact hok)]at h1
  generalize (chkF (nthE es) es.length (sh0 v2 nt ns) 0).1=pc at h1
  rw[evs_self]at h2
  refine Zc (c15 []) (n15 []) [evsO es] (hd) Zx16 Zx38 ?_
  refine Zr2 ?_
  refine Zc (c15 [20]) (n15 [none]) [] (h1) Zx25 Zx26 ?_
  refine Zc (c15 [20]) (n15 [none]) [] (h2) Zx25 Zx26 ?_
  refine Zr1 ?_
  conv=>whnf
  rw[decide_eq_true heq.symm]
  exact Zv (v':=.bool true) (Hl:=tH [.dead,.dead,.dead,.dead,.dead]) (c15 [15,16,17,18,19]) ⟨rfl,rfl⟩ Zx34
end Go.Proofs.YtgdmlkgjpcnelaaGreatDoor
