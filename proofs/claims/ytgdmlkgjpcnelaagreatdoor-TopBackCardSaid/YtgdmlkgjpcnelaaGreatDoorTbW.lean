import Derived.Test.YtgdmlkgjpcnelaaGreatDoorTbT
namespace Go.Proofs.YtgdmlkgjpcnelaaGreatDoor
open Go Go.Vc
set_option linter.unusedVariables false
set_option maxRecDepth 100000
set_option maxHeartbeats 1000000
def evs (ev:Nat->Evt):Nat->Nat->List Evt
 |0,_=>[]
 |f+1,k=>ev k::evs ev f (k+1)
theorem evs_len (ev:Nat->Evt):∀f k,(evs ev f k).length=f
 |0,_=>rfl
 |f+1,k=>by rw[evs,List.length_cons,evs_len ev f]
theorem evs_mem (ev:Nat->Evt){e:Evt}:∀f k,e∈evs ev f k->∃i,k<=i/\i<k+f/\e=ev i
 |0,_,h=>by cases h
 |f+1,k,h=>by
  rcases List.mem_cons.1 h with rfl|h
  ·exact⟨k,Nat.le_refl _,by omega,rfl⟩
  ·obtain⟨i,h1,h2,h3⟩:=evs_mem ev f (k+1) h
   exact⟨i,by omega,by omega,h3⟩
theorem chk_ok (ev:Nat->Evt):∀(f:Nat) (m:Sh) (k:Nat),(chkF ev f m k).2=0↔okL m (evs ev f k)
 |0,m,k=>⟨fun _=>trivial,fun _=>rfl⟩
 |f+1,m,k=>by
  unfold chkF
  show _↔((nextS m (ev k)).1=0/\okL (nextS m (ev k)).2 (evs ev f (k+1)))
  by_cases h:(nextS m (ev k)).1≠0
  ·rw[if_pos h]
   exact⟨fun q=>absurd q h,fun q=>absurd q.1 h⟩
  ·rw[if_neg h,chk_ok ev f]
   exact⟨fun q=>⟨Classical.not_not.1 h,q⟩,fun q=>q.2⟩
theorem chk_to (ev:Nat->Evt):∀(f:Nat) (m:Sh) (k:Nat),(chkF ev f m k).2=0->(chkF ev f m k).1=((k+f:Nat):Int)
 |0,m,k,_=>rfl
 |f+1,m,k,h=>by
  unfold chkF at h ⊢
  by_cases g:(nextS m (ev k)).1≠0
  ·rw[if_pos g]at h;exact absurd h g
  ·rw[if_neg g]at h ⊢
   rw[chk_to ev f _ _ h];omega
noncomputable abbrev trV (nt v ns:Int)(x:SV):SV:=.agg [.int .i64 nt,.int .i64 v,.int .i64 ns,x]
theorem vencBad_at (nt ns:Nat)(v:Int)(ev:Nat->Evt)(n me:Nat)(c:Cap)(h:NewOk nt v ns)(hn:n<=1048576)(hr:∀i,i<n->EvR (ev i))(hb:(chkF ev n (sh0 v nt ns) 0).2≠0) :
  CallG Tryz.prog 16 [trV nt v ns (.sl 15 0 7 n c)] (bH [.rows n 7 (evG ev) 65 me]) fun r H=>r=.tup [.str [],.int .i64 (chkF ev n (sh0 v nt ns) 0).2]/\H=bH [.rows n 7 (evG ev) 65 me]:=by
 have hc:=vcheck_at nt ns v ev n me c h hn hr
 revert hb hc
 rcases chkF ev n (sh0 v nt ns) 0 with⟨p,x⟩
 intro hb hc
 dsimp only at hb hc ⊢
 refine Ze Tryz.func16 rfl fun g w=>?_
 refine Zc (c15 [15]) (n15 [none]) [] (hc) Zx18 Zx36 ?_
 refine Br.o (fun h1=>?_) (fun h1=>absurd hb (of_decide_eq_false h1))
 exact Zv (v':=.tup [.str [],.int .i64 x]) (Hl:=bH [.rows n 7 (evG ev) 65 me]) (c15 [15]) ⟨rfl,rfl⟩ Zx18
theorem vencArg_at (t s v:Int)(ev:Nat->Evt)(n me:Nat)(c:Cap)(h:¬NewOk t v s) :
  CallG Tryz.prog 16 [trV t v s (.sl 15 0 7 n c)] (bH [.rows n 7 (evG ev) 65 me]) fun r H=>r=.tup [.str [],.int .i64 1]/\H=bH [.rows n 7 (evG ev) 65 me]:=by
 refine Ze Tryz.func16 rfl fun g w=>?_
 refine Zc (c15 [15]) (n15 [none]) [] (vcheckBad_at t v s ev n me c h) Zx18 Zx36 ?_
 refine Zr1 ?_
 exact Zv (v':=.tup [.str [],.int .i64 1]) (Hl:=bH [.rows n 7 (evG ev) 65 me]) (c15 [15]) ⟨rfl,rfl⟩ Zx18
theorem vencArgNil_at (t s v:Int)(h:¬NewOk t v s) :
  CallG Tryz.prog 16 [trV t v s .nils] (bH []) fun r H=>r=.tup [.str [],.int .i64 1]/\H=bH []:=by
 refine Ze Tryz.func16 rfl fun g w=>?_
 refine Zc (c15 []) (n15 []) [] (vcheckNilBad_at t v s h) Zx0 Zx12 ?_
 refine Zr1 ?_
 exact Zv (v':=.tup [.str [],.int .i64 1]) (Hl:=bH []) (c15 []) ⟨rfl,rfl⟩ Zx0
theorem encL_cons (t:Int)(c:Co)(e:Evt)(l:List Evt):encL t c (e::l)=encE t c e++encL t (knowS c e) l:=rfl
theorem sh_may {m m':Sh}{e:Evt}(h:(nextS m e).1=0):MayP e m.nt m.vars m.ns/\nextS m e=(0,(nextS m e).2):=by
 have e1:nextS m e=(0,(nextS m e).2):=by rw[<-h]
 exact⟨(next_ok e1).1,e1⟩
theorem vencOk_at (nt ns:Nat)(v:Int)(ev:Nat->Evt)(n me:Nat)(c:Cap)(h:NewOk nt v ns)(hn:n<=20000)(hr:∀i,i<n->EvR (ev i))(hx:∀i,i<n->XOk (ev i))(ho:okL (sh0 v nt ns) (evs ev n 0)) :
  CallG Tryz.prog 16 [trV nt v ns (.sl 15 0 7 n c)] (bH [.rows n 7 (evG ev) 65 me]) fun r H=>r=.tup [.str (wrapF (bodyF nt v ns (evs ev n 0))),.int .i64 0]/\H=bH [.rows n 7 (evG ev) 65 me]:=by
 have hc:=vcheck_at nt ns v ev n me c h (by omega) hr
 have hz:=(chk_ok ev n (sh0 v nt ns) 0).2 ho
 have hbody:bodyF nt v ns (evs ev n 0)=(putB (nt:Int).toNat++putB v.toNat++putB (ns:Int).toNat++putB (n:Int).toNat)++encL nt co0 (evs ev n 0):=by
  unfold bodyF;rw[evs_len];simp only[List.append_assoc];rfl
 rw[hbody]
 revert hz hc
 rcases chkF ev n (sh0 v nt ns) 0 with⟨p,x⟩
 intro hc hz
 obtain rfl:x=0:=hz
 dsimp only at hc
 obtain⟨n1,n2,n3,n4⟩:=id h
 have l1:=putB_len (nt:Int).toNat
 have l2:=putB_len v.toNat
 have l3:=putB_len (ns:Int).toNat
 have l4:=putB_len (n:Int).toNat
 refine Ze Tryz.func16 rfl fun g w=>?_
 refine Zc (c15 [15]) (n15 [none]) [] (hc) Zx18 Zx36 ?_
 refine Zr2 ?_
 refine Zc [0,1,2,3] [none,none,none,none] [wr0] (vnewWriter_at) Zx2 Zx5 ?_
 refine Zr2 ?_
 refine LoopG.rounds cx_ok 5 (by kernel_rfl) ?_
 refine Zr3 ?_
 refine Zc [0,1,2,3,17] [none,none,none,none,some (wrO 19 (putB (nt:Int).toNat).length)] [byO (putB (nt:Int).toNat)] (vnum0_at nt ⟨by omega,by omega⟩) Zx3 Zx31 ?_
 refine Zr3 ?_
 refine Zc [0,1,2,3,17,19] [none,none,none,none,some (wrO 20 (putB (nt:Int).toNat++putB v.toNat).length),some .dead] [byO (putB (nt:Int).toNat++putB v.toNat)] (vnum_at (putB (nt:Int).toNat) v ⟨by omega,by omega⟩ (by omega)) Zx17 Zx20 ?_
 refine Zr3 ?_
 refine Zc [0,1,2,3,17,20] [none,none,none,none,some (wrO 21 (putB (nt:Int).toNat++putB v.toNat++putB (ns:Int).toNat).length),some .dead] [byO (putB (nt:Int).toNat++putB v.toNat++putB (ns:Int).toNat)] (vnum_at (putB (nt:Int).toNat++putB v.toNat) ns ⟨by omega,by omega⟩ (by simp only[List.length_append];omega)) Zx17 Zx20 ?_
 refine Zr3 ?_
 refine Zc [0,1,2,3,17,21] [none,none,none,none,some (wrO 22 (putB (nt:Int).toNat++putB v.toNat++putB (ns:Int).toNat++putB (n:Int).toNat).length),some .dead] [byO (putB (nt:Int).toNat++putB v.toNat++putB (ns:Int).toNat++putB (n:Int).toNat)] (vnum_at (putB (nt:Int).toNat++putB v.toNat++putB (ns:Int).toNat) n ⟨by omega,by omega⟩ (by simp only[List.length_append];omega)) Zx17 Zx20 ?_
 refine Zr11 ?_
 generalize hb:putB (nt:Int).toNat++putB v.toNat++putB (ns:Int).toNat++putB (n:Int).toNat=b
 have lb:b.length<=40:=by rw[<-hb];simp only[List.length_append];omega
 clear hb
 refine Br.o (fun h1=>?_) (fun h1=>?_)
 rotate_left
 ·have p1:¬(0:Int)<(n:Int):=of_decide_eq_false h1
  obtain rfl:n=0:=by omega
  rw[show b++encL nt co0 (evs ev 0 0)=b from List.append_nil b]
  refine Zc [0,1,2,3,17,22] [none,none,none,none,none,none] [] (vtext_at b) Zx17 (by exact⟨.r rfl,.p,trivial⟩) ?_
  refine Zc [0,1,2,3] [none,none,none,none] [] (vwrap_at b (by omega)) Zx2 Zx4 ?_
  exact Zv (v':=.tup [.str (wrapF (b)),.int .i64 0]) (Hl:=bH [.rows 0 7 (evG ev) 65 me]) (c15 [15]) ⟨rfl,rfl⟩ Zx18
 ·have p1:(0:Int)<(n:Int):=of_decide_eq_true h1
  have hnt:1<=(nt:Int):=by
   obtain⟨f,rfl⟩:∃f,n=f+1:=⟨n-1,by omega⟩
   exact(sh_may (m':=sh0 v nt ns) ho.1).1.1.1
  refine Zc (c15 []) (n15 []) [coO co0 nt v ns] (vcoNew_at nt v ns ⟨⟨hnt,n1.2⟩,n2,n3,n4⟩) Zx0 Zx24 ?_
  refine Zr2 ?_
  refine LoopG.by (α:=Nat × Co × Sh × List UInt8 × Nat × Nat × Nat) (fun p fr ds H=>p.1<=n/\Link p.2.1 p.2.2.1/\CoOk p.2.1 nt/\(p.2.2.1.nt=nt/\p.2.2.1.ns=ns/\p.2.2.1.vars=v)/\okL p.2.2.1 (evs ev (n-p.1) p.1)/\p.2.2.2.1++encL nt p.2.1 (evs ev (n-p.1) p.1)=b++encL nt co0 (evs ev n 0)/\p.2.2.2.1.length<=40+30*p.1/\HasR [0,1,2,3,4,5,6,7,8,9,10,11,12,13,14,15,p.2.2.2.2.1,p.2.2.2.2.2.1,p.2.2.2.2.2.2] [(10,.ptr 18 0 0 0),(6,.ptr 16 0 0 0),(68,.sl 15 0 7 n c),(69,.int .i64 n),(70,.int .i64 (p.1:Int))] fr/\ds=[]/\nodupN [0,1,2,3,4,5,6,7,8,9,10,11,12,13,14,15,p.2.2.2.2.1,p.2.2.2.2.2.1,p.2.2.2.2.2.2]=true/\allLt [0,1,2,3,4,5,6,7,8,9,10,11,12,13,14,15,p.2.2.2.2.1,p.2.2.2.2.2.1,p.2.2.2.2.2.2] (len H)=true/\Fits (ren [0,1,2,3,4,5,6,7,8,9,10,11,12,13,14,15,p.2.2.2.2.1,p.2.2.2.2.2.1,p.2.2.2.2.2.2]) H (bH [.rows n 7 (evG ev) 65 me,wrO 17 p.2.2.2.1.length,byO p.2.2.2.1,coO p.2.1 nt v ns]) 0) (fun p=>n-p.1) (0,co0,sh0 v nt ns,b,17,22,23) ⟨Nat.zero_le _,link0 v nt ns,co0_ok hnt,⟨rfl,rfl,rfl⟩,ho,rfl,by show b.length<=40;exact lb,hasR_cons rfl (hasR_cons rfl (hasR_cons rfl (hasR_cons rfl (hasR_cons rfl (hasR_nil _ _))))),rfl,rfl,rfl,fitB rfl ⟨.p,.r rfl,.p,.r rfl,trivial⟩⟩ ?_
  rintro ⟨k,co,m,bb,i1,i2,i3⟩ fr ds H ⟨hk,hli,hco,⟨hm1,hm2,hm3⟩,hok,heq,hlen,hfr,rfl,hnd,hlt,hfit⟩
  dsimp only at hk hli hco hm1 hm2 hm3 hok heq hlen hfr hnd hlt hfit
  refine T.ren [0,1,2,3,4,5,6,7,8,9,10,11,12,13,14,15,i1,i2,i3] (vCode_ok cx_ok (by kernel_rfl) ?_) hfr hfit hnd hlt rfl rfl rfl (by kernel_rfl)
  refine Br.o (fun h2=>?_) (fun h2=>?_)
  rotate_left
  ·have p2:¬(k:Int)<(n:Int):=of_decide_eq_false h2
   obtain rfl:k=n:=by omega
   rw[Nat.sub_self,show bb++encL nt co (evs ev 0 k)=bb from List.append_nil bb]at heq
   rw[<-heq]
   refine Zc [0,1,2,3,16,17] [none,none,none,none,none,none] [] (vtext_at bb) Zx17 (by exact⟨.r rfl,.p,trivial⟩) ?_
   refine Zc [0,1,2,3] [none,none,none,none] [] (vwrap_at bb (by omega)) Zx2 Zx4 ?_
   exact Zv (v':=.tup [.str (wrapF (bb)),.int .i64 0]) (Hl:=bH [.rows k 7 (evG ev) 65 me]) (c15 [15]) ⟨rfl,rfl⟩ Zx18
  ·have p2:(k:Int)<(n:Int):=of_decide_eq_true h2
   have hkn:k<n:=by omega
   have e1:n-k=(n-(k+1))+1:=by omega
   rw[e1]at hok heq
   obtain⟨ok1,ok2⟩:(nextS m (ev k)).1=0/\okL (nextS m (ev k)).2 (evs ev (n-(k+1)) (k+1)):=hok
   obtain⟨hmay,hnx⟩:=sh_may (m':=m) ok1
   obtain⟨ht,hli2⟩:=tells_next hli hnx
   obtain⟨g1,g2,g3⟩:=next_keep hnx
   rw[hm1,hm2,hm3]at ht
   have hle:=(encE_len nt co (ev k)).2
   refine Zr0 ?_
   refine Zc (c15 [18,16,17]) (n15 [some (coO (knowS co (ev k)) nt v ns),some (wrO 20 (bb++encE nt co (ev k)).length),some .dead]) [byO (bb++encE nt co (ev k))] (vwrite_at co nt v ns (ev k) bb ht (hr k hkn) hco (hx k hkn) (by omega)) (by exact fitB rfl ⟨.r rfl,.r rfl,.p,trivial⟩) (by exact keptB rfl ⟨.r rfl,.r rfl,.r rfl,.q,trivial⟩) ?_
   refine Zr3 ?_
   exact Exists.intro (k+1,knowS co (ev k),(nextS m (ev k)).2,bb++encE nt co (ev k),16,20,18) ⟨by show n-(k+1)<n-k;omega,by show k+1<=n;omega,hli2,tells_know ht hco (hx k hkn),⟨g1.trans hm1,g2.trans hm2,g3.trans hm3⟩,ok2,by rw[<-heq];exact List.append_assoc _ _ _,by show(bb++encE nt co (ev k)).length<=_;rw[List.length_append];omega,hasR_cons rfl (hasR_cons rfl (hasR_cons rfl (hasR_cons rfl (hasR_cons rfl (hasR_nil _ _))))),rfl,rfl,rfl,fitB rfl ⟨.p,.r rfl,.p,.r rfl,trivial⟩⟩
theorem vencNil_at (nt ns:Nat)(v:Int)(h:NewOk nt v ns) :
  CallG Tryz.prog 16 [trV nt v ns .nils] (bH []) fun r H=>r=.tup [.str (wrapF (bodyF nt v ns [])),.int .i64 0]/\H=bH []:=by
 have hbody:bodyF nt v ns []=putB (nt:Int).toNat++putB v.toNat++putB (ns:Int).toNat++putB (0:Int).toNat:=by
  unfold bodyF;simp only[List.append_assoc];rfl
 rw[hbody]
 obtain⟨n1,n2,n3,n4⟩:=id h
 have l1:=putB_len (nt:Int).toNat
 have l2:=putB_len v.toNat
 have l3:=putB_len (ns:Int).toNat
 have l4:=putB_len (0:Int).toNat
 refine Ze Tryz.func16 rfl fun g w=>?_
 refine Zc (c15 []) (n15 []) [] (vcheckNil_at nt ns v h) Zx0 Zx12 ?_
 refine Zr2 ?_
 refine Zc [0,1,2,3] [none,none,none,none] [wr0] (vnewWriter_at) Zx2 Zx5 ?_
 refine Zr2 ?_
 refine LoopG.rounds cx_ok 5 (by kernel_rfl) ?_
 refine Zr3 ?_
 refine Zc [0,1,2,3,16] [none,none,none,none,some (wrO 18 (putB (nt:Int).toNat).length)] [byO (putB (nt:Int).toNat)] (vnum0_at nt ⟨by omega,by omega⟩) Zx3 Zx31 ?_
 refine Zr3 ?_
 refine Zc [0,1,2,3,16,18] [none,none,none,none,some (wrO 19 (putB (nt:Int).toNat++putB v.toNat).length),some .dead] [byO (putB (nt:Int).toNat++putB v.toNat)] (vnum_at (putB (nt:Int).toNat) v ⟨by omega,by omega⟩ (by omega)) Zx17 Zx20 ?_
 refine Zr3 ?_
 refine Zc [0,1,2,3,16,19] [none,none,none,none,some (wrO 20 (putB (nt:Int).toNat++putB v.toNat++putB (ns:Int).toNat).length),some .dead] [byO (putB (nt:Int).toNat++putB v.toNat++putB (ns:Int).toNat)] (vnum_at (putB (nt:Int).toNat++putB v.toNat) ns ⟨by omega,by omega⟩ (by simp only[List.length_append];omega)) Zx17 Zx20 ?_
 refine Zr3 ?_
 refine Zc [0,1,2,3,16,20] [none,none,none,none,some (wrO 21 (putB (nt:Int).toNat++putB v.toNat++putB (ns:Int).toNat++putB (0:Int).toNat).length),some .dead] [byO (putB (nt:Int).toNat++putB v.toNat++putB (ns:Int).toNat++putB (0:Int).toNat)] (vnum_at (putB (nt:Int).toNat++putB v.toNat++putB (ns:Int).toNat) 0 ⟨by omega,by omega⟩ (by simp only[List.length_append];omega)) Zx17 Zx20 ?_
 refine Zr11 ?_
 generalize hb:putB (nt:Int).toNat++putB v.toNat++putB (ns:Int).toNat++putB (0:Int).toNat=b
 have lb:b.length<=40:=by rw[<-hb];simp only[List.length_append];omega
 clear hb
 refine Zc [0,1,2,3,16,21] [none,none,none,none,none,none] [] (vtext_at b) Zx17 (by exact⟨.r rfl,.p,trivial⟩) ?_
 refine Zc [0,1,2,3] [none,none,none,none] [] (vwrap_at b (by omega)) Zx2 Zx4 ?_
 exact Zv (v':=.tup [.str (wrapF b),.int .i64 0]) (Hl:=bH []) (c15 []) ⟨rfl,rfl⟩ Zx0
end Go.Proofs.YtgdmlkgjpcnelaaGreatDoor
