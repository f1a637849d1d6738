import Derived.Test.YtgdmlkgjpcnelaaGreatDoorTbZh
import Derived.Deep.Slices
import Derived.ChangeSame
namespace Go.Proofs.YtgdmlkgjpcnelaaGreatDoor
open Go Go.Vc Go.RowKit Go.Deep Go.ChangeShapes Go.WideShapes Go.ChangeAt
set_option linter.unusedVariables false
set_option maxRecDepth 100000
set_option maxHeartbeats 1000000
theorem mapM_get {β:Type}{f:Nat->Option β}:∀{l:List Nat} {r:List β},l.mapM f=some r->∀i (h:i<l.length),f l[i]=r[i]?:=by
 intro l
 induction l with
 |nil=>intro r _ i h;simp at h
 |cons a l ih=>
  intro r hr i h
  simp only[List.mapM_cons,Option.bind_eq_bind]at hr
  cases ha:f a with
  |none=>simp[ha]at hr
  |some x=>
   cases hl:l.mapM f with
   |none=>simp[ha,hl]at hr
   |some y=>
    simp[ha,hl]at hr
    subst hr
    cases i with
    |zero=>simpa using ha
    |succ i=>simpa using ih hl i (by simpa using h)
section
variable {H:Type}{enc:TypeId × Value->H}{P:Program}{w:World}
theorem slice_room {α:Type} [Inhabited α](T e:TypeId)(sz:Nat)(cells:α->List Value)(wf:α->Prop)(hT:P.underlying T=some (.slice e))(hsz:P.cellsOf e=sz)(hpos:0<sz)(hlen:∀d,(cells d).length=sz)
  (hel:∀fuel cs (x:DataW H × List MemPlace),DataW.trod enc P w 0 (fun _=>true) true fuel e cs=some x->∃d,cs=cells d/\wf d)
  {a:Option Addr} {len cap fuel:Nat} {x:DataW H × List MemPlace} (h:DataW.trod enc P w 0 (fun _=>true) true fuel T [.slice a len cap]=some x) :
  (a=none/\len=0/\cap=0)\/(∃p,a=some p/\len=0/\cap=0)\/(0<cap/\len<=cap/\∃(b off:Nat) (f:Nat->α),a=some ⟨b,off,none⟩/\∀i,i<cap->wf (f i)/\∀j v,(cells (f i))[j]?=some v->w.cell? ⟨b,off+i*sz+j,none⟩=some v):=by
 rcases open_slice hT h with⟨hcs,_⟩|⟨x,l,c,m,n,D,Pl,hcs,_,hl,hm,hmm,_,hi⟩
 ·simp at hcs
  exact .inl hcs
 ·simp at hcs
  obtain⟨rfl,rfl,rfl⟩:=hcs
  have hmc:m=cap:=by simpa using hmm
  by_cases h0:cap=0
  ·exact .inr (.inl ⟨x,rfl,by omega,h0⟩)
  have key:∀i,i<cap->∃d,wf d/\∀j v,(cells d)[j]?=some v->w.cell? ((x.add (i*sz)).add j)=some v:=fun i hil=>by
   obtain⟨cs',hc1,hc2⟩:=hi i (by omega)
   obtain⟨d,rfl,hw⟩:=hel _ _ _ hc2
   refine⟨d,hw,fun j v hv=>?_⟩
   unfold World.cells? at hc1
   rw[if_pos (Nat.zero_le _),hsz]at hc1
   have hj:j<sz:=by
    rcases Nat.lt_or_ge j sz with h|h
    ·exact h
    ·rw[List.getElem?_eq_none (by rw[hlen];exact h)]at hv;cases hv
   have:=mapM_get hc1 j (by simpa using hj)
   simpa[hv]using this
  obtain⟨f,hf'⟩:=choose_lt key
  obtain⟨v0,hv0⟩:∃v,(cells (f 0))[0]?=some v:=⟨_,List.getElem?_eq_getElem (by rw[hlen];exact hpos)⟩
  have hc0:=(hf' 0 (by omega)).2 0 v0 hv0
  have hspot:x.spot=none:=by
   have hx:((x.add (0*sz)).add 0)=x:=by simp[Addr.add]
   rw[hx]at hc0
   unfold World.cell? at hc0
   split at hc0
   ·split at hc0
    ·cases hc0
    ·rename_i h;simpa using h
   ·cases hc0
  have hx:∀k,x.add k=⟨x.block,x.off+k,none⟩:=fun k=>by
   unfold Addr.add
   split
   ·rename_i hk;subst hk;cases x;simp_all
   ·simp_all
  refine .inr (.inr ⟨by omega,hl,x.block,x.off,f,by cases x;simp_all,fun i hil=>⟨(hf' i hil).1,fun j v hv=>?_⟩⟩)
  have:=(hf' i hil).2 j v hv
  rw[hx]at this
  have e:∀(b o k:Nat),(⟨b,o,none⟩:Addr).add k=⟨b,o+k,none⟩:=fun b o k=>by
   unfold Addr.add
   split
   ·rename_i hk;subst hk;rfl
   ·rfl
  rw[e]at this
  exact this
instance:Inhabited Evt:=⟨⟨0,0,0,0,0,0,0⟩⟩
def evV (e:Evt):List Value:=[.int .u8 e.kind,.int .i64 e.thread,.int .i64 e.tx,.int .i64 e.at_,.int .i64 e.v,.int .i64 e.x,.int .u8 e.why]
theorem wf_u8 {z:Int}(h:(Lit.int .u8 z).wf=true):0<=z/\z<=255:=by
 simp only[Lit.wf,Bool.and_eq_true,decide_eq_true_eq]at h
 exact h
theorem wf_i64 {z:Int}(h:(Lit.int .i64 z).wf=true):-9223372036854775808<=z/\z<=9223372036854775807:=by
 simp only[Lit.wf,Bool.and_eq_true,decide_eq_true_eq]at h
 exact h
theorem evt_open (fuel:Nat)(cs:List Value)(x:DataW H × List MemPlace)(h:DataW.trod enc Tryz.prog w 0 (fun _=>true) true fuel 65 cs=some x):∃e:Evt,cs=evV e/\EvR e/\XOk e:=by
 obtain⟨xs,n,_,rfl,hl,hlen,hf⟩:=DataW.trod_struct Tryz.underlying65 h
 have hl7:cs.length=7:=hl.trans (by kernel_rfl)
 have c3:Tryz.prog.cellsOf 3=1:=by kernel_rfl
 have c5:Tryz.prog.cellsOf 5=1:=by kernel_rfl
 have c2:Tryz.prog.cellsOf 2=1:=by kernel_rfl
 match cs,hl7 with
 |[v0,v1,v2,v3,v4,v5,v6],_=>
  match xs,hlen with
  |[y0,y1,y2,y3,y4,y5,y6],_=>
   have h0:DataW.trod enc Tryz.prog w 0 (fun _=>true) true n 5 [v0]=some y0:=by simpa[c5]using hf 0 _ rfl
   have h1:DataW.trod enc Tryz.prog w 0 (fun _=>true) true n 3 [v1]=some y1:=by simpa[c3]using hf 1 _ rfl
   have h2:DataW.trod enc Tryz.prog w 0 (fun _=>true) true n 3 [v2]=some y2:=by simpa[c3]using hf 2 _ rfl
   have h3:DataW.trod enc Tryz.prog w 0 (fun _=>true) true n 3 [v3]=some y3:=by simpa[c3]using hf 3 _ rfl
   have h4:DataW.trod enc Tryz.prog w 0 (fun _=>true) true n 3 [v4]=some y4:=by simpa[c3]using hf 4 _ rfl
   have h5:DataW.trod enc Tryz.prog w 0 (fun _=>true) true n 2 [v5]=some y5:=by simpa[c2]using hf 5 _ rfl
   have h6:DataW.trod enc Tryz.prog w 0 (fun _=>true) true n 5 [v6]=some y6:=by simpa[c5]using hf 6 _ rfl
   obtain⟨z0,e0,_,w0⟩:=DataW.trod_int Tryz.underlying5 h0
   obtain⟨z1,e1,_,w1⟩:=DataW.trod_int Tryz.underlying3 h1
   obtain⟨z2,e2,_,w2⟩:=DataW.trod_int Tryz.underlying3 h2
   obtain⟨z3,e3,_,w3⟩:=DataW.trod_int Tryz.underlying3 h3
   obtain⟨z4,e4,_,w4⟩:=DataW.trod_int Tryz.underlying3 h4
   obtain⟨z5,e5,_,w5⟩:=DataW.trod_int Tryz.underlying2 h5
   obtain⟨z6,e6,_,w6⟩:=DataW.trod_int Tryz.underlying5 h6
   obtain rfl:v0=.int .u8 z0:=by simpa using e0
   obtain rfl:v1=.int .i64 z1:=by simpa using e1
   obtain rfl:v2=.int .i64 z2:=by simpa using e2
   obtain rfl:v3=.int .i64 z3:=by simpa using e3
   obtain rfl:v4=.int .i64 z4:=by simpa using e4
   obtain rfl:v5=.int .i64 z5:=by simpa using e5
   obtain rfl:v6=.int .u8 z6:=by simpa using e6
   exact⟨⟨z0,z1,z2,z3,z4,z5,z6⟩,rfl,⟨wf_u8 w0,wf_u8 w6⟩,wf_i64 w5⟩
theorem trace_open {fuel:Nat}{cs:List Value}{x:DataW H × List MemPlace}(h:DataW.trod enc Tryz.prog w 0 (fun _=>true) true fuel 31 cs=some x):∃(t v s:Int) (a:Option Addr) (n cap:Nat),cs=[.int .i64 t,.int .i64 v,.int .i64 s,.slice a n cap] /\
  ((a=none/\n=0/\cap=0)\/(∃p,a=some p/\n=0/\cap=0)\/(0<cap/\n<=cap/\∃(b off:Nat) (f:Nat->Evt),a=some ⟨b,off,none⟩/\∀i,i<cap->(EvR (f i)/\XOk (f i))/\∀j v,(evV (f i))[j]?=some v->w.cell? ⟨b,off+i*7+j,none⟩=some v)):=by
 obtain⟨xs,n,_,rfl,hl,hlen,hf⟩:=DataW.trod_struct Tryz.underlying31 h
 have hl4:cs.length=4:=hl.trans (by kernel_rfl)
 have c3:Tryz.prog.cellsOf 3=1:=by kernel_rfl
 have c29:Tryz.prog.cellsOf 29=1:=by kernel_rfl
 match cs,hl4 with
 |[v0,v1,v2,v3],_=>
  match xs,hlen with
  |[y0,y1,y2,y3],_=>
   have h0:DataW.trod enc Tryz.prog w 0 (fun _=>true) true n 3 [v0]=some y0:=by simpa[c3]using hf 0 _ rfl
   have h1:DataW.trod enc Tryz.prog w 0 (fun _=>true) true n 3 [v1]=some y1:=by simpa[c3]using hf 1 _ rfl
   have h2:DataW.trod enc Tryz.prog w 0 (fun _=>true) true n 3 [v2]=some y2:=by simpa[c3]using hf 2 _ rfl
   have h3:DataW.trod enc Tryz.prog w 0 (fun _=>true) true n 29 [v3]=some y3:=by simpa[c29]using hf 3 _ rfl
   obtain⟨z0,e0,_,w0⟩:=DataW.trod_int Tryz.underlying3 h0
   obtain⟨z1,e1,_,w1⟩:=DataW.trod_int Tryz.underlying3 h1
   obtain⟨z2,e2,_,w2⟩:=DataW.trod_int Tryz.underlying3 h2
   obtain rfl:v0=.int .i64 z0:=by simpa using e0
   obtain rfl:v1=.int .i64 z1:=by simpa using e1
   obtain rfl:v2=.int .i64 z2:=by simpa using e2
   obtain⟨a,len,cap,rfl⟩:∃a len cap,v3=.slice a len cap:=by
    rcases DataW.trod_slice Tryz.underlying29 h3 with⟨hcs,_⟩|⟨a,len,cap,_,_,_,_,hcs,_⟩
    ·exact⟨none,0,0,by simpa using hcs⟩
    ·exact⟨some a,len,cap,by simpa using hcs⟩
   exact⟨z0,z1,z2,a,len,cap,rfl,slice_room 29 65 7 evV (fun e=>EvR e/\XOk e) Tryz.underlying29 (by kernel_rfl) (by decide) (fun _=>rfl) (fun fuel cs x h=>evt_open fuel cs x h) h3⟩
end
theorem cell_obj {w:World}{b o:Nat}{v:Value}(h:w.cell? ⟨b,o,none⟩=some v):∃arr e fz,w.heap[b]?=some (.cells arr e fz)/\arr[o]?=some v:=by
 unfold World.cell? at h
 cases hb:w.heap[b]? with
 |none=>simp[hb]at h
 |some O=>
  rw[hb]at h
  cases O with
  |cells arr e fz=>exact⟨arr,e,fz,rfl,by simpa using h⟩
  |_=>simp at h
theorem cell_at {w:World}{b o:Nat}{v:Value}{arr:Array Value}{e:TypeId}{fz:Nat × Nat}(h:w.cell? ⟨b,o,none⟩=some v)(hb:w.heap[b]?=some (.cells arr e fz)):arr[o]?=some v:=by
 obtain⟨arr',e',fz',h1,h2⟩:=cell_obj h
 rw[hb]at h1;cases h1
 exact h2
theorem row_at {P:Program}{g:Ev.Gm}{w:World}{l:Ev.Loc}{cs:List Value}{e:TypeId}(hb:∃o v,w.cell? ⟨l.blk,o,none⟩=some v)(h:∀i v,cs[i]?=some v->∃u,w.cell? ⟨l.blk,l.off+i,none⟩=some u/\Ev.VR g v u):∃O,w.heap[l.blk]?=some O/\Ev.ObjAt P g l (.row cs e 2) O:=by
 obtain⟨o,v0,h0⟩:=hb
 obtain⟨arr,el,fz,hb,_⟩:=cell_obj h0
 refine⟨_,hb,arr,el,fz,rfl,fun i v hv=>?_,fun h=>absurd h (by decide)⟩
 obtain⟨u,h1,h2⟩:=h i v hv
 exact⟨u,cell_at h1 hb,h2⟩
def gT (f:Nat->Value × Value × Nat × Nat × Nat)(le:Option Ev.Loc):Ev.Gm:=fun id=>if id<4 then some ⟨id,0,0,0⟩else if id<15 then some ⟨(f (id-3)).2.2.1,(f (id-3)).2.2.2.1,(f (id-3)).2.2.2.2,1⟩else if id=20 then le else none
theorem gT_part {f:Nat->Value × Value × Nat × Nat × Nat}{le:Option Ev.Loc}{k:Nat}(hk:1<=k/\k<12):gT f le (k+3)=some ⟨(f k).2.2.1,(f k).2.2.2.1,(f k).2.2.2.2,1⟩:=by
 unfold gT;rw[if_neg (by omega),if_pos (by omega),show k+3-3=k by omega]
theorem gT_glob (f:Nat->Value × Value × Nat × Nat × Nat)(le:Option Ev.Loc):Ev.Glob Tryz.prog (gT f le):=fun b hb=>by
 have hs:Nat.beq Tryz.prog.globals.size 4=true:=gsize
 have hs:=Nat.eq_of_beq_eq_true hs
 exact⟨⟨b,0,0,0⟩,by unfold gT;rw[if_pos (by omega)],rfl,rfl⟩
section
variable {W:World}{f:Nat->Value × Value × Nat × Nat × Nat}{le:Option Ev.Loc}
theorem kinds_ok (hK:∀i,i<14->W.cell? ⟨0,i*2,none⟩=some (f i).1/\W.cell? ⟨0,i*2+1,none⟩=some (f i).2.1/\KindAt W (nameK i) (partsT i) (f i)):∃O,W.heap[0]?=some O/\Ev.ObjAt Tryz.prog (gT f le) ⟨0,0,0,0⟩ kindsOb.o O:=by
 refine row_at (l:=⟨0,0,0,0⟩) ⟨0,_,(hK 0 (by decide)).1⟩ fun i v hv=>?_
 have nm:∀k,k<14->∃u,W.cell? ⟨0,k*2,none⟩=some u/\Ev.VR (gT f le) (.string ⟨⟨nameK k⟩⟩) u:=fun k hk=>⟨_,(hK k hk).1,(hK k hk).2.2.1⟩
 have no:∀k,k<14->partsT k=[]->∃u,W.cell? ⟨0,k*2+1,none⟩=some u/\Ev.VR (gT f le) (.slice none 0 0) u:=fun k hk h0=>⟨_,(hK k hk).2.1,by
  rcases (hK k hk).2.2.2 with⟨_,h⟩|⟨h,_⟩
  ·rw[h];exact⟨by decide,rfl⟩
  ·exact absurd h0 h⟩
 have sl:∀k n,1<=k/\k<12->partsT k≠[]->(partsT k).length=n->∃u,W.cell? ⟨0,k*2+1,none⟩=some u/\Ev.VR (gT f le) (.slice (some ⟨k+3,0,none⟩) n Ev.big) u:=fun k n hk h0 hn=>⟨_,(hK k (by omega)).2.1,by
  rcases (hK k (by omega)).2.2.2 with⟨h,_⟩|⟨_,h,hp,_⟩
  ·exact absurd h h0
  ·rw[h,hn]
   exact⟨_,gT_part hk,.inr ⟨0,_,rfl,by dsimp only;omega,fun _=>rfl,rfl⟩⟩⟩
 have hi:i<28:=by
  rcases Nat.lt_or_ge i 28 with h|h
  ·exact h
  ·have:(28:Nat)<=i:=h
   rw[List.getElem?_eq_none (by show 28<=i;exact h)]at hv;cases hv
 match i,hi,hv with
 |0,_,hv=>obtain rfl:=Option.some.inj hv;rw[Nat.zero_add];exact nm 0 (by decide)
 |1,_,hv=>obtain rfl:=Option.some.inj hv;rw[Nat.zero_add];exact no 0 (by decide) rfl
 |2,_,hv=>obtain rfl:=Option.some.inj hv;rw[Nat.zero_add];exact nm 1 (by decide)
 |3,_,hv=>obtain rfl:=Option.some.inj hv;rw[Nat.zero_add];exact sl 1 2 (by decide) (by decide) rfl
 |4,_,hv=>obtain rfl:=Option.some.inj hv;rw[Nat.zero_add];exact nm 2 (by decide)
 |5,_,hv=>obtain rfl:=Option.some.inj hv;rw[Nat.zero_add];exact sl 2 2 (by decide) (by decide) rfl
 |6,_,hv=>obtain rfl:=Option.some.inj hv;rw[Nat.zero_add];exact nm 3 (by decide)
 |7,_,hv=>obtain rfl:=Option.some.inj hv;rw[Nat.zero_add];exact sl 3 2 (by decide) (by decide) rfl
 |8,_,hv=>obtain rfl:=Option.some.inj hv;rw[Nat.zero_add];exact nm 4 (by decide)
 |9,_,hv=>obtain rfl:=Option.some.inj hv;rw[Nat.zero_add];exact sl 4 1 (by decide) (by decide) rfl
 |10,_,hv=>obtain rfl:=Option.some.inj hv;rw[Nat.zero_add];exact nm 5 (by decide)
 |11,_,hv=>obtain rfl:=Option.some.inj hv;rw[Nat.zero_add];exact sl 5 1 (by decide) (by decide) rfl
 |12,_,hv=>obtain rfl:=Option.some.inj hv;rw[Nat.zero_add];exact nm 6 (by decide)
 |13,_,hv=>obtain rfl:=Option.some.inj hv;rw[Nat.zero_add];exact sl 6 1 (by decide) (by decide) rfl
 |14,_,hv=>obtain rfl:=Option.some.inj hv;rw[Nat.zero_add];exact nm 7 (by decide)
 |15,_,hv=>obtain rfl:=Option.some.inj hv;rw[Nat.zero_add];exact sl 7 1 (by decide) (by decide) rfl
 |16,_,hv=>obtain rfl:=Option.some.inj hv;rw[Nat.zero_add];exact nm 8 (by decide)
 |17,_,hv=>obtain rfl:=Option.some.inj hv;rw[Nat.zero_add];exact sl 8 2 (by decide) (by decide) rfl
 |18,_,hv=>obtain rfl:=Option.some.inj hv;rw[Nat.zero_add];exact nm 9 (by decide)
 |19,_,hv=>obtain rfl:=Option.some.inj hv;rw[Nat.zero_add];exact sl 9 1 (by decide) (by decide) rfl
 |20,_,hv=>obtain rfl:=Option.some.inj hv;rw[Nat.zero_add];exact nm 10 (by decide)
 |21,_,hv=>obtain rfl:=Option.some.inj hv;rw[Nat.zero_add];exact sl 10 2 (by decide) (by decide) rfl
 |22,_,hv=>obtain rfl:=Option.some.inj hv;rw[Nat.zero_add];exact nm 11 (by decide)
 |23,_,hv=>obtain rfl:=Option.some.inj hv;rw[Nat.zero_add];exact sl 11 1 (by decide) (by decide) rfl
 |24,_,hv=>obtain rfl:=Option.some.inj hv;rw[Nat.zero_add];exact nm 12 (by decide)
 |25,_,hv=>obtain rfl:=Option.some.inj hv;rw[Nat.zero_add];exact no 12 (by decide) rfl
 |26,_,hv=>obtain rfl:=Option.some.inj hv;rw[Nat.zero_add];exact nm 13 (by decide)
 |27,_,hv=>obtain rfl:=Option.some.inj hv;rw[Nat.zero_add];exact no 13 (by decide) rfl
theorem parts_ok (hK:∀i,i<14->W.cell? ⟨0,i*2,none⟩=some (f i).1/\W.cell? ⟨0,i*2+1,none⟩=some (f i).2.1/\KindAt W (nameK i) (partsT i) (f i)){k:Nat}(hk:1<=k/\k<12)(hne:partsT k≠[])(cs:List Value)(hcs:cs=(partsT k).map fun j=>.func (.func (fnT j)) #[] #[])(e:TypeId):∃O,W.heap[(f k).2.2.1]?=some O/\Ev.ObjAt Tryz.prog (gT f le) ⟨(f k).2.2.1,(f k).2.2.2.1,(f k).2.2.2.2,1⟩ (.row cs e 2) O:=by
 rcases (hK k (by omega)).2.2.2 with⟨h,_⟩|⟨_,_,_,hc⟩
 ·exact absurd h hne
 have hl:0<(partsT k).length:=List.length_pos_iff.2 hne
 subst hcs
 refine row_at (l:=⟨(f k).2.2.1,(f k).2.2.2.1,(f k).2.2.2.2,1⟩) ⟨_,_,hc 0 hl⟩ fun i v hv=>?_
 rw[List.getElem?_map]at hv
 have hi:i<(partsT k).length:=by
  rcases Nat.lt_or_ge i (partsT k).length with h|h
  ·exact h
  ·rw[List.getElem?_eq_none h]at hv;cases hv
 rw[List.getElem?_eq_getElem hi]at hv
 obtain rfl:=Option.some.inj hv
 refine⟨_,hc i hi,⟨_,[],[],rfl,?_,rfl,rfl⟩⟩
 show Fn.func (fnT ((partsT k).getD i 0))=Fn.func (fnT (partsT k)[i])
 rw[List.getD_eq_getElem?_getD,List.getElem?_eq_getElem hi];rfl
theorem tab_ok (h:∀i,i<32->W.cell? ⟨2,i,none⟩=some (.int .u8 ((deBr.getD i 0:Nat):Int))):∃O,W.heap[2]?=some O/\Ev.ObjAt Tryz.prog (gT f le) ⟨2,0,0,0⟩ (Ob.row [.a 32 deG] 5 2).o O:=by
 refine row_at (l:=⟨2,0,0,0⟩) ⟨0,_,h 0 (by decide)⟩ fun i v hv=>?_
 have hv:((List.range 32).map (fun i=>(deG i).v)++[])[i]?=some v:=hv
 rw[List.append_nil,List.getElem?_map]at hv
 have hi:i<32:=by
  rcases Nat.lt_or_ge i 32 with h|h
  ·exact h
  ·rw[List.getElem?_eq_none (by simpa using h)]at hv;cases hv
 rw[List.getElem?_range hi]at hv
 obtain rfl:=Option.some.inj hv
 rw[Nat.zero_add]
 exact⟨_,h i hi,rfl⟩
theorem ops_ok (h:∀i,i<9->W.cell? ⟨1,i,none⟩=some (opW i)):∃O,W.heap[1]?=some O/\Ev.ObjAt Tryz.prog (gT f le) ⟨1,0,0,0⟩ opsOb.o O:=by
 refine row_at (l:=⟨1,0,0,0⟩) ⟨0,_,h 0 (by decide)⟩ fun i v hv=>?_
 have hi:i<9:=by
  rcases Nat.lt_or_ge i 9 with h|h
  ·exact h
  ·rw[List.getElem?_eq_none (by show 9<=i;exact h)]at hv;cases hv
 rw[Nat.zero_add]
 match i,hi,hv with
 |0,_,hv=>obtain rfl:=Option.some.inj hv;exact⟨_,h 0 (by decide),rfl⟩
 |1,_,hv=>obtain rfl:=Option.some.inj hv;exact⟨_,h 1 (by decide),rfl⟩
 |2,_,hv=>obtain rfl:=Option.some.inj hv;exact⟨_,h 2 (by decide),rfl⟩
 |3,_,hv=>obtain rfl:=Option.some.inj hv;exact⟨_,h 3 (by decide),rfl⟩
 |4,_,hv=>obtain rfl:=Option.some.inj hv;exact⟨_,h 4 (by decide),⟨_,[],[],rfl,rfl,rfl,rfl⟩⟩
 |5,_,hv=>obtain rfl:=Option.some.inj hv;exact⟨_,h 5 (by decide),⟨_,[],[],rfl,rfl,rfl,rfl⟩⟩
 |6,_,hv=>obtain rfl:=Option.some.inj hv;exact⟨_,h 6 (by decide),⟨_,[],[],rfl,rfl,rfl,rfl⟩⟩
 |7,_,hv=>obtain rfl:=Option.some.inj hv;exact⟨_,h 7 (by decide),⟨_,[],[],rfl,rfl,rfl,rfl⟩⟩
 |8,_,hv=>obtain rfl:=Option.some.inj hv;exact⟨_,h 8 (by decide),⟨_,[],[],rfl,rfl,rfl,rfl⟩⟩
theorem ev_ok {b off cap n:Nat}{ev:Nat->Evt}(hc:0<cap)(hn:n<=cap)(h:∀i,i<cap->∀j v,(evV (ev i))[j]?=some v->W.cell? ⟨b,off+i*7+j,none⟩=some v):∃O,W.heap[b]?=some O/\Ev.ObjAt Tryz.prog (gT f le) ⟨b,off,cap,7⟩ (Ob.rows n 7 (evG ev) 65 2).o O:=by
 refine row_at (l:=⟨b,off,cap,7⟩) ⟨_,_,h 0 hc 0 _ rfl⟩ fun i v hv=>?_
 have hv:(flat n 7 (evG ev))[i]?=some v:=hv
 have hi:i<n*7:=by
  rcases Nat.lt_or_ge i (n*7)with h|h
  ·exact h
  ·rw[List.getElem?_eq_none (by rw[flat_len];exact h)]at hv;cases hv
 have e:i=i / 7*7+i % 7:=by omega
 have hr:i % 7<7:=Nat.mod_lt _ (by decide)
 have hq:i / 7<n:=by omega
 rw[e,flat_at hq hr]at hv
 obtain rfl:=Option.some.inj hv
 have h7:=h (i / 7) (by omega) (i % 7)
 rw[show off+i=off+i / 7*7+i % 7 by omega]
 generalize i / 7=q at h7
 generalize i % 7=r at h7 hr
 have hh:r=0\/r=1\/r=2\/r=3\/r=4\/r=5\/r=6:=by omega
 rcases hh with rfl|rfl|rfl|rfl|rfl|rfl|rfl<;>exact⟨_,h7 _ rfl,rfl⟩
theorem okN_of (hK:∀i,i<14->W.cell? ⟨0,i*2,none⟩=some (f i).1/\W.cell? ⟨0,i*2+1,none⟩=some (f i).2.1/\KindAt W (nameK i) (partsT i) (f i))(hO:∀i,i<9->W.cell? ⟨1,i,none⟩=some (opW i))(hT:∀i,i<32->W.cell? ⟨2,i,none⟩=some (.int .u8 ((deBr.getD i 0:Nat):Int))):Ev.Ok Tryz.prog (gT f none) (mem (tH [.dead,.dead,.dead,.dead,.dead])) 20 W/\∀id o,mem (tH [.dead,.dead,.dead,.dead,.dead]) id=some o->Ev.wr o=false:=by
 have hw:∀id o,mem (tH [.dead,.dead,.dead,.dead,.dead]) id=some o->Ev.wr o=false:=fun id o h=>by
  match id,h with
  |0,h=>obtain rfl:=Option.some.inj h;rfl
  |1,h=>obtain rfl:=Option.some.inj h;rfl
  |2,h=>obtain rfl:=Option.some.inj h;rfl
  |3,h=>obtain rfl:=Option.some.inj h;rfl
  |4,h=>obtain rfl:=Option.some.inj h;rfl
  |5,h=>obtain rfl:=Option.some.inj h;rfl
  |6,h=>obtain rfl:=Option.some.inj h;rfl
  |7,h=>obtain rfl:=Option.some.inj h;rfl
  |8,h=>obtain rfl:=Option.some.inj h;rfl
  |9,h=>obtain rfl:=Option.some.inj h;rfl
  |10,h=>obtain rfl:=Option.some.inj h;rfl
  |11,h=>obtain rfl:=Option.some.inj h;rfl
  |12,h=>obtain rfl:=Option.some.inj h;rfl
  |13,h=>obtain rfl:=Option.some.inj h;rfl
  |14,h=>obtain rfl:=Option.some.inj h;rfl
  |15,h=>obtain rfl:=Option.some.inj h;rfl
  |16,h=>obtain rfl:=Option.some.inj h;rfl
  |17,h=>obtain rfl:=Option.some.inj h;rfl
  |18,h=>obtain rfl:=Option.some.inj h;rfl
  |19,h=>obtain rfl:=Option.some.inj h;rfl
  |i+20,h=>exact absurd (show(none:Option Ev.VO)=some o from h) (by simp)
 refine⟨⟨fun id o h hl=>?_,fun id id' o o' l l' h1 _ _ h2=>(by rw[hw id o h1]at h2;cases h2),fun id hid=>?_⟩,hw⟩
 ·match id,h with
  |0,h=>obtain rfl:=Option.some.inj h;obtain⟨O,q1,q2⟩:=kinds_ok (le:=none) hK;exact⟨⟨0,0,0,0⟩,O,rfl,q1,q2⟩
  |1,h=>obtain rfl:=Option.some.inj h;obtain⟨O,q1,q2⟩:=ops_ok (f:=f) (le:=none) hO;exact⟨⟨1,0,0,0⟩,O,rfl,q1,q2⟩
  |2,h=>obtain rfl:=Option.some.inj h;obtain⟨O,q1,q2⟩:=tab_ok (f:=f) (le:=none) hT;exact⟨⟨2,0,0,0⟩,O,rfl,q1,q2⟩
  |3,h=>obtain rfl:=Option.some.inj h;cases hl
  |4,h=>obtain rfl:=Option.some.inj h;obtain⟨O,q1,q2⟩:=parts_ok (le:=none) hK (k:=1) (by decide) (by decide) _ rfl 262;exact⟨_,O,gT_part (k:=1) (by decide),q1,q2⟩
  |5,h=>obtain rfl:=Option.some.inj h;obtain⟨O,q1,q2⟩:=parts_ok (le:=none) hK (k:=2) (by decide) (by decide) _ rfl 262;exact⟨_,O,gT_part (k:=2) (by decide),q1,q2⟩
  |6,h=>obtain rfl:=Option.some.inj h;obtain⟨O,q1,q2⟩:=parts_ok (le:=none) hK (k:=3) (by decide) (by decide) _ rfl 262;exact⟨_,O,gT_part (k:=3) (by decide),q1,q2⟩
  |7,h=>obtain rfl:=Option.some.inj h;obtain⟨O,q1,q2⟩:=parts_ok (le:=none) hK (k:=4) (by decide) (by decide) _ rfl 262;exact⟨_,O,gT_part (k:=4) (by decide),q1,q2⟩
  |8,h=>obtain rfl:=Option.some.inj h;obtain⟨O,q1,q2⟩:=parts_ok (le:=none) hK (k:=5) (by decide) (by decide) _ rfl 262;exact⟨_,O,gT_part (k:=5) (by decide),q1,q2⟩
  |9,h=>obtain rfl:=Option.some.inj h;obtain⟨O,q1,q2⟩:=parts_ok (le:=none) hK (k:=6) (by decide) (by decide) _ rfl 262;exact⟨_,O,gT_part (k:=6) (by decide),q1,q2⟩
  |10,h=>obtain rfl:=Option.some.inj h;obtain⟨O,q1,q2⟩:=parts_ok (le:=none) hK (k:=7) (by decide) (by decide) _ rfl 262;exact⟨_,O,gT_part (k:=7) (by decide),q1,q2⟩
  |11,h=>obtain rfl:=Option.some.inj h;obtain⟨O,q1,q2⟩:=parts_ok (le:=none) hK (k:=8) (by decide) (by decide) _ rfl 262;exact⟨_,O,gT_part (k:=8) (by decide),q1,q2⟩
  |12,h=>obtain rfl:=Option.some.inj h;obtain⟨O,q1,q2⟩:=parts_ok (le:=none) hK (k:=9) (by decide) (by decide) _ rfl 262;exact⟨_,O,gT_part (k:=9) (by decide),q1,q2⟩
  |13,h=>obtain rfl:=Option.some.inj h;obtain⟨O,q1,q2⟩:=parts_ok (le:=none) hK (k:=10) (by decide) (by decide) _ rfl 262;exact⟨_,O,gT_part (k:=10) (by decide),q1,q2⟩
  |14,h=>obtain rfl:=Option.some.inj h;obtain⟨O,q1,q2⟩:=parts_ok (le:=none) hK (k:=11) (by decide) (by decide) _ rfl 262;exact⟨_,O,gT_part (k:=11) (by decide),q1,q2⟩
  |15,h=>obtain rfl:=Option.some.inj h;cases hl
  |16,h=>obtain rfl:=Option.some.inj h;cases hl
  |17,h=>obtain rfl:=Option.some.inj h;cases hl
  |18,h=>obtain rfl:=Option.some.inj h;cases hl
  |19,h=>obtain rfl:=Option.some.inj h;cases hl
  |i+20,h=>exact absurd (show(none:Option Ev.VO)=some o from h) (by simp)
 ·unfold gT
  rw[if_neg (by omega),if_neg (by omega)]
  split
  ·rfl
  ·rfl
theorem okS_of {n:Nat}{ev:Nat->Evt}{L:Ev.Loc}(hE:∃O,W.heap[L.blk]?=some O/\Ev.ObjAt Tryz.prog (gT f (some L)) L (Ob.rows n 7 (evG ev) 65 2).o O)(hK:∀i,i<14->W.cell? ⟨0,i*2,none⟩=some (f i).1/\W.cell? ⟨0,i*2+1,none⟩=some (f i).2.1/\KindAt W (nameK i) (partsT i) (f i))(hO:∀i,i<9->W.cell? ⟨1,i,none⟩=some (opW i))(hT:∀i,i<32->W.cell? ⟨2,i,none⟩=some (.int .u8 ((deBr.getD i 0:Nat):Int))):Ev.Ok Tryz.prog (gT f (some L)) (mem (tH [.dead,.dead,.dead,.dead,.dead,Ob.rows n 7 (evG ev) 65 2])) 21 W/\∀id o,mem (tH [.dead,.dead,.dead,.dead,.dead,Ob.rows n 7 (evG ev) 65 2]) id=some o->Ev.wr o=false:=by
 have hw:∀id o,mem (tH [.dead,.dead,.dead,.dead,.dead,Ob.rows n 7 (evG ev) 65 2]) id=some o->Ev.wr o=false:=fun id o h=>by
  match id,h with
  |0,h=>obtain rfl:=Option.some.inj h;rfl
  |1,h=>obtain rfl:=Option.some.inj h;rfl
  |2,h=>obtain rfl:=Option.some.inj h;rfl
  |3,h=>obtain rfl:=Option.some.inj h;rfl
  |4,h=>obtain rfl:=Option.some.inj h;rfl
  |5,h=>obtain rfl:=Option.some.inj h;rfl
  |6,h=>obtain rfl:=Option.some.inj h;rfl
  |7,h=>obtain rfl:=Option.some.inj h;rfl
  |8,h=>obtain rfl:=Option.some.inj h;rfl
  |9,h=>obtain rfl:=Option.some.inj h;rfl
  |10,h=>obtain rfl:=Option.some.inj h;rfl
  |11,h=>obtain rfl:=Option.some.inj h;rfl
  |12,h=>obtain rfl:=Option.some.inj h;rfl
  |13,h=>obtain rfl:=Option.some.inj h;rfl
  |14,h=>obtain rfl:=Option.some.inj h;rfl
  |15,h=>obtain rfl:=Option.some.inj h;rfl
  |16,h=>obtain rfl:=Option.some.inj h;rfl
  |17,h=>obtain rfl:=Option.some.inj h;rfl
  |18,h=>obtain rfl:=Option.some.inj h;rfl
  |19,h=>obtain rfl:=Option.some.inj h;rfl
  |20,h=>obtain rfl:=Option.some.inj h;rfl
  |i+21,h=>exact absurd (show(none:Option Ev.VO)=some o from h) (by simp)
 refine⟨⟨fun id o h hl=>?_,fun id id' o o' l l' h1 _ _ h2=>(by rw[hw id o h1]at h2;cases h2),fun id hid=>?_⟩,hw⟩
 ·match id,h with
  |0,h=>obtain rfl:=Option.some.inj h;obtain⟨O,q1,q2⟩:=kinds_ok (le:=(some L)) hK;exact⟨⟨0,0,0,0⟩,O,rfl,q1,q2⟩
  |1,h=>obtain rfl:=Option.some.inj h;obtain⟨O,q1,q2⟩:=ops_ok (f:=f) (le:=(some L)) hO;exact⟨⟨1,0,0,0⟩,O,rfl,q1,q2⟩
  |2,h=>obtain rfl:=Option.some.inj h;obtain⟨O,q1,q2⟩:=tab_ok (f:=f) (le:=(some L)) hT;exact⟨⟨2,0,0,0⟩,O,rfl,q1,q2⟩
  |3,h=>obtain rfl:=Option.some.inj h;cases hl
  |4,h=>obtain rfl:=Option.some.inj h;obtain⟨O,q1,q2⟩:=parts_ok (le:=(some L)) hK (k:=1) (by decide) (by decide) _ rfl 262;exact⟨_,O,gT_part (k:=1) (by decide),q1,q2⟩
  |5,h=>obtain rfl:=Option.some.inj h;obtain⟨O,q1,q2⟩:=parts_ok (le:=(some L)) hK (k:=2) (by decide) (by decide) _ rfl 262;exact⟨_,O,gT_part (k:=2) (by decide),q1,q2⟩
  |6,h=>obtain rfl:=Option.some.inj h;obtain⟨O,q1,q2⟩:=parts_ok (le:=(some L)) hK (k:=3) (by decide) (by decide) _ rfl 262;exact⟨_,O,gT_part (k:=3) (by decide),q1,q2⟩
  |7,h=>obtain rfl:=Option.some.inj h;obtain⟨O,q1,q2⟩:=parts_ok (le:=(some L)) hK (k:=4) (by decide) (by decide) _ rfl 262;exact⟨_,O,gT_part (k:=4) (by decide),q1,q2⟩
  |8,h=>obtain rfl:=Option.some.inj h;obtain⟨O,q1,q2⟩:=parts_ok (le:=(some L)) hK (k:=5) (by decide) (by decide) _ rfl 262;exact⟨_,O,gT_part (k:=5) (by decide),q1,q2⟩
  |9,h=>obtain rfl:=Option.some.inj h;obtain⟨O,q1,q2⟩:=parts_ok (le:=(some L)) hK (k:=6) (by decide) (by decide) _ rfl 262;exact⟨_,O,gT_part (k:=6) (by decide),q1,q2⟩
  |10,h=>obtain rfl:=Option.some.inj h;obtain⟨O,q1,q2⟩:=parts_ok (le:=(some L)) hK (k:=7) (by decide) (by decide) _ rfl 262;exact⟨_,O,gT_part (k:=7) (by decide),q1,q2⟩
  |11,h=>obtain rfl:=Option.some.inj h;obtain⟨O,q1,q2⟩:=parts_ok (le:=(some L)) hK (k:=8) (by decide) (by decide) _ rfl 262;exact⟨_,O,gT_part (k:=8) (by decide),q1,q2⟩
  |12,h=>obtain rfl:=Option.some.inj h;obtain⟨O,q1,q2⟩:=parts_ok (le:=(some L)) hK (k:=9) (by decide) (by decide) _ rfl 262;exact⟨_,O,gT_part (k:=9) (by decide),q1,q2⟩
  |13,h=>obtain rfl:=Option.some.inj h;obtain⟨O,q1,q2⟩:=parts_ok (le:=(some L)) hK (k:=10) (by decide) (by decide) _ rfl 262;exact⟨_,O,gT_part (k:=10) (by decide),q1,q2⟩
  |14,h=>obtain rfl:=Option.some.inj h;obtain⟨O,q1,q2⟩:=parts_ok (le:=(some L)) hK (k:=11) (by decide) (by decide) _ rfl 262;exact⟨_,O,gT_part (k:=11) (by decide),q1,q2⟩
  |15,h=>obtain rfl:=Option.some.inj h;cases hl
  |16,h=>obtain rfl:=Option.some.inj h;cases hl
  |17,h=>obtain rfl:=Option.some.inj h;cases hl
  |18,h=>obtain rfl:=Option.some.inj h;cases hl
  |19,h=>obtain rfl:=Option.some.inj h;cases hl
  |20,h=>obtain rfl:=Option.some.inj h;obtain⟨O,q1,q2⟩:=hE;exact⟨L,O,rfl,q1,q2⟩
  |i+21,h=>exact absurd (show(none:Option Ev.VO)=some o from h) (by simp)
 ·unfold gT
  rw[if_neg (by omega),if_neg (by omega)]
  split
  ·omega
  ·rfl
end
theorem calls_of {f:FuncId}{args:List SV}{M:Hv}{g:Ev.Gm}{W:World}{us:List Value}(h:CallG Tryz.prog f args M fun r H=>r=.bool true/\H=M)(hb:Ev.bodied Tryz.prog f=true)(ho:Ev.Ok Tryz.prog g (mem M) M.length W)(hw:∀id o,mem M id=some o->Ev.wr o=false)(hg:Ev.Glob Tryz.prog g)(hr:Ev.VRL g (SV.vs args) us) :
  Calls Tryz.prog f us.toArray W fun e w'=>e=.returned (.bool true)/\Below W.heap.size W w':=by
 rcases h g W us ho hg hr with⟨_,h⟩|⟨u,w',h,_⟩
 ·refine h.mono ?_
  rintro e w' ⟨u,rfl,v,H',g',⟨rfl,rfl⟩,_,k1,k2,k3⟩
  refine⟨by rw[show u=.bool true from k1],(k3.chg.mono (S':=fun _=>False) fun k _ ⟨id,o,l,q1,q2,_⟩=>?_).below⟩
  rw[hw id o q1]at q2
  cases q2
 ·rw[Ev.bodied_enter progOk hb]at h
  cases h
theorem back_at {W:World}(hL:laidMetH Tryz.prog laidL W)(t v st:Int)(a:Option Addr)(n cap:Nat)(sb:ByteArray)
  (hA:(a=none/\n=0/\cap=0)\/(∃p,a=some p/\n=0/\cap=0)\/(0<cap/\n<=cap/\∃(b off:Nat) (f:Nat->Evt),a=some ⟨b,off,none⟩/\∀i,i<cap->(EvR (f i)/\XOk (f i))/\∀j v,(evV (f i))[j]?=some v->W.cell? ⟨b,off+i*7+j,none⟩=some v)) :
  Calls Tryz.prog 5 #[.agg #[.int .i64 t,.int .i64 v,.int .i64 st,.slice a n cap],.string sb] W fun e w'=>e=.returned (.bool true)/\Below W.heap.size W w':=by
 obtain⟨f,hK⟩:=kinds_of hL
 have hO:=ops_of hL
 have hT:=tab_of hL
 have hbod:Ev.bodied Tryz.prog 5=true:=by kernel_rfl
 rcases hA with⟨rfl,rfl,rfl⟩|⟨p,rfl,rfl,rfl⟩|⟨hc,hn,b,off,ev,rfl,he⟩
 ·obtain⟨h1,h2⟩:=okN_of hK hO hT
  exact calls_of (vtopN_at t v st sb.data.toList) hbod h1 h2 (gT_glob f none) ⟨_,_,rfl,⟨_,rfl,_,_,rfl,rfl,_,_,rfl,rfl,_,_,rfl,rfl,_,_,rfl,⟨by decide,rfl⟩,rfl⟩,_,_,rfl,rfl,rfl⟩
 ·obtain⟨h1,h2⟩:=okS_of (n:=0) (ev:=fun _=>default) (L:=⟨0,0,0,0⟩) (row_at (l:=⟨0,0,0,0⟩) ⟨0,_,(hK 0 (by decide)).1⟩ fun i v hv=>by cases hv) hK hO hT
  exact calls_of (vtopS_at t v st sb.data.toList (fun _=>default) 0 2 (.u 0) (fun i hi=>absurd hi (Nat.not_lt_zero i)) (fun i hi=>absurd hi (Nat.not_lt_zero i))) hbod h1 h2 (gT_glob f _) ⟨_,_,rfl,⟨_,rfl,_,_,rfl,rfl,_,_,rfl,rfl,_,_,rfl,rfl,_,_,rfl,⟨_,rfl,.inr ⟨0,p,rfl,Nat.le_refl _,fun h=>absurd h (Nat.lt_irrefl 0),rfl⟩⟩,rfl⟩,_,_,rfl,rfl,rfl⟩
 ·obtain⟨h1,h2⟩:=okS_of (L:=⟨b,off,cap,7⟩) (ev_ok (f:=f) (n:=n) (ev:=ev) hc hn fun i hi=>(he i hi).2) hK hO hT
  exact calls_of (vtopS_at t v st sb.data.toList ev n 2 (.u 0) (fun i hi=>(he i (by omega)).1.1) (fun i hi=>(he i (by omega)).1.2)) hbod h1 h2 (gT_glob f _) ⟨_,_,rfl,⟨_,rfl,_,_,rfl,rfl,_,_,rfl,rfl,_,_,rfl,rfl,_,_,rfl,⟨_,rfl,.inr ⟨0,_,rfl,hn,fun _=>rfl,rfl⟩⟩,rfl⟩,_,_,rfl,rfl,rfl⟩
end Go.Proofs.YtgdmlkgjpcnelaaGreatDoor
