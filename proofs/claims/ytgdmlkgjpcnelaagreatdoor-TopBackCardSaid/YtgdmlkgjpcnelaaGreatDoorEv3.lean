import Derived.Test.YtgdmlkgjpcnelaaGreatDoorEv2
import Derived.Laws.IdiomCopy
import Derived.Laws.Append
import Derived.RangeFuncFrom
import Derived.RangeFuncLeaves
import Derived.RangeFuncCalls
import Derived.OwnWalkIn
import Derived.OrdersIn
import Derived.Sort.LoopGhostIn
namespace Go.Ev
open Go.RowKit
set_option linter.unusedVariables false
section
variable {P:Program}{g:Gm}{ρ:Operand->Value}{v:Value}{l us:List Value}{hp:Hp}{nx:Nat}{w:World}
theorem upd_inv {i:Nat}{o:VO}{k:Hp->RV}{r:RV}(h:upd hp i o k=r)(hn:r≠.no):∃h',k h'=r/\∀j,h'.at j=if j=i then some o else hp.at j:=by
 rcases upd_at hp i o k with e|⟨h',e,ha⟩
 ·rw[e]at h;exact absurd h.symm hn
 ·exact⟨h',e.symm.trans h,ha⟩
theorem new_inv {o:VO}{k:Nat->Hp->Nat->RV}{r:RV}(h:new hp nx o k=r)(hn:r≠.no):∃h',k nx h' (nx+1)=r/\∀j,h'.at j=if j=nx then some o else hp.at j:=by
 rcases new_at hp nx o k with e|⟨h',e,ha⟩
 ·rw[e]at h;exact absurd h.symm hn
 ·exact⟨h',e.symm.trans h,ha⟩
theorem setCells_row {b:Nat}{T:TypeId}{fz:Nat × Nat}:∀(vs:List Value)(o:Nat)(w:World)(arr:Array Value),w.heap[b]?=some (.cells arr T fz)->o+vs.length<=arr.size ->
  ∃arr':Array Value,(w.setCells b o vs).heap[b]?=some (.cells arr' T fz)/\arr'.size=arr.size/\(∀k,arr'[k]?=if o<=k/\k<o+vs.length then vs[k-o]? else arr[k]?) /\
   (w.setCells b o vs).heap.size=w.heap.size/\(∀k,k≠b->(w.setCells b o vs).heap[k]?=w.heap[k]?)/\(w.setCells b o vs).os=w.os/\(w.setCells b o vs).tape=w.tape/\(w.setCells b o vs).output=w.output
 |[],o,w,arr,h,_=>⟨arr,h,rfl,fun k=>by rw[if_neg (by simp only[List.length_nil];omega)],rfl,fun _ _=>rfl,rfl,rfl,rfl⟩
 |v::vs,o,w,arr,h,hle=>by
  simp only[List.length_cons]at hle
  have h1:(w.setCell ⟨b,o,none⟩ v).heap[b]?=some (.cells (arr.setIfInBounds o v) T fz):=by
   simp[World.setCell,Array.getElem?_modify,h]
  obtain⟨arr',k1,k2,k3,k4,k5,k6,k7,k8⟩:=setCells_row vs (o+1) (w.setCell ⟨b,o,none⟩ v) _ h1 (by simp;omega)
  refine⟨arr',k1,by rw[k2];simp,fun k=>?_,by rw[show(w.setCells b o (v::vs))=(w.setCell ⟨b,o,none⟩ v).setCells b (o+1) vs from rfl,k4];simp[World.setCell],fun k hk=>?_,k6,k7,k8⟩
  ·rw[k3]
   simp only[List.length_cons]
   by_cases e:k=o
   ·subst e
    rw[if_neg (by omega),if_pos (by omega)]
    simp[show k<arr.size by omega]
   ·rw[show(arr.setIfInBounds o v)[k]?=arr[k]? by simp[Ne.symm e]]
    by_cases e2:o+1<=k/\k<o+1+vs.length
    ·rw[if_pos e2,if_pos (by omega),show k-o=(k-(o+1))+1 by omega]
     simp
    ·rw[if_neg e2,if_neg (by omega)]
  ·rw[show(w.setCells b o (v::vs))=(w.setCell ⟨b,o,none⟩ v).setCells b (o+1) vs from rfl,k5 k hk]
   simp[World.setCell,Array.getElem?_modify,Ne.symm hk]
theorem run_storeRow {b o:Nat}{arr:Array Value}{T:TypeId}{vs:List Value}(h:w.heap[b]?=some (.cells arr T (0,0)))(hle:vs.length=0\/o+vs.length<=arr.size)(h1:∀v∈vs,v.oneCell'=true) :
  (storeCells ⟨b,o,none⟩ vs).run P w=.ok () (w.setCells b o vs):=by
 have:=run_storeCells_cells (P:=P) b o vs 0 w (fun j hj=>by
   rcases hle with h0|hle
   ·omega
   ·simp only[World.cell?,h,Nat.add_zero]
    simp[show o+j<arr.size by omega]) (fun j hj=>by
   simp only[World.frozen?,h]
   simp) h1
 simpa using this
theorem oneC_all {l us:List Value}(h:allL oneC l=true)(hr:VRL g l us):∀v∈us,v.oneCell'=true:=by
 rw[allL_eq]at h
 induction l generalizing us with
 |nil=>cases(show us=[]from hr);simp
 |cons a l ih=>
  obtain⟨u,us,rfl,h1,h2⟩:=hr
  rw[List.all_cons,Bool.and_eq_true]at h
  intro v hv
  rcases List.mem_cons.1 hv with rfl|hv
  ·exact h1.oneC h.1
  ·exact ih h.2 h2 v hv
theorem store_ok {b o m:Nat}{cs vs r us:List Value}{e:TypeId}{L:Loc}{h':Hp}(ho:Ok P g hp.at nx w)(hb:hp.get b=some (.row cs e m))(hm:m<2)(hg:g b=some L)(hput:putL vs cs o=some r)
  (hvs:VRL g vs us) (h1:∀v∈us,v.oneCell'=true) (hat:∀j,h'.at j=if j=b then some (.row r e m)else hp.at j) :
  ∃w',(storeCells ⟨L.blk,L.off+o,none⟩ us).run P w=.ok () w'/\Ok P g h'.at nx w'/\Aft g hp.at w g h'.at w':=by
 obtain⟨O,hO,arr,el,fz,rfl,hc,hfz⟩:=ho.toW.row hb hg
 obtain⟨rfl,hesz,hcap⟩:=hfz hm
 obtain⟨hle,_⟩:=putL_some hput
 have hlen:=hvs.length
 have hsz:us.length=0\/L.off+o+us.length<=arr.size:=by
  rcases Nat.eq_zero_or_pos us.length with h0|h0
  ·exact .inl h0
  ·have hlt:o+us.length-1<cs.length:=by omega
   obtain⟨u,k1,_⟩:=hc (o+us.length-1) _ (List.getElem?_eq_getElem hlt)
   have:=(Array.getElem?_eq_some_iff.1 k1).1
   exact .inr (by omega)
 refine⟨_,run_storeRow (P:=P) hO hsz h1,?_⟩
 rcases hsz with h0|hsz
 ·have:us=[]:=List.eq_nil_of_length_eq_zero h0
  subst this
  have hv0:vs=[]:=List.eq_nil_of_length_eq_zero (by simpa using hlen.symm)
  subst hv0
  have hr:r=cs:=by
   obtain⟨_,rfl⟩:=putL_some hput
   simp
  subst hr
  exact ho.upd (o':=.row r e m) (Hp.get_at hp b hb) (Nat.ble_eq_true_of_le hm) hg hO ⟨arr,el,(0,0),rfl,hc,fun _=>⟨rfl,hesz,hcap⟩⟩ (Chg.refl _ _) hat
 ·obtain⟨arr',k1,k2,k3,k4,k5,k6,k7,k8⟩:=setCells_row us (L.off+o) w arr hO hsz
  refine ho.upd (o':=.row r e m) (Hp.get_at hp b hb) (Nat.ble_eq_true_of_le hm) hg k1 ⟨arr',el,(0,0),rfl,fun i v hv=>?_,fun _=>⟨rfl,hesz,by rw[k2];exact hcap⟩⟩ ⟨k6,k7,k8,by omega,fun k _ hk=>k5 k hk⟩ hat
  rw[putL_get hput]at hv
  rw[k3]
  by_cases e:o<=i/\i<o+vs.length
  ·rw[if_pos e]at hv
   rw[if_pos (by omega)]
   obtain⟨u,q1,q2⟩:=hvs.get hv
   exact⟨u,by rw[show L.off+i-(L.off+o)=i-o by omega];exact q1,q2⟩
  ·rw[if_neg e]at hv
   rw[if_neg (by omega)]
   exact hc i v hv
def Does (P:Program)(s:Sem Value)(g:Gm)(hp:Hp)(nx:Nat)(w:World)(v:Value)(hp':Hp)(nx':Nat):Prop:=
 ∃u g' w',s.run P w=.ok u w'/\VR g' v u/\Ok P g' hp'.at nx' w'/\Aft g hp.at w g' hp'.at w'
def DoesU (P:Program)(s:Sem Unit)(g:Gm)(hp:Hp)(nx:Nat)(w:World)(v:Value)(hp':Hp)(nx':Nat):Prop:=
 v=undef/\∃g' w',s.run P w=.ok () w'/\Ok P g' hp'.at nx' w'/\Aft g hp.at w g' hp'.at w'
theorem hStoreN_ok {t:TypeId}{hp':Hp}{nx':Nat}(hk:tyOk P t=true)(h:hStoreN (sizeB P t) l hp nx=.ok v hp' nx')(ho:Ok P g hp.at nx w)(hr:VRL g l us):∃x y,us=[x,y]/\DoesU P (Instr.storeAt t x y) g hp nx w v hp' nx':=by
 unfold hStoreN at h
 replace h:=lst_inv h on
 obtain⟨p,l1,rfl,h⟩:=h
 replace h:=lst_inv h on
 obtain⟨x,l2,rfl,h⟩:=h
 replace h:=nil1_inv h on
 obtain⟨rfl,h⟩:=h
 replace h:=vPtr_inv h on
 obtain⟨a,rfl,h⟩:=h
 replace h:=oRow_inv h on
 obtain⟨cs,e,m,hb,h⟩:=h
 replace h:=br_t h on
 obtain⟨hm,h⟩:=h
 replace h:=br_t h on
 obtain⟨hs,h⟩:=h
 replace h:=br_t h on
 obtain⟨hone,h⟩:=h
 replace h:=op_inv h on
 obtain⟨r,hput,h⟩:=h
 obtain⟨h',h,hat⟩:=upd_inv h on
 cases h
 obtain⟨A,X,rfl,h1,h2⟩:=VRL.two hr
 obtain⟨L,hg,rfl⟩:=h1.ptr
 have hc:=h2.cells
 obtain⟨w',k1,k2,k3⟩:=store_ok ho hb (blt_lt hm) hg hput hc (oneC_all hone hc) hat
 refine⟨_,_,rfl,rfl,g,w',?_,k2,k3⟩
 have hs:=Nat.eq_of_beq_eq_true hs
 rw[lenL_eq]at hs
 have e1:=hc.length
 have hsz:X.cells.size=sizeB P t:=by simp at e1;omega
 simp[Instr.storeAt,Instr.sureAddr,storeVar,run_size hk,hsz,k1]
theorem hStore1_ok {t:TypeId}{hp':Hp}{nx':Nat}(hk:tyOk P t=true)(hs1:Nat.beq (sizeB P t) 1=true)(h:hStore1 l hp nx=.ok v hp' nx')(ho:Ok P g hp.at nx w)(hr:VRL g l us):∃x y,us=[x,y]/\DoesU P (Instr.storeAt t x y) g hp nx w v hp' nx':=by
 unfold hStore1 at h
 replace h:=lst_inv h on
 obtain⟨p,l1,rfl,h⟩:=h
 replace h:=lst_inv h on
 obtain⟨x,l2,rfl,h⟩:=h
 replace h:=nil1_inv h on
 obtain⟨rfl,h⟩:=h
 replace h:=vPtr_inv h on
 obtain⟨a,rfl,h⟩:=h
 replace h:=oRow_inv h on
 obtain⟨cs,e,m,hb,h⟩:=h
 replace h:=br_t h on
 obtain⟨hm,h⟩:=h
 replace h:=br_t h on
 obtain⟨hone,h⟩:=h
 replace h:=op_inv h on
 obtain⟨r,hput,h⟩:=h
 obtain⟨h',h,hat⟩:=upd_inv h on
 cases h
 obtain⟨A,X,rfl,h1,h2⟩:=VRL.two hr
 obtain⟨L,hg,rfl⟩:=h1.ptr
 obtain⟨hcv,hcx⟩:=h2.cells_one (fun cs e=>by subst e;cases hone)
 obtain⟨w',k1,k2,k3⟩:=store_ok ho hb (blt_lt hm) hg hput (VRL.mk1 h2) (fun y hy=>by simp at hy;subst hy;exact h2.oneC hone) hat
 refine⟨_,_,rfl,rfl,g,w',?_,k2,k3⟩
 have hs:=Nat.eq_of_beq_eq_true hs1
 simp[Instr.storeAt,Instr.sureAddr,storeVar,run_size hk,hcx,hs,k1]
end
end Go.Ev
namespace Go.Ev
open Go.RowKit
set_option linter.unusedVariables false
section
variable {P:Program}{g:Gm}{ρ:Operand->Value}{v:Value}{l us:List Value}{hp:Hp}{nx:Nat}{w:World}
def mostN (most:Option Nat)(len:Nat):Nat:=match most with
 |none=>len
 |some m=>Nat.min len m
theorem most_eq {most:Option Nat}{n:Nat}:@Option.rec Nat (fun _=>Nat) n (fun m=>@Bool.rec (fun _=>Nat) m n (Nat.ble n m)) most=mostN most n:=by
 cases most with
 |none=>rfl
 |some m=>
  show @Bool.rec (fun _=>Nat) m n (Nat.ble n m)=Nat.min n m
  by_cases h:n<=m
  ·rw[Nat.ble_eq_true_of_le h];exact(Nat.min_eq_left h).symm
  ·have:Nat.ble n m=false:=by rw[<-Bool.not_eq_true,Nat.ble_eq];exact h
   rw[this]
   have hmn:m<=n:=by omega
   exact(Nat.min_eq_right hmn).symm
theorem newsOf_ok {most:Option Nat}{x X:Value}{sz n:Nat}{news:List Value}(h:newsOf hp sz most x=some (news,n))(ho:OkW P g hp.at w)(hx:VR g x X) :
  ∃len newsR,(∀w1,(Builtin.lenOf X).run P w1=.ok len w1)/\n=mostN most len/\VRL g news newsR/\newsR.length=n*sz/\∀w1:World,(∀a,w1.cell? a=w.cell? a)->(Builtin.firstCells sz n X).run P w1=.ok ⟨newsR⟩ w1:=by
 unfold newsOf at h
 split at h
 ·rename_i q len c
  rw[fN_eq,most_eq]at h
  replace h:=op_inv h sn
  obtain⟨cs,hcs,h⟩:=h
  cases h
  obtain⟨q',c',rfl,hq⟩:=hx.slice_form
  have hlen:∀w1,(Builtin.lenOf (.slice q' len c')).run P w1=.ok len w1:=fun w1=>rfl
  rcases cellsAt_ok hcs ho with⟨rfl,h0,rfl⟩|⟨a,rfl,hL⟩
  ·have:q'=none:=by cases q'<;>simp at hq ⊢
   subst this
   refine⟨len,[],hlen,rfl,rfl,by rw[List.length_nil];exact h0.symm,fun w1 _=>rfl⟩
  ·obtain⟨L,hg,h1⟩:=hx
   obtain⟨us,k1,k2,k3⟩:=hL L hg
   have fin:∀{p:Addr},(∀j v,us[j]?=some v->w.cell? (p.add j)=some v)->∀w1:World,(∀a,w1.cell? a=w.cell? a)->(Builtin.firstCells sz (mostN most len) (.slice (some p) len c')).run P w1=.ok ⟨us⟩ w1:=fun {p} hp w1 hw=>
    run_firstCells_some (P:=P) w1 sz (mostN most len) p len c' us k2 (fun j v hj=>by rw[hw];exact hp j v hj)
   rcases h1 with⟨_,e⟩|⟨j,p,_,h5,h6,e⟩
   ·injection e with e1 e2 e3
    subst e1
    exact⟨len,us,hlen,rfl,k1,k2,fin k3⟩
   ·injection e with e1 e2 e3
    subst e1
    rcases Nat.lt_or_ge j L.cap with hj|hj
    ·rw[h6 hj]at hlen ⊢
     exact⟨len,us,hlen,rfl,k1,k2,fin k3⟩
    ·have hl0:len=0:=by omega
     have hm0:mostN most len=0:=by subst hl0;cases most<;>simp[mostN]
     have hu0:us=[]:=List.eq_nil_of_length_eq_zero (by rw[k2];show mostN most len*sz=0;rw[hm0];simp)
     subst hu0
     exact⟨len,[],hlen,rfl,k1,k2,fin (fun j v hj=>by simp at hj)⟩
 ·rename_i s
  replace h:=br_t h sn
  obtain⟨hsz,h⟩:=h
  have hsz:=Nat.eq_of_beq_eq_true hsz
  subst hsz
  rw[fN_eq,most_eq]at h
  replace h:=op_inv h sn
  obtain⟨t,ht,h⟩:=h
  cases h
  cases hx.str
  have hls:lenL s.data.toList=s.size:=by rw[lenL_eq,Array.length_toList];rfl
  rw[hls]at ht ⊢
  obtain⟨rfl,hle⟩:=tke_some ht
  refine⟨s.size,(s.data.toList.take (mostN most s.size)).map fun b=>Value.int .u8 (b.toNat:Int),fun w1=>rfl,rfl,?_,?_,fun w1 _=>?_⟩
  ·rw[bytesV_eq]
   refine VRL.of_get rfl fun i x y hx hy=>?_
   rw[hx]at hy;cases hy
   rw[List.getElem?_map]at hx
   cases hb:(s.data.toList.take (mostN most s.size))[i]? with
   |none=>rw[hb]at hx;cases hx
   |some b=>rw[hb]at hx;cases hx;rfl
  ·simp;simp at hle;omega
  ·simp only[Builtin.firstCells,Sem.run_pure]
   congr 1
   apply Array.ext'
   simp[ByteArray.data_extract]
 ·cases h
theorem hCopy_ok {t e ty:TypeId}{ts:List TypeId}{hp':Hp}{nx':Nat}(hs:slB P t=some e)(h:hCopy (sizeB P e) l hp nx=.ok v hp' nx')(ho:Ok P g hp.at nx w)(hr:VRL g l us):Does P (Builtin.copy_ (t::ts).toArray ty us.toArray) g hp nx w v hp' nx':=by
 unfold hCopy at h
 replace h:=lst_inv h on
 obtain⟨s,l1,rfl,h⟩:=h
 replace h:=lst_inv h on
 obtain⟨x,l2,rfl,h⟩:=h
 replace h:=nil1_inv h on
 obtain⟨rfl,h⟩:=h
 replace h:=vSl_inv h on
 obtain⟨p,len,cap,rfl,h⟩:=h
 replace h:=op_inv h on
 obtain⟨⟨news,n⟩,hn,h⟩:=h
 replace h:=br_t h on
 obtain⟨hone,h⟩:=h
 obtain⟨S,X,rfl,h1,h2⟩:=VRL.two hr
 obtain⟨k1,k2⟩:=slB_ex hs
 obtain⟨ln,newsR,q1,q2,q3,q4,q5⟩:=newsOf_ok (w:=w) hn ho.toW h2
 have q2:n=Nat.min ln len:=q2
 have run:∀{p' c'},∀w',(match p' with|some a=>storeCells a newsR|none=>pure ():Sem Unit).run P w=.ok () w'->(Builtin.copy_ (t::ts).toArray ty #[.slice p' len c',X]).run P w=.ok (.int .i64 n) w':=fun {p' c'} w' hw=>by
  have q6:=q5 w (fun _=>rfl)
  rw[q2]at q6
  cases p' with
  |none=>
   have hw:Result.ok () w=.ok () w':=hw
   cases hw
   simp[Builtin.copy_,run_und k1,q1,run_size k2,q6,goInt,q2]
  |some a=>
   have hw:(storeCells a newsR).run P w=.ok () w':=hw
   simp[Builtin.copy_,run_und k1,q1,run_size k2,q6,goInt,q2,hw]
 cases p with
 |none=>
  replace h:@Bool.rec (fun _=>RV) .no (.ok (.int .i64 (.ofNat n)) hp nx) (Nat.beq n 0)=.ok v hp' nx':=h
  replace h:=br_t h on
  obtain⟨_,h⟩:=h
  cases h
  obtain⟨_,rfl⟩:=h1
  exact⟨_,g,w,run w rfl,rfl,ho,Aft.refl _ _ _⟩
 |some a=>
  replace h:oRow (hp.get a.block) .no (fun cs el m=>@Bool.rec (fun _=>RV) .no (@Option.rec (List Value) (fun _=>RV) .no (fun q=>upd hp a.block (.row q el m) fun hp=>.ok (.int .i64 (.ofNat n)) hp nx) (putL news cs a.off)) (blt m 2))=.ok v hp' nx':=h
  replace h:=oRow_inv h on
  obtain⟨cs,el,m,hb,h⟩:=h
  replace h:=br_t h on
  obtain⟨hm,h⟩:=h
  replace h:=op_inv h on
  obtain⟨r,hput,h⟩:=h
  obtain⟨h',h,hat⟩:=upd_inv h on
  cases h
  obtain⟨L,hg,h1⟩:=h1
  obtain⟨w',e1,e2,e3⟩:=store_ok ho hb (blt_lt hm) hg hput q3 (oneC_all hone q3) hat
  rcases h1 with⟨_,rfl⟩|⟨j,p,_,h5,h6,rfl⟩
  ·exact⟨_,g,w',run w' e1,rfl,e2,e3⟩
  ·rcases Nat.lt_or_ge j L.cap with hj|hj
   ·rw[h6 hj]
    exact⟨_,g,w',run w' e1,rfl,e2,e3⟩
   ·have hl0:len=0:=by omega
    have hn0:n=0:=by rw[q2,hl0];exact Nat.min_zero _
    have hR:newsR=[]:=List.eq_nil_of_length_eq_zero (by rw[q4,hn0];simp)
    subst hR
    have e1:Result.ok () w=.ok () w':=e1
    cases e1
    exact⟨_,g,w,run w rfl,rfl,e2,e3⟩
end
end Go.Ev
namespace Go.Ev
open Go.RowKit
set_option linter.unusedVariables false
section
variable {P:Program}{g:Gm}{ρ:Operand->Value}{v:Value}{l us:List Value}{hp:Hp}{nx:Nat}{w:World}
theorem Ok.steal {H H':Mem}{n:Nat}{w':World}{id:Nat}{o o':VO}{l l':Loc}(h:Ok P g H n w)(hi:H id=some o)(hw:wr o=true)(hg:g id=some l)(hl:l'.blk=l.blk){O':Obj}(hO:w'.heap[l.blk]?=some O')
  (ho:ObjAt P (setG g n l') l' o' O') (hwo:wr o'=true) (hc:Chg (fun k=>k=l.blk) w w') (hH:∀j,H' j=if j=n then some o' else if j=id then some .dead else H j):Ok P (setG g n l') H' (n+1) w'/\Aft g H w (setG g n l') H' w':=by
 have hn:=h.bnd n (Nat.le_refl n)
 have he:Ext g (setG g n l'):=ext_setG hn
 have hidn:id≠n:=fun e=>by subst e;rw[hn]at hg;cases hg
 have old:∀j x lx,H' j=some x->liveO x=true->setG g n l' j=some lx->j≠n->H j=some x/\g j=some lx/\j≠id:=fun j x lx h1 hlv h2 hne=>by
  rw[hH,if_neg hne]at h1
  unfold setG at h2
  rw[if_neg hne]at h2
  split at h1
  ·cases h1;cases hlv
  ·rename_i e;exact⟨h1,h2,e⟩
 have new:∀j x lx,H' j=some x->setG g n l' j=some lx->j=n->lx.blk=l.blk:=fun j x lx h1 h2 e=>by
  subst e
  unfold setG at h2
  rw[if_pos rfl]at h2
  cases h2;exact hl
 refine⟨⟨fun j x hx hlv=>?_,fun a b x y la lb ha hb hne hwx hly hga hgb=>?_,fun j hj=>?_⟩,he,hc.mono (fun k _ e=>⟨id,o,l,hi,hw,hg,e.symm⟩),fun k hk ⟨j,x,lx,h1,h2,h3,h4⟩=>?_,fun k hk ⟨j,x,lx,h1,h2,h3,h4⟩=>?_⟩
 ·by_cases e:j=n
  ·subst e
   rw[hH,if_pos rfl]at hx;cases hx
   exact⟨l',O',by unfold setG;rw[if_pos rfl],by rw[hl];exact hO,ho⟩
  ·rw[hH,if_neg e]at hx
   split at hx
   ·cases hx;cases hlv
   ·rename_i e2
    obtain⟨lx,Ox,h1,h2,h3⟩:=h.den j x hx hlv
    refine⟨lx,Ox,he _ _ h1,(hc.block _ (lt_of_heap h2) (fun e'=>h.sep id j o x l lx hi hx (fun e''=>e2 e''.symm) hw hlv hg h1 e'.symm)).trans h2,h3.mono he⟩
 ·by_cases ea:a=n
  ·have h1:=new a x la ha hga ea
   obtain⟨h2,h3,h4⟩:=old b y lb hb hly hgb (fun e=>hne (ea.trans e.symm))
   rw[h1]
   exact h.sep id b o y l lb hi h2 (fun e=>h4 e.symm) hw hly hg h3
  ·obtain⟨h2,h3,h4⟩:=old a x la ha (live_of_wr hwx) hga ea
   by_cases eb:b=n
   ·have h1:=new b y lb hb hgb eb
    rw[h1]
    intro e
    exact h.sep id a o x l la hi h2 (fun e=>h4 e.symm) hw (live_of_wr hwx) hg h3 e.symm
   ·obtain⟨h5,h6,h7⟩:=old b y lb hb hly hgb eb
    exact h.sep a b x y la lb h2 h5 hne hwx hly h3 h6
 ·unfold setG
  rw[if_neg (by omega)]
  exact h.bnd j (by omega)
 ·by_cases e:j=n
  ·have:=new j x lx h1 h3 e
   exact⟨id,o,l,hi,hw,hg,by rw[<-this,h4]⟩
  ·obtain⟨h5,h6,_⟩:=old j x lx h1 (live_of_wr h2) h3 e
   exact⟨j,x,lx,h5,h2,h6,h4⟩
 ·by_cases e:j=n
  ·have:=new j x lx h1 h3 e
   exact⟨id,o,l,hi,live_of_wr hw,hg,by rw[<-this,h4]⟩
  ·obtain⟨h5,h6,_⟩:=old j x lx h1 h2 h3 e
   exact⟨j,x,lx,h5,h2,h6,h4⟩
theorem Chg.drewAlloc {S:Nat->Prop}{a b:World}(h:Chg S a b)(o:Obj):Chg S a (b.drew.alloc o):=
 ⟨h.os,h.tape,h.output,by show a.heap.size<=(b.heap.push o).size;rw[Array.size_push];have:=h.size;omega,fun k hk hn=>by
  have:(b.drew.alloc o).heap[k]?=b.heap[k]?:=by
   show(b.heap.push o)[k]?=_
   rw[Array.getElem?_push]
   rw[if_neg (by have:=h.size;omega)]
  rw[this];exact h.block k hk hn⟩
theorem run_app_room {t u e ty:TypeId}{ts:List TypeId}{base:Option Addr}{len cap n:Nat}{X:Value}{newsR:List Value}{w':World}(ht:P.underlying t=some (.slice e))(hk:tyOk P e=true)(hu:(∃x,P.underlying u=some (.slice x))\/P.underlying u=some .string)
  (hl:∀w1,(Builtin.lenOf X).run P w1=.ok n w1) (hf:(Builtin.firstCells (sizeB P e) n X).run P w=.ok ⟨newsR⟩ w) (hroom:len+n<=cap)
  (hs:(match base with|some a=>storeCells (a.add (len*sizeB P e)) newsR|none=>pure ():Sem Unit).run P w=.ok () w') :
  (Builtin.append_ (t::u::ts).toArray ty #[.slice base len cap,X]).run P w=.ok (.slice base (len+n) cap) w':=by
 cases base with
 |none=>
  have hs:Result.ok () w=.ok () w':=hs
  cases hs
  rcases hu with⟨x,hu⟩|hu<;>simp[Builtin.append_,run_und ht,run_und hu,run_size hk,hl,hroom,hf]
 |some a=>
  have hs:(storeCells (a.add (len*sizeB P e)) newsR).run P w=.ok () w':=hs
  rcases hu with⟨x,hu⟩|hu<;>simp[Builtin.append_,run_und ht,run_und hu,run_size hk,hl,hroom,hf,hs]
theorem run_app_grow' {t u e ty:TypeId}{ts:List TypeId}{base:Option Addr}{len cap n:Nat}{X z:Value}{oldR newsR:List Value}{i:TypeInfo}(ht:P.underlying t=some (.slice e))(hi:P.info? e=some i)(hz:i.zero=some z)
  (hu:(∃x,P.underlying u=some (.slice x))\/P.underlying u=some .string)
  (hl:∀w1,(Builtin.lenOf X).run P w1=.ok n w1) (hf:∀w1:World,(∀a,w1.cell? a=w.cell? a)->(Builtin.firstCells i.size n X).run P w1=.ok ⟨newsR⟩ w1)
  (hfo:∀w1:World,(∀a,w1.cell? a=w.cell? a)->(Builtin.firstCells i.size len (.slice base len cap)).run P w1=.ok ⟨oldR⟩ w1) (hg:cap<len+n) (h63:len+n<=1000000) (hb:i.bytes<100000000) :
  ∃c,len+n<=c/\(Builtin.append_ (t::u::ts).toArray ty #[.slice base len cap,X]).run P w=.ok (.slice (some ⟨w.heap.size,0,none⟩) (len+n) c)
   (w.drew.alloc (.cells ((⟨oldR⟩:Array Value)++(⟨newsR⟩:Array Value)++Builtin.zeroCells z.cells (c-(len+n))) e)):=by
 have hn:¬(len+n<=cap):=by omega
 have h63':¬(9223372036854775807<((len:Int)+(n:Int))):=by omega
 have hbytes:(len+n)*i.bytes<=140737488355328:=by
  have:(len+n)*i.bytes<=1000000*100000000:=Nat.mul_le_mul h63 (by omega)
  omega
 have hfit:=growslice_fits (need:=len+n) (old:=cap) hg hbytes
 have h48':¬(281474976710656<Builtin.nextslicecap (len+n) cap*i.bytes):=by omega
 have hf1:=hf w.drew (fun _=>rfl)
 have hfo1:=hfo w.drew (fun _=>rfl)
 refine⟨grownCap w (len+n) cap e,?_,?_⟩
 ·unfold grownCap Question.cut
  exact Nat.le_add_right _ _
 ·rcases hu with⟨x,hu⟩|hu <;>
  (simp[Builtin.append_,run_und ht,run_und hu,sizeOf,typeInfo,zeroValue,hi,hz,hl,hn,h63',h48',Question.forced,hf1,hfo1,newRow,grownCap]
   congr 2
   apply Array.ext'
   simp)
theorem zeroCells_size (z:Array Value)(n:Nat):(Builtin.zeroCells z n).size=n*z.size:=by simp[Builtin.zeroCells]
theorem grow_obj {old news oldR newsR:List Value}{z:Array Value}{e T:TypeId}{b len n c:Nat}(h1:VRL g old oldR)(h2:VRL g news newsR)(h3:oldR.length=len*sizeB P e)(h4:newsR.length=n*sizeB P e)(hz:z.size=sizeB P e)(hc:len+n<=c)
  {g':Gm} (he:Ext g g'):ObjAt P g' ⟨b,0,c,sizeB P e⟩ (.row (old++news) e 1) (.cells ((⟨oldR⟩:Array Value)++(⟨newsR⟩:Array Value)++Builtin.zeroCells z (c-(len+n))) T (0,0)):=by
 refine⟨_,T,(0,0),rfl,fun i v hv=>?_,fun _=>⟨rfl,rfl,?_⟩⟩
 ·obtain⟨u,k1,k2⟩:=(h1.append h2).get hv
  refine⟨u,?_,k2.mono he⟩
  have hlt:=(List.getElem?_eq_some_iff.1 k1).1
  rw[Nat.zero_add,Array.getElem?_append_left (by simpa using hlt)]
  simpa using k1
 ·simp only[Array.size_append,List.size_toArray,zeroCells_size,hz]
  rw[h3,h4,<-Nat.add_mul,<-Nat.add_mul]
  have:len+n+(c-(len+n))=c:=by omega
  rw[this];omega
theorem hAppend_ok {t u e ty:TypeId}{ts:List TypeId}{z:Value}{hp':Hp}{nx':Nat}(hs:slB P t=some e)(hu:(∃x,P.underlying u=some (.slice x))\/P.underlying u=some .string)(hz:zeroV P e=some z)(hzl:(cellsV z).length=sizeB P e)(hby:bytesB P e<100000000)
  (h:hAppend (sizeB P e) e l hp nx=.ok v hp' nx') (ho:Ok P g hp.at nx w) (hr:VRL g l us):Does P (Builtin.append_ (t::u::ts).toArray ty us.toArray) g hp nx w v hp' nx':=by
 unfold hAppend at h
 replace h:=lst_inv h on
 obtain⟨s,l1,rfl,h⟩:=h
 replace h:=lst_inv h on
 obtain⟨x,l2,rfl,h⟩:=h
 replace h:=nil1_inv h on
 obtain⟨rfl,h⟩:=h
 replace h:=vSl_inv h on
 obtain⟨p,len,cap,rfl,h⟩:=h
 replace h:=op_inv h on
 obtain⟨⟨news,n⟩,hn,h⟩:=h
 rw[fN_eq]at h
 replace h:=br_t h on
 obtain⟨hneed,h⟩:=h
 replace h:=br_t h on
 obtain⟨hone,h⟩:=h
 obtain⟨S,X,rfl,h1,h2⟩:=VRL.two hr
 obtain⟨k1,k2⟩:=slB_ex hs
 obtain⟨_,i,_,k3,k4⟩:=tyOk_ex k2
 obtain⟨⟨i',hi',hiz⟩,hcz,_⟩:=zeroV_ex hz
 rw[k3]at hi';cases hi'
 have hzz:=(zero_vrl hcz g).length
 have hzs:z.cells.size=sizeB P e:=by simp at hzz;omega
 have hby:i.bytes<100000000:=by unfold bytesB at hby;rw[k3]at hby;exact hby
 obtain⟨ln,newsR,q1,q2,q3,q4,q5⟩:=newsOf_ok (w:=w) hn ho.toW h2
 have q2:n=ln:=q2
 subst q2
 have hneed:len+n<1000000:=blt_lt hneed
 replace h:=br_inv h
 rcases h with⟨hroom,h⟩|⟨hroom,h⟩
 ·
  have hcap:cap<big/\len+n<=cap:=by
   rcases br_inv hroom with⟨e1,e2⟩|⟨_,e2⟩
   ·exact⟨blt_lt e1,Nat.le_of_ble_eq_true e2⟩
   ·cases e2
  cases p with
  |none=>
   replace h:@Bool.rec (fun _=>RV) .no (.ok (.slice none (len+n) cap) hp nx) (Nat.beq n 0)=.ok v hp' nx':=h
   replace h:=br_t h on
   obtain⟨_,h⟩:=h
   cases h
   obtain⟨_,rfl⟩:=h1
   exact⟨_,g,w,run_app_room k1 k2 hu q1 (q5 w (fun _=>rfl)) hcap.2 rfl,⟨hcap.1,rfl⟩,ho,Aft.refl _ _ _⟩
  |some a=>
   replace h:oRow (hp.get a.block) .no (fun cs el m=>@Bool.rec (fun _=>RV) .no (@Option.rec (List Value) (fun _=>RV) .no (fun q=>upd hp a.block (.row q el m) fun hp=>.ok (.slice (some a) (len+n) cap) hp nx) (putL news cs (Nat.add a.off (Nat.mul len (sizeB P e))))) (blt m 2))=.ok v hp' nx':=h
   replace h:=oRow_inv h on
   obtain⟨cs,el,m,hb,h⟩:=h
   replace h:=br_t h on
   obtain⟨hm,h⟩:=h
   replace h:=op_inv h on
   obtain⟨r,hput,h⟩:=h
   obtain⟨h',h,hat⟩:=upd_inv h on
   cases h
   obtain⟨L,hg,h1⟩:=h1
   rcases h1 with⟨_,rfl⟩|⟨j,p,hj,_⟩
   ·obtain⟨w',e1,e2,e3⟩:=store_ok ho hb (blt_lt hm) hg hput q3 (oneC_all hone q3) hat
    refine⟨_,g,w',run_app_room k1 k2 hu q1 (q5 w (fun _=>rfl)) hcap.2 ?_,⟨L,hg,.inl ⟨hcap.1,rfl⟩⟩,e2,e3⟩
    show(storeCells ((⟨L.blk,L.off+a.off,none⟩:Addr).add (len*sizeB P e)) newsR).run P w=_
    rw[add_addr,Nat.add_assoc]
    exact e1
   ·omega
 ·replace h:=br_inv h
  rcases h with⟨hn0,h⟩|⟨hn0,h⟩
  ·
   have hn0:=Nat.eq_of_beq_eq_true hn0
   subst hn0
   replace h:=br_inv h
   rcases h with⟨_,h⟩|⟨hcap,h⟩
   ·cases h
   ·have hcap:=blt_ge hcap
    cases h
    have hR:newsR=[]:=List.eq_nil_of_length_eq_zero (by rw[q4];simp)
    subst hR
    cases p with
    |none=>obtain⟨h1,_⟩:=h1;omega
    |some a=>
     obtain⟨L,hg,h1⟩:=h1
     rcases h1 with⟨h3,_⟩|⟨j,p,hj,hj2,hp2,rfl⟩
     ·omega
     ·refine⟨.slice (some p) len (L.cap-j),g,w,run_app_room k1 k2 hu q1 (q5 w (fun _=>rfl)) (by omega) rfl,⟨L,hg,.inr ⟨j,p,hj,hj2,hp2,rfl⟩⟩,ho,Aft.refl _ _ _⟩
  ·have hnpos:0<n:=by
    rcases Nat.eq_zero_or_pos n with e|e
    ·subst e;cases hn0
    ·exact e
   replace h:=op_inv h on
   obtain⟨old,hold,h⟩:=h
   unfold growTo gone at h
   replace h:=br_inv h
   rcases h with⟨hcap,h⟩|⟨hcap,h⟩
   ·
    have hcap:=blt_lt hcap
    have hlt:cap<len+n:=by
     apply Nat.lt_of_not_le
     intro hle
     have e1:blt cap big=true:=Nat.ble_eq_true_of_le hcap
     have e2:Nat.ble (Nat.add len n) cap=true:=Nat.ble_eq_true_of_le hle
     rw[e1,e2]at hroom
     cases hroom
    dsimp only at h
    rw[fL_eq,app_eq]at h
    obtain⟨h',h,hat⟩:=new_inv h on
    cases h
    have key:∀{S':Value} {oldR:List Value} {base:Option Addr},VRL g old oldR->oldR.length=len*sizeB P e->S'=.slice base len cap->(∀w1:World,(∀a,w1.cell? a=w.cell? a)->(Builtin.firstCells (sizeB P e) len (.slice base len cap)).run P w1=.ok ⟨oldR⟩ w1) ->
      Does P (Builtin.append_ (t::u::ts).toArray ty #[S',X]) g hp nx w (.slice (some ⟨nx,0,none⟩) (len+n) big) hp' (nx+1):=fun {S' oldR base} r1 r2 r3 r4=>by
     subst r3
     obtain⟨c,c1,c2⟩:=run_app_grow' (ty:=ty) (ts:=ts) k1 k3 hiz hu q1 (by rw[<-k4];exact q5) (by rw[<-k4];exact r4) hlt (by omega) hby
     obtain⟨o1,o2⟩:=ho.new (o:=.row (old++news) e 1) (w':=w.drew.alloc _) c (sizeB P e) (grow_obj r1 q3 r2 q4 hzs c1 (ext_setG (ho.bnd nx (Nat.le_refl _)))) hat ((Chg.refl _ w).drewAlloc _) (heap_alloc_new w.drew _)
     exact⟨_,_,_,c2,⟨⟨w.heap.size,0,c,sizeB P e⟩,by unfold setG;rw[if_pos rfl],.inr ⟨0,_,rfl,by simpa using c1,fun _=>rfl,rfl⟩⟩,o1,o2⟩
    rcases cellsAt_ok hold ho.toW with⟨rfl,h0,rfl⟩|⟨a,rfl,hL⟩
    ·obtain⟨_,rfl⟩:=h1
     exact key (oldR:=[]) (base:=none) rfl (by rw[List.length_nil];exact h0.symm) rfl (fun w1 _=>rfl)
    ·obtain⟨L,hg,h1⟩:=h1
     obtain⟨oldR,r1,r2,r3⟩:=hL L hg
     rcases h1 with⟨_,rfl⟩|⟨j,p,hj,_⟩
     ·exact key r1 r2 rfl (fun w1 hw=>run_firstCells_some (P:=P) w1 _ len _ len cap oldR r2 (fun j v hj=>by rw[hw];exact r3 j v hj))
     ·omega
   ·
    have hcap:=blt_ge hcap
    replace h:=op_inv h on
    obtain⟨a,rfl,h⟩:=h
    replace h:=oRow_inv h on
    obtain⟨cs,e',m,hb,h⟩:=h
    replace h:=br_t h on
    obtain⟨he,h⟩:=h
    replace h:=br_t h on
    obtain⟨hm,h⟩:=h
    replace h:=br_t h on
    obtain⟨hoff,h⟩:=h
    cases Nat.eq_of_beq_eq_true he
    have hoff:a.off=(cap-big)*sizeB P e:=Nat.eq_of_beq_eq_true hoff
    obtain⟨hd,h,hatd⟩:=upd_inv h on
    dsimp only at h
    rw[fL_eq,app_eq]at h
    obtain⟨h',h,hat⟩:=new_inv h on
    cases h
    obtain⟨L,hg,h1⟩:=h1
    rcases h1 with⟨hc,_⟩|⟨j,p,hj,hj2,hp2,rfl⟩
    ·omega
    ·have hoff:a.off=j*sizeB P e:=by rw[hoff,show cap-big=j by omega]
     obtain⟨O,hO,arr,el,fz,rfl,hcs,hfz⟩:=ho.toW.row hb hg
     obtain⟨rfl,hesz,hsz⟩:=hfz (blt_lt hm)
     have holdc:∃oldR,VRL g old oldR/\oldR.length=len*sizeB P e/\∀j v,oldR[j]?=some v->w.cell? ((⟨L.blk,L.off+a.off,none⟩:Addr).add j)=some v:=by
      rcases cellsAt_ok hold ho.toW with⟨e0,_⟩|⟨a',e0,hL⟩
      ·cases e0
      ·cases e0;exact hL L hg
     obtain⟨oldR,r1,r2,r3⟩:=holdc
     by_cases hle:len+n<=L.cap-j
     ·
      cases hp2 (by omega)
      rw[hesz]at hsz
      have hfit:L.off+a.off+len*sizeB P e+newsR.length<=arr.size:=by
       rw[q4,hoff]
       have e1:(j+len+n)*sizeB P e<=L.cap*sizeB P e:=Nat.mul_le_mul_right _ (by omega)
       rw[Nat.add_mul,Nat.add_mul]at e1
       omega
      obtain⟨arr',g1,g2,g3,g4,g5,g6,g7,g8⟩:=setCells_row newsR (L.off+a.off+len*sizeB P e) w arr hO hfit
      have hrun:=run_storeRow (P:=P) hO (.inr hfit) (oneC_all hone q3)
      have happ:=run_app_room (ty:=ty) (ts:=ts) (base:=some ⟨L.blk,L.off+a.off,none⟩) k1 k2 hu q1 (q5 w (fun _=>rfl)) hle (by
       show(storeCells ((⟨L.blk,L.off+a.off,none⟩:Addr).add (len*sizeB P e)) newsR).run P w=_
       rw[add_addr]
       exact hrun)
      have hobj:∀g',Ext g g'->ObjAt P g' ⟨L.blk,L.off+a.off,L.cap-j,sizeB P e⟩ (.row (old++news) e 1) (.cells arr' el (0,0)):=fun g' hx=>by
       refine⟨arr',el,(0,0),rfl,fun i v hv=>?_,fun _=>⟨rfl,rfl,?_⟩⟩
       ·have hlo:=r1.length
        show ∃u,arr'[L.off+a.off+i]?=some u/\VR g' v u
        rw[g3]
        by_cases hi:i<len*sizeB P e
        ·rw[if_neg (by omega)]
         rw[List.getElem?_append_left (by omega)]at hv
         obtain⟨u,y1,y2⟩:=r1.get hv
         have y3:=r3 i u y1
         rw[add_addr]at y3
         simp only[World.cell?,hO]at y3
         exact⟨u,by simpa using y3,y2.mono hx⟩
        ·rw[List.getElem?_append_right (by omega)]at hv
         obtain⟨u,y1,y2⟩:=q3.get hv
         have hlt:=(List.getElem?_eq_some_iff.1 y1).1
         rw[if_pos (by omega)]
         exact⟨u,by rw[<-y1];congr 1;omega,y2.mono hx⟩
       ·show L.off+a.off+(L.cap-j)*sizeB P e<=arr'.size
        rw[g2,hoff]
        have e1:(j+(L.cap-j))*sizeB P e=L.cap*sizeB P e:=by congr 1;omega
        rw[Nat.add_mul]at e1
        omega
      have hH:∀k,hp'.at k=if k=nx then some (.row (old++news) e 1)else if k=a.block then some .dead else hp.at k:=fun k=>by
       rw[hat]
       split
       ·rfl
       ·exact hatd k
      obtain⟨o1,o2⟩:=ho.steal (l':=⟨L.blk,L.off+a.off,L.cap-j,sizeB P e⟩) (Hp.get_at hp _ hb) hm hg rfl g1 (hobj _ (ext_setG (ho.bnd nx (Nat.le_refl _)))) rfl ⟨g6,g7,g8,by omega,fun k _ hk=>g5 k hk⟩ hH
      exact⟨_,_,_,happ,⟨⟨L.blk,L.off+a.off,L.cap-j,sizeB P e⟩,by unfold setG;rw[if_pos rfl],.inr ⟨0,_,rfl,hle,fun _=>rfl,rfl⟩⟩,o1,o2⟩
     ·
      have hfo:∀w1:World,(∀a,w1.cell? a=w.cell? a)->(Builtin.firstCells (sizeB P e) len (.slice (some p) len (L.cap-j))).run P w1=.ok ⟨oldR⟩ w1:=fun w1 hw=>by
       rcases Nat.lt_or_ge j L.cap with hjl|hjl
       ·rw[hp2 hjl]
        exact run_firstCells_some (P:=P) w1 _ len _ len _ oldR r2 (fun j v hj=>by rw[hw];exact r3 j v hj)
       ·have hl0:len=0:=by omega
        have hR0:oldR=[]:=List.eq_nil_of_length_eq_zero (by rw[r2,hl0];simp)
        subst hR0
        exact run_firstCells_some (P:=P) w1 _ len _ len _ [] r2 (fun j v hj=>by simp at hj)
      obtain⟨c,c1,c2⟩:=run_app_grow' (ty:=ty) (ts:=ts) k1 k3 hiz hu q1 (by rw[<-k4];exact q5) (by rw[<-k4];exact hfo) (by omega) (by omega) hby
      obtain⟨o0,a0⟩:=ho.upd (o':=.dead) (w':=w) (Hp.get_at hp _ hb) hm hg hO trivial (Chg.refl _ w) hatd
      obtain⟨o1,o2⟩:=o0.new (o:=.row (old++news) e 1) (w':=w.drew.alloc _) c (sizeB P e) (grow_obj r1 q3 r2 q4 hzs c1 (ext_setG (ho.bnd nx (Nat.le_refl _)))) hat ((Chg.refl _ w).drewAlloc _) (heap_alloc_new w.drew _)
      exact⟨_,_,_,c2,⟨⟨w.heap.size,0,c,sizeB P e⟩,by unfold setG;rw[if_pos rfl],.inr ⟨0,_,rfl,by simpa using c1,fun _=>rfl,rfl⟩⟩,o1,a0.trans o2⟩
end
end Go.Ev
namespace Go.Ev
open Go.RowKit
set_option linter.unusedVariables false
section
variable {P:Program}{g:Gm}{ρ:Operand->Value}{v:Value}{l us:List Value}{hp:Hp}{nx:Nat}{w:World}
theorem EntsR.app:∀{es es':List (Value × Value × Nat)}{ents ents':List MapEntry},EntsR g es ents->EntsR g es' ents'->EntsR g (es++es') (ents++ents')
 |[],es',ents,ents',h,h'=>by cases(show ents=[]from h);exact h'
 |e::es,es',ents,ents',⟨m,ms,em,h1,h2,h3,h4⟩,h'=>by subst em;exact⟨m,_,rfl,h1,h2,h3,h4.app h'⟩
theorem EntsR.setE {v u K:Value}(hv:VR g v u):∀{es:List (Value × Value × Nat)}{ents:List MapEntry}{i:Nat},EntsR g es ents->(∀e,es[i]?=some e->VR g e.1 K)->EntsR g (setE v es i) (ents.modify i fun e=>{e with key:=K,val:=u})
 |[],ents,i,h,_=>by cases(show ents=[]from h);simp;rfl
 |e::es,ents,0,⟨m,ms,em,h1,h2,h3,h4⟩,hK=>by
  subst em
  exact⟨{m with key:=K,val:=u},ms,by simp,hK e rfl,hv,h3,h4⟩
 |e::es,ents,i+1,⟨m,ms,em,h1,h2,h3,h4⟩,hK=>by
  subst em
  have e1:Go.Ev.setE v (e::es) (i+1)=fL (Go.Ev.setE v es i) fun t=>e::t:=rfl
  rw[e1,fL_eq]
  exact⟨m,ms.modify i fun e=>{e with key:=K,val:=u},by simp,h1,h2,h3,h4.setE hv (fun e' he=>hK e' (by simpa using he))⟩
theorem findInt_key {kt:TypeId}{a:IntKind}{x:Int}{v:Value}{i:Nat}:∀{es:List (Value × Value × Nat)}{ents:List MapEntry}{i0:Nat},EntsR g es ents->findV (keyEq P kt (.int a x)) es i0=some (some (i,v)) ->
  ∃j m e,i=i0+j/\ents[j]?=some m/\m.key=.int a x/\es[j]?=some e/\e.1=.int a x
 |[],ents,i0,he,h=>by cases h
 |e::es,ents,i0,⟨m,ms,em,h1,h2,h3,h4⟩,h=>by
  subst em
  obtain⟨b,hb,h⟩:=findV_cons h
  obtain⟨y,ey,hy⟩:=keyEq_int hb
  rcases h with⟨rfl,h⟩|⟨rfl,h⟩
  ·cases h
   have hxy:x=y:=by simpa using hy.symm
   subst hxy
   rw[ey]at h1
   exact⟨0,m,e,rfl,rfl,h1,rfl,ey⟩
  ·obtain⟨j,m',e',q1,q2,q3,q4,q5⟩:=findInt_key h4 h
   exact⟨j+1,m',e',by omega,by simpa using q2,q3,by simpa using q4,q5⟩
theorem setObj_chg {b:Nat}{o o':Obj}(h:w.heap[b]?=some o):Chg (fun k=>k=b) w {w with heap:=w.heap.setIfInBounds b o'}/\({w with heap:=w.heap.setIfInBounds b o'}:World).heap[b]?=some o':=by
 obtain⟨h1,h2⟩:=MapKept.heap_set (w:=w) (o':=o') h
 exact⟨⟨rfl,rfl,rfl,by simp,fun k _ hk=>h2 k hk⟩,h1⟩
theorem hUpdate_ok {t kt e:TypeId}{hp':Hp}{nx':Nat}(hu:P.underlying t=some (.map kt e))(hk:tyOk P kt=true)(h:hUpdate P kt l hp nx=.ok v hp' nx')(ho:Ok P g hp.at nx w)(hr:VRL g l us) :
  ∃x k y,us=[x,k,y]/\DoesU P (Instr.mapUpdate t x k y) g hp nx w v hp' nx':=by
 unfold hUpdate at h
 replace h:=lst_inv h on
 obtain⟨m,l1,rfl,h⟩:=h
 replace h:=lst_inv h on
 obtain⟨k,l2,rfl,h⟩:=h
 replace h:=lst_inv h on
 obtain⟨y,l3,rfl,h⟩:=h
 replace h:=nil1_inv h on
 obtain⟨rfl,h⟩:=h
 obtain⟨M,K,Y,rfl,h1,h2,h3⟩:=VRL.three hr
 split at h
 ·rename_i b
  obtain⟨L,hg,rfl⟩:=h1
  split at h
  ·rename_i es c hb
   replace h:=br_t h on
   obtain⟨hc,h⟩:=h
   replace h:=op_inv h on
   obtain⟨r,hf,h⟩:=h
   obtain⟨ents,hw,he⟩:=ho.toW.map hb hg
   obtain⟨e1,r',e2,e3⟩:=find_ok (w:=w) hk hc he h2 hf
   split at h
   ·rename_i i x
    replace h:=vInt_inv h on
    obtain⟨ki,z,rfl,h⟩:=h
    obtain⟨h',h,hat⟩:=upd_inv h on
    cases h
    obtain⟨x',rfl,hx⟩:=e3
    cases h2.int
    obtain⟨j,m,en,q1,q2,q3,q4,q5⟩:=findInt_key he hf
    have q1:i=j:=by omega
    subst q1
    have hkey:((((⟨ents⟩:Array MapEntry)[i]?).map (·.key)).getD (.int ki z))=.int ki z:=by
     have:(⟨ents⟩:Array MapEntry)[i]?=some m:=by rw[<-Array.getElem?_toList];exact q2
     rw[this];exact q3
    have hstay:(Instr.keyThatStays (.int ki z) (.int ki z)).run P w=.ok (.int ki z) w:=by simp[Instr.keyThatStays,Instr.sameBits]
    obtain⟨c1,c2⟩:=setObj_chg (o':=.map ((⟨ents⟩:Array MapEntry).modify i fun e=>{e with key:=.int ki z,val:=Y}) c) hw
    obtain⟨o1,o2⟩:=ho.upd (o':=.map (setE y es i) c) (Hp.get_at hp _ hb) rfl hg c2 ⟨(ents.modify i fun e=>{e with key:=.int ki z,val:=Y}),by congr 1;apply Array.ext';simp,he.setE h3 (fun e' he'=>by rw[q4]at he';cases he';rw[q5];rfl)⟩ c1 hat
    refine⟨_,_,_,rfl,rfl,g,_,?_,o1,o2⟩
    simp only[Instr.mapUpdate,Sem.run_bind,run_und hu,Result.andThen_ok,MapKept.run_getObj_map hw,e1,e2,hkey,hstay]
    exact MapKept.run_setObj_map _ hw
   ·rw[fN_eq]at h
    obtain⟨h',h,hat⟩:=upd_inv h on
    cases h
    cases e3
    rw[app_eq]at hat
    obtain⟨c1,c2⟩:=setObj_chg (o':=.map (⟨ents++[{key:=K,val:=Y,born:=c}]⟩:Array MapEntry) (c+1)) hw
    obtain⟨o1,o2⟩:=ho.upd (o':=.map (es++[(k,y,c)]) (c+1)) (Hp.get_at hp _ hb) rfl hg c2 ⟨_,rfl,he.app ⟨_,[],rfl,h2,h3,rfl,rfl⟩⟩ c1 hat
    refine⟨_,_,_,rfl,rfl,g,_,?_,o1,o2⟩
    simp[Instr.mapUpdate,run_und hu,MapKept.run_getObj_map hw,e1,e2,MapKept.run_setObj_map _ hw]
  ·cases h
 ·cases h
theorem hRange_ok {t kt e:TypeId}{hp':Hp}{nx':Nat}(hu:P.underlying t=some (.map kt e))(h:hRange l hp nx=.ok v hp' nx')(ho:Ok P g hp.at nx w)(hr:VRL g l us):∃x,us=[x]/\Does P (Instr.range t x) g hp nx w v hp' nx':=by
 unfold hRange at h
 replace h:=lst_inv h on
 obtain⟨m,l1,rfl,h⟩:=h
 replace h:=nil1_inv h on
 obtain⟨rfl,h⟩:=h
 obtain⟨M,rfl,h1⟩:=VRL.one hr
 have hn:=ho.bnd nx (Nat.le_refl _)
 have hal:∀O:Obj,Chg (fun _=>False) w (w.alloc O):=fun O=>⟨rfl,rfl,rfl,by show w.heap.size<=(w.heap.push O).size;simp,fun k hk _=>by
  show(w.heap.push O)[k]?=_
  rw[Array.getElem?_push,if_neg (by omega)]⟩
 split at h
 ·rename_i m
  split at h
  ·obtain⟨h',h,hat⟩:=new_inv h on
   cases h
   cases(show M=.map none from h1)
   obtain⟨o1,o2⟩:=ho.new (o:=.iter none 0 [] 0) (w':=w.alloc (.mapIter none 0 #[] 0)) 0 0 ⟨none,rfl,rfl,rfl⟩ hat (hal _) (heap_alloc_new w _)
   refine⟨_,rfl,.pointer (some ⟨w.heap.size,0,none⟩),_,_,?_,⟨_,by unfold setG;rw[if_pos rfl],rfl⟩,o1,o2⟩
   simp[Instr.range,run_und hu]
  ·rename_i b
   split at h
   ·rename_i es c hb
    obtain⟨h',h,hat⟩:=new_inv h on
    cases h
    obtain⟨L,hg,rfl⟩:=h1
    obtain⟨ents,hw,he⟩:=ho.toW.map hb hg
    obtain⟨o1,o2⟩:=ho.new (o:=.iter (some b) c [] c) (w':=w.alloc (.mapIter (some L.blk) c #[] c)) 0 0 ⟨some L.blk,rfl,⟨L,ext_setG hn _ _ hg,rfl⟩,rfl⟩ hat (hal _) (heap_alloc_new w _)
    refine⟨_,rfl,.pointer (some ⟨w.heap.size,0,none⟩),_,_,?_,⟨_,by unfold setG;rw[if_pos rfl],rfl⟩,o1,o2⟩
    simp[Instr.range,run_und hu,MapKept.run_getObj_map hw]
   ·cases h
 ·cases h
theorem hNext_ok {ty:TypeId}{hp':Hp}{nx':Nat}(h:hNext l hp nx=.ok v hp' nx')(ho:Ok P g hp.at nx w)(hr:VRL g l us):∃x,us=[x]/\Does P (Instr.next x false ty) g hp nx w v hp' nx':=by
 unfold hNext at h
 replace h:=lst_inv h on
 obtain⟨x,l1,rfl,h⟩:=h
 replace h:=nil1_inv h on
 obtain⟨rfl,h⟩:=h
 replace h:=vPtr_inv h on
 obtain⟨a,rfl,h⟩:=h
 replace h:=br_t h on
 obtain⟨hoff,h⟩:=h
 have hoff:=Nat.eq_of_beq_eq_true hoff
 obtain⟨X,rfl,h1⟩:=VRL.one hr
 obtain⟨L,hg,rfl⟩:=h1.ptr
 refine⟨_,rfl,?_⟩
 have over:VR g overV (.tuple #[.bool false]):=.mk_tup (.mk1 rfl)
 split at h
 ·rename_i since seen st hit
  cases h
  obtain⟨L',O,h2,h3,m',rfl,h5,h0⟩:=ho.den _ _ (Hp.get_at hp _ hit) rfl
  rw[hg]at h2;cases h2
  cases(show m'=none from h5)
  refine⟨_,g,w,?_,over,ho,Aft.refl _ _ _⟩
  rw[h0,hoff]
  simp[Instr.next,getObj,Sem.run,h3]
 ·rename_i b since seen st hit
  obtain⟨L',O,h2,h3,m',rfl,⟨lb,h5,rfl⟩,h0⟩:=ho.den _ _ (Hp.get_at hp _ hit) rfl
  rw[hg]at h2;cases h2
  split at h
  ·rename_i c hb
   cases h
   obtain⟨ents,h6,h7⟩:=ho.toW.map hb h5
   cases(show ents=[]from h7)
   refine⟨_,g,w,?_,over,ho,Aft.refl _ _ _⟩
   rw[h0,hoff]
   simp[Instr.next,getObj,Sem.run,h3,h6,choose,Question.forced]
  ·rename_i k y n c hb
   obtain⟨ents,h6,h7⟩:=ho.toW.map hb h5
   obtain⟨e,ms,rfl,e1,e2,e3,e4⟩:=h7
   cases(show ms=[]from e4)
   split at h
   ·replace h:=br_t h on
    obtain⟨hlt,h⟩:=h
    have hlt:=blt_lt hlt
    obtain⟨h',h,hat⟩:=upd_inv h on
    cases h
    have e3:e.born=n:=e3
    subst e3
    obtain⟨c1,c2⟩:=setObj_chg (o':=.mapIter (some lb.blk) since #[e.born] c) h3
    obtain⟨o1,o2⟩:=ho.upd (o':=.iter (some b) since [e.born] c) (Hp.get_at hp _ hit) rfl hg c2 ⟨some lb.blk,rfl,⟨lb,h5,rfl⟩,h0⟩ c1 hat
    refine⟨.tuple #[.bool true,e.key,e.val],g,_,?_,.mk_tup (.mk3 rfl e1 e2),o1,o2⟩
    rw[h0,hoff]
    have hge:¬since<=e.born:=by omega
    simp[Instr.next,getObj,setObj,Sem.run,h3,h6,choose,Question.forced,hlt,hge]
   ·rename_i s
    replace h:=br_t h on
    obtain⟨hc,h⟩:=h
    cases h
    rw[Bool.and_eq_true]at hc
    have q1:=Nat.eq_of_beq_eq_true hc.1
    have q2:=blt_lt hc.2
    have e3:e.born=n:=e3
    subst q1
    subst e3
    refine⟨_,g,w,?_,over,ho,Aft.refl _ _ _⟩
    rw[h0,hoff]
    simp[Instr.next,getObj,Sem.run,h3,h6,choose,Question.forced,q2]
   ·cases h
  ·cases h
 ·cases h
end
end Go.Ev
namespace Go.Ev
open Go.RowKit
set_option linter.unusedVariables false
section
variable {P:Program}{g:Gm}{ρ:Operand->Value}{v:Value}{l us:List Value}{hp:Hp}{nx:Nat}{w:World}
def OpDoes (P:Program)(ρ:Operand->Value)(o:Oper)(g:Gm)(hp:Hp)(nx:Nat)(w:World)(v:Value)(hp':Hp)(nx':Nat):Prop:=
 ∃N u g' w',(execOp ρ o).run P w=.ok N w'/\(N=.value u\/(N=.skip/\u=undef))/\VR g' v u/\Ok P g' hp'.at nx' w'/\Aft g hp.at w g' hp'.at w'
theorem undef_vr (g:Gm):VR g undef undef:=.mk_tup (l:=[]) (m:=[]) rfl
theorem Does.exec {o:Oper}{s:Sem Value}{hp':Hp}{nx':Nat}(h:Does P s g hp nx w v hp' nx')(he:execOp ρ o=(do pure (.value (<-s)))):OpDoes P ρ o g hp nx w v hp' nx':=by
 obtain⟨u,g',w',h1,h2,h3,h4⟩:=h
 exact⟨.value u,u,g',w',by rw[he,Sem.run_bind,h1];rfl,.inl rfl,h2,h3,h4⟩
theorem DoesU.exec {o:Oper}{s:Sem Unit}{hp':Hp}{nx':Nat}(h:DoesU P s g hp nx w v hp' nx')(he:execOp ρ o=(do s;pure .skip)):OpDoes P ρ o g hp nx w v hp' nx':=by
 obtain⟨rfl,g',w',h1,h3,h4⟩:=h
 exact⟨.skip,undef,g',w',by rw[he,Sem.run_bind,h1];rfl,.inr ⟨rfl,rfl⟩,undef_vr g',h3,h4⟩
theorem eff_ok {o:Oper}{f:List Value->Hp->Nat->RV}{hp':Hp}{nx':Nat}(hc:comp P o.op=.eff f)(h:f l hp nx=.ok v hp' nx')(ho:Ok P g hp.at nx w)(hr:VRL g l (o.op.operands.toList.map ρ)):OpDoes P ρ o g hp nx w v hp' nx':=by
 obtain⟨dst,op,ty,pos,after,guard⟩:=o
 cases op with
 |store t x y=>
  replace hc:cStore P t=.eff f:=hc
  unfold cStore at hc
  have fin:∀{a b:Value},[ρ x,ρ y]=[a,b]->DoesU P (Instr.storeAt t a b) g hp nx w v hp' nx'->OpDoes P ρ ⟨dst,.store t x y,ty,pos,after,guard⟩ g hp nx w v hp' nx':=fun {a b} e hd=>by
   injection e with e1 e2
   injection e2 with e2 _
   rw[<-e1,<-e2]at hd
   exact hd.exec rfl
  rcases br_inv hc with⟨hk,hc⟩|⟨_,hc⟩
  ·rcases br_inv hc with⟨h1,hc⟩|⟨_,hc⟩
   ·rcases br_inv hc with⟨_,hc⟩|⟨_,hc⟩
    ·cases hc
     obtain⟨a,b,e,hd⟩:=hStoreN_ok hk h ho hr
     exact fin e hd
    ·cases hc
     obtain⟨a,b,e,hd⟩:=hStore1_ok hk h1 h ho hr
     exact fin e hd
   ·cases hc
    obtain⟨a,b,e,hd⟩:=hStoreN_ok hk h ho hr
    exact fin e hd
  ·cases hc
 |mapUpdate t m k x=>
  replace hc:cUpdate P t=.eff f:=hc
  unfold cUpdate at hc
  split at hc
  ·rename_i kt e hu
   rcases br_inv hc with⟨hk,hc⟩|⟨_,hc⟩
   ·cases hc
    obtain⟨a,b,c,e,hd⟩:=hUpdate_ok hu hk h ho hr
    have e:ρ m=a/\ρ k=b/\ρ x=c:=by simpa[Op.operands]using e
    obtain⟨rfl,rfl,rfl⟩:=e
    exact hd.exec rfl
   ·cases hc
  ·cases hc
 |insert t m k x=>
  replace hc:cUpdate P t=.eff f:=hc
  unfold cUpdate at hc
  split at hc
  ·rename_i kt e hu
   rcases br_inv hc with⟨hk,hc⟩|⟨_,hc⟩
   ·cases hc
    obtain⟨a,b,c,e,hd⟩:=hUpdate_ok hu hk h ho hr
    have e:ρ m=a/\ρ k=b/\ρ x=c:=by simpa[Op.operands]using e
    obtain⟨rfl,rfl,rfl⟩:=e
    exact hd.exec rfl
   ·cases hc
  ·cases hc
 |range t x=>
  replace hc:cRange P t=.eff f:=hc
  unfold cRange at hc
  split at hc
  ·rename_i kt e hu
   cases hc
   obtain⟨a,e,hd⟩:=hRange_ok hu h ho hr
   have e:ρ x=a:=by simpa[Op.operands]using e
   subst e
   exact hd.exec rfl
  ·cases hc
 |next x s=>
  cases s with
  |true=>cases hc
  |false=>
   cases hc
   obtain⟨a,e,hd⟩:=hNext_ok (ty:=ty) h ho hr
   have e:ρ x=a:=by simpa[Op.operands]using e
   subst e
   exact hd.exec rfl
 |call c=>
  obtain⟨callee,args,ats⟩:=c
  cases callee with
  |value=>cases hc
  |invoke=>cases hc
  |builtin b=>
   have ha:(args.map ρ)=((Op.operands (.call ⟨.builtin b,args,ats⟩)).toList.map ρ).toArray:=by
    apply Array.ext'
    simp[Op.operands,Call.operands]
   cases b with
   |append=>
    replace hc:cAppend P ats.toList=.eff f:=hc
    unfold cAppend at hc
    split at hc
    ·rename_i t u ts hts
     split at hc
     ·rename_i e he
      split at hc
      ·rename_i z hz
       rcases br_inv hc with⟨h1,hc⟩|⟨_,hc⟩
       ·rcases br_inv hc with⟨h2,hc⟩|⟨_,hc⟩
        ·have h1:=Nat.eq_of_beq_eq_true h1
         rw[lenL_eq]at h1
         have fin:hAppend (sizeB P e) e l hp nx=.ok v hp' nx'->((∃x,P.underlying u=some (.slice x))\/P.underlying u=some .string)->OpDoes P ρ ⟨dst,.call ⟨.builtin .append,args,ats⟩,ty,pos,after,guard⟩ g hp nx w v hp' nx':=fun h hu=>by
          have:=hAppend_ok (ty:=ty) (ts:=ts) he hu hz h1 (blt_lt h2) h ho hr
          rw[<-ha,<-hts]at this
          exact this.exec rfl
         split at hc
         ·rename_i x hx
          cases hc
          exact fin h (.inl ⟨x,hx⟩)
         ·rename_i hx
          cases hc
          exact fin h (.inr hx)
         ·cases hc
        ·cases hc
       ·cases hc
      ·cases hc
     ·cases hc
    ·cases hc
   |copy=>
    replace hc:cCopy P ats.toList=.eff f:=hc
    unfold cCopy at hc
    split at hc
    ·rename_i t ts hts
     split at hc
     ·rename_i e he
      cases hc
      have:=hCopy_ok (ty:=ty) (ts:=ts) he h ho hr
      rw[<-ha,<-hts]at this
      exact this.exec rfl
     ·cases hc
    ·cases hc
   |len=>
    replace hc:cLen P ats.toList=.eff f:=hc
    unfold cLen at hc
    split at hc<;>(try split at hc)<;>(try split at hc)<;>cases hc
   |cap=>
    replace hc:cCap P ats.toList=.eff f:=hc
    unfold cCap at hc
    split at hc<;>(try split at hc)<;>cases hc
   |_=>cases hc
 |load t x=>replace hc:cLoad P t=.eff f:=hc;unfold cLoad at hc;rcases br_inv hc with⟨_,hc⟩|⟨_,hc⟩<;>(try rcases br_inv hc with⟨_,hc⟩|⟨_,hc⟩)<;>cases hc
 |lookup t x i ok=>replace hc:cLookup P t ok=.eff f:=hc;unfold cLookup at hc;split at hc<;>(try rcases br_inv hc with⟨_,hc⟩|⟨_,hc⟩)<;>(try split at hc)<;>cases hc
 |binOp op t x y t'=>cases op<;>cases hc
 |convert s d x=>replace hc:cConv P s d=.eff f:=hc;unfold cConv at hc;split at hc<;>(try split at hc)<;>cases hc
 |fieldAddr s x i=>replace hc:cField P s i=.eff f:=hc;unfold cField at hc;split at hc<;>(try rcases br_inv hc with⟨_,hc⟩|⟨_,hc⟩)<;>cases hc
 |unOp op t x=>cases op<;>cases hc
 |build t ps=>replace hc:cBuild P t ps.toList=.eff f:=hc;unfold cBuild at hc;split at hc<;>(try split at hc)<;>(try split at hc)<;>(try rcases br_inv hc with⟨_,hc⟩|⟨_,hc⟩)<;>cases hc
 |indexAddr t x i=>replace hc:cIndexAddr P t=.eff f:=hc;unfold cIndexAddr at hc;split at hc<;>(try split at hc)<;>cases hc
 |index t x i=>replace hc:cIndex P t=.eff f:=hc;unfold cIndex at hc;split at hc<;>(try split at hc)<;>cases hc
 |field t x i=>replace hc:cFld P t i=.eff f:=hc;unfold cFld at hc;split at hc<;>cases hc
 |slice t x lo hi mx=>
  replace hc:cSlice P t lo.isSome hi.isSome mx.isSome=.eff f:=hc
  have:cSlice1 P t lo.isSome hi.isSome mx.isSome=.eff f:=by
   unfold cSlice at hc
   rcases br_inv hc with⟨_,hc⟩|⟨_,hc⟩
   ·rcases br_inv hc with⟨_,hc⟩|⟨_,hc⟩
    ·exact hc
    ·cases hc
   ·exact hc
  unfold cSlice1 at this
  split at this<;>(try split at this)<;>(try split at this)<;>(try split at this)<;>(try rcases br_inv this with⟨_,this⟩|⟨_,this⟩)<;>cases this
 |makeInterface t x=>replace hc:cIface P t=.eff f:=hc;unfold cIface at hc;split at hc<;>cases hc
 |makeFunc fn a b=>cases fn<;>cases hc
 |typeAssert x T t ok=>replace hc:cAssert P t ok=.eff f:=hc;unfold cAssert at hc;split at hc<;>(try split at hc)<;>cases hc
 |alloc e=>replace hc:(match zeroV P e with|some z=>Ins.alloc (hAlloc (cellsV z) e)|none=>.bad)=.eff f:=hc;split at hc<;>cases hc
 |buildSlice t n ps=>replace hc:cBuildSlice P t n ps.toList=.eff f:=hc;unfold cBuildSlice at hc;split at hc<;>(try split at hc)<;>(try rcases br_inv hc with⟨_,hc⟩|⟨_,hc⟩)<;>(try rcases br_inv hc with⟨_,hc⟩|⟨_,hc⟩)<;>(try rcases br_inv hc with⟨_,hc⟩|⟨_,hc⟩)<;>cases hc
 |makeSlice t a b=>replace hc:cMakeSlice P t=.eff f:=hc;unfold cMakeSlice at hc;split at hc<;>(try split at hc)<;>(try rcases br_inv hc with⟨_,hc⟩|⟨_,hc⟩)<;>(try rcases br_inv hc with⟨_,hc⟩|⟨_,hc⟩)<;>(try rcases br_inv hc with⟨_,hc⟩|⟨_,hc⟩)<;>(try rcases br_inv hc with⟨_,hc⟩|⟨_,hc⟩)<;>cases hc
 |makeMap t r=>cases r<;>cases hc
 |_=>cases hc
end
end Go.Ev
namespace Go.Ev
open Go.RowKit
set_option linter.unusedVariables false
section
variable {P:Program}{g:Gm}{ρ:Operand->Value}{v:Value}{l us:List Value}{hp:Hp}{nx:Nat}{w:World}
def OpMakes (P:Program)(ρ:Operand->Value)(o:Oper)(g:Gm)(ob:VO)(mk:Nat->Value):Prop:=
 ∀w,∃O u cap esz,(execOp ρ o).run P w=.ok (.value u) (w.alloc O)/\(∀g',Ext g g'->ObjAt P g' ⟨w.heap.size,0,cap,esz⟩ ob O)/\∀g' id,g' id=some ⟨w.heap.size,0,cap,esz⟩->VR g' (mk id) u
theorem Makes.exec {o:Oper}{s:Sem Value}{ob:VO}{mk:Nat->Value}(h:Makes P s g ob mk)(he:execOp ρ o=(do pure (.value (<-s)))):OpMakes P ρ o g ob mk:=fun w=>by
 obtain⟨O,u,cap,esz,h1,h2,h3⟩:=h w
 exact⟨O,u,cap,esz,by rw[he,Sem.run_bind,h1];rfl,h2,h3⟩
theorem alloc_ok {o:Oper}{f:List Value->Option (VO × (Nat->Value))}{ob:VO}{mk:Nat->Value}(hc:comp P o.op=.alloc f)(h:f l=some (ob,mk))(hr:VRL g l (o.op.operands.toList.map ρ)):OpMakes P ρ o g ob mk:=by
 obtain⟨dst,op,ty,pos,after,guard⟩:=o
 cases op with
 |alloc e=>
  replace hc:(match zeroV P e with|some z=>Ins.alloc (hAlloc (cellsV z) e)|none=>.bad)=.alloc f:=hc
  split at hc
  ·rename_i z hz
   cases hc
   exact(hAlloc_ok hz h).exec rfl
  ·cases hc
 |box e x=>
  cases hc
  obtain⟨a,e1,hd⟩:=hBox_ok (P:=P) h hr
  have e1:ρ x=a:=by simpa[Op.operands]using e1
  subst e1
  exact hd.exec rfl
 |buildSlice t n ps=>
  replace hc:cBuildSlice P t n ps.toList=.alloc f:=hc
  have:=hBuildSlice_ok (ρ:=ρ) hc h (by simpa[Op.operands]using hr)
  refine this.exec ?_
  simp only[execOp]
  congr 3
  apply Array.ext'
  simp
 |makeSlice t a b=>
  replace hc:cMakeSlice P t=.alloc f:=hc
  obtain⟨x,y,e1,hd⟩:=hMakeSlice_ok hc h hr
  have e1:ρ a=x/\ρ b=y:=by simpa[Op.operands]using e1
  obtain⟨rfl,rfl⟩:=e1
  exact hd.exec rfl
 |makeMap t r=>
  cases r with
  |some r=>cases hc
  |none=>
   cases hc
   cases h
   refine Makes.exec (s:=Instr.makeMap t none) (fun w=>?_) rfl
   refine⟨.map #[] 0,.map (some w.heap.size),0,0,by simp[Instr.makeMap],fun g' _=>⟨[],rfl,rfl⟩,fun g' id hg=>⟨_,hg,rfl⟩⟩
 |load t x=>replace hc:cLoad P t=.alloc f:=hc;unfold cLoad at hc;rcases br_inv hc with⟨_,hc⟩|⟨_,hc⟩<;>(try rcases br_inv hc with⟨_,hc⟩|⟨_,hc⟩)<;>cases hc
 |lookup t x i ok=>replace hc:cLookup P t ok=.alloc f:=hc;unfold cLookup at hc;split at hc<;>(try rcases br_inv hc with⟨_,hc⟩|⟨_,hc⟩)<;>(try split at hc)<;>cases hc
 |binOp op t x y t'=>cases op<;>cases hc
 |convert s d x=>replace hc:cConv P s d=.alloc f:=hc;unfold cConv at hc;split at hc<;>(try split at hc)<;>cases hc
 |fieldAddr s x i=>replace hc:cField P s i=.alloc f:=hc;unfold cField at hc;split at hc<;>(try rcases br_inv hc with⟨_,hc⟩|⟨_,hc⟩)<;>cases hc
 |unOp op t x=>cases op<;>cases hc
 |build t ps=>replace hc:cBuild P t ps.toList=.alloc f:=hc;unfold cBuild at hc;split at hc<;>(try split at hc)<;>(try split at hc)<;>(try rcases br_inv hc with⟨_,hc⟩|⟨_,hc⟩)<;>cases hc
 |indexAddr t x i=>replace hc:cIndexAddr P t=.alloc f:=hc;unfold cIndexAddr at hc;split at hc<;>(try split at hc)<;>cases hc
 |index t x i=>replace hc:cIndex P t=.alloc f:=hc;unfold cIndex at hc;split at hc<;>(try split at hc)<;>cases hc
 |field t x i=>replace hc:cFld P t i=.alloc f:=hc;unfold cFld at hc;split at hc<;>cases hc
 |slice t x lo hi mx=>
  replace hc:cSlice P t lo.isSome hi.isSome mx.isSome=.alloc f:=hc
  have:cSlice1 P t lo.isSome hi.isSome mx.isSome=.alloc f:=by
   unfold cSlice at hc
   rcases br_inv hc with⟨_,hc⟩|⟨_,hc⟩
   ·rcases br_inv hc with⟨_,hc⟩|⟨_,hc⟩
    ·exact hc
    ·cases hc
   ·exact hc
  unfold cSlice1 at this
  split at this<;>(try split at this)<;>(try split at this)<;>(try split at this)<;>(try rcases br_inv this with⟨_,this⟩|⟨_,this⟩)<;>cases this
 |makeInterface t x=>replace hc:cIface P t=.alloc f:=hc;unfold cIface at hc;split at hc<;>cases hc
 |makeFunc fn a b=>cases fn<;>cases hc
 |typeAssert x T t ok=>replace hc:cAssert P t ok=.alloc f:=hc;unfold cAssert at hc;split at hc<;>(try split at hc)<;>cases hc
 |store t x y=>replace hc:cStore P t=.alloc f:=hc;unfold cStore at hc;rcases br_inv hc with⟨_,hc⟩|⟨_,hc⟩<;>(try rcases br_inv hc with⟨_,hc⟩|⟨_,hc⟩)<;>(try rcases br_inv hc with⟨_,hc⟩|⟨_,hc⟩)<;>cases hc
 |mapUpdate t m k x=>replace hc:cUpdate P t=.alloc f:=hc;unfold cUpdate at hc;split at hc<;>(try rcases br_inv hc with⟨_,hc⟩|⟨_,hc⟩)<;>cases hc
 |insert t m k x=>replace hc:cUpdate P t=.alloc f:=hc;unfold cUpdate at hc;split at hc<;>(try rcases br_inv hc with⟨_,hc⟩|⟨_,hc⟩)<;>cases hc
 |range t x=>replace hc:cRange P t=.alloc f:=hc;unfold cRange at hc;split at hc<;>cases hc
 |next x s=>cases s<;>cases hc
 |call c=>
  obtain⟨callee,args,ats⟩:=c
  cases callee with
  |value=>cases hc
  |invoke=>cases hc
  |builtin b=>
   cases b with
   |len=>replace hc:cLen P ats.toList=.alloc f:=hc;unfold cLen at hc;split at hc<;>(try split at hc)<;>(try split at hc)<;>cases hc
   |cap=>replace hc:cCap P ats.toList=.alloc f:=hc;unfold cCap at hc;split at hc<;>(try split at hc)<;>cases hc
   |append=>
    replace hc:cAppend P ats.toList=.alloc f:=hc
    unfold cAppend at hc
    split at hc<;>(try split at hc)<;>(try split at hc)<;>(try rcases br_inv hc with⟨_,hc⟩|⟨_,hc⟩)<;>(try rcases br_inv hc with⟨_,hc⟩|⟨_,hc⟩)<;>(try split at hc)<;>cases hc
   |copy=>replace hc:cCopy P ats.toList=.alloc f:=hc;unfold cCopy at hc;split at hc<;>(try split at hc)<;>cases hc
   |_=>cases hc
 |_=>cases hc
theorem OpMakes.does {o:Oper}{ob:VO}{mk:Nat->Value}{h':Hp}(h:OpMakes P ρ o g ob mk)(ho:Ok P g hp.at nx w)(hat:∀j,h'.at j=if j=nx then some ob else hp.at j):OpDoes P ρ o g hp nx w (mk nx) h' (nx+1):=by
 obtain⟨O,u,cap,esz,h1,h2,h3⟩:=h w
 have hn:=ho.bnd nx (Nat.le_refl _)
 have hal:Chg (fun _=>False) w (w.alloc O):=⟨rfl,rfl,rfl,by show w.heap.size<=(w.heap.push O).size;simp,fun k hk _=>by
  show(w.heap.push O)[k]?=_
  rw[Array.getElem?_push,if_neg (by omega)]⟩
 obtain⟨o1,o2⟩:=ho.new (o:=ob) (w':=w.alloc O) cap esz (h2 _ (ext_setG hn)) hat hal (heap_alloc_new w O)
 exact⟨.value u,u,_,_,h1,.inl rfl,h3 _ nx (by unfold setG;rw[if_pos rfl]),o1,o2⟩
end
end Go.Ev
namespace Go.Ev
open Go.RowKit
set_option linter.unusedVariables false
def fen (ρ:Option Nat):Fence:={Fence.wide with round:=ρ}
theorem callsIn_fen {ρ:Option Nat}{n:Nat}{P:Program}{f:FuncId}{args:Array Value}{w:World}{R:Ending->World->Prop}(h:Calls P f args w R):CallsIn (fen ρ) n P f args w R:=by
 have h2:CallsIn Fence.wide n P f args w R:=callsIn_wide.2 h
 cases ρ with
 |none=>exact h2
 |some l=>exact CallsIn.inRound l h2
def markD (D:Nat):Deferred:={target:=.collected D,args:=#[]}
def DsR (g:Gm):List Nat->List Deferred->Prop
 |[],m=>m=[]
 |d::ds,m=>∃l ms,m=markD l.blk::ms/\g d=some l/\DsR g ds ms
theorem DsR.mono {g g':Gm}(he:Ext g g'):∀{ds:List Nat}{m:List Deferred},DsR g ds m->DsR g' ds m
 |[],_,h=>h
 |_::_,_,⟨l,ms,h1,h2,h3⟩=>⟨l,ms,h1,he _ _ h2,DsR.mono he h3⟩
def Glob (P:Program)(g:Gm):Prop:=∀b,b<P.globals.size->∃l,g b=some l/\l.blk=b/\l.off=0
theorem Glob.mono {P:Program}{g g':Gm}(he:Ext g g')(h:Glob P g):Glob P g':=fun b hb=>let ⟨l,h1,h2⟩:=h b hb;⟨l,he _ _ h1,h2⟩
structure ProgOk (P:Program):Prop where
 names:∀(f:Nat) (fn:Func),P.funcs.toList[f]?=some fn->(fn.name == "runtime.NumGoroutine")=false
 mixed:P.follows .mixedOrders=true
def CallRes (P:Program)(f:FuncId)(us:List Value)(w:World)(R:Value->World->Prop):Prop:=
 ((callFunc f us.toArray).run P w=.ok (.enter f us.toArray) w/\Calls P f us.toArray w fun e w'=>∃u,e=.returned u/\R u w') \/
 ∃u w',(callFunc f us.toArray).run P w=.ok (.value u) w'/\R u w'
def ResR (P:Program)(g:Gm)(hp:Hp)(w:World)(v:Value)(hp':Hp)(nx':Nat)(u:Value)(w':World):Prop:=
 ∃g',VR g' v u/\Ok P g' hp'.at nx' w'/\Aft g hp.at w g' hp'.at w'
def CallSound (P:Program)(c:FuncId->List Value->Hp->Nat->RV):Prop:=
 ∀f args hp nx v hp' nx',c f args hp nx=.ok v hp' nx'->∀g w us,Ok P g hp.at nx w->Glob P g->VRL g args us->CallRes P f us w (ResR P g hp w v hp' nx')
def exitOf (e:Ex):Exit:=match e with
 |.normal=>.normal
 |.ret=>.ret
 |.exit i=>.exit i
structure FrOk (g:Gm)(n:Nat)(fr:Fr)(ds:List Nat)(a:Act):Prop where
 size:a.tmps.size=n
 fr:FrR g fr (fun i=>a.tmps.getD i undef)
 ds:DsR g ds a.defers
theorem FrOk.mono {g g':Gm}(he:Ext g g'){n:Nat}{fr:Fr}{ds:List Nat}{a:Act}(h:FrOk g n fr ds a):FrOk g' n fr ds a:=⟨h.size,h.fr.mono he,h.ds.mono he⟩
def PostR (P:Program)(g:Gm)(hp:Hp)(w:World)(n:Nat)(e:Ex)(fr':Fr)(ds':List Nat)(hp':Hp)(nx':Nat):Exit->Act->World->Prop:=fun x a' w'=>
 x=exitOf e/\∃g',FrOk g' n fr' ds' a'/\Ok P g' hp'.at nx' w'/\Aft g hp.at w g' hp'.at w'
def CodeSound (P:Program)(c:Code->Bool->Nat->Fr->List Nat->Hp->Nat->RC):Prop:=
 ∀code rd fn fr ds hp nx e fr' ds' hp' nx',c code rd fn fr ds hp nx=.go e fr' ds' hp' nx'->∀fd,P.funcs.toList[fn]?=some fd->codeOk fd.ntmps code=true ->
  ∀(ρ:Option Nat) g w a,(rd=false->ρ=none)->FrOk g fd.ntmps fr ds a->Ok P g hp.at nx w->Glob P g->code.wpIn (fen ρ) 9 P (PostR P g hp w fd.ntmps e fr' ds' hp' nx') a w
section
variable {P:Program}{g:Gm}{n:Nat}{fr:Fr}{ds:List Nat}{a:Act}{hp:Hp}{nx:Nat}{w:World}
def putAt (fr:Fr)(d:Option Tmp)(v:Value)(j:Nat):Option Value:=match d with
 |some d=>if j=d then some v else fr.at j
 |none=>fr.at j
theorem putF_inv {d:Option Tmp}{v:Value}{k:Fr->RC}{r:RC}(h:putF fr (match d with|some d=>some (slot d)|none=>none) v k=r)(hn:r≠.no) :
  ∃fr',k fr'=r/\∀j,fr'.at j=putAt fr d v j:=by
 cases d with
 |none=>exact⟨fr,h,fun _=>rfl⟩
 |some d=>
  rcases Fr.set_slot fr d v k with e|⟨fr',e,ha⟩
  ·have h:Fr.set fr (slot d) v k=r:=h
   rw[e]at h;exact absurd h.symm hn
  ·exact⟨fr',by rw[<-e];exact h,ha⟩
theorem FrOk.put {fr':Fr}{d:Option Tmp}{v u:Value}(h:FrOk g n fr ds a)(hd:∀x,d=some x->Nat.blt x n=true)(hv:VR g v u)(hat:∀j,fr'.at j=putAt fr d v j):FrOk g n fr' ds (a.put d u):=by
 cases d with
 |none=>exact⟨h.size,fun i x hx=>h.fr i x (by rw[hat i]at hx;exact hx),h.ds⟩
 |some d=>
  have hlt:d<a.tmps.size:=by
   have:=hd d rfl
   rw[h.size]
   simpa[Nat.blt_eq]using this
  refine⟨by simp[Act.put,h.size],fun i x hx=>?_,h.ds⟩
  rw[hat i]at hx
  unfold putAt at hx
  simp only[Act.put,Array.getD_eq_getD_getElem?,Array.getElem?_setIfInBounds]
  by_cases e:i=d
  ·subst e
   simp only[if_true]at hx
   cases hx
   simp[hlt,hv]
  ·simp only[if_neg e]at hx
   rw[if_neg (fun e'=>e e'.symm)]
   have:=h.fr i x hx
   simp only[Array.getD_eq_getD_getElem?]at this
   exact this
def InR (g:Gm)(fr:Fr)(a:Act)(xs:List Operand):Prop:=∀i,Operand.tmp i∈xs->∀v,fr.at i=some v->VR g v (a.tmps.getD i undef)
theorem FrOk.inr (h:FrOk g n fr ds a)(xs:List Operand):InR g fr a xs:=fun i _ v hv=>h.fr i v hv
theorem opK_inv {β:Type}{x:Operand}{m r:β}{k:Value->β}(h:opK fr (argOf P x) m k=r)(hn:r≠m)(hf:InR g fr a [x])(hg:Glob P g):∃v,k v=r/\VR g v (a.eval x):=by
 cases x with
 |tmp i=>
  have h:@Option.rec Value (fun _=>β) m k (Fr.get fr (slot i))=r:=h
  obtain⟨v,hv,h⟩:=op_inv h hn
  exact⟨v,h,hf i (by simp) v (Fr.get_slot fr i hv)⟩
 |const v=>
  have h:opK fr (@Bool.rec (fun _=>Ar) .bad (.va v) (constB v)) m k=r:=h
  cases hc:constB v with
  |true=>rw[hc]at h;exact⟨v,h,const_ok g hc⟩
  |false=>rw[hc]at h;exact absurd h.symm hn
 |global b=>
  have h:opK fr (@Bool.rec (fun _=>Ar) .bad (.va (.pointer (some ⟨b,0,none⟩))) (blt b P.globals.size)) m k=r:=h
  cases hc:blt b P.globals.size with
  |true=>
   rw[hc]at h
   obtain⟨l,h1,h2,h3⟩:=hg b (blt_lt hc)
   refine⟨_,h,l,h1,?_⟩
   rw[h2,h3];rfl
  |false=>rw[hc]at h;exact absurd h.symm hn
 |func f=>exact⟨_,h,.func f,[],[],rfl,rfl,rfl,rfl⟩
theorem valsK_inv {β:Type}{m r:β}:∀{xs:List Operand}{k:List Value->β},valsK fr m (xs.map (argOf P)) k=r->r≠m->InR g fr a xs->Glob P g->∃vs,k vs=r/\VRL g vs (xs.map a.eval)
 |[],k,h,_,_,_=>⟨[],h,rfl⟩
 |x::xs,k,h,hn,hf,hg=>by
  have h:opK fr (argOf P x) m (fun v=>valsK fr m (xs.map (argOf P)) fun t=>k (v::t))=r:=h
  obtain⟨v,h,hv⟩:=opK_inv h hn (fun i hi=>hf i (by simp at hi;subst hi;simp)) hg
  obtain⟨vs,h,hvs⟩:=valsK_inv h hn (fun i hi=>hf i (List.mem_cons_of_mem _ hi)) hg
  exact⟨v::vs,h,_,_,rfl,hv,hvs⟩
end
end Go.Ev
namespace Go.Ev
open Go.RowKit
set_option linter.unusedVariables false
section
variable {P:Program}{g:Gm}{n:Nat}{fr:Fr}{ds:List Nat}{a:Act}{hp:Hp}{nx:Nat}{w:World}{o:Oper}{ρ:Option Nat}{m:Nat}{next:Act->World->Prop}{Q:Exit->Act->World->Prop}
theorem comp_defer {o:Oper}(h:comp P o.op≠.bad):∀c,o.op≠.defer c:=fun c e=>by rw[e]at h;exact h rfl
theorem OpDoes.wp {v:Value}{hp':Hp}{nx':Nat}(h:OpDoes P a.eval o g hp nx w v hp' nx')(hd:∀c,o.op≠.defer c)(k:∀u w',ResR P g hp w v hp' nx' u w'->next (a.put o.dst u) w'):o.wpIn (fen ρ) m P a w next Q:=by
 obtain⟨N,u,g',w',h1,h2,h3,h4,h5⟩:=h
 refine⟨fun _ _=>trivial,?_⟩
 rw[Oper.semAt_eq _ _ _ hd,h1]
 rcases h2 with rfl|⟨rfl,rfl⟩
 ·exact k _ _ ⟨g',h3,h4,h5⟩
 ·exact k _ _ ⟨g',h3,h4,h5⟩
theorem Does_of_pure {v u:Value}(h:VR g v u)(hr:(execOp a.eval o).run P w=.ok (.value u) w)(ho:Ok P g hp.at nx w):OpDoes P a.eval o g hp nx w v hp nx:=⟨_,u,g,w,hr,.inl rfl,h,ho,Aft.refl _ _ _⟩
theorem CallRes.wp {f:FuncId}{us:List Value}{R:Value->World->Prop}(h:CallRes P f us w R)(hd:∀c,o.op≠.defer c)(he:execOp a.eval o=callFunc f us.toArray)(k:∀u w',R u w'->next (a.put o.dst u) w'):o.wpIn (fen ρ) m P a w next Q:=by
 refine⟨fun _ _=>trivial,?_⟩
 rw[Oper.semAt_eq _ _ _ hd,he]
 rcases h with⟨h1,h2⟩|⟨u,w',h1,h2⟩
 ·rw[h1,Oper.uponIn_enter]
  refine⟨(fun e=>by cases ρ<;>cases e),callsIn_fen (h2.mono ?_)⟩
  rintro e w' ⟨u,rfl,hr⟩
  exact k u w' hr
 ·rw[h1]
  exact k u w' h2
theorem VRL.cons_inv {v:Value}{l us:List Value}(h:VRL g (v::l) us):∃u t,us=u::t/\VR g v u/\VRL g l t:=h
theorem pureI_inv {r:Option Value}{v:Value}{hp':Hp}{nx':Nat}(h:pureI r hp nx=.ok v hp' nx'):r=some v/\hp'=hp/\nx'=nx:=by
 replace h:=op_inv h on
 obtain⟨x,rfl,h⟩:=h
 cases h
 exact⟨rfl,rfl,rfl⟩
theorem allocI_inv {r:Option (VO × (Nat->Value))}{v:Value}{hp':Hp}{nx':Nat}(h:allocI r hp nx=.ok v hp' nx'):∃ob mk,r=some (ob,mk)/\v=mk nx/\nx'=nx+1/\∀j,hp'.at j=if j=nx then some ob else hp.at j:=by
 replace h:=op_inv h on
 obtain⟨⟨ob,mk⟩,rfl,h⟩:=h
 obtain⟨h',h,hat⟩:=new_inv h on
 cases h
 exact⟨ob,mk,rfl,rfl,rfl,hat⟩
theorem exec_func {dst:Option Tmp}{f:Operand}{args:Array Operand}{ats:Array TypeId}{ty:TypeId}{pos:String}{after:Array Edge}{guard:Option (Nat × Bool)}{eval:Operand->Value}{gf:FuncId}{fi ca us:List Value}(hf:eval f=.func (.func gf) ⟨fi⟩ ⟨ca⟩)(ha:args.toList.map eval=us) :
  execOp eval ⟨dst,.call ⟨.value f,args,ats⟩,ty,pos,after,guard⟩=callFunc gf (fi++(us++ca)).toArray:=by
 have e1:args.map eval=⟨us⟩:=by apply Array.ext';simpa using ha
 simp only[execOp,resolve,e1,hf,Deferred.ofValue]
 have hb:∀d:Deferred,(do let d' <-(pure d:Sem Deferred);invoke d'.target d'.args)=invoke d.target d.args:=fun _=>rfl
 rw[hb]
 simp only[invoke]
 congr 1
 apply Array.ext'
 simp
theorem viaB_ok {t:TypeId}{path:Array FieldStep}{ptr:Bool}(h:viaB P t path ptr=true)(x:Value):∀w,(receiverVia t x path ptr).run P w=.ok x w:=fun w=>by
 unfold viaB at h
 obtain⟨hp,h⟩:=br_t h (by simp)
 have hp:path=#[]:=by simpa using hp
 subst hp
 split at h
 ·rename_i e hu
  subst h
  simp[receiverVia,follow,receiverAt,run_und hu,Place.get]
 ·rename_i d hne hu
  have hb:ptr=false:=by cases ptr<;>first|rfl|cases h
  subst hb
  cases d<;>first|exact absurd rfl (hne _)|simp[receiverVia,follow,receiverAt,run_und hu,Place.get]
 ·cases h
theorem methB_ok {t:TypeId}{name:String}{f:FuncId}(h:methB P t name=some f)(x:Value):∀n w,(method (n+1) t x name).run P w=.ok (f,x) w:=fun n w=>by
 unfold methB at h
 split at h
 ·rename_i i hi
  split at h
  ·rename_i mt hm
   replace h:=br_t h sn
   obtain⟨hp,h⟩:=h
   have hp:mt.path=#[]:=by simpa using hp
   split at h
   ·rename_i f' p hf
    have hm':i.methods.find? (fun m=>m.name == name)=some mt:=by rw[<-Array.find?_toList];exact hm
    split at h
    ·rename_i e hu
     replace h:=br_t h sn
     obtain⟨hpp,h⟩:=h
     cases h
     subst hpp
     simp[method,typeInfo,hi,hm',hp,follow,hf,receiverAt,run_und hu,Place.get]
    ·rename_i d hne hu
     replace h:=br_inv h
     rcases h with⟨_,h⟩|⟨hpp,h⟩
     ·cases h
     ·cases h
      subst hpp
      have:∀wr,(receiverAt t (.val x) false wr).run P w=.ok x w:=fun wr=>by
       cases d<;>first|exact absurd rfl (hne _)|simp[receiverAt,run_und hu,Place.get]
      simp[method,typeInfo,hi,hm',hp,follow,hf,this]
    ·cases h
   ·cases h
  ·cases h
 ·cases h
def YieldSound (P:Program)(ih:Evl):Prop:=
 ∀l args hp nx v hp' nx',round ih l args hp nx=.ok v hp' nx'->∀g w us L,Ok P g hp.at nx w->Glob P g->VRL g args us->g l=some L ->
  ∃fn tmps assign body,(Instr.yield L.blk us.toArray).run P w=.ok (.round L.blk fn tmps assign body) w/\RoundIn Fence.wide 8 P L.blk fn tmps assign body w fun e w'=>∃u,e=.returned u/\ResR P g hp w v hp' nx' u w'
theorem roundIn_fen {ρ:Option Nat}{m:Nat}{l:Nat}{f:FuncId}{tmps:Array Value}{assign body:Code}{R:Ending->World->Prop}(h:RoundIn Fence.wide 8 P l f tmps assign body w R):RoundIn (fen ρ) m P l f tmps assign body w R:=
 ⟨trivial,fun c cs hr=>h.2 c cs (room_wide _)⟩
theorem via_split {g:Gm}{first cap va fi ca us rest:List Value}{x:Value}(h4:VRL g first fi)(h2:VRL g va us)(hx:first++va=x::rest):∃X R,fi++us=X::R/\VR g x X/\VRL g rest R:=by
 have:=h4.append h2
 rw[hx]at this
 obtain⟨X,R,e,k1,k2⟩:=this
 exact⟨X,R,e,k1,k2⟩
theorem callV_wp {ih:Evl}{l:List Value}{v:Value}{hp':Hp}{nx':Nat}{dst:Option Tmp}{f:Operand}{args:Array Operand}{ats:Array TypeId}{ty:TypeId}{pos:String}{after:Array Edge}{guard:Option (Nat × Bool)}
  (h:calleeV P l (fun g a=>ih.call g a hp nx) (fun l a=>round ih l a hp nx)=.ok v hp' nx') (hcs:CallSound P ih.call) (hys:YieldSound P ih) (ho:Ok P g hp.at nx w) (hg:Glob P g) (hr:VRL g l (a.eval f::args.toList.map a.eval))
  (k:∀u w',ResR P g hp w v hp' nx' u w'->next (a.put dst u) w'):(⟨dst,.call ⟨.value f,args,ats⟩,ty,pos,after,guard⟩:Oper).wpIn (fen ρ) m P a w next Q:=by
 have hd:∀c,(Op.call ⟨.value f,args,ats⟩)≠.defer c:=fun c e=>by cases e
 unfold calleeV at h
 replace h:=lst_inv h on
 obtain⟨fv,va,rfl,h⟩:=h
 obtain⟨uf,ua,e,h1,h2⟩:=hr
 injection e with e1 e2
 rw[<-e1]at h1
 rw[<-e2]at h2
 split at h
 ·rename_i fn first cap
  obtain⟨fn',fi',ca',e3,h3,h4,h5⟩:=h1
  have h4:=VRA_iff.1 h4
  have h5:=VRA_iff.1 h5
  have e5:args.map a.eval=⟨args.toList.map a.eval⟩:=by apply Array.ext';simp
  have hb:∀d:Deferred,(do let d' <-(pure d:Sem Deferred);invoke d'.target d'.args)=invoke d.target d.args:=fun _=>rfl
  split at h
  ·rename_i gf
   cases h3
   have hl:VRL g (app first.toList (app va cap.toList)) (fi'++(args.toList.map a.eval++ca')):=by
    rw[app_eq,app_eq];exact h4.append (h2.append h5)
   exact(hcs _ _ _ _ _ _ _ h g w _ ho hg hl).wp hd (exec_func e3 rfl) k
  ·rename_i b
   replace h:=br_t h on
   obtain⟨hem,h⟩:=h
   rw[Bool.and_eq_true]at hem
   obtain⟨L,hL,rfl⟩:=h3
   have hf0:first.toList=[]:=by simpa using hem.1
   have hc0:cap.toList=[]:=by simpa using hem.2
   rw[hf0]at h4
   rw[hc0]at h5
   cases(show fi'=[]from h4)
   cases(show ca'=[]from h5)
   obtain⟨fn,tmps,assign,body,hy,hround⟩:=hys _ _ _ _ _ _ _ h g w _ L ho hg h2 hL
   refine⟨fun _ _=>trivial,?_⟩
   have he:(execOp a.eval ⟨dst,.call ⟨.value f,args,ats⟩,ty,pos,after,guard⟩).run P w=.ok (.round L.blk fn tmps assign body) w:=by
    simp only[execOp,resolve,e5,e3,Deferred.ofValue]
    rw[hb]
    simp only[invoke]
    have e6:(⟨[]⟩:Array Value)++(⟨args.toList.map a.eval⟩:Array Value)=(args.toList.map a.eval).toArray:=by apply Array.ext';simp
    rw[e6]
    exact hy
   rw[Oper.semAt_eq _ _ _ hd,he,Oper.uponIn_round]
   refine⟨(fun e=>by cases ρ<;>cases e),(roundIn_fen hround).mono ?_⟩
   rintro e w' ⟨u,rfl,hres⟩
   exact k u w' hres
  ·rename_i t path gf ptr
   replace h:=br_t h on
   obtain⟨hv,h⟩:=h
   replace h:=lst_inv h on
   obtain⟨x,rest,hx,h⟩:=h
   cases h3
   rw[app_eq]at hx
   obtain⟨X,R,eX,k1,k2⟩:=via_split (cap:=[]) (ca:=[]) h4 h2 hx
   have hl:VRL g (x::rest) (X::R):=⟨X,R,rfl,k1,k2⟩
   have hres:=hcs _ _ _ _ _ _ _ h g w _ ho hg hl
   refine⟨fun _ _=>trivial,?_⟩
   have he:(execOp a.eval ⟨dst,.call ⟨.value f,args,ats⟩,ty,pos,after,guard⟩).run P w=(callFunc gf (X::R).toArray).run P w:=by
    simp only[execOp,resolve,e5,e3,Deferred.ofValue]
    rw[hb]
    have e6:(⟨fi'⟩:Array Value)++(⟨args.toList.map a.eval⟩:Array Value)=(X::R).toArray:=by apply Array.ext';simpa using eX
    simp only[invoke,e6]
    simp[viaB_ok hv X w]
   rw[Oper.semAt_eq _ _ _ hd,he]
   rcases hres with⟨q1,q2⟩|⟨u,w',q1,q2⟩
   ·rw[q1,Oper.uponIn_enter]
    refine⟨(fun e=>by cases ρ<;>cases e),callsIn_fen (q2.mono ?_)⟩
    rintro e w' ⟨u,rfl,hr⟩
    exact k u w' hr
   ·rw[q1]
    exact k u w' q2
  ·cases h
 ·cases h
theorem callI_wp {ih:Evl}{l:List Value}{v:Value}{hp':Hp}{nx':Nat}{dst:Option Tmp}{f:Operand}{name:String}{args:Array Operand}{ats:Array TypeId}{ty:TypeId}{pos:String}{after:Array Edge}{guard:Option (Nat × Bool)}
  (h:calleeI P name l (fun g a=>ih.call g a hp nx)=.ok v hp' nx') (hcs:CallSound P ih.call) (ho:Ok P g hp.at nx w) (hg:Glob P g) (hr:VRL g l (a.eval f::args.toList.map a.eval))
  (k:∀u w',ResR P g hp w v hp' nx' u w'->next (a.put dst u) w'):(⟨dst,.call ⟨.invoke f name,args,ats⟩,ty,pos,after,guard⟩:Oper).wpIn (fen ρ) m P a w next Q:=by
 have hd:∀c,(Op.call ⟨.invoke f name,args,ats⟩)≠.defer c:=fun c e=>by cases e
 unfold calleeI at h
 replace h:=lst_inv h on
 obtain⟨fv,va,rfl,h⟩:=h
 obtain⟨uf,ua,e,h1,h2⟩:=hr
 injection e with e1 e2
 rw[<-e1]at h1
 rw[<-e2]at h2
 split at h
 ·rename_i t x
  replace h:=op_inv h on
  obtain⟨gf,hm,h⟩:=h
  obtain⟨X,e3,hx⟩:=h1
  have hl:VRL g (x::va) (X::args.toList.map a.eval):=⟨X,_,rfl,hx,h2⟩
  have hres:=hcs _ _ _ _ _ _ _ h g w _ ho hg hl
  refine⟨fun _ _=>trivial,?_⟩
  have e5:args.map a.eval=⟨args.toList.map a.eval⟩:=by apply Array.ext';simp
  have he:(execOp a.eval ⟨dst,.call ⟨.invoke f name,args,ats⟩,ty,pos,after,guard⟩).run P w=(callFunc gf (X::args.toList.map a.eval).toArray).run P w:=by
   have hm':=methB_ok (P:=P) hm X (P.types.size+Made.depth-1) w
   have e7:P.types.size+Made.depth-1+1=P.types.size+Made.depth:=by
    have:0<Made.depth:=by decide
    omega
   rw[e7]at hm'
   simp[execOp,resolve,e5,e3,invoke,callMethod,hm']
   rw[List.take_of_length_le (by simp)]
  rw[Oper.semAt_eq _ _ _ hd,he]
  rcases hres with⟨q1,q2⟩|⟨u,w',q1,q2⟩
  ·rw[q1,Oper.uponIn_enter]
   refine⟨(fun e=>by cases ρ<;>cases e),callsIn_fen (q2.mono ?_)⟩
   rintro e w' ⟨u,rfl,hr⟩
   exact k u w' hr
  ·rw[q1]
   exact k u w' q2
 ·cases h
theorem call_wp {ih:Evl}{l:List Value}{v:Value}{hp':Hp}{nx':Nat}(h:callI P ih (ceOf o.op) l hp nx=.ok v hp' nx')(hcs:CallSound P ih.call)(hys:YieldSound P ih)(ho:Ok P g hp.at nx w)(hg:Glob P g)(hr:VRL g l (o.op.operands.toList.map a.eval))
  (k:∀u w',ResR P g hp w v hp' nx' u w'->next (a.put o.dst u) w'):o.wpIn (fen ρ) m P a w next Q:=by
 obtain⟨dst,op,ty,pos,after,guard⟩:=o
 cases op with
 |call c=>
  obtain⟨callee,args,ats⟩:=c
  cases callee with
  |builtin b=>cases h
  |value f=>
   have hops:(Op.operands (.call ⟨.value f,args,ats⟩)).toList.map a.eval=a.eval f::args.toList.map a.eval:=by simp[Op.operands,Call.operands]
   have hr:VRL g l (a.eval f::args.toList.map a.eval):=by rw[<-hops];exact hr
   cases f with
   |func gf=>
    have hd:∀c,(Op.call ⟨.value (.func gf),args,ats⟩)≠.defer c:=fun c e=>by cases e
    replace h:(lst l RV.no fun _ args=>ih.call gf args hp nx)=.ok v hp' nx':=h
    replace h:=lst_inv h on
    obtain⟨fv,va,rfl,h⟩:=h
    obtain⟨uf,ua,e,h1,h2⟩:=hr
    injection e with e1 e2
    rw[<-e2]at h2
    have:=exec_func (dst:=dst) (f:=.func gf) (args:=args) (ats:=ats) (ty:=ty) (pos:=pos) (after:=after) (guard:=guard) (eval:=a.eval) (gf:=gf) (fi:=[]) (ca:=[]) rfl rfl
    exact(hcs _ _ _ _ _ _ _ h g w _ ho hg h2).wp hd (by rw[this];simp) k
   |tmp i=>exact callV_wp h hcs hys ho hg hr k
   |const c=>exact callV_wp h hcs hys ho hg hr k
   |global b=>exact callV_wp h hcs hys ho hg hr k
  |invoke r name=>
   have hops:(Op.operands (.call ⟨.invoke r name,args,ats⟩)).toList.map a.eval=a.eval r::args.toList.map a.eval:=by simp[Op.operands,Call.operands]
   have hr:VRL g l (a.eval r::args.toList.map a.eval):=by rw[<-hops];exact hr
   exact callI_wp h hcs ho hg hr k
 |_=>cases h
end
end Go.Ev
namespace Go.Ev
open Go.RowKit
set_option linter.unusedVariables false
section
variable {P:Program}{g:Gm}{n:Nat}{fr:Fr}{ds:List Nat}{a:Act}{hp:Hp}{nx:Nat}{w:World}{o:Oper}{ρ:Option Nat}{m:Nat}{next:Act->World->Prop}{Q:Exit->Act->World->Prop}
theorem ins_wp {ih:Evl}{v:Value}{hp':Hp}{nx':Nat}(h:insB P ih (ceOf o.op) (o.op.operands.toList.map (argOf P)) (comp P o.op) fr hp nx=.ok v hp' nx')(hcs:CallSound P ih.call)(hys:YieldSound P ih)(hf:InR g fr a o.op.operands.toList)(ho:Ok P g hp.at nx w)(hg:Glob P g)
  (k:∀u w',ResR P g hp w v hp' nx' u w'->next (a.put o.dst u) w'):o.wpIn (fen ρ) m P a w next Q:=by
 unfold insB at h
 obtain⟨l,h1,hr⟩:=valsK_inv h on hf hg
 clear h
 cases hc:comp P o.op with
 |pure f=>
  rw[hc]at h1
  replace h1:pureI (f l) hp nx=.ok v hp' nx':=h1
  obtain⟨h2,rfl,rfl⟩:=pureI_inv h1
  obtain⟨u,h3,h4⟩:=pure_ok hc h2 hr
  exact(Does_of_pure h3 (h4 w) ho).wp (comp_defer (by rw[hc];simp)) k
 |alloc f=>
  rw[hc]at h1
  replace h1:allocI (f l) hp nx=.ok v hp' nx':=h1
  obtain⟨ob,mk,h2,rfl,rfl,hat⟩:=allocI_inv h1
  exact((alloc_ok hc h2 hr).does ho hat).wp (comp_defer (by rw[hc];simp)) k
 |read f=>
  rw[hc]at h1
  replace h1:pureI (f l hp) hp nx=.ok v hp' nx':=h1
  obtain⟨h2,rfl,rfl⟩:=pureI_inv h1
  obtain⟨u,h3,h4⟩:=read_ok hc h2 ho.toW hr
  exact(Does_of_pure h3 h4 ho).wp (comp_defer (by rw[hc];simp)) k
 |eff f=>
  rw[hc]at h1
  exact(eff_ok hc h1 ho hr).wp (comp_defer (by rw[hc];simp)) k
 |call=>
  rw[hc]at h1
  exact call_wp h1 hcs hys ho hg hr k
 |bad=>rw[hc]at h1;cases h1
def boolO (v:Option Value):Option Bool:=match v with
 |some (.bool b)=>some b
 |_=>none
theorem yielded_eq (ops:Array Oper)(tmps:Array Value)(j:Nat):yielded ops tmps j=boolO (((ops[j]?).bind (·.dst)).bind (tmps[·]?)):=rfl
theorem boolO_getD (tmps:Array Value)(d:Nat):boolO tmps[d]?=boolO (some (tmps.getD d undef)):=by
 rw[Array.getD_eq_getD_getElem?]
 cases tmps[d]?<;>rfl
theorem want_ok {v u:Value}{b:Bool}(h:VR g v u):(boolO (some u) == some b)=wantV v b:=by
 cases v with
 |bool c=>cases h.bool;cases c<;>cases b<;>rfl
 |pointer p=>obtain⟨q,rfl,_⟩:=h.ptr_form;rfl
 |slice p i c=>obtain⟨q,c',rfl,_⟩:=h.slice_form;rfl
 |map p=>obtain⟨q,rfl,_⟩:=h.map_form;rfl
 |func fn fi ca=>obtain⟨_,_,_,rfl,_⟩:=h;rfl
 |iface t v=>obtain⟨_,rfl,_⟩:=h;rfl
 |agg cs=>obtain⟨_,rfl,_⟩:=h;rfl
 |tuple cs=>obtain⟨_,rfl,_⟩:=h;rfl
 |float=>exact h.elim
 |complex=>exact h.elim
 |chan=>exact h.elim
 |int k z=>cases h.int;rfl
 |string s=>cases h.str;rfl
 |nilFunc=>cases(show u=_ from h);rfl
 |nilIface=>cases(show u=_ from h);rfl
theorem wanted_inv {ops:Array Oper}{k:Bool->RC}{r:RC}(h:wanted (guardOf ops o) fr k=r)(hn:r≠.no)(hf:∀j b o' d,o.guard=some (j,b)->ops[j]?=some o'->o'.dst=some d->∀v,fr.at d=some v->VR g v (a.tmps.getD d undef)):k (Region.wanted o (yielded ops a.tmps))=r:=by
 cases hgd:o.guard with
 |none=>
  have e1:guardOf ops o=.always:=by unfold guardOf;rw[hgd]
  rw[e1]at h
  have e2:Region.wanted o (yielded ops a.tmps)=true:=by unfold Region.wanted;rw[hgd]
  rw[e2];exact h
 |some jb=>
  obtain⟨j,b⟩:=jb
  have e2:Region.wanted o (yielded ops a.tmps)=(yielded ops a.tmps j == some b):=by unfold Region.wanted;rw[hgd]
  rw[e2]
  unfold guardOf at h
  rw[hgd]at h
  simp only at h
  split at h
  ·rename_i o' hj
   split at h
   ·rename_i d hd
    replace h:=op_inv h hn
    obtain⟨v,hv,h⟩:=h
    have hj':ops[j]?=some o':=by rw[<-Array.getElem?_toList];exact hj
    have hvr:=hf j b o' d hgd hj' hd v (Fr.get_slot fr d hv)
    rw[yielded_eq,hj']
    simp only[Option.bind_some,hd]
    rw[boolO_getD,want_ok hvr]
    exact h
   ·exact absurd h.symm hn
  ·exact absurd h.symm hn
end
end Go.Ev
namespace Go.Ev
open Go.RowKit
set_option linter.unusedVariables false
section
variable {P:Program}{F:Fence}{n:Nat}{Q:Exit->Act->World->Prop}{a:Act}{w:World}
theorem wpIn_scope {c:Code}(h:c.wpIn F n P (Exit.noGoto Q) a w):(Code.scope c).wpIn F n P Q a w:=by
 intro b k cs hro hb hr
 have h0:(lone (b.atR a (.code (.scope c)::k)) cs w).fenced P F:=fenced_calm hb hr rfl
 have s0:step P (lone (b.atR a (.code (.scope c)::k)) cs w)=.next (lone (b.atR a (.code c::.inScope c::k)) cs w):=step_lone_go (by simp[stepG,stepG.exec,Frame.atR])
 obtain⟨e,a₁,w₁,hq,harr⟩:=h b (.inScope c::k) cs hro hb hr
 cases e with
 |normal=>
  have s1:step P (lone (b.atR a₁ (.inScope c::k)) cs w₁)=.next (lone (b.atR a₁ k) cs w₁):=step_lone_go (by simp[stepG,stepG.exec,Frame.atR])
  exact⟨.normal,a₁,w₁,hq,.head h0 s0 (StepsIn.trans harr (.one (fenced_calm hb hr rfl) s1))⟩
 |exit id=>
  have hx:exitTo id (.inScope c::k)=exitTo id k:=by simp[exitTo]
  exact⟨.exit id,a₁,w₁,hq,fun k' hk=>.head h0 s0 (harr.1 k' (by rw[hx];exact hk)),fun hr' hk=>let ⟨k₁,h1,h2⟩:=harr.2 hr' (by rw[hx];exact hk);⟨k₁,h1,.head h0 s0 h2⟩⟩
 |goto l=>exact hq.elim
 |ret=>exact⟨_,a₁,w₁,hq,.of_steps (.one h0 s0) harr⟩
 |panic ch=>exact⟨_,a₁,w₁,hq,.of_steps (.one h0 s0) harr⟩
 |outgrown=>exact⟨_,a₁,w₁,hq,.of_steps (.one h0 s0) harr⟩
end
section
variable {P:Program}{g g1:Gm}{n:Nat}{fr:Fr}{ds:List Nat}{a:Act}{hp hp1:Hp}{nx nx1:Nat}{w w1:World}{ρ:Option Nat}{m:Nat}{Q:Exit->Act->World->Prop}{e:Ex}{fr':Fr}{ds':List Nat}{hp':Hp}{nx':Nat}{x:Exit}
theorem PostR.after (h:Aft g hp.at w g1 hp1.at w1){a':Act}{w':World}(k:PostR P g1 hp1 w1 n e fr' ds' hp' nx' x a' w'):PostR P g hp w n e fr' ds' hp' nx' x a' w':=by
 obtain⟨h1,g',h2,h3,h4⟩:=k
 exact⟨h1,g',h2,h3,h.trans h4⟩
theorem PostR.here {g':Gm}{hp':Hp}{fr':Fr}{ds':List Nat}{nx':Nat}{a':Act}{w':World}(h1:FrOk g' n fr' ds' a')(h2:Ok P g' hp'.at nx' w')(h3:Aft g hp.at w g' hp'.at w'):PostR P g hp w n .normal fr' ds' hp' nx' .normal a' w':=⟨rfl,g',h1,h2,h3⟩
theorem rv_inv {r:RV}{k:Value->Hp->Nat->RC}{res:RC}(h:@RV.rec (fun _=>RC) .no (fun v h n=>k v h n) r=res)(hn:res≠.no):∃v hp nx,r=.ok v hp nx/\k v hp nx=res:=by
 cases r with
 |no=>exact absurd h.symm hn
 |ok v hp nx=>exact⟨v,hp,nx,rfl,h⟩
theorem gon {e:Ex}{fr:Fr}{ds:List Nat}{hp:Hp}{nx:Nat}:RC.go e fr ds hp nx≠.no:=by simp
theorem wanted_n {gd:Gd}{k:Bool->RC}{r:RC}(h:wanted gd fr k=r)(hn:r≠.no):∃b,k b=r:=by
 cases gd with
 |always=>exact⟨true,h⟩
 |bad=>exact absurd h.symm hn
 |«at» d p b=>
  replace h:=op_inv h hn
  obtain⟨v,_,h⟩:=h
  exact⟨_,h⟩
noncomputable def dsl (o:Oper):Option Sl:=match o.dst with|some d=>some (slot d)|none=>none
theorem opsB_cons {ih:Evl}{ops:Array Oper}(o:Oper)(os:List Oper)(fr:Fr)(hp:Hp)(nx:Nat):opsB P ih ds ((o::os).map fun o=>piOf P ops 0 o 0) fr hp nx=wanted (guardOf ops o) fr (fun b=>@Bool.rec (fun _=>RC) (putF fr (dsl o) undef fun fr=>opsB P ih ds (os.map fun o=>piOf P ops 0 o 0) fr hp nx)
   (@RV.rec (fun _=>RC) .no (fun v h n=>putF fr (dsl o) v fun fr=>opsB P ih ds (os.map fun o=>piOf P ops 0 o 0) fr h n) (insB P ih (ceOf o.op) (o.op.operands.toList.map (argOf P)) (comp P o.op) fr hp nx)) b):=rfl
theorem opsB_n {ih:Evl}{ops:Array Oper}:∀(os:List Oper){fr:Fr}{hp:Hp}{nx:Nat},opsB P ih ds (os.map fun o=>piOf P ops 0 o 0) fr hp nx=.go e fr' ds' hp' nx'->e=.normal
 |[],fr,hp,nx,h=>by cases h;rfl
 |o::os,fr,hp,nx,h=>by
  rw[opsB_cons]at h
  replace h:=wanted_n h gon
  obtain⟨b,h⟩:=h
  cases b with
  |false=>
   replace h:=putF_inv h gon
   obtain⟨fr1,h,_⟩:=h
   exact opsB_n os h
  |true=>
   replace h:=rv_inv h gon
   obtain⟨v,hp1,nx1,hi,h⟩:=h
   replace h:=putF_inv h gon
   obtain⟨fr1,h,_⟩:=h
   exact opsB_n os h
theorem opsB_ok {ih:Evl}(hcs:CallSound P ih.call)(hys:YieldSound P ih){ops:Array Oper}:∀(os:List Oper){fr:Fr}{hp:Hp}{nx:Nat}{g:Gm}{a:Act}{w:World},opsB P ih ds (os.map fun o=>piOf P ops 0 o 0) fr hp nx=.go e fr' ds' hp' nx' ->
  (∀o∈os,∀d,o.dst=some d->Nat.blt d n=true)->FrOk g n fr ds a->Ok P g hp.at nx w->Glob P g->(∀a' w',PostR P g hp w n e fr' ds' hp' nx' .normal a' w'->Q .normal a' w')->wpListIn (fen ρ) m P ops Q os a w
 |[],fr,hp,nx,g,a,w,h,hd,hf,ho,hg,k=>by
  cases h
  exact k _ _ (PostR.here hf ho (Aft.refl _ _ _))
 |o::os,fr,hp,nx,g,a,w,h,hd,hf,ho,hg,k=>by
  have hd0:∀d,o.dst=some d->Nat.blt d n=true:=hd o (by simp)
  have hd1:∀o∈os,∀d,o.dst=some d->Nat.blt d n=true:=fun o h=>hd o (by simp[h])
  rw[opsB_cons]at h
  replace h:=wanted_inv h gon (fun _ _ _ d _ _ _ v hv=>hf.fr d v hv)
  show(if Region.wanted o (yielded ops a.tmps)then o.wpIn (fen ρ) m P a w (wpListIn (fen ρ) m P ops Q os) Q else(∀f,o.about P w a.eval=some f->(fen ρ).fn f)/\wpListIn (fen ρ) m P ops Q os (a.put o.dst undef) w)
  cases hw:Region.wanted o (yielded ops a.tmps)with
  |false=>
   rw[hw]at h
   replace h:=putF_inv h gon
   obtain⟨fr1,h,hat⟩:=h
   exact⟨fun _ _=>trivial,opsB_ok hcs hys os h hd1 (hf.put hd0 (undef_vr g) hat) ho hg k⟩
  |true=>
   rw[hw]at h
   replace h:=rv_inv h gon
   obtain⟨v,hp1,nx1,hi,h⟩:=h
   replace h:=putF_inv h gon
   obtain⟨fr1,h,hat⟩:=h
   refine ins_wp hi hcs hys (hf.inr _) ho hg fun u w1 hr=>?_
   obtain⟨g1,h1,h2,h3⟩:=hr
   exact opsB_ok hcs hys os h hd1 ((hf.mono h3.ext).put hd0 h1 hat) h2 (hg.mono h3.ext) (fun a' w' hp=>k a' w' (PostR.after h3 hp))
end
end Go.Ev
namespace Go.Ev
open Go.RowKit
set_option linter.unusedVariables false
def stepM (acc:Array Nat)(o:Oper):Nat:=o.after.foldl (fun s e=>if Region.binds .any e then s ||| 2 ^ e.on ||| acc.getD e.on 0 else s) 0
theorem foldM_bits (acc:Array Nat)(j:Nat):∀(l:List Edge)(s:Nat),(l.foldl (fun s e=>if Region.binds .any e then s ||| 2 ^ e.on ||| acc.getD e.on 0 else s) s).testBit j=true↔s.testBit j=true\/∃e∈l,Region.binds .any e=true/\(j=e.on\/(acc.getD e.on 0).testBit j=true)
 |[],s=>by simp
 |e::l,s=>by
  rw[List.foldl_cons,foldM_bits acc j l]
  constructor
  ·rintro (h|⟨e',h1,h2⟩)
   ·split at h
    ·rename_i hb
     rw[Nat.testBit_or,Nat.testBit_or,Bool.or_eq_true,Bool.or_eq_true]at h
     rcases h with(h|h)|h
     ·exact .inl h
     ·rw[Nat.testBit_two_pow]at h
      have h:e.on=j:=by simpa using h
      exact .inr ⟨e,by simp,hb,.inl h.symm⟩
     ·exact .inr ⟨e,by simp,hb,.inr h⟩
    ·exact .inl h
   ·exact .inr ⟨e',by simp[h1],h2⟩
  ·rintro (h|⟨e',h1,hb,h2⟩)
   ·left
    split
    ·rw[Nat.testBit_or,Nat.testBit_or,h];rfl
    ·exact h
   ·rcases List.mem_cons.1 h1 with rfl|h1
    ·left
     rw[if_pos hb,Nat.testBit_or,Nat.testBit_or]
     rcases h2 with rfl|h2
     ·rw[Nat.testBit_two_pow];simp
     ·rw[h2];simp
    ·exact .inr ⟨e',h1,hb,h2⟩
theorem stepM_bits (acc:Array Nat)(o:Oper)(j:Nat):(stepM acc o).testBit j=true↔∃e∈o.after.toList,Region.binds .any e=true/\(j=e.on\/(acc.getD e.on 0).testBit j=true):=by
 unfold stepM
 rw[<-Array.foldl_toList,foldM_bits]
 simp
theorem foldB_spec:∀(l:List Oper)(acc:Array Nat),(l.foldl (fun acc o=>acc.push (stepM acc o)) acc).size=acc.size+l.length/\(∀i,i<acc.size->(l.foldl (fun acc o=>acc.push (stepM acc o)) acc).getD i 0=acc.getD i 0) /\
  ∀k o,l[k]?=some o->∃acc':Array Nat,acc'.size=acc.size+k/\(∀i,i<acc'.size->acc'.getD i 0=(l.foldl (fun acc o=>acc.push (stepM acc o)) acc).getD i 0)/\(l.foldl (fun acc o=>acc.push (stepM acc o)) acc).getD (acc.size+k) 0=stepM acc' o
 |[],acc=>by simp
 |o::l,acc=>by
  obtain⟨h1,h2,h3⟩:=foldB_spec l (acc.push (stepM acc o))
  rw[List.foldl_cons]
  refine⟨by rw[h1];simp;omega,fun i hi=>?_,fun k o' hk=>?_⟩
  ·rw[h2 i (by simp;omega)]
   simp[Array.getElem?_push,Nat.ne_of_lt hi]
  ·cases k with
   |zero=>
    simp at hk
    subst hk
    refine⟨acc,rfl,fun i hi=>?_,?_⟩
    ·rw[h2 i (by simp;omega)]
     simp[Array.getElem?_push,Nat.ne_of_lt hi]
    ·rw[h2 _ (by simp)]
     simp
   |succ k=>
    obtain⟨acc',h4,h5,h6⟩:=h3 k o' (by simpa using hk)
    refine⟨acc',by rw[h4];simp;omega,h5,?_⟩
    rw[<-h6]
    congr 1
    simp;omega
def Bf (ops:Array Oper)(i j:Nat):Prop:=((Region.before ops).toList.getD i 0).testBit j=true
section
variable {ops:Array Oper}
theorem before_get {i:Nat}{o:Oper}(h:ops[i]?=some o):∃acc':Array Nat,acc'.size=i/\(∀k,k<i->acc'.getD k 0=(Region.before ops).toList.getD k 0)/\(Region.before ops).toList.getD i 0=stepM acc' o:=by
 have he:Region.before ops=ops.toList.foldl (fun acc o=>acc.push (stepM acc o)) #[]:=by
  unfold Region.before stepM
  rw[<-Array.foldl_toList]
 obtain⟨_,_,h3⟩:=foldB_spec ops.toList #[]
 obtain⟨acc',h4,h5,h6⟩:=h3 i o (by rw[Array.getElem?_toList];exact h)
 rw[<-he]at h5 h6
 have hg:∀k,(Region.before ops).toList.getD k 0=(Region.before ops).getD k 0:=fun k=>by simp[List.getD_eq_getElem?_getD,Array.getD_eq_getD_getElem?]
 refine⟨acc',by simpa using h4,fun k hk=>?_,?_⟩
 ·rw[hg];exact h5 k (by rw[h4];simpa using hk)
 ·rw[hg,<-h6];simp
theorem before_size:(Region.before ops).toList.length=ops.size:=by
 have he:Region.before ops=ops.toList.foldl (fun acc o=>acc.push (stepM acc o)) #[]:=by
  unfold Region.before stepM
  rw[<-Array.foldl_toList]
 obtain⟨h1,_,_⟩:=foldB_spec ops.toList #[]
 rw[he,Array.length_toList,h1];simp
theorem bf_edge {i:Nat}{o:Oper}{e:Edge}(h:ops[i]?=some o)(he:e∈o.after)(hb:Region.binds .any e=true):Bf ops i e.on:=by
 obtain⟨acc',h1,h2,h3⟩:=before_get h
 unfold Bf
 rw[h3,stepM_bits]
 exact⟨e,by simpa using he,hb,.inl rfl⟩
theorem bf_inv {i j:Nat}(h:Bf ops i j):∃o,ops[i]?=some o/\∃e∈o.after,Region.binds .any e=true/\(j=e.on\/(e.on<i/\Bf ops e.on j)):=by
 cases ho:ops[i]? with
 |none=>
  unfold Bf at h
  rw[List.getD_eq_getElem?_getD,List.getElem?_eq_none (by rw[before_size];simpa using ho)]at h
  simp at h
 |some o=>
  obtain⟨acc',h1,h2,h3⟩:=before_get ho
  have h':=h
  unfold Bf at h
  rw[h3,stepM_bits]at h
  obtain⟨e,he,hb,h⟩:=h
  refine⟨o,rfl,e,by simpa using he,hb,?_⟩
  rcases h with h|h
  ·exact .inl h
  ·right
   by_cases hlt:e.on<i
   ·refine⟨hlt,?_⟩
    unfold Bf
    rw[<-h2 _ hlt];exact h
   ·rw[Array.getD_eq_getD_getElem?,Array.getElem?_eq_none (by omega)]at h
    simp at h
theorem bf_sub {X:Nat->Prop}(hX:∀i,X i->∀o,ops[i]?=some o->∀e∈o.after,Region.binds .any e=true->X e.on):∀i,X i->∀j,Bf ops i j->X j:=fun i=>by
 induction i using Nat.strongRecOn with
 |_ i ih=>
  intro hi j hj
  obtain⟨o,ho,e,he,hb,h⟩:=bf_inv hj
  have hx:=hX i hi o ho e he hb
  rcases h with rfl|⟨hlt,h⟩
  ·exact hx
  ·exact ih _ hlt hx j h
noncomputable def effAt (P:Program)(ops:Array Oper)(i:Nat):Bool:=match ops[i]? with
 |some o=>isEff (comp P o.op)
 |none=>false
structure PlAt (P:Program)(ops:Array Oper)(pre:List Nat)(i:Nat)(o:Oper):Prop where
 bef:∀j,Bf ops i j->j∈pre
 new:i∉pre
 eff:isEff (comp P o.op)=true->∀j∈pre,Bf ops i j
 inp:∀u∈tmpsOf ops o,∀j∈pre,∀oj,ops[j]?=some oj->oj.dst=some u->Bf ops i j
 self:∀d,o.dst=some d->d∉tmpsOf ops o
 rd:∀d,o.dst=some d->∀j∈pre,∀oj,ops[j]?=some oj->d∈tmpsOf ops oj->Bf ops i j
 wr:∀d,o.dst=some d->∀j∈pre,∀oj,ops[j]?=some oj->oj.dst≠some d
theorem planChk_ok {P:Program}{pre:List Nat}{i done:Nat}{o:Oper}{wr rd:List (Nat × Nat)}(h:planChk ((Region.before ops).toList.getD i 0) done i (isEff (comp P o.op)) (tmpsOf ops o) o.dst wr rd=true)
  (hd:∀j,done.testBit j=true↔j∈pre) (hw:∀j∈pre,∀oj,ops[j]?=some oj->∀d,oj.dst=some d->(d,j)∈wr) (hr:∀j∈pre,∀oj,ops[j]?=some oj->∀d∈tmpsOf ops oj,(d,j)∈rd):PlAt P ops pre i o:=by
 unfold planChk at h
 simp only[Bool.and_eq_true,Bool.not_eq_true',Bool.or_eq_true,List.all_eq_true,bne_iff_ne,beq_iff_eq]at h
 obtain⟨⟨⟨⟨h1,h2⟩,h3⟩,h4⟩,h5⟩:=h
 have hdst:∀d,o.dst=some d->(tmpsOf ops o).contains d=false/\(∀r∈rd,r.1≠d\/((Region.before ops).toList.getD i 0).testBit r.2=true)/\∀w∈wr,w.1≠d:=fun d hd=>by
  rw[hd]at h5
  simp only[Bool.and_eq_true,Bool.not_eq_true',Bool.or_eq_true,List.all_eq_true,bne_iff_ne]at h5
  exact⟨h5.1.1,h5.1.2,h5.2⟩
 refine⟨fun j hj=>(hd j).1 ?_,fun hi=>?_,fun he j hj=>?_,fun u hu j hj oj ho hdj=>?_,fun d hdd hm=>?_,fun d hdd j hj oj ho hm=>?_,fun d hdd j hj oj ho hm=>?_⟩
 ·unfold Bf at hj
  rw[<-h1,Nat.testBit_and,Bool.and_eq_true]at hj
  exact hj.2
 ·rw[(hd i).2 hi]at h2;cases h2
 ·rcases h3 with h3|h3
  ·rw[he]at h3;cases h3
  ·unfold Bf;rw[h3];exact(hd j).2 hj
 ·rcases h4 u hu (u,j) (hw j hj oj ho u hdj)with h|h
  ·exact absurd rfl h
  ·exact h
 ·have:=(hdst d hdd).1
  simp at this
  exact this hm
 ·rcases (hdst d hdd).2.1 (d,j) (hr j hj oj ho d hm)with h|h
  ·exact absurd rfl h
  ·exact h
 ·exact(hdst d hdd).2.2 (d,j) (hw j hj oj ho d hm) rfl
noncomputable def moreOf (P:Program)(ops:Array Oper)(pre:List Nat)(i:Nat):Nat:=((pre.reverse.filter (effAt P ops)).takeWhile fun j=>!((Region.before ops).toList.getD i 0).testBit j).length
theorem planGo_spec {P:Program}:∀(l pre:List Nat)(done:Nat)(es:List Nat)(wr rd:List (Nat × Nat))(r:List PI),planGo P ops (Region.before ops).toList l done es wr rd=some r ->
  (∀j,done.testBit j=true↔j∈pre)->es=pre.reverse.filter (effAt P ops)->(∀j∈pre,∀oj,ops[j]?=some oj->∀d,oj.dst=some d->(d,j)∈wr)->(∀j∈pre,∀oj,ops[j]?=some oj->∀d∈tmpsOf ops oj,(d,j)∈rd) ->
  r.length=l.length/\(∀p i,l[p]?=some i->∃o,ops[i]?=some o/\PlAt P ops (pre++l.take p) i o/\r[p]?=some (piOf P ops i o (moreOf P ops (pre++l.take p) i)))/\∀j,j<ops.size->j∈pre++l
 |[],pre,done,es,wr,rd,r,h,hd,he,hw,hr=>by
  unfold planGo at h
  split at h
  ·rename_i hc
   cases h
   refine⟨rfl,fun p i hp=>by simp at hp,fun j hj=>?_⟩
   have hc:done=2 ^ ops.size-1:=by
    have:=beq_iff_eq.1 hc
    omega
   rw[List.append_nil,<-hd,hc,Nat.testBit_two_pow_sub_one]
   simpa using hj
  ·cases h
 |i::l,pre,done,es,wr,rd,r,h,hd,he,hw,hr=>by
  unfold planGo at h
  split at h
  ·cases h
  ·rename_i o ho
   have ho':ops[i]?=some o:=by rw[<-Array.getElem?_toList];exact ho
   split at h
   ·rename_i hc
    split at h
    ·rename_i r' hr'
     cases h
     have hat:=planChk_ok hc hd hw hr
     have hd':∀j,(done ||| 2 ^ i).testBit j=true↔j∈pre++[i]:=fun j=>by
      rw[Nat.testBit_or,Bool.or_eq_true,hd,Nat.testBit_two_pow]
      simp[eq_comm]
     have he':(if isEff (comp P o.op)then i::es else es)=(pre++[i]).reverse.filter (effAt P ops):=by
      rw[List.reverse_append,List.reverse_singleton,List.singleton_append,List.filter_cons]
      have:effAt P ops i=isEff (comp P o.op):=by unfold effAt;rw[ho']
      rw[this]
      split<;>simp[he]
     have hw':∀j∈pre++[i],∀oj,ops[j]?=some oj->∀d,oj.dst=some d->(d,j)∈wrOf o i++wr:=by
      intro j hj oj hoj d hdj
      rcases List.mem_append.1 hj with hj|hj
      ·exact List.mem_append_right _ (hw j hj oj hoj d hdj)
      ·simp at hj
       subst hj
       rw[ho']at hoj;cases hoj
       refine List.mem_append_left _ ?_
       unfold wrOf
       rw[hdj];simp
     have hr2:∀j∈pre++[i],∀oj,ops[j]?=some oj->∀d∈tmpsOf ops oj,(d,j)∈(tmpsOf ops o).map (·,i)++rd:=by
      intro j hj oj hoj d hdj
      rcases List.mem_append.1 hj with hj|hj
      ·exact List.mem_append_right _ (hr j hj oj hoj d hdj)
      ·simp at hj
       subst hj
       rw[ho']at hoj;cases hoj
       exact List.mem_append_left _ (List.mem_map.2 ⟨d,hdj,rfl⟩)
     obtain⟨k1,k2,k3⟩:=planGo_spec l (pre++[i]) _ _ _ _ r' hr' hd' he' hw' hr2
     refine⟨by simp[k1],fun p j hp=>?_,fun j hj=>by simpa using k3 j hj⟩
     cases p with
     |zero=>
      simp at hp
      subst hp
      refine⟨o,ho',by simpa using hat,?_⟩
      simp[moreOf,he]
     |succ p=>
      obtain⟨oj,q1,q2,q3⟩:=k2 p j (by simpa using hp)
      refine⟨oj,q1,by simpa using q2,by simpa using q3⟩
    ·cases h
   ·cases h
end
end Go.Ev
namespace Go.Ev
open Go.RowKit
set_option linter.unusedVariables false
def below (g:Gm)(n:Nat):Gm:=fun i=>if i<n then g i else none
theorem below_some {g:Gm}{n i:Nat}{l:Loc}:below g n i=some l↔i<n/\g i=some l:=by
 unfold below
 split
 ·rename_i h;simp[h]
 ·rename_i h;simp[h]
theorem below_none {g:Gm}{n i:Nat}(h:n<=i):below g n i=none:=by
 unfold below;rw[if_neg (by omega)]
theorem ext_below (g:Gm)(n:Nat):Ext (below g n) g:=fun i l h=>(below_some.1 h).2
theorem below_mono {g g':Gm}{m n:Nat}(he:Ext g g')(h:m<=n):Ext (below g m) (below g' n):=fun i l k=>by
 rw[below_some]at *
 exact⟨by omega,he _ _ k.2⟩
structure OkX (P:Program)(g:Gm)(M:Mem)(s:Nat)(w:World):Prop where
 den:∀id o,M id=some o->liveO o=true->∃l O,g id=some l/\w.heap[l.blk]?=some O/\ObjAt P (below g (max s (id+1))) l o O
 sep:∀id id' o o' l l',M id=some o->M id'=some o'->id≠id'->wr o=true->liveO o'=true->g id=some l->g id'=some l'->l.blk≠l'.blk
section
variable {P:Program}{g g':Gm}{M H0 H0':Mem}{s q q':Nat}{w w':World}
theorem OkX.toW (h:OkX P g M s w):OkW P g M w:=⟨fun id o h1 h2=>let ⟨l,O,k1,k2,k3⟩:=h.den id o h1 h2;⟨l,O,k1,k2,k3.mono (ext_below _ _)⟩,h.sep⟩
theorem OkX.up (h:OkX P g M s w)(hq:s<=q):OkX P g M q w:=⟨fun id o h1 h2=>let ⟨l,O,k1,k2,k3⟩:=h.den id o h1 h2;⟨l,O,k1,k2,k3.mono (below_mono (Ext.refl g) (by omega))⟩,h.sep⟩
theorem OkX.ok (h:OkX P g M s w)(hq:s<=q)(hs:∀j x,H0 j=some x->liveO x=true->M j=some x)(h0:∀j x,H0 j=some x->liveO x=true->j<q):Ok P (below g q) H0 q w:=by
 refine⟨fun id o h1 h2=>?_,fun id id' o o' l l' h1 h2 hne hw hl hg hg'=>?_,fun id hid=>below_none hid⟩
 ·obtain⟨l,O,k1,k2,k3⟩:=h.den id o (hs id o h1 h2) h2
  have hlt:=h0 id o h1 h2
  exact⟨l,O,below_some.2 ⟨hlt,k1⟩,k2,k3.mono (below_mono (Ext.refl g) (by omega))⟩
 ·exact h.sep id id' o o' l l' (hs id o h1 (live_of_wr hw)) (hs id' o' h2 hl) hne hw hl (below_some.1 hg).2 (below_some.1 hg').2
def joinG (g g':Gm)(q:Nat):Gm:=fun i=>if i<q then g' i else g i
def joinM (M H:Mem)(q:Nat):Mem:=fun i=>if i<q then H i else M i
theorem ext_joinG (he:Ext (below g q) g')(hn:∀id,q<=id->id<q'->g id=none)(hqq:q<=q'):Ext g (joinG g g' q'):=fun i l h=>by
 unfold joinG
 split
 ·refine he i l (below_some.2 ⟨?_,h⟩)
  apply Nat.lt_of_not_le
  intro hle
  rw[hn i hle (by assumption)]at h;cases h
 ·exact h
theorem OkX.eff (h:OkX P g M s w)(hsq:s<=q)(hqq:q<=q')(hs:∀j x,H0 j=some x->liveO x=true->M j=some x)(h0:∀j x,H0 j=some x->liveO x=true->j<q)(hn:∀id,q<=id->id<q'->g id=none)
  (h':Ok P g' H0' q' w') (a:Aft (below g q) H0 w g' H0' w'):OkX P (joinG g g' q') (joinM M H0' q') q' w'/\Aft g M w (joinG g g' q') (joinM M H0' q') w'/\Ext g (joinG g g' q')/\Ext g' (below (joinG g g' q') q'):=by
 have e2:Ext g (joinG g g' q'):=ext_joinG a.ext hn hqq
 have e1:Ext g' (below (joinG g g' q') q'):=fun i l hi=>by
  have hlt:i<q':=h'.idlt hi
  rw[below_some]
  refine⟨hlt,?_⟩
  unfold joinG;rw[if_pos hlt];exact hi
 have e1':Ext g' (joinG g g' q'):=e1.trans (ext_below _ _)
 have hH:∀j x,joinM M H0' q' j=some x->H0' j=some x\/((∀y,H0 j=some y->liveO y=false)/\M j=some x):=fun j x hj=>by
  unfold joinM at hj
  split at hj
  ·exact .inl hj
  ·rename_i hlt
   refine .inr ⟨fun y hy=>?_,hj⟩
   cases hl:liveO y with
   |false=>rfl
   |true=>have:=h0 j y hy hl;omega
 obtain⟨k1,k2,k3⟩:=h.toW.frame hs (ext_below g q) h'.toW a e1' e2 hH
 refine⟨⟨fun j x hx hl=>?_,k1.sep⟩,k2,e2,e1⟩
 rcases hH j x hx with hx'|⟨hn',hx'⟩
 ·obtain⟨l,O,h1,h2,h3⟩:=h'.den j x hx' hl
  exact⟨l,O,e1' _ _ h1,h2,h3.mono (e1.trans (below_mono (Ext.refl _) (by omega)))⟩
 ·obtain⟨l,O,h1,_,h2,_⟩:=k3 j x hx' hl hn'
  obtain⟨l',O',q1,q2,q3⟩:=h.den j x hx' hl
  rw[h1]at q1;cases q1
  obtain⟨_,_,_,q4,_⟩:=k3 j x hx' hl hn'
  refine⟨l,O,e2 _ _ h1,h2,?_⟩
  obtain⟨l2,O2,p1,p2,p3,p4⟩:=k3 j x hx' hl hn'
  rw[h1]at p1;cases p1
  rw[p3]at h2;cases h2
  rw[p2]at q2;cases q2
  exact q3.mono (below_mono e2 (by omega))
theorem OkX.new {n:Nat}{ob:VO}{O:Obj}{cap esz:Nat}(h:OkX P g M s w)(hn:g n=none)(ho:∀g',Ext (below g n) g'->ObjAt P g' ⟨w.heap.size,0,cap,esz⟩ ob O) :
  OkX P (setG g n ⟨w.heap.size,0,cap,esz⟩) (fun j=>if j=n then some ob else M j) s (w.alloc O)/\Aft g M w (setG g n ⟨w.heap.size,0,cap,esz⟩) (fun j=>if j=n then some ob else M j) (w.alloc O):=by
 have he:Ext g (setG g n ⟨w.heap.size,0,cap,esz⟩):=ext_setG hn
 have lt:∀j x l,M j=some x->liveO x=true->g j=some l->l.blk<w.heap.size:=fun j x l h1 h2 h3=>by
  obtain⟨l',O',k1,k2,_⟩:=h.den j x h1 h2
  rw[h3]at k1;cases k1
  exact lt_of_heap k2
 have old:∀j x lx,(if j=n then some ob else M j)=some x->setG g n ⟨w.heap.size,0,cap,esz⟩ j=some lx->j≠n->M j=some x/\g j=some lx:=fun j x lx h1 h2 hne=>by
  rw[if_neg hne]at h1
  unfold setG at h2
  rw[if_neg hne]at h2
  exact⟨h1,h2⟩
 have new:∀j lx,setG g n ⟨w.heap.size,0,cap,esz⟩ j=some lx->j=n->lx.blk=w.heap.size:=fun j lx h2 e=>by
  subst e
  unfold setG at h2
  rw[if_pos rfl]at h2
  cases h2;rfl
 have hsz:(w.alloc O).heap.size=w.heap.size+1:=World.size_alloc w O
 have hold:∀k,k<w.heap.size->(w.alloc O).heap[k]?=w.heap[k]?:=fun k hk=>Below.heap_alloc w O k hk
 refine⟨⟨fun j x hx hl=>?_,fun a b x y la lb ha hb hne hwx hly hga hgb=>?_⟩,⟨he,⟨rfl,rfl,rfl,by rw[hsz];omega,fun k hk _=>hold k hk⟩,fun k hk ⟨j,x,lx,h1,h2,h3,h4⟩=>?_,fun k hk ⟨j,x,lx,h1,h2,h3,h4⟩=>?_⟩⟩
 ·by_cases e:j=n
  ·subst e
   rw[if_pos rfl]at hx;cases hx
   refine⟨⟨w.heap.size,0,cap,esz⟩,O,by unfold setG;rw[if_pos rfl],World.alloc_heap_new w O,ho _ (below_mono he (by omega))⟩
  ·rw[if_neg e]at hx
   obtain⟨lx,Ox,h1,h2,h3⟩:=h.den j x hx hl
   exact⟨lx,Ox,he _ _ h1,(hold _ (lt_of_heap h2)).trans h2,h3.mono (below_mono he (by omega))⟩
 ·by_cases ea:a=n
  ·have h1:=new a la hga ea
   obtain⟨h2,h3⟩:=old b y lb hb hgb (fun e=>hne (ea.trans e.symm))
   have:=lt b y lb h2 hly h3
   omega
  ·obtain⟨h2,h3⟩:=old a x la ha hga ea
   by_cases eb:b=n
   ·have h1:=new b lb hgb eb
    have:=lt a x la h2 (live_of_wr hwx) h3
    omega
   ·obtain⟨h4,h5⟩:=old b y lb hb hgb eb
    exact h.sep a b x y la lb h2 h4 hne hwx hly h3 h5
 ·by_cases e:j=n
  ·have:=new j lx h3 e;omega
  ·obtain⟨h5,h6⟩:=old j x lx h1 h3 e
   exact⟨j,x,lx,h5,h2,h6,h4⟩
 ·by_cases e:j=n
  ·have:=new j lx h3 e;omega
  ·obtain⟨h5,h6⟩:=old j x lx h1 h3 e
   exact⟨j,x,lx,h5,h2,h6,h4⟩
end
theorem veqA_ok {g:Gm}{a b u:Value}(h:veqA a b=true)(hb:VR g b u):VR g a u:=by
 unfold veqA at h
 split at h
 ·rename_i k x k' y
  rw[Bool.and_eq_true,eqI_eq]at h
  cases ikEq_eq h.1
  cases of_decide_eq_true h.2
  exact hb
 ·rename_i x y
  cases x<;>cases y<;>first|exact hb|cases h
 ·rename_i x y
  rw[eqN_eq]at h
  have:=of_decide_eq_true h
  have:x=y:=by
   cases x with|mk dx=>cases y with|mk dy=>
   cases dx;cases dy
   simp only at this
   subst this;rfl
  subst this;exact hb
 ·rename_i x y
  split at h
  ·exact hb
  ·rename_i p q
   simp only[Bool.and_eq_true,Nat.beq_eq]at h
   obtain⟨l,h1,h2⟩:=hb
   exact⟨l,by rw[h.1];exact h1,by rw[h.2];exact h2⟩
  ·cases h
 ·rename_i x n c y n' c'
  simp only[Bool.and_eq_true,Nat.beq_eq]at h
  obtain⟨⟨h1,rfl⟩,rfl⟩:=h
  split at h1
  ·exact hb
  ·rename_i p q
   simp only[Bool.and_eq_true,Nat.beq_eq]at h1
   obtain⟨l,k1,k2⟩:=hb
   exact⟨l,by rw[h1.1];exact k1,by rw[h1.2];exact k2⟩
  ·cases h1
 ·rename_i x y
  split at h
  ·exact hb
  ·rename_i p q
   have h:=Nat.beq_eq.mp h
   subst h;exact hb
  ·cases h
 ·exact hb
 ·exact hb
 ·cases h
theorem veqs_ok {g:Gm}:∀{l m u:List Value},veqs l m=true->VRL g m u->VRL g l u
 |[],m,u,h,hm=>by
  replace h:nil1 m false true=true:=h
  replace h:=nil1_inv h (by simp)
  obtain⟨rfl,_⟩:=h
  exact hm
 |a::l,m,u,h,hm=>by
  replace h:(lst m false fun b m=>@Bool.rec (fun _=>Bool) false (veqs l m) (veqA a b))=true:=h
  replace h:=lst_inv h (by simp)
  obtain⟨b,m',rfl,h⟩:=h
  replace h:=br_t h (by simp)
  obtain⟨h1,h2⟩:=h
  obtain⟨x,y,rfl,k1,k2⟩:=hm
  exact⟨x,y,rfl,veqA_ok h1 k1,veqs_ok h2 k2⟩
theorem veq_ok {g:Gm}{a b u:Value}(h:veq a b=true)(hb:VR g b u):VR g a u:=by
 unfold veq at h
 split at h
 ·obtain⟨l,rfl,k⟩:=hb
  exact⟨l,rfl,VRA_iff.2 (veqs_ok h (VRA_iff.1 k))⟩
 ·obtain⟨l,rfl,k⟩:=hb
  exact⟨l,rfl,VRA_iff.2 (veqs_ok h (VRA_iff.1 k))⟩
 ·exact veqA_ok h hb
theorem sameAt_get {f:List Value->Hp->Option Value}{l:List Value}{v:Value}:∀{m:Nat}{hs:List Hp},sameAt f l v m hs=true->∀{c:Nat}{hp:Hp},c<m->hs[c]?=some hp->∃u,f l hp=some u/\veq v u=true
 |0,_,_,_,_,hc,_=>absurd hc (by omega)
 |m+1,[],h,c,hp,hc,hg=>by simp at hg
 |m+1,x::hs,h,c,hp,hc,hg=>by
  replace h:@Option.rec Value (fun _=>Bool) false (fun u=>@Bool.rec (fun _=>Bool) false (sameAt f l v m hs) (veq v u)) (f l x)=true:=h
  replace h:=op_inv h (by simp)
  obtain⟨u,hu,h⟩:=h
  replace h:=br_t h (by simp)
  obtain⟨h1,h2⟩:=h
  cases c with
  |zero=>simp at hg;subst hg;exact⟨u,hu,h1⟩
  |succ c=>exact sameAt_get (m:=m) h2 (Nat.lt_of_succ_lt_succ hc) (by simpa using hg)
end Go.Ev
namespace Go.Ev
open Go.RowKit
set_option linter.unusedVariables false
structure PS where
 hs:List Hp
 fr:Fr
 h:Hp
 n:Nat
theorem opK_det {β:Type}{fr:Fr}{x:Ar}{m r:β}{k:Value->β}(h:opK fr x m k=r)(hn:r≠m):∃v,k v=r/\∀(γ:Type)(m':γ)(k':Value->γ),opK fr x m' k'=k' v:=by
 cases x with
 |va v=>exact⟨v,h,fun _ _ _=>rfl⟩
 |bad=>exact absurd h.symm hn
 |sl p=>
  replace h:@Option.rec Value (fun _=>β) m k (Fr.get fr p)=r:=h
  replace h:=op_inv h hn
  obtain⟨v,hv,h⟩:=h
  refine⟨v,h,fun γ m' k'=>?_⟩
  show @Option.rec Value (fun _=>γ) m' k' (Fr.get fr p)=_
  rw[hv]
theorem valsK_det {β:Type}{fr:Fr}{m r:β}:∀{xs:List Ar}{k:List Value->β},valsK fr m xs k=r->r≠m->∃l,k l=r/\∀(γ:Type)(m':γ)(k':List Value->γ),valsK fr m' xs k'=k' l
 |[],k,h,_=>⟨[],h,fun _ _ _=>rfl⟩
 |x::xs,k,h,hn=>by
  replace h:opK fr x m (fun v=>valsK fr m xs fun t=>k (v::t))=r:=h
  replace h:=opK_det h hn
  obtain⟨v,h,hv⟩:=h
  replace h:=valsK_det h hn
  obtain⟨l,h,hl⟩:=h
  refine⟨v::l,h,fun γ m' k'=>?_⟩
  show opK fr x m' (fun v=>valsK fr m' xs fun t=>k' (v::t))=_
  rw[hv,hl]
theorem wanted_det {fr:Fr}{gd:Gd}{k:Bool->RC}{r:RC}(h:wanted gd fr k=r)(hn:r≠.no):∃b,k b=r/\∀k',wanted gd fr k'=k' b:=by
 cases gd with
 |always=>exact⟨true,h,fun _=>rfl⟩
 |bad=>exact absurd h.symm hn
 |«at» d p b=>
  replace h:=op_inv h hn
  obtain⟨v,hv,h⟩:=h
  refine⟨_,h,fun k'=>?_⟩
  show @Option.rec _ (fun _=>RC) .no (fun v=>k' (wantV v b)) (Fr.get fr p)=_
  rw[hv]
section
variable {P:Program}{ih:Evl}{ops:Array Oper}{ds:List Nat}{e:Ex}{fr':Fr}{ds':List Nat}{hp':Hp}{nx':Nat}
inductive Did (P:Program) (ih:Evl) (o:Oper) (mo:Nat) (s s1:PS) (v:Value):Prop
 |read (f:List Value->Hp->Option Value) (l:List Value) (hp:Hp) (hs:List Hp) (hc:comp P o.op=.read f) (hv:∀(γ:Type) (m':γ) (k':List Value->γ),valsK s.fr m' (o.op.operands.toList.map (argOf P)) k'=k' l) (hh:s.hs=hp::hs) (hf:f l hp=some v) (hm:sameAt f l v mo hs=true) (h1:s1.h=s.h) (h2:s1.n=s.n) (h3:s1.hs=s.hs)
 |pure (f:List Value->Option Value) (hc:comp P o.op=.pure f) (hi:insB P ih (ceOf o.op) (o.op.operands.toList.map (argOf P)) (comp P o.op) s.fr s.h s.n=.ok v s1.h s1.n) (h3:s1.hs=s.hs)
 |alloc (f:List Value->Option (VO × (Nat->Value))) (hc:comp P o.op=.alloc f) (hi:insB P ih (ceOf o.op) (o.op.operands.toList.map (argOf P)) (comp P o.op) s.fr s.h s.n=.ok v s1.h s1.n) (h3:s1.hs=s.hs)
 |eff (hc:isEff (comp P o.op)=true) (hi:insB P ih (ceOf o.op) (o.op.operands.toList.map (argOf P)) (comp P o.op) s.fr s.h s.n=.ok v s1.h s1.n) (hn:s.n<=s1.n) (h3:s1.hs=s1.h::s.hs)
 |sem (hc:isEff (comp P o.op)=false) (hdf:∀c,o.op≠.defer c) (hx:∀c hp,c<=mo->s.hs[c]?=some hp->∀G w (a:Act),OkW P G hp.at w->(∀id,s.n<=id->G id=none)->Glob P G->InR G s.fr a o.op.operands.toList->∃U,VR G v U/\(execOp a.eval o).run P w=.ok (.value U) w) (h1:s1.h=s.h) (h2:s1.n=s.n) (h3:s1.hs=s.hs)
 |made (ob:VO) (mk:Nat->Value) (hc:isEff (comp P o.op)=false) (hdf:∀c,o.op≠.defer c) (hv:v=mk s.n) (hn:s1.n=s.n+1) (hh:∀j,s1.h.at j=if j=s.n then some ob else s.h.at j) (h3:s1.hs=s.hs) (hx:∀G (a:Act),Glob P G->InR G s.fr a o.op.operands.toList->OpMakes P a.eval o G ob mk)
 |done (hc:isEff (comp P o.op)=true) (hn:s.n<=s1.n) (h3:s1.hs=s1.h::s.hs) (hx:∀G w (a:Act) (ρ:Option Nat) (m:Nat) (next:Act->World->Prop) (Q:Exit->Act->World->Prop),Ok P G s.h.at s.n w->Glob P G->InR G s.fr a o.op.operands.toList->(∀u w',ResR P G s.h w v s1.h s1.n u w'->next (a.put o.dst u) w')->o.wpIn (fen ρ) m P a w next Q)
structure PStep (P:Program)(ih:Evl)(ops:Array Oper)(o:Oper)(mo:Nat)(s s1:PS):Prop where
 ex:∃bb v,(∀k:Bool->RC,wanted (guardOf ops o) s.fr k=k bb)/\(∀j,s1.fr.at j=putAt s.fr o.dst v j) /\
  ((bb=false/\v=undef/\s1.h=s.h/\s1.n=s.n/\s1.hs=if isEff (comp P o.op)then s.h::s.hs else s.hs)\/(bb=true/\Did P ih o mo s s1 v))
theorem planB_cons (i:Nat)(o:Oper)(mo:Nat)(r:List PI)(hs:List Hp)(fr:Fr)(h:Hp)(n:Nat):planB P ih ds (piOf P ops i o mo::r) hs fr h n=wanted (guardOf ops o) fr fun b=>@Bool.rec (fun _=>RC)
  (putF fr (dsl o) undef fun fr=>planB P ih ds r (@Bool.rec (fun _=>List Hp) hs (h::hs) (isEff (comp P o.op))) fr h n)
  (@Ins.rec (fun _=>RC)
   (fun _=>@RV.rec (fun _=>RC) .no (fun v h n=>putF fr (dsl o) v fun fr=>planB P ih ds r hs fr h n) (insB P ih (ceOf o.op) (o.op.operands.toList.map (argOf P)) (comp P o.op) fr h n))
   (fun _=>@RV.rec (fun _=>RC) .no (fun v h n=>putF fr (dsl o) v fun fr=>planB P ih ds r hs fr h n) (insB P ih (ceOf o.op) (o.op.operands.toList.map (argOf P)) (comp P o.op) fr h n))
   (fun f=>valsK fr RC.no (o.op.operands.toList.map (argOf P)) fun l=>readD f mo hs l fun v=>putF fr (dsl o) v fun fr=>planB P ih ds r hs fr h n)
   (fun _=>@RV.rec (fun _=>RC) .no (fun v h' n'=>@Bool.rec (fun _=>RC) .no (putF fr (dsl o) v fun fr=>planB P ih ds r (h'::hs) fr h' n') (Nat.ble n n')) (insB P ih (ceOf o.op) (o.op.operands.toList.map (argOf P)) (comp P o.op) fr h n))
   (@RV.rec (fun _=>RC) .no (fun v h' n'=>@Bool.rec (fun _=>RC) .no (putF fr (dsl o) v fun fr=>planB P ih ds r (h'::hs) fr h' n') (Nat.ble n n')) (insB P ih (ceOf o.op) (o.op.operands.toList.map (argOf P)) (comp P o.op) fr h n))
   .no (comp P o.op)) b:=rfl
theorem planB_step {i:Nat}{o:Oper}{mo:Nat}{r:List PI}{s:PS}(h:planB P ih ds (piOf P ops i o mo::r) s.hs s.fr s.h s.n=.go e fr' ds' hp' nx') :
  ∃s1,PStep P ih ops o mo s s1/\planB P ih ds r s1.hs s1.fr s1.h s1.n=.go e fr' ds' hp' nx':=by
 rw[planB_cons]at h
 replace h:=wanted_det h gon
 obtain⟨bb,h,hbb⟩:=h
 cases bb with
 |false=>
  replace h:=putF_inv h gon
  obtain⟨fr1,h,hat⟩:=h
  refine⟨⟨_,fr1,s.h,s.n⟩,⟨⟨false,undef,hbb,hat,.inl ⟨rfl,rfl,rfl,rfl,?_⟩⟩⟩,h⟩
  cases isEff (comp P o.op)<;>rfl
 |true=>
  cases hc:comp P o.op with
  |pure f=>
   simp only[hc]at h
   replace h:=rv_inv h gon
   obtain⟨v,hp1,nx1,hi,h⟩:=h
   replace h:=putF_inv h gon
   obtain⟨fr1,h,hat⟩:=h
   exact⟨⟨_,fr1,hp1,nx1⟩,⟨⟨true,v,hbb,hat,.inr ⟨rfl,.pure f hc (by rw[hc];exact hi) rfl⟩⟩⟩,h⟩
  |alloc f=>
   simp only[hc]at h
   replace h:=rv_inv h gon
   obtain⟨v,hp1,nx1,hi,h⟩:=h
   replace h:=putF_inv h gon
   obtain⟨fr1,h,hat⟩:=h
   exact⟨⟨_,fr1,hp1,nx1⟩,⟨⟨true,v,hbb,hat,.inr ⟨rfl,.alloc f hc (by rw[hc];exact hi) rfl⟩⟩⟩,h⟩
  |read f=>
   simp only[hc]at h
   replace h:=valsK_det h gon
   obtain⟨l,h,hl⟩:=h
   cases hh:s.hs with
   |nil=>rw[hh]at h;cases h
   |cons hp hs=>
    rw[hh]at h
    replace h:@Option.rec Value (fun _=>RC) .no (fun v=>@Bool.rec (fun _=>RC) .no (putF s.fr (dsl o) v fun fr=>planB P ih ds r (hp::hs) fr s.h s.n) (sameAt f l v mo hs)) (f l hp)=_:=h
    replace h:=op_inv h gon
    obtain⟨v,hv,h⟩:=h
    replace h:=br_t h gon
    obtain⟨hm,h⟩:=h
    replace h:=putF_inv h gon
    obtain⟨fr1,h,hat⟩:=h
    refine⟨⟨hp::hs,fr1,s.h,s.n⟩,⟨⟨true,v,hbb,hat,.inr ⟨rfl,.read f l hp hs hc hl hh hv hm rfl rfl hh.symm⟩⟩⟩,h⟩
  |eff f=>
   simp only[hc]at h
   replace h:=rv_inv h gon
   obtain⟨v,hp1,nx1,hi,h⟩:=h
   replace h:=br_t h gon
   obtain⟨hle,h⟩:=h
   replace h:=putF_inv h gon
   obtain⟨fr1,h,hat⟩:=h
   exact⟨⟨_,fr1,hp1,nx1⟩,⟨⟨true,v,hbb,hat,.inr ⟨rfl,.eff (by rw[hc];rfl) (by rw[hc];exact hi) (Nat.le_of_ble_eq_true hle) rfl⟩⟩⟩,h⟩
  |call=>
   simp only[hc]at h
   replace h:=rv_inv h gon
   obtain⟨v,hp1,nx1,hi,h⟩:=h
   replace h:=br_t h gon
   obtain⟨hle,h⟩:=h
   replace h:=putF_inv h gon
   obtain⟨fr1,h,hat⟩:=h
   exact⟨⟨_,fr1,hp1,nx1⟩,⟨⟨true,v,hbb,hat,.inr ⟨rfl,.eff (by rw[hc];rfl) (by rw[hc];exact hi) (Nat.le_of_ble_eq_true hle) rfl⟩⟩⟩,h⟩
  |bad=>
   simp only[hc]at h
   cases h
theorem planB_steps:∀(items:List (Nat × Oper × Nat)){s:PS},planB P ih ds (items.map fun x=>piOf P ops x.1 x.2.1 x.2.2) s.hs s.fr s.h s.n=.go e fr' ds' hp' nx' ->
  e=.normal/\ds'=ds/\∃σ:Nat->PS,σ 0=s/\(∀p x,items[p]?=some x->PStep P ih ops x.2.1 x.2.2 (σ p) (σ (p+1)))/\(σ items.length).fr=fr'/\(σ items.length).h=hp'/\(σ items.length).n=nx'
 |[],s,h=>by
  cases h
  exact⟨rfl,rfl,fun _=>s,rfl,fun p x hx=>by simp at hx,rfl,rfl,rfl⟩
 |x::items,s,h=>by
  obtain⟨s1,h1,h2⟩:=planB_step h
  obtain⟨k1,k2,σ,k3,k4,k5⟩:=planB_steps items h2
  refine⟨k1,k2,fun p=>match p with|0=>s|p+1=>σ p,rfl,fun p y hy=>?_,k5⟩
  cases p with
  |zero=>
   simp at hy
   subst hy
   show PStep P ih ops x.2.1 x.2.2 s (σ 0)
   rw[k3];exact h1
  |succ p=>exact k4 p y (by simpa using hy)
end
end Go.Ev
namespace Go.Ev
open Go.RowKit
set_option linter.unusedVariables false
structure PlanOk (P:Program)(ih:Evl)(ops:Array Oper)(N:Nat)(ix:Nat->Nat)(op:Nat->Oper)(mo:Nat->Nat)(σ:Nat->PS):Prop where
 get:∀p,p<N->ops[ix p]?=some (op p)
 all:∀j,j<ops.size->∃p,p<N/\ix p=j
 inj:∀p q,p<N->q<N->ix p=ix q->p=q
 bef:∀p,p<N->∀j,Bf ops (ix p) j->∃q,q<p/\ix q=j
 eff:∀p,p<N->isEff (comp P (op p).op)=true->∀q,q<p->Bf ops (ix p) (ix q)
 inp:∀p,p<N->∀u∈tmpsOf ops (op p),∀q,q<p->(op q).dst=some u->Bf ops (ix p) (ix q)
 self:∀p,p<N->∀d,(op p).dst=some d->d∉tmpsOf ops (op p)
 rd:∀p,p<N->∀d,(op p).dst=some d->∀q,q<p->d∈tmpsOf ops (op q)->Bf ops (ix p) (ix q)
 wr:∀p,p<N->∀d,(op p).dst=some d->∀q,q<p->(op q).dst≠some d
 more:∀p,p<N->mo p=((((List.range p).map ix).reverse.filter (effAt P ops)).takeWhile fun j=>!((Region.before ops).toList.getD (ix p) 0).testBit j).length
 step:∀p,p<N->PStep P ih ops (op p) (mo p) (σ p) (σ (p+1))
 head:∃t,(σ 0).hs=(σ 0).h::t
section
variable {P:Program}{ih:Evl}{ops:Array Oper}{ds:List Nat}{e:Ex}{fr fr':Fr}{ds':List Nat}{hp hp':Hp}{nx nx':Nat}{N:Nat}{ix:Nat->Nat}{op:Nat->Oper}{mo:Nat->Nat}{σ:Nat->PS}
theorem take_map (l:List Nat):∀p,p<=l.length->l.take p=(List.range p).map (fun q=>l.getD q 0):=fun p hp=>by
 apply List.ext_getElem?
 intro i
 rw[List.getElem?_take,List.getElem?_map]
 by_cases h:i<p
 ·rw[if_pos h,List.getElem?_range h]
  simp[List.getD_eq_getElem?_getD,List.getElem?_eq_getElem (show i<l.length by omega)]
 ·rw[if_neg h,List.getElem?_eq_none (by simp;omega)]
  rfl
theorem plan_shape {r:List PI}(hr:planOf P ops=some r) :
  ∃(N:Nat) (ix:Nat->Nat) (op:Nat->Oper) (mo:Nat->Nat),r=((List.range N).map fun p=>(ix p,op p,mo p)).map (fun x=>piOf P ops x.1 x.2.1 x.2.2)/\(∀p,p<N->ops[ix p]?=some (op p)) /\
   ∀σ:Nat->PS,(∀p,p<N->PStep P ih ops (op p) (mo p) (σ p) (σ (p+1)))->(∃t,(σ 0).hs=(σ 0).h::t)->PlanOk P ih ops N ix op mo σ:=by
 replace hr:planGo P ops (Region.before ops).toList (ixsOf ops.size (Region.before ops).toList (effsOf P ops) 0) 0 [] [] []=some r:=hr
 generalize ixsOf ops.size (Region.before ops).toList (effsOf P ops) 0=l at hr
 obtain⟨h1,h2,h3⟩:=planGo_spec l [] 0 [] [] [] r hr (by simp) rfl (fun j hj=>by simp at hj) (fun j hj=>by simp at hj)
 have hix:∀p,p<l.length->l[p]?=some (l.getD p 0):=fun p hp=>by simp[List.getD_eq_getElem?_getD,List.getElem?_eq_getElem hp]
 have hop:∀p,p<l.length->ops[l.getD p 0]?=some (ops.getD (l.getD p 0) default):=fun p hp=>by
  obtain⟨o,h4,_⟩:=h2 p _ (hix p hp)
  rw[Array.getD_eq_getD_getElem?,h4];rfl
 have hat:∀p,p<l.length->PlAt P ops (l.take p) (l.getD p 0) (ops.getD (l.getD p 0) default)/\r[p]?=some (piOf P ops (l.getD p 0) (ops.getD (l.getD p 0) default) (moreOf P ops (l.take p) (l.getD p 0))):=fun p hp=>by
  obtain⟨o,h4,h5,h6⟩:=h2 p _ (hix p hp)
  rw[hop p hp]at h4;cases h4
  exact⟨h5,h6⟩
 have mem:∀p j,p<=l.length->(j∈l.take p↔∃q,q<p/\l.getD q 0=j):=fun p j hp=>by
  rw[take_map l p hp];simp
 have hitems:r=((List.range l.length).map fun p=>(l.getD p 0,ops.getD (l.getD p 0) default,moreOf P ops (l.take p) (l.getD p 0))).map fun x=>piOf P ops x.1 x.2.1 x.2.2:=by
  apply List.ext_getElem?
  intro p
  by_cases hp:p<l.length
  ·rw[(hat p hp).2,List.getElem?_map,List.getElem?_map,List.getElem?_range hp];rfl
  ·rw[List.getElem?_eq_none (by omega),List.getElem?_eq_none (by simp;omega)]
 refine⟨l.length,fun p=>l.getD p 0,fun p=>ops.getD (l.getD p 0) default,fun p=>moreOf P ops (l.take p) (l.getD p 0),hitems,hop,fun σ hst hhd=>⟨hop,fun j hj=>?_,fun p q hp hq he=>?_,fun p hp j hj=>?_,fun p hp he q hq=>?_,fun p hp u hu q hq hd=>?_,fun p hp=>(hat p hp).1.self,fun p hp d hd q hq hm=>?_,fun p hp d hd q hq hm=>?_,fun p hp=>?_,hst,hhd⟩⟩
 ·have:=h3 j hj
  rw[List.nil_append]at this
  rw[<-List.take_length (l:=l),mem _ _ (Nat.le_refl _)]at this
  exact this
 ·rcases Nat.lt_trichotomy p q with hlt|rfl|hlt
  ·exact absurd ((mem q _ (by omega)).2 ⟨p,hlt,he⟩) (hat q hq).1.new
  ·rfl
  ·exact absurd ((mem p _ (by omega)).2 ⟨q,hlt,he.symm⟩) (hat p hp).1.new
 ·exact(mem p j (by omega)).1 ((hat p hp).1.bef j hj)
 ·exact(hat p hp).1.eff he _ ((mem p _ (by omega)).2 ⟨q,hq,rfl⟩)
 ·exact(hat p hp).1.inp u hu _ ((mem p _ (by omega)).2 ⟨q,hq,rfl⟩) _ (hop q (by omega)) hd
 ·exact(hat p hp).1.rd d hd _ ((mem p _ (by omega)).2 ⟨q,hq,rfl⟩) _ (hop q (by omega)) hm
 ·exact(hat p hp).1.wr d hd _ ((mem p _ (by omega)).2 ⟨q,hq,rfl⟩) _ (hop q (by omega)) hm
 ·show moreOf P ops (l.take p) (l.getD p 0)=_
  unfold moreOf
  rw[take_map l p (by omega)]
theorem plan_ok {r:List PI}(hr:planOf P ops=some r)(h:planB P ih ds r [hp] fr hp nx=.go e fr' ds' hp' nx') :
  e=.normal/\ds'=ds/\∃N ix op mo σ,PlanOk P ih ops N ix op mo σ/\σ 0=⟨[hp],fr,hp,nx⟩/\(σ N).fr=fr'/\(σ N).h=hp'/\(σ N).n=nx':=by
 obtain⟨N,ix,op,mo,hitems,_,key⟩:=plan_shape (ih:=ih) hr
 rw[hitems]at h
 obtain⟨k1,k2,σ,k3,k4,k5,k6,k7⟩:=planB_steps (s:=⟨[hp],fr,hp,nx⟩) _ h
 have hlen:((List.range N).map fun p=>(ix p,op p,mo p)).length=N:=by simp
 rw[hlen]at k5 k6 k7
 exact⟨k1,k2,N,ix,op,mo,σ,key σ (fun p hp=>k4 p (ix p,op p,mo p) (by rw[List.getElem?_map,List.getElem?_range hp];rfl)) ⟨[],by rw[k3]⟩,k3,k5,k6,k7⟩
abbrev isE (P:Program)(o:Oper):Prop:=isEff (comp P o.op)=true
theorem PStep.calm {o:Oper}{m:Nat}{s s1:PS}(h:PStep P ih ops o m s s1)(hc:¬isE P o):s1.hs=s.hs/\((s1.h=s.h/\s1.n=s.n)\/(s1.n=s.n+1/\∃ob,∀j,s1.h.at j=if j=s.n then some ob else s.h.at j)):=by
 obtain⟨bb,v,_,_,h⟩:=h.ex
 rcases h with⟨_,_,h1,h2,h3⟩|⟨_,h⟩
 ·rw[if_neg hc]at h3
  exact⟨h3,.inl ⟨h1,h2⟩⟩
 ·cases h with
  |read f l hp hs hc hv hh hf hm h1 h2 h3=>exact⟨h3,.inl ⟨h1,h2⟩⟩
  |pure f hc hi h3=>
   rw[hc]at hi
   unfold insB at hi
   replace hi:=valsK_det hi on
   obtain⟨l,hi,_⟩:=hi
   replace hi:=pureI_inv hi
   exact⟨h3,.inl ⟨hi.2.1,hi.2.2⟩⟩
  |alloc f hc hi h3=>
   rw[hc]at hi
   unfold insB at hi
   replace hi:=valsK_det hi on
   obtain⟨l,hi,_⟩:=hi
   replace hi:=allocI_inv hi
   obtain⟨ob,mk,_,_,h1,h2⟩:=hi
   exact⟨h3,.inr ⟨h1,ob,h2⟩⟩
  |eff hc' hi hn h3=>exact absurd hc' hc
  |sem hc' hdf hx h1 h2 h3=>exact⟨h3,.inl ⟨h1,h2⟩⟩
  |made ob mk hc' hdf hv hn hh h3 hx=>exact⟨h3,.inr ⟨hn,ob,hh⟩⟩
  |done hc' hn h3 hx=>exact absurd hc' hc
theorem PStep.loud {o:Oper}{m:Nat}{s s1:PS}(h:PStep P ih ops o m s s1)(hc:isE P o):s1.hs=s1.h::s.hs:=by
 obtain⟨bb,v,_,_,h⟩:=h.ex
 rcases h with⟨_,_,h1,h2,h3⟩|⟨_,h⟩
 ·rw[if_pos hc]at h3
  rw[h3,h1]
 ·have hno:∀c,comp P o.op=c->isEff c=true:=fun c e=>by rw[<-e];exact hc
  cases h with
  |read f l hp hs hc'=>have:=hno _ hc';cases this
  |pure f hc'=>have:=hno _ hc';cases this
  |alloc f hc'=>have:=hno _ hc';cases this
  |eff hc' hi hn h3=>exact h3
  |sem hc'=>rw[hc]at hc';cases hc'
  |made ob mk hc'=>rw[hc]at hc';cases hc'
  |done hc' hn h3 hx=>exact h3
theorem PStep.mono {o:Oper}{m:Nat}{s s1:PS}(h:PStep P ih ops o m s s1):s.n<=s1.n:=by
 by_cases hc:isE P o
 ·obtain⟨bb,v,_,_,h⟩:=h.ex
  rcases h with⟨_,_,h1,h2,h3⟩|⟨_,h⟩
  ·omega
  ·have hno:∀c,comp P o.op=c->isEff c=true:=fun c e=>by rw[<-e];exact hc
   cases h with
   |read f l hp hs hc'=>have:=hno _ hc';cases this
   |pure f hc'=>have:=hno _ hc';cases this
   |alloc f hc'=>have:=hno _ hc';cases this
   |eff hc' hi hn h3=>exact hn
   |sem hc'=>rw[hc]at hc';cases hc'
   |made ob mk hc'=>rw[hc]at hc';cases hc'
   |done hc' hn h3 hx=>exact hn
 ·rcases (h.calm hc).2 with⟨_,h⟩|⟨h,_⟩<;>omega
theorem PStep.keep {o:Oper}{m:Nat}{s s1:PS}(h:PStep P ih ops o m s s1){j:Nat}(hd:o.dst≠some j):s1.fr.at j=s.fr.at j:=by
 obtain⟨bb,v,_,hat,_⟩:=h.ex
 rw[hat]
 unfold putAt
 split
 ·rename_i d hd'
  rw[if_neg (fun e=>hd (by rw[hd',e]))]
 ·rfl
namespace PlanOk
variable (pk:PlanOk P ih ops N ix op mo σ)
include pk
theorem mono {p q:Nat}(h:p<=q)(hq:q<=N):(σ p).n<=(σ q).n:=by
 induction q with
 |zero=>have:p=0:=(by omega);subst this;exact Nat.le_refl _
 |succ q ihq=>
  rcases Nat.lt_or_ge q p with h'|h'
  ·have:p=q+1:=by omega
   subst this;exact Nat.le_refl _
  ·exact Nat.le_trans (ihq h' (by omega)) (pk.step q (by omega)).mono
theorem keep {p q j:Nat}(h:p<=q)(hq:q<=N)(hd:∀r,p<=r->r<q->(op r).dst≠some j):(σ q).fr.at j=(σ p).fr.at j:=by
 induction q with
 |zero=>have:p=0:=(by omega);subst this;rfl
 |succ q ihq=>
  rcases Nat.lt_or_ge q p with h'|h'
  ·have:p=q+1:=by omega
   subst this;rfl
  ·rw[(pk.step q (by omega)).keep (hd q h' (by omega))]
   exact ihq h' (by omega) (fun r h1 h2=>hd r h1 (by omega))
theorem chain {s q:Nat}(h:s<=q)(hq:q<=N)(hc:∀p,s<=p->p<q->¬isE P (op p))(id:Nat) :
  (σ q).h.at id=(σ s).h.at id\/∃p,s<=p/\p<q/\(σ p).n<(σ (p+1)).n/\id=(σ p).n/\(σ q).h.at id=(σ (p+1)).h.at id:=by
 induction q with
 |zero=>have:s=0:=(by omega);subst this;exact .inl rfl
 |succ q ihq=>
  rcases Nat.lt_or_ge q s with h'|h'
  ·have:s=q+1:=by omega
   subst this;exact .inl rfl
  ·have ih':=ihq h' (by omega) (fun p h1 h2=>hc p h1 (by omega))
   have hst:=pk.step q (by omega)
   rcases (hst.calm (hc q h' (by omega))).2 with⟨h1,h2⟩|⟨h1,ob,h2⟩
   ·rw[h1]
    rcases ih' with h|⟨p,k1,k2,k3,k4,k5⟩
    ·exact .inl h
    ·exact .inr ⟨p,k1,by omega,k3,k4,k5⟩
   ·by_cases e:id=(σ q).n
    ·exact .inr ⟨q,h',by omega,by omega,e,rfl⟩
    ·have:(σ (q+1)).h.at id=(σ q).h.at id:=by rw[h2,if_neg e]
     rw[this]
     rcases ih' with h|⟨p,k1,k2,k3,k4,k5⟩
     ·exact .inl h
     ·exact .inr ⟨p,k1,by omega,k3,k4,k5⟩
theorem heads {s:Nat}(hs:s<=N)(h0:s=0\/isE P (op (s-1))):∃t,(σ s).hs=(σ s).h::t:=by
 cases s with
 |zero=>exact pk.head
 |succ s=>
  rcases h0 with h|h
  ·omega
  ·exact⟨_,(pk.step s (by omega)).loud h⟩
theorem snaps {s q:Nat}(h:s<=q)(hq:q<=N):∃L L',(σ q).hs=L++(σ s).hs/\((List.range q).map ix).reverse.filter (effAt P ops)=L'++((List.range s).map ix).reverse.filter (effAt P ops)/\L.length=L'.length /\
  ∀j∈L',∃p,s<=p/\p<q/\ix p=j/\isE P (op p):=by
 induction q with
 |zero=>have:s=0:=(by omega);subst this;exact⟨[],[],rfl,rfl,rfl,fun j hj=>by cases hj⟩
 |succ q ihq=>
  rcases Nat.lt_or_ge q s with h'|h'
  ·have:s=q+1:=by omega
   subst this;exact⟨[],[],rfl,rfl,rfl,fun j hj=>by cases hj⟩
  ·obtain⟨L,L',k1,k2,k3,k4⟩:=ihq h' (by omega)
   have hst:=pk.step q (by omega)
   have he:effAt P ops (ix q)=isEff (comp P (op q).op):=by unfold effAt;rw[pk.get q (by omega)]
   rw[List.range_succ,List.map_append,List.reverse_append]
   simp only[List.map_cons,List.map_nil,List.reverse_singleton,List.singleton_append,List.filter_cons]
   rw[he]
   by_cases hc:isE P (op q)
   ·rw[if_pos hc,hst.loud hc,k1,k2]
    refine⟨(σ (q+1)).h::L,ix q::L',rfl,rfl,by simp[k3],fun j hj=>?_⟩
    rcases List.mem_cons.1 hj with rfl|hj
    ·exact⟨q,h',by omega,rfl,hc⟩
    ·obtain⟨p,q1,q2,q3⟩:=k4 j hj
     exact⟨p,q1,by omega,q3⟩
   ·rw[if_neg hc,(hst.calm hc).1]
    refine⟨L,L',k1,k2,k3,fun j hj=>?_⟩
    obtain⟨p,q1,q2,q3⟩:=k4 j hj
    exact⟨p,q1,by omega,q3⟩
theorem snap {s q:Nat}(h:s<=q)(hq:q<N)(h0:s=0\/isE P (op (s-1)))(hb:∀p,s<=p->p<q->isE P (op p)->¬Bf ops (ix q) (ix p)):∃c,c<=mo q/\(σ q).hs[c]?=some (σ s).h:=by
 obtain⟨L,L',k1,k2,k3,k4⟩:=pk.snaps h (by omega)
 obtain⟨t,ht⟩:=pk.heads (by omega) h0
 refine⟨L.length,?_,?_⟩
 ·rw[pk.more q hq,k2,k3]
  have:∀j∈L',(!((Region.before ops).toList.getD (ix q) 0).testBit j)=true:=fun j hj=>by
   obtain⟨p,q1,q2,q3,q4⟩:=k4 j hj
   have:=hb p q1 q2 q4
   unfold Bf at this
   rw[q3]at this
   simpa using this
  rw[List.takeWhile_append_of_pos this]
  simp
 ·rw[k1,ht]
  simp
end PlanOk
end
end Go.Ev
namespace Go.Ev
open Go.RowKit
set_option linter.unusedVariables false
section
variable {P:Program}{ih:Evl}{ops:Array Oper}{N:Nat}{ix:Nat->Nat}{op:Nat->Oper}{mo:Nat->Nat}{σ:Nat->PS}{n:Nat}{ds:List Nat}{g0:Gm}{w0:World}
structure Inv (P:Program)(N:Nat)(op:Nat->Oper)(σ:Nat->PS)(n:Nat)(ds:List Nat)(g0:Gm)(w0:World)(X:Nat->Prop)(g:Gm)(M:Mem)(s:Nat)(a:Act)(w:World):Prop where
 size:a.tmps.size=n
 defs:DsR (below g (σ 0).n) ds a.defers
 glob:Glob P (below g (σ 0).n)
 free:∀p,p<N->¬X p->∀id,(σ p).n<=id->id<(σ (p+1)).n->g id=none
 top:∀id,(σ N).n<=id->g id=none
 slot:∀p,p<N->X p->∀d,(op p).dst=some d->∀v,(σ (p+1)).fr.at d=some v->VR (below g (σ (p+1)).n) v (a.tmps.getD d undef)
 old:∀j,(∀p,p<N->X p->(op p).dst≠some j)->∀v,(σ 0).fr.at j=some v->VR (below g (σ 0).n) v (a.tmps.getD j undef)
 sN:s<=N
 sE:s=0\/isE P (op (s-1))
 sX:∀p,p<s->X p
 sF:∀p,s<=p->p<N->isE P (op p)->¬X p
 lb:∀id o,(σ s).h.at id=some o->liveO o=true->id<(σ s).n
 mem:OkX P g M (σ s).n w
 m1:∀p,s<=p->p<N->X p->(σ p).n<(σ (p+1)).n->M (σ p).n=(σ (p+1)).h.at (σ p).n
 m2:∀id o,(σ s).h.at id=some o->liveO o=true->M id=some o
 aft:Aft g0 (σ 0).h.at w0 g M w
theorem Inv.congr {X X':Nat->Prop}{g:Gm}{M:Mem}{s:Nat}{a:Act}{w:World}(h:Inv P N op σ n ds g0 w0 X g M s a w)(hx:∀p,p<N->(X p↔X' p)):Inv P N op σ n ds g0 w0 X' g M s a w:=
 ⟨h.size,h.defs,h.glob,fun p hp hn=>h.free p hp (fun k=>hn ((hx p hp).1 k)),h.top,fun p hp k=>h.slot p hp ((hx p hp).2 k),fun j hj=>h.old j (fun p hp k=>hj p hp ((hx p hp).1 k)),h.sN,h.sE,
  fun p hp=>(hx p (Nat.lt_of_lt_of_le hp h.sN)).1 (h.sX p hp),fun p h1 h2 h3 k=>h.sF p h1 h2 h3 ((hx p h2).2 k),h.lb,h.mem,fun p h1 h2 k=>h.m1 p h1 h2 ((hx p h2).2 k),h.m2,h.aft⟩
structure MayQ (P:Program)(ops:Array Oper)(N:Nat)(ix:Nat->Nat)(X:Nat->Prop)(q:Nat):Prop where
 lt:q<N
 new:¬X q
 bef:∀p,p<N->Bf ops (ix q) (ix p)->X p
 cl:∀p,p<N->X p->¬Bf ops (ix p) (ix q)
variable {X:Nat->Prop}{g:Gm}{M:Mem}{s q:Nat}{a:Act}{w:World}
theorem Inv.inputs (pk:PlanOk P ih ops N ix op mo σ)(h:Inv P N op σ n ds g0 w0 X g M s a w)(hq:MayQ P ops N ix X q){u:Nat}(hu:u∈tmpsOf ops (op q)){v:Value}(hv:(σ q).fr.at u=some v):VR (below g (σ q).n) v (a.tmps.getD u undef):=by
 have hN:=hq.lt
 by_cases hw:∃p,p<q/\(op p).dst=some u
 ·obtain⟨p,hp,hd⟩:=hw
  have hx:=hq.bef p (by omega) (pk.inp q hN u hu p hp hd)
  have hk:=pk.keep (show p+1<=q by omega) (by omega) (fun r h1 h2 hr=>pk.wr r (by omega) u hr p (by omega) hd)
  rw[hk]at hv
  exact(h.slot p (by omega) hx u hd v hv).mono (below_mono (Ext.refl g) (pk.mono (by omega) (by omega)))
 ·have hk:=pk.keep (Nat.zero_le q) (by omega) (fun r _ h2 hr=>hw ⟨r,h2,hr⟩)
  rw[hk]at hv
  refine(h.old u (fun p hp hx hd=>?_) v hv).mono (below_mono (Ext.refl g) (pk.mono (Nat.zero_le q) (by omega)))
  rcases Nat.lt_trichotomy p q with hlt|rfl|hlt
  ·exact hw ⟨p,hlt,hd⟩
  ·exact hq.new hx
  ·exact hq.cl p hp hx (pk.rd p hp u hd q hlt hu)
theorem Inv.frame (pk:PlanOk P ih ops N ix op mo σ)(h:Inv P N op σ n ds g0 w0 X g M s a w)(hq:MayQ P ops N ix X q)(hd:∀d,(op q).dst=some d->Nat.blt d n=true){g':Gm}(he:Ext g g'){v U:Value}(hat:∀j,(σ (q+1)).fr.at j=putAt (σ q).fr (op q).dst v j)(hv:VR (below g' (σ (q+1)).n) v U) :
  (a.put (op q).dst U).tmps.size=n/\DsR (below g' (σ 0).n) ds (a.put (op q).dst U).defers/\Glob P (below g' (σ 0).n) /\
  (∀p,p<N->(X p\/p=q)->∀d,(op p).dst=some d->∀v,(σ (p+1)).fr.at d=some v->VR (below g' (σ (p+1)).n) v ((a.put (op q).dst U).tmps.getD d undef)) /\
  (∀j,(∀p,p<N->(X p\/p=q)->(op p).dst≠some j)->∀v,(σ 0).fr.at j=some v->VR (below g' (σ 0).n) v ((a.put (op q).dst U).tmps.getD j undef)):=by
 have hN:=hq.lt
 have other:∀j,(op q).dst≠some j->(a.put (op q).dst U).tmps.getD j undef=a.tmps.getD j undef:=fun j hj=>by
  cases hdq:(op q).dst with
  |none=>rfl
  |some d=>
   rw[hdq]at hj
   simp only[Act.put,Array.getD_eq_getD_getElem?,Array.getElem?_setIfInBounds]
   rw[if_neg (fun e=>hj (by rw[e]))]
 have this:∀d,(op q).dst=some d->(a.put (op q).dst U).tmps.getD d undef=U:=fun d hdq=>by
  have hlt:d<a.tmps.size:=by
   have:=hd d hdq
   rw[h.size]
   simpa[Nat.blt_eq]using this
  rw[hdq]
  simp[Act.put,Array.getD_eq_getD_getElem?,hlt]
 refine⟨?_,?_,h.glob.mono (below_mono he (Nat.le_refl _)),fun p hp hx d hdp v' hv'=>?_,fun j hj v' hv'=>?_⟩
 ·cases hdq:(op q).dst with
  |none=>exact h.size
  |some d=>simp[Act.put,h.size]
 ·have:(a.put (op q).dst U).defers=a.defers:=by
   cases hdq:(op q).dst<;>rfl
  rw[this]
  exact h.defs.mono (below_mono he (Nat.le_refl _))
 ·by_cases e:p=q
  ·subst e
   rw[this d hdp]
   rw[hat]at hv'
   unfold putAt at hv'
   rw[hdp]at hv'
   simp only[if_true]at hv'
   cases hv'
   exact hv
  ·have hx:X p:=hx.resolve_right e
   rw[other d (fun hdq=>?_)]
   ·exact(h.slot p hp hx d hdp v' hv').mono (below_mono he (Nat.le_refl _))
   ·rcases Nat.lt_trichotomy p q with hlt|rfl|hlt
    ·exact pk.wr q hN d hdq p hlt hdp
    ·exact e rfl
    ·exact pk.wr p hp d hdp q hlt hdq
 ·rw[other j (hj q hN (.inr rfl))]
  exact(h.old j (fun p hp hx=>hj p hp (.inl hx)) v' hv').mono (below_mono he (Nat.le_refl _))
theorem Inv.here (pk:PlanOk P ih ops N ix op mo σ)(h:Inv P N op σ n ds g0 w0 X g M s a w)(hq:q<=N)(hs:s<=q)(hx:∀p,p<q->X p):(∀id o,(σ q).h.at id=some o->liveO o=true->M id=some o)/\∀id o,(σ q).h.at id=some o->liveO o=true->id<(σ q).n:=by
 have hc:∀p,s<=p->p<q->¬isE P (op p):=fun p h1 h2 he=>h.sF p h1 (by omega) he (hx p h2)
 refine⟨fun id o ho hl=>?_,fun id o ho hl=>?_⟩
 ·rcases pk.chain hs hq hc id with e|⟨p,h1,h2,h3,h4,h5⟩
  ·rw[e]at ho;exact h.m2 id o ho hl
  ·rw[h5]at ho
   subst h4
   rw[h.m1 p h1 (by omega) (hx p h2) h3];exact ho
 ·rcases pk.chain hs hq hc id with e|⟨p,h1,h2,h3,h4,h5⟩
  ·rw[e]at ho
   exact Nat.lt_of_lt_of_le (h.lb id o ho hl) (pk.mono hs hq)
  ·subst h4
   exact Nat.lt_of_lt_of_le h3 (pk.mono (by omega) hq)
theorem Inv.all (pk:PlanOk P ih ops N ix op mo σ)(h:Inv P N op σ n ds g0 w0 X g M s a w)(hx:∀p,p<N->X p):FrOk g n (σ N).fr ds a/\Ok P g (σ N).h.at (σ N).n w/\Aft g0 (σ 0).h.at w0 g (σ N).h.at w:=by
 obtain⟨h1,h2⟩:=h.here pk (Nat.le_refl N) h.sN hx
 have hw:=h.mem.toW
 refine⟨⟨h.size,fun i v hv=>?_,h.defs.mono (ext_below _ _)⟩,⟨fun id o ho hl=>hw.den id o (h1 id o ho hl) hl,fun i j x y lx ly hi hj hne hwx hly=>hw.sep i j x y lx ly (h1 i x hi (live_of_wr hwx)) (h1 j y hj hly) hne hwx hly,h.top⟩,h.aft.trans ⟨Ext.refl g,Chg.refl _ w,fun k _ ⟨j,x,l,k1,k2,k3,k4⟩=>⟨j,x,l,h1 j x k1 (live_of_wr k2),k2,k3,k4⟩,fun k _ ⟨j,x,l,k1,k2,k3,k4⟩=>⟨j,x,l,h1 j x k1 k2,k2,k3,k4⟩⟩⟩
 by_cases hd:∃p,p<N/\(op p).dst=some i
 ·obtain⟨p,hp,hd⟩:=hd
  rw[pk.keep (show p+1<=N by omega) (Nat.le_refl N) (fun r h1 h2 hr=>pk.wr r h2 i hr p (by omega) hd)]at hv
  exact(h.slot p hp (hx p hp) i hd v hv).mono (ext_below _ _)
 ·rw[pk.keep (Nat.zero_le N) (Nat.le_refl N) (fun r h1 h2 hr=>hd ⟨r,h2,hr⟩)]at hv
  exact(h.old i (fun p hp _ hr=>hd ⟨p,hp,hr⟩) v hv).mono (ext_below _ _)
theorem Inv.at_eff (pk:PlanOk P ih ops N ix op mo σ)(h:Inv P N op σ n ds g0 w0 X g M s a w)(hq:MayQ P ops N ix X q)(hc:isE P (op q)):s<=q/\∀p,p<q->X p:=by
 have hx:∀p,p<q->X p:=fun p hp=>hq.bef p (by have:=hq.lt;omega) (pk.eff q hq.lt hc p hp)
 refine⟨Nat.le_of_not_lt fun hlt=>hq.new (h.sX q hlt),hx⟩
theorem Inv.at_calm (h:Inv P N op σ n ds g0 w0 X g M s a w)(hq:MayQ P ops N ix X q):s<=q:=Nat.le_of_not_lt fun hlt=>hq.new (h.sX q hlt)
theorem Inv.calm (pk:PlanOk P ih ops N ix op mo σ)(h:Inv P N op σ n ds g0 w0 X g M s a w)(hq:MayQ P ops N ix X q)(hd:∀d,(op q).dst=some d->Nat.blt d n=true)(hc:¬isE P (op q))(hn:(σ (q+1)).n=(σ q).n){v U:Value}
  (hat:∀j,(σ (q+1)).fr.at j=putAt (σ q).fr (op q).dst v j) (hv:VR (below g (σ (q+1)).n) v U):Inv P N op σ n ds g0 w0 (fun p=>X p\/p=q) g M s (a.put (op q).dst U) w:=by
 obtain⟨k1,k2,k3,k4,k5⟩:=h.frame pk hq hd (Ext.refl g) hat hv
 refine⟨k1,k2,k3,fun p hp hx=>h.free p hp (fun k=>hx (.inl k)),h.top,k4,k5,h.sN,h.sE,fun p hp=>.inl (h.sX p hp),fun p h1 h2 h3 hx=>?_,h.lb,h.mem,fun p h1 h2 hx h3=>?_,h.m2,h.aft⟩
 ·rcases hx with hx|rfl
  ·exact h.sF p h1 h2 h3 hx
  ·exact hc h3
 ·rcases hx with hx|rfl
  ·exact h.m1 p h1 h2 hx h3
  ·omega
theorem Inv.new (pk:PlanOk P ih ops N ix op mo σ)(h:Inv P N op σ n ds g0 w0 X g M s a w)(hq:MayQ P ops N ix X q)(hd:∀d,(op q).dst=some d->Nat.blt d n=true)(hc:¬isE P (op q))(hn:(σ (q+1)).n=(σ q).n+1){ob:VO}(hh:∀j,(σ (q+1)).h.at j=if j=(σ q).n then some ob else(σ q).h.at j){v U:Value}
  (hat:∀j,(σ (q+1)).fr.at j=putAt (σ q).fr (op q).dst v j) {O:Obj} {cap esz:Nat} (ho:∀g',Ext (below g (σ q).n) g'->ObjAt P g' ⟨w.heap.size,0,cap,esz⟩ ob O) (hv:∀g',g' (σ q).n=some ⟨w.heap.size,0,cap,esz⟩->VR g' v U) :
  ∃g' M',Inv P N op σ n ds g0 w0 (fun p=>X p\/p=q) g' M' s (a.put (op q).dst U) (w.alloc O):=by
 have hN:=hq.lt
 have hs:=h.at_calm hq
 have hfree:g (σ q).n=none:=h.free q hN hq.new _ (Nat.le_refl _) (by omega)
 obtain⟨k1,k2⟩:=h.mem.new hfree ho
 have he:Ext g (setG g (σ q).n ⟨w.heap.size,0,cap,esz⟩):=ext_setG hfree
 have hg:setG g (σ q).n ⟨w.heap.size,0,cap,esz⟩ (σ q).n=some ⟨w.heap.size,0,cap,esz⟩:=by unfold setG;rw[if_pos rfl]
 have hne:∀id,id≠(σ q).n->setG g (σ q).n ⟨w.heap.size,0,cap,esz⟩ id=g id:=fun id e=>by unfold setG;rw[if_neg e]
 obtain⟨f1,f2,f3,f4,f5⟩:=h.frame pk hq hd he hat (hv _ (below_some.2 ⟨by omega,hg⟩))
 refine⟨_,_,f1,f2,f3,fun p hp hx id h1 h2=>?_,fun id hid=>?_,f4,f5,h.sN,h.sE,fun p hp=>.inl (h.sX p hp),fun p h1 h2 h3 hx=>?_,h.lb,k1,fun p h1 h2 hx h3=>?_,fun id o ho hl=>?_,h.aft.trans k2⟩
 ·have hpq:p≠q:=fun e=>hx (.inr e)
  rw[hne]
  ·exact h.free p hp (fun k=>hx (.inl k)) id h1 h2
  ·rcases Nat.lt_or_ge p q with hlt|hge
   ·have:=pk.mono (show p+1<=q by omega) (by omega);omega
   ·have:=pk.mono (show q+1<=p by omega) (by omega);omega
 ·rw[hne]
  ·exact h.top id hid
  ·have:=pk.mono (show q+1<=N by omega) (Nat.le_refl N);omega
 ·rcases hx with hx|rfl
  ·exact h.sF p h1 h2 h3 hx
  ·exact hc h3
 ·rcases hx with hx|rfl
  ·have hpq:p≠q:=fun e=>hq.new (e▸hx)
   rw[if_neg]
   ·exact h.m1 p h1 h2 hx h3
   ·rcases Nat.lt_or_ge p q with hlt|hge
    ·have:=pk.mono (show p+1<=q by omega) (by omega);omega
    ·have:=pk.mono (show q+1<=p by omega) (by omega);omega
  ·rw[if_pos rfl,hh,if_pos rfl]
 ·have:=h.lb id o ho hl
  have:=pk.mono hs (by omega)
  rw[if_neg (by omega)]
  exact h.m2 id o ho hl
theorem Inv.eff (pk:PlanOk P ih ops N ix op mo σ)(h:Inv P N op σ n ds g0 w0 X g M s a w)(hq:MayQ P ops N ix X q)(hd:∀d,(op q).dst=some d->Nat.blt d n=true)(hc:isE P (op q)){g':Gm}{w':World}{v U:Value}
  (hat:∀j,(σ (q+1)).fr.at j=putAt (σ q).fr (op q).dst v j) (hv:VR g' v U) (ho:Ok P g' (σ (q+1)).h.at (σ (q+1)).n w') (ha:Aft (below g (σ q).n) (σ q).h.at w g' (σ (q+1)).h.at w') :
  ∃g'' M',Inv P N op σ n ds g0 w0 (fun p=>X p\/p=q) g'' M' (q+1) (a.put (op q).dst U) w':=by
 have hN:=hq.lt
 obtain⟨hs,hx⟩:=h.at_eff pk hq hc
 obtain⟨h1,h2⟩:=h.here pk (by omega) hs hx
 have hqq:(σ q).n<=(σ (q+1)).n:=pk.mono (by omega) (by omega)
 obtain⟨k1,k2,k3,k4⟩:=h.mem.eff (pk.mono hs (by omega)) hqq h1 h2 (fun id i1 i2=>h.free q hN hq.new id i1 i2) ho ha
 have hout:∀id,(σ (q+1)).n<=id->joinG g g' (σ (q+1)).n id=g id:=fun id hid=>by unfold joinG;rw[if_neg (by omega)]
 obtain⟨f1,f2,f3,f4,f5⟩:=h.frame pk hq hd k3 hat (hv.mono k4)
 have later:∀p,p<N->¬(X p\/p=q)->q+1<=p:=fun p hp hn=>by
  rcases Nat.lt_trichotomy p q with hlt|rfl|hlt
  ·exact absurd (.inl (hx p hlt)) hn
  ·exact absurd (.inr rfl) hn
  ·exact hlt
 refine⟨_,_,f1,f2,f3,fun p hp hnx id i1 i2=>?_,fun id hid=>?_,f4,f5,by omega,.inr (by simpa using hc),fun p hp=>?_,fun p i1 i2 i3 hxp=>?_,fun id o i1 i2=>?_,k1,fun p i1 i2 hxp i3=>?_,fun id o i1 i2=>?_,h.aft.trans k2⟩
 ·have hl:=later p hp hnx
  rw[hout id (Nat.le_trans (pk.mono hl (by omega)) i1)]
  exact h.free p hp (fun k=>hnx (.inl k)) id i1 i2
 ·rw[hout id (Nat.le_trans (pk.mono (show q+1<=N by omega) (Nat.le_refl N)) hid)]
  exact h.top id hid
 ·rcases Nat.lt_or_ge p q with hlt|hge
  ·exact .inl (hx p hlt)
  ·exact .inr (by omega)
 ·rcases hxp with hxp|rfl
  ·exact hq.cl p i2 hxp (pk.eff p i2 i3 q (by omega))
  ·omega
 ·obtain⟨l,_,i3,_⟩:=ho.den id o i1 i2
  exact ho.idlt i3
 ·rcases hxp with hxp|rfl
  ·have hm:=pk.mono (show q+1<=p by omega) (by omega)
   show joinM M (σ (q+1)).h.at (σ (q+1)).n (σ p).n=_
   unfold joinM
   rw[if_neg (by omega)]
   exact h.m1 p (by omega) i2 hxp i3
  ·omega
 ·obtain⟨l,_,i3,_⟩:=ho.den id o i1 i2
  show joinM M (σ (q+1)).h.at (σ (q+1)).n id=_
  unfold joinM
  rw[if_pos (ho.idlt i3)]
  exact i1
end
end Go.Ev
namespace Go.Ev
open Go.RowKit
set_option linter.unusedVariables false
section
variable {P:Program}{ih:Evl}{ops:Array Oper}{N:Nat}{ix:Nat->Nat}{op:Nat->Oper}{mo:Nat->Nat}{σ:Nat->PS}{n:Nat}{ds:List Nat}{g0:Gm}{w0:World}{ρ:Option Nat}{m:Nat}{Q:Exit->Act->World->Prop}
variable {X:Nat->Prop}{g:Gm}{M:Mem}{s q:Nat}{a:Act}{w:World}
theorem val_wp {o:Oper}{next:Act->World->Prop}{u:Value}{w':World}(hd:∀c,o.op≠.defer c)(h:(execOp a.eval o).run P w=.ok (.value u) w')(k:next (a.put o.dst u) w'):o.wpIn (fen ρ) m P a w next Q:=by
 refine⟨fun _ _=>trivial,?_⟩
 rw[Oper.semAt_eq _ _ _ hd,h]
 exact k
theorem tmps_guard {o o':Oper}{j:Nat}{b:Bool}{d:Tmp}(hg:o.guard=some (j,b))(hj:ops[j]?=some o')(hd:o'.dst=some d):d∈tmpsOf ops o:=by
 have:guardOf ops o=.at d (slot d) b:=by
  unfold guardOf
  rw[hg]
  simp only
  rw[Array.getElem?_toList,hj]
  simp only
  rw[hd]
 unfold tmpsOf
 rw[this]
 simp
theorem tmps_operand {o:Oper}{i:Nat}(h:Operand.tmp i∈o.op.operands.toList):i∈tmpsOf ops o:=by
 unfold tmpsOf
 refine List.mem_append_right _ (List.mem_filterMap.2 ⟨_,h,rfl⟩)
theorem isE_of {o:Oper}{c:Ins}(h:comp P o.op=c)(hc:isEff c=false):¬isE P o:=by
 unfold isE;rw[h,hc];simp
theorem Inv.one (pk:PlanOk P ih ops N ix op mo σ)(hcs:CallSound P ih.call)(hys:YieldSound P ih)(h:Inv P N op σ n ds g0 w0 X g M s a w)(hq:MayQ P ops N ix X q)(hd:∀d,(op q).dst=some d->Nat.blt d n=true)
  {K:Act->World->Prop} (hK:∀g' M' s' a' w',Inv P N op σ n ds g0 w0 (fun p=>X p\/p=q) g' M' s' a' w'->K a' w'):wpOpIn (fen ρ) m P ops Q (ix q) K a w:=by
 have hN:=hq.lt
 have hs:=h.at_calm hq
 have hmono:(σ s).n<=(σ q).n:=pk.mono hs (by omega)
 obtain⟨bb,v,hbb,hat,hcase⟩:=(pk.step q hN).ex
 have hin:InR (below g (σ q).n) (σ q).fr a (op q).op.operands.toList:=fun i hi v hv=>h.inputs pk hq (tmps_operand hi) hv
 have hglob:Glob P (below g (σ q).n):=h.glob.mono (below_mono (Ext.refl g) (pk.mono (Nat.zero_le q) (by omega)))
 have hw:Region.wanted (op q) (yielded ops a.tmps)=bb:=by
  have h1:=hbb (fun b=>RC.go (.exit (match b with|true=>1|false=>0)) fr0 [] hp0 0)
  have h2:=wanted_inv (g:=below g (σ q).n) (a:=a) h1 gon (fun j b o' d h3 h4 h5 v hv=>h.inputs pk hq (tmps_guard h3 h4 h5) hv)
  injection h2 with h2
  injection h2 with h2
  cases hww:Region.wanted (op q) (yielded ops a.tmps)<;>cases bb<;>first|rfl|(rw[hww]at h2;cases h2)
 have hok:Ok P (below g (σ q).n) (σ s).h.at (σ q).n w:=h.mem.ok hmono h.m2 (fun j x h1 h2=>Nat.lt_of_lt_of_le (h.lb j x h1 h2) hmono)
 unfold wpOpIn
 rw[pk.get q hN]
 simp only
 rw[hw]
 rcases hcase with⟨rfl,rfl,h1,h2,h3⟩|⟨rfl,hdid⟩
 ·rw[if_neg (by simp)]
  refine⟨fun _ _=>trivial,?_⟩
  by_cases hc:isE P (op q)
  ·obtain⟨_,hx⟩:=h.at_eff pk hq hc
   obtain⟨k1,k2⟩:=h.here pk (by omega) hs hx
   obtain⟨g',M',hi⟩:=h.eff pk hq hd hc (g':=below g (σ q).n) (w':=w) (U:=undef) hat (undef_vr _) (by rw[h1,h2];exact h.mem.ok hmono k1 k2) (by rw[h1];exact Aft.refl _ _ _)
   exact hK _ _ _ _ _ hi
  ·exact hK _ _ _ _ _ (h.calm pk hq hd hc h2 hat (undef_vr _))
 ·rw[if_pos rfl]
  cases hdid with
  |read f l hp hs' hc hv hh hf hm h1 h2 h3=>
   have hr:VRL (below g (σ q).n) l ((op q).op.operands.toList.map a.eval):=by
    have h4:=valsK_inv (hv (Option (List Value)) none some) (by simp) hin hglob
    obtain⟨vs,e,h4⟩:=h4
    cases e
    exact h4
   obtain⟨c,hcm,hcs'⟩:=pk.snap hs hN h.sE (fun p i1 i2 i3 i4=>h.sF p i1 (by omega) i3 (hq.bef p (by omega) i4))
   have hsame:∃u',f l (σ s).h=some u'/\∀G U,VR G u' U->VR G v U:=by
    rw[hh]at hcs'
    cases c with
    |zero=>
     simp at hcs'
     subst hcs'
     exact⟨v,hf,fun _ _ k=>k⟩
    |succ c=>
     obtain⟨u',k1,k2⟩:=sameAt_get (m:=mo q) hm (Nat.lt_of_succ_le hcm) (by simpa using hcs')
     exact⟨u',k1,fun _ _ k=>veq_ok k2 k⟩
   obtain⟨u',k1,k2⟩:=hsame
   obtain⟨U,k3,k4⟩:=read_ok hc k1 hok.toW hr
   refine val_wp (comp_defer (by rw[hc];simp)) k4 ?_
   exact hK _ _ _ _ _ (h.calm pk hq hd (isE_of hc rfl) h2 hat (by rw[h2];exact k2 _ _ k3))
  |pure f hc hi h3=>
   rw[hc]at hi
   unfold insB at hi
   replace hi:=valsK_inv hi on hin hglob
   obtain⟨l,hi,hr⟩:=hi
   replace hi:=pureI_inv hi
   obtain⟨hi,_,hn⟩:=hi
   obtain⟨U,k3,k4⟩:=pure_ok hc hi hr
   refine val_wp (comp_defer (by rw[hc];simp)) (k4 w) ?_
   exact hK _ _ _ _ _ (h.calm pk hq hd (isE_of hc rfl) hn hat (by rw[hn];exact k3))
  |alloc f hc hi h3=>
   rw[hc]at hi
   unfold insB at hi
   replace hi:=valsK_inv hi on hin hglob
   obtain⟨l,hi,hr⟩:=hi
   replace hi:=allocI_inv hi
   obtain⟨ob,mk,hi,rfl,hn,hh⟩:=hi
   obtain⟨O,U,cap,esz,k1,k2,k3⟩:=alloc_ok hc hi hr w
   refine val_wp (comp_defer (by rw[hc];simp)) k1 ?_
   obtain⟨g',M',hi⟩:=h.new pk hq hd (isE_of hc rfl) hn hh hat k2 (fun g' hg=>k3 g' _ hg)
   exact hK _ _ _ _ _ hi
  |eff hc hi hn h3=>
   obtain⟨_,hx⟩:=h.at_eff pk hq hc
   obtain⟨k1,k2⟩:=h.here pk (by omega) hs hx
   refine ins_wp hi hcs hys hin (h.mem.ok hmono k1 k2) hglob fun U w1 hr=>?_
   obtain⟨g',h4,h5,h6⟩:=hr
   obtain⟨g'',M',hi⟩:=h.eff pk hq hd hc hat h4 h5 h6
   exact hK _ _ _ _ _ hi
  |sem hc hdf hx h1 h2 h3=>
   obtain⟨c,hcm,hcs'⟩:=pk.snap hs hN h.sE (fun p i1 i2 i3 i4=>h.sF p i1 (by omega) i3 (hq.bef p (by omega) i4))
   obtain⟨U,k3,k4⟩:=hx c _ hcm hcs' _ w a hok.toW (fun id hid=>below_none hid) hglob hin
   refine val_wp hdf k4 ?_
   exact hK _ _ _ _ _ (h.calm pk hq hd (by unfold isE;rw[hc];simp) h2 hat (by rw[h2];exact k3))
  |made ob mk hc hdf hv hn hh h3 hx=>
   subst hv
   obtain⟨O,U,cap,esz,k1,k2,k3⟩:=hx _ a hglob hin w
   refine val_wp hdf k1 ?_
   obtain⟨g',M',hi⟩:=h.new pk hq hd (by unfold isE;rw[hc];simp) hn hh hat k2 (fun g' hg=>k3 g' _ hg)
   exact hK _ _ _ _ _ hi
  |done hc hn h3 hx=>
   obtain⟨_,hx'⟩:=h.at_eff pk hq hc
   obtain⟨k1,k2⟩:=h.here pk (by omega) hs hx'
   refine hx _ w a ρ m _ _ (h.mem.ok hmono k1 k2) hglob hin fun U w1 hr=>?_
   obtain⟨g',h4,h5,h6⟩:=hr
   obtain⟨g'',M',hi⟩:=h.eff pk hq hd hc hat h4 h5 h6
   exact hK _ _ _ _ _ hi
theorem getD_true {listed:Array Bool}{i:Nat}(hi:i<listed.size)(d:Bool):listed.getD i d=listed[i]'hi:=by simp[Array.getD_eq_getD_getElem?,hi]
theorem drawn_any (pk:PlanOk P ih ops N ix op mo σ)(hcs:CallSound P ih.call)(hys:YieldSound P ih)(hd:∀(i:Nat)(o:Oper)(d:Nat),ops[i]?=some o->o.dst=some d->Nat.blt d n=true)
  (kQ:∀g a w,FrOk g n (σ N).fr ds a->Ok P g (σ N).h.at (σ N).n w->Aft g0 (σ 0).h.at w0 g (σ N).h.at w->Q .normal a w):∀(fuel:Nat) (listed:Array Bool) (g:Gm) (M:Mem) (s:Nat) (a:Act) (w:World),
  Inv P N op σ n ds g0 w0 (fun p=>listed.getD (ix p) false=true) g M s a w->listed.size=ops.size->(∀i,listed.getD i false=true->∀o,ops[i]?=some o->∀e∈o.after,Region.binds .any e=true->listed.getD e.on false=true) ->
  listed.toList.count false<=fuel->wpAnyIn (fen ρ) m P .any ops Q fuel listed a w:=by
 have hix:∀p,p<N->ix p<ops.size:=fun p hp=>by
  have:=pk.get p hp
  rcases Nat.lt_or_ge (ix p) ops.size with h|h
  ·exact h
  ·rw[Array.getElem?_eq_none h]at this;cases this
 have done:∀(listed:Array Bool) (g:Gm) (M:Mem) (s:Nat) (a:Act) (w:World),Inv P N op σ n ds g0 w0 (fun p=>listed.getD (ix p) false=true) g M s a w->listed.size=ops.size->Region.ready .any ops listed=[]->Q .normal a w:=fun listed g M s a w h hsz hr=>by
  have hall:∀p,p<N->listed.getD (ix p) false=true:=fun p=>by
   induction p using Nat.strongRecOn with
   |_ p ihp=>
    intro hp
    cases hl:listed.getD (ix p) false with
    |true=>rfl
    |false=>
     have hlt:ix p<listed.size:=by rw[hsz];exact hix p hp
     have hmem:ix p∈Region.ready .any ops listed:=mem_ready.2 ⟨by rw[getD_true hlt]at hl ⊢;exact hl,op p,pk.get p hp,fun e he hb=>by
      obtain⟨r,h1,h2⟩:=pk.bef p hp _ (bf_edge (pk.get p hp) he hb)
      rw[<-h2];exact ihp r h1 (by omega)⟩
     rw[hr]at hmem;cases hmem
  obtain⟨h1,h2,h3⟩:=h.all pk hall
  exact kQ g a w h1 h2 h3
 have step:∀(listed:Array Bool) (g:Gm) (M:Mem) (s:Nat) (a:Act) (w:World),Inv P N op σ n ds g0 w0 (fun p=>listed.getD (ix p) false=true) g M s a w->listed.size=ops.size ->
   (∀i,listed.getD i false=true->∀o,ops[i]?=some o->∀e∈o.after,Region.binds .any e=true->listed.getD e.on false=true)->∀i∈Region.ready .any ops listed,∀K:Act->World->Prop,
   (∀g' M' s' a' w',Inv P N op σ n ds g0 w0 (fun p=>(listed.setIfInBounds i true).getD (ix p) false=true) g' M' s' a' w'->(listed.setIfInBounds i true).size=ops.size ->
    (∀j,(listed.setIfInBounds i true).getD j false=true->∀o,ops[j]?=some o->∀e∈o.after,Region.binds .any e=true->(listed.setIfInBounds i true).getD e.on false=true)->(listed.setIfInBounds i true).toList.count false+1=listed.toList.count false->K a' w') ->
   wpOpIn (fen ρ) m P ops Q i K a w:=fun listed g M s a w h hsz hcl i hi K hK=>by
  obtain⟨hun,o,ho,hedge⟩:=mem_ready.1 hi
  have hlt:i<ops.size:=by
   rcases Nat.lt_or_ge i ops.size with h|h
   ·exact h
   ·rw[Array.getElem?_eq_none h]at ho;cases ho
  have hlt':i<listed.size:=by rw[hsz];exact hlt
  have hun':listed.getD i false=false:=by rw[getD_true hlt']at hun ⊢;exact hun
  obtain⟨q,hq,rfl⟩:=pk.all i hlt
  have hop:o=op q:=by rw[pk.get q hq]at ho;cases ho;rfl
  subst hop
  have hset:∀j,(listed.setIfInBounds (ix q) true).getD j false=true↔listed.getD j false=true\/j=ix q:=fun j=>by
   by_cases e:ix q=j
   ·subst e
    simp[Array.getD_eq_getD_getElem?,hlt']
   ·rw[getD_set_ne false e]
    exact⟨.inl,fun h=>h.resolve_right (fun h=>e h.symm)⟩
  have hcl':∀j,(listed.setIfInBounds (ix q) true).getD j false=true->∀o,ops[j]?=some o->∀e∈o.after,Region.binds .any e=true->(listed.setIfInBounds (ix q) true).getD e.on false=true:=fun j hj o hoj e he hb=>by
   rw[hset]at hj ⊢
   left
   rcases hj with hj|rfl
   ·exact hcl j hj o hoj e he hb
   ·rw[ho]at hoj;cases hoj
    exact hedge e he hb
  have hmay:MayQ P ops N ix (fun p=>listed.getD (ix p) false=true) q:=by
   refine⟨hq,by simp[hun'],fun p hp hb=>?_,fun p hp hx hb=>?_⟩
   ·have hb':=bf_sub (X:=fun j=>(listed.setIfInBounds (ix q) true).getD j false=true) hcl' (ix q) ((hset _).2 (.inr rfl)) (ix p) hb
    rcases (hset _).1 hb' with h'|h'
    ·exact h'
    ·exfalso
     have hpq:=pk.inj p q hp hq h'
     subst hpq
     obtain⟨r,h1,h2⟩:=pk.bef p hp _ hb
     have:=pk.inj r p (by omega) hp h2
     omega
   ·have hb':=bf_sub (X:=fun j=>listed.getD j false=true) hcl (ix p) hx (ix q) hb
    rw[hun']at hb';cases hb'
  refine h.one pk hcs hys hmay (fun d hdd=>hd _ _ d ho hdd) fun g' M' s' a' w' h'=>hK g' M' s' a' w' (h'.congr fun p hp=>?_) (by simp[hsz]) hcl' ?_
  ·rw[hset]
   constructor
   ·rintro (h'|rfl)
    ·exact .inl h'
    ·exact .inr rfl
   ·rintro (h'|h')
    ·exact .inl h'
    ·exact .inr (pk.inj p q hp hq h')
  ·have hg:listed.toList[ix q]'(by simpa using hlt')=false:=by
    rw[getD_true hlt']at hun'
    simpa using hun'
   rw[Array.toList_setIfInBounds,List.count_set (by simpa using hlt'),hg]
   have hpos:0<listed.toList.count false:=List.count_pos_iff.2 (by rw[<-hg];exact List.getElem_mem _)
   show List.count false listed.toList-1+0+1=_
   omega
 intro fuel
 induction fuel with
 |zero=>
  intro listed g M s a w h hsz hcl hcount
  have hr:Region.ready .any ops listed=[]:=by
   cases hrr:Region.ready .any ops listed with
   |nil=>rfl
   |cons i t=>
    obtain⟨hun,o,ho,_⟩:=mem_ready.1 (show i∈Region.ready .any ops listed by rw[hrr];simp)
    have hlt:i<listed.size:=by
     rw[hsz]
     rcases Nat.lt_or_ge i ops.size with h|h
     ·exact h
     ·rw[Array.getElem?_eq_none h]at ho;cases ho
    rw[getD_true hlt]at hun
    have:false∈listed.toList:=by rw[<-hun];simp
    have:=List.count_pos_iff.2 this
    omega
  exact⟨hr,done listed g M s a w h hsz hr⟩
 |succ fuel ihf=>
  intro listed g M s a w h hsz hcl hcount
  exact⟨fun hr=>done listed g M s a w h hsz hr,fun i hi=>step listed g M s a w h hsz hcl i hi _ fun g' M' s' a' w' h1 h2 h3 h4=>ihf _ g' M' s' a' w' h1 h2 h3 (by omega)⟩
theorem repl_getD (k i:Nat):(Array.replicate k false).getD i false=false:=by
 rw[Array.getD_eq_getD_getElem?,Array.getElem?_replicate]
 split<;>rfl
theorem drawn_pk {fr:Fr}{hp:Hp}{nx:Nat}{id:Nat}(pk:PlanOk P ih ops N ix op mo σ)(h0:σ 0=⟨[hp],fr,hp,nx⟩)(hpo:ProgOk P)(hcs:CallSound P ih.call)(hys:YieldSound P ih)(hd:∀(i:Nat)(o:Oper)(d:Nat),ops[i]?=some o->o.dst=some d->Nat.blt d n=true)
  (hf:FrOk g n fr ds a) (ho:Ok P g hp.at nx w) (hg:Glob P g):(Code.region id ops true).wpIn (fen ρ) m P (PostR P g hp w n .normal (σ N).fr ds (σ N).h (σ N).n) a w:=by
 have hb:Ext g (below g nx):=fun i l hi=>below_some.2 ⟨ho.idlt hi,hi⟩
 refine wpIn_region_any hpo.mixed (drawn_any (n:=n) (ds:=ds) (g0:=g) (w0:=w) pk hcs hys hd (fun g' a' w' k1 k2 k3=>?_) _ _ g hp.at 0 _ _ ?_ (by simp) (fun i hi=>?_) ?_)
 ·rw[h0]at k3
  exact PostR.here k1 k2 k3
 ·have hx:∀p,¬(Array.replicate ops.size false).getD (ix p) false=true:=fun p=>by
   rw[repl_getD];simp
  have hlb:∀id o,hp.at id=some o->liveO o=true->id<nx:=fun id o i1 i2=>by
   obtain⟨l,_,i3,_⟩:=ho.den id o i1 i2
   exact ho.idlt i3
  have hn0:(σ 0).n=nx:=by rw[h0]
  have hh0:(σ 0).h=hp:=by rw[h0]
  have hf0:(σ 0).fr=fr:=by rw[h0]
  refine⟨hf.size,by rw[hn0];exact hf.ds.mono hb,by rw[hn0];exact hg.mono hb,fun p hp _ id i1 i2=>ho.bnd id ?_,fun id hid=>ho.bnd id ?_,fun p _ hx'=>absurd hx' (hx p),fun j _ v hv=>?_,Nat.zero_le _,.inl rfl,fun p hp=>by omega,fun p _ _ _=>hx p,by rw[hh0,hn0];exact hlb,?_,fun p _ _ hx'=>absurd hx' (hx p),by rw[hh0];exact fun _ _ i1 _=>i1,?_⟩
  ·rw[<-hn0];exact Nat.le_trans (pk.mono (Nat.zero_le p) (by omega)) i1
  ·rw[<-hn0];exact Nat.le_trans (pk.mono (Nat.zero_le N) (Nat.le_refl N)) hid
  ·rw[hn0];rw[hf0]at hv;exact(hf.fr j v hv).mono hb
  ·rw[hn0]
   exact⟨fun i o i1 i2=>let ⟨l,O,k1,k2,k3⟩:=ho.den i o i1 i2;⟨l,O,k1,k2,k3.mono (hb.trans (below_mono (Ext.refl g) (by omega)))⟩,ho.sep⟩
  ·rw[hh0]
   exact⟨Ext.refl g,⟨rfl,rfl,rfl,Nat.le_refl _,fun _ _ _=>rfl⟩,fun _ _ k=>k,fun _ _ k=>k⟩
 ·rw[repl_getD]at hi;cases hi
 ·rw[Array.toList_replicate,List.count_replicate];simp
theorem drawn_ok {fr fr':Fr}{hp hp':Hp}{nx nx':Nat}{e:Ex}{ds':List Nat}{r:List PI}{id:Nat}(hr:planOf P ops=some r)(h:planB P ih ds r [hp] fr hp nx=.go e fr' ds' hp' nx')(hpo:ProgOk P)(hcs:CallSound P ih.call)(hys:YieldSound P ih)(hd:∀(i:Nat)(o:Oper)(d:Nat),ops[i]?=some o->o.dst=some d->Nat.blt d n=true)
  (hf:FrOk g n fr ds a) (ho:Ok P g hp.at nx w) (hg:Glob P g):(Code.region id ops true).wpIn (fen ρ) m P (PostR P g hp w n e fr' ds' hp' nx') a w:=by
 obtain⟨rfl,rfl,N,ix,op,mo,σ,pk,h0,h1,h2,h3⟩:=plan_ok hr h
 have:=drawn_pk (ρ:=ρ) (m:=m) (id:=id) pk h0 hpo hcs hys hd hf ho hg
 rw[h1,h2,h3]at this
 exact this
end
end Go.Ev
namespace Go.Ev
open Go.RowKit
set_option linter.unusedVariables false
section
variable {P:Program}{g:Gm}{w:World}
theorem wpIn_depth {F:Fence}{c:Code}{Q:Exit->Act->World->Prop}{a:Act}{m k:Nat}(hF:F.depth=none)(h:c.wpIn F m P Q a w):c.wpIn F k P Q a w:=
 fun b kk cs h1 h2 _=>h b kk cs h1 h2 (fun d hd=>by rw[hF]at hd;cases hd)
theorem ObjAt.loop_is {l:Loc}{st fn:Nat}{tm:Fr}{ps:List Tmp}{a b:Code}{D:Nat}{pend:Option Code}{O:Obj}(h:ObjAt P g l (.loop st fn tm ps a b D pend) O) :
  ∃(r:Loop) (fd:Func),O=.loop r/\r.state=stOf st/\r.pending=pend/\r.params=⟨ps⟩/\r.assign=a/\r.body=b/\P.funcs.toList[fn]?=some fd/\r.tmps.size=fd.ntmps/\codeOk fd.ntmps a=true/\codeOk fd.ntmps b=true/\ps.all (fun p=>Nat.blt p fd.ntmps)=true/\FrR g tm (fun i=>r.tmps.getD i undef) /\
   ∀st' pend',ObjAt P g l (.loop st' fn tm ps a b D pend') (.loop {r with state:=stOf st',pending:=pend'}):=by
 obtain⟨tmps,lD,fd,fn',rfl,h1,h2,h3,h4,h5,h6,h7⟩:=h
 exact⟨_,fd,rfl,rfl,rfl,rfl,rfl,rfl,h3,h4,h5,h6,h7,h2,fun st' pend'=>⟨tmps,lD,fd,fn',rfl,h1,h2,h3,h4,h5,h6,h7⟩⟩
theorem chg_put {b:Nat}{o:Obj}:Chg (fun k=>k=b) w (w.putObj b o):=⟨rfl,rfl,rfl,by simp[World.putObj],fun k _ hn=>World.putObj_heap_other (fun e=>hn e)⟩
theorem Ok.loop {H H':Mem}{n:Nat}{l:Nat}{L:Loc}{st fn st':Nat}{tm:Fr}{ps:List Tmp}{a b:Code}{D:Nat}{pend pend':Option Code}(h:Ok P g H n w)(hi:H l=some (.loop st fn tm ps a b D pend))(hg:g l=some L)(hH:∀j,H' j=if j=l then some (.loop st' fn tm ps a b D pend')else H j) :
  ∃(r:Loop) (fd:Func),w.heap[L.blk]?=some (.loop r)/\r.state=stOf st/\r.pending=pend/\r.params=⟨ps⟩/\r.assign=a/\r.body=b/\P.funcs.toList[fn]?=some fd/\r.tmps.size=fd.ntmps/\codeOk fd.ntmps a=true/\codeOk fd.ntmps b=true/\ps.all (fun p=>Nat.blt p fd.ntmps)=true/\FrR g tm (fun i=>r.tmps.getD i undef) /\
   Ok P g H' n (w.putObj L.blk (.loop {r with state:=stOf st',pending:=pend'}))/\Aft g H w g H' (w.putObj L.blk (.loop {r with state:=stOf st',pending:=pend'})):=by
 obtain⟨l',O,h1,h2,h3⟩:=h.den l _ hi rfl
 rw[hg]at h1;cases h1
 obtain⟨r,fd,rfl,k1,k2,k3,k4,k5,k6,k7,k8,k9,k10,k11,k12⟩:=h3.loop_is
 obtain⟨q1,q2⟩:=h.upd (O':=.loop {r with state:=stOf st',pending:=pend'}) hi rfl hg (World.putObj_heap_same (lt_of_heap h2)) (k12 st' pend') chg_put hH
 exact⟨r,fd,h2,k1,k2,k3,k4,k5,k6,k7,k8,k9,k10,k11,q1,q2⟩
theorem fold_size:∀(l:List (Tmp × Value))(t:Array Value),(l.foldl (fun t (p,a)=>t.setIfInBounds p a) t).size=t.size
 |[],t=>rfl
 |x::l,t=>by rw[List.foldl_cons,fold_size l];simp
theorem bindF_inv:∀(ps:List Tmp){vs us:List Value}{fr:Fr}{k:Fr->RC}{r:RC}{tmps:Array Value},bindF ps vs fr k=r->r≠.no->VRL g vs us->FrR g fr (fun i=>tmps.getD i undef)->ps.all (fun p=>Nat.blt p tmps.size)=true ->
  ∃fr1,k fr1=r/\us.length=ps.length/\FrR g fr1 (fun i=>((ps.zip us).foldl (fun t (p,a)=>t.setIfInBounds p a) tmps).getD i undef)
 |[],vs,us,fr,k,r,tmps,h,hn,hv,hf,hb=>by
  replace h:nil1 vs .no (k fr)=r:=h
  replace h:=nil1_inv h hn
  obtain⟨rfl,h⟩:=h
  cases(show us=[]from hv)
  exact⟨fr,h,rfl,hf⟩
 |p::ps,vs,us,fr,k,r,tmps,h,hn,hv,hf,hb=>by
  replace h:(lst vs .no fun v vs=>Fr.set fr (slot p) v fun fr=>bindF ps vs fr k)=r:=h
  replace h:=lst_inv h hn
  obtain⟨v,vs',rfl,h⟩:=h
  obtain⟨u,us',rfl,h1,h2⟩:=hv
  rcases Fr.set_slot fr p v (fun fr=>bindF ps vs' fr k)with e|⟨fr',e,ha⟩
  ·rw[e]at h;exact absurd h.symm hn
  ·rw[e]at h
   rw[List.all_cons,Bool.and_eq_true]at hb
   have hlt:p<tmps.size:=by simpa[Nat.blt_eq]using hb.1
   have hf':FrR g fr' (fun i=>(tmps.setIfInBounds p u).getD i undef):=fun i x hx=>by
    rw[ha]at hx
    simp only[Array.getD_eq_getD_getElem?,Array.getElem?_setIfInBounds]
    by_cases e:i=p
    ·subst e
     simp only[if_true]at hx
     cases hx
     simp[hlt,h1]
    ·rw[if_neg e]at hx
     rw[if_neg (fun e'=>e e'.symm)]
     have:=hf i x hx
     simp only[Array.getD_eq_getD_getElem?]at this
     exact this
   obtain⟨fr1,k1,k2,k3⟩:=bindF_inv ps h hn h2 hf' (by simpa using hb.2)
   exact⟨fr1,k1,by simp[k2],by simpa using k3⟩
theorem yield_sound {ih:Evl}(hcd:CodeSound P ih.code):YieldSound P ih:=by
 intro l args hp nx v hp' nx' h g w us L ho hg hr hL
 unfold round at h
 split at h
 ·rename_i fn tm ps assign body D pend hget
  split at h
  ·rename_i fr2 hp2 nx2 hbind
   have hat0:=Hp.get_at hp l hget
   obtain⟨l',O,q1,q2,q3⟩:=ho.den l _ hat0 rfl
   rw[hL]at q1;cases q1
   obtain⟨r,fd,rfl,r1,r2,r3,r4,r5,r6,r7,r8,r9,r10,r11,r12⟩:=q3.loop_is
   obtain⟨fr1,hass,hlen,hfr1⟩:=bindF_inv ps hbind gon hr r11 (by rw[r7];exact r10)
   refine⟨_,_,_,_,run_yield q2 (by rw[r3];simpa using hlen),?_⟩
   have hass:=hcd _ _ _ _ _ _ _ _ _ _ _ _ hass fd r6 r8 (some L.blk) g w {tmps:=(ps.zip us).foldl (fun t (p,a)=>t.setIfInBounds p a) r.tmps,defers:=[]} (fun e=>by cases e) ⟨by rw[fold_size];exact r7,hfr1,rfl⟩ ho hg
   refine roundIn_of_wpIn trivial ?_
   have hz:(r.params.zip us.toArray).foldl (fun tmps (t,a)=>tmps.setIfInBounds t a) r.tmps=(ps.zip us).foldl (fun t (p,a)=>t.setIfInBounds p a) r.tmps:=by
    rw[r3,<-Array.foldl_toList];simp
   rw[hz,r4,r5]
   refine wpIn_mono (wpIn_depth (k:=8) rfl hass) ?_
   rintro x a1 w1 ⟨rfl,g1,f1,o1,t1⟩
   split at h
   ·rename_i fn1 tm1 ps1 assign1 body1 D1 pend1 hget1
    replace h:=upd_inv h on
    obtain⟨hp3,h,hat3⟩:=h
    obtain⟨r',fd',p1,p2,p3,_,_,_,_,_,_,_,_,_,o2,t2⟩:=o1.loop (st':=1) (pend':=pend1) (Hp.get_at hp2 l hget1) (t1.ext _ _ hL) hat3
    refine⟨_,run_beginRound p1 p2,?_⟩
    have e1:({r' with state:=.busy}:Loop)={r' with state:=stOf 1,pending:=pend1}:=by rw[<-p3];rfl
    rw[e1]
    split at h
    ·rename_i ex fr4 hp4 nx4 hbody
     have hbody:=hcd _ _ _ _ _ _ _ _ _ _ _ _ hbody fd r6 r9 (some L.blk) g1 _ a1 (fun e=>by cases e) f1 o2 (hg.mono t1.ext)
     refine wpIn_mono (wpIn_depth (k:=8) rfl hbody) ?_
     rintro x a2 w2 ⟨rfl,g2,f2,o3,t3⟩
     have hL2:g2 l=some L:=t3.ext _ _ (t1.ext _ _ hL)
     have tt:Aft g hp.at w g2 hp4.at w2:=(t1.trans t2).trans t3
     split at h
     ·rename_i fn5 tm5 ps5 assign5 body5 D5 pend5 hget5
      cases ex with
      |normal=>
       simp only at h
       replace h:=upd_inv h on
       obtain⟨hp5,h,hat5⟩:=h
       cases h
       obtain⟨r5',fd5,s1,s2,s3,_,_,_,_,_,_,_,_,_,o4,t4⟩:=o3.loop (st':=0) (pend':=none) (Hp.get_at hp4 l hget5) hL2 hat5
       exact⟨_,_,run_endRound none s1,_,rfl,g2,rfl,o4,tt.trans t4⟩
      |ret=>
       simp only at h
       replace h:=upd_inv h on
       obtain⟨hp5,h,hat5⟩:=h
       cases h
       obtain⟨r5',fd5,s1,s2,s3,_,_,_,_,_,_,_,_,_,o4,t4⟩:=o3.loop (st':=2) (pend':=some .ret) (Hp.get_at hp4 l hget5) hL2 hat5
       exact⟨_,_,run_endRound (some .ret) s1,_,rfl,g2,rfl,o4,tt.trans t4⟩
      |exit i=>
       simp only at h
       replace h:=upd_inv h on
       obtain⟨hp5,h,hat5⟩:=h
       cases h
       obtain⟨r5',fd5,s1,s2,s3,_,_,_,_,_,_,_,_,_,o4,t4⟩:=o3.loop (st':=2) (pend':=some (.exit i)) (Hp.get_at hp4 l hget5) hL2 hat5
       exact⟨_,_,run_endRound (some (.exit i)) s1,_,rfl,g2,rfl,o4,tt.trans t4⟩
     ·cases h
    ·cases h
   ·cases h
  ·cases h
 ·cases h
end
end Go.Ev
namespace Go.Ev
open Go.RowKit
set_option linter.unusedVariables false
section
variable {P:Program}
def CodeAt (P:Program)(c:Code->Bool->Nat->Fr->List Nat->Hp->Nat->RC)(code:Code):Prop:=
 ∀rd fn fr ds hp nx e fr' ds' hp' nx',c code rd fn fr ds hp nx=.go e fr' ds' hp' nx'->∀fd,P.funcs.toList[fn]?=some fd->codeOk fd.ntmps code=true ->
  ∀(ρ:Option Nat) g w a,(rd=false->ρ=none)->FrOk g fd.ntmps fr ds a->Ok P g hp.at nx w->Glob P g->code.wpIn (fen ρ) 9 P (PostR P g hp w fd.ntmps e fr' ds' hp' nx') a w
theorem behind_inv {fr fr':Fr}{ds ds':List Nat}{D l:Nat}{r:RV}{e:Ex}{hp':Hp}{nx':Nat}(h:behind fr ds D l r=.go e fr' ds' hp' nx') :
  ∃v hp1 st fn tm ps a b D' pend,r=.ok v hp1 nx'/\hp1.at l=some (.loop st fn tm ps a b D' pend)/\stOf st≠.busy/\(∀j,hp'.at j=if j=l then some (.loop 3 fn tm ps a b D' pend)else hp1.at j)/\fr'=fr/\ds'=D::ds /\
   ((pend=none/\e=.normal)\/(pend=some .ret/\e=.ret)\/∃i,pend=some (.exit i)/\e=.exit i):=by
 unfold behind at h
 cases r with
 |no=>cases h
 |ok v hp1 nx1=>
  simp only at h
  cases hget:hp1.get l with
  |none=>rw[hget]at h;cases h
  |some o=>
   rw[hget]at h
   cases o with
   |loop st fn tm ps a b D' pend=>
    simp only at h
    cases hst:Nat.beq st 1 with
    |true=>rw[hst]at h;cases h
    |false=>
     rw[hst]at h
     simp only at h
     rcases upd_at hp1 l (.loop 3 fn tm ps a b D' pend) (fun h=>RV.ok .nilIface h nx1)with e1|⟨hp2,e1,hat⟩
     ·rw[e1]at h;cases h
     ·rw[e1]at h
      simp only at h
      cases hget2:hp2.get l with
      |none=>rw[hget2]at h;cases h
      |some o2=>
       rw[hget2]at h
       have hl2:=Hp.get_at hp2 l hget2
       rw[hat,if_pos rfl]at hl2
       cases hl2
       simp only at h
       have hb:stOf st≠.busy:=by
        match st,hst with
        |0,_=>simp[stOf]
        |2,_=>simp[stOf]
        |n+3,_=>simp[stOf]
       have ha1:=Hp.get_at hp1 l hget
       cases pend with
       |none=>
        cases h
        exact⟨v,hp1,st,fn,tm,ps,a,b,D',none,rfl,ha1,hb,hat,rfl,rfl,.inl ⟨rfl,rfl⟩⟩
       |some c=>
        simp only at h
        cases c<;>first|cases h;done|skip
        ·cases h
         exact⟨v,hp1,st,fn,tm,ps,a,b,D',_,rfl,ha1,hb,hat,rfl,rfl,.inr (.inr ⟨_,rfl,rfl⟩)⟩
        ·cases h
         exact⟨v,hp1,st,fn,tm,ps,a,b,D',_,rfl,ha1,hb,hat,rfl,rfl,.inr (.inl ⟨rfl,rfl⟩)⟩
   |_=>cases h
theorem chg_alloc {w:World}{o:Obj}:Chg (fun _=>False) w (w.alloc o):=⟨rfl,rfl,rfl,by rw[World.size_alloc];omega,fun k hk _=>Below.heap_alloc w o k hk⟩
theorem setG_at (g:Gm)(n:Nat)(l:Loc):setG g n l n=some l:=by unfold setG;rw[if_pos rfl]
theorem bodied_enter (hpo:ProgOk P){f:FuncId}(h:bodied P f=true)(args:Array Value)(w:World):(callFunc f args).run P w=.ok (.enter f args) w:=by
 unfold bodied at h
 split at h
 ·rename_i fn hfn
  have hname:=hpo.names f fn hfn
  have hf:P.funcs[f]?=some fn:=by rw[<-Array.getElem?_toList];exact hfn
  obtain⟨c,hc⟩:=Option.isSome_iff_exists.1 h
  have h1:fn.name ≠ "runtime.NumGoroutine" := by simpa using hname
  simp[callFunc,hf,h1,hc]
 ·cases h
theorem range_ok {ih:Evl}(hpo:ProgOk P)(hcs:CallSound P ih.call){f:Operand}{ps:Array Tmp}{assign body:Code}{rd:Bool}{fn:Nat}{fr fr':Fr}{ds ds':List Nat}{hp hp':Hp}{nx nx':Nat}{e:Ex}{fd:Func}{g:Gm}{w:World}{a:Act}{ρ:Option Nat}
  (h:rangeB P ih (argOf P f) ps assign body rd fn fr ds hp nx=.go e fr' ds' hp' nx') (hfd:P.funcs.toList[fn]?=some fd) (hco:codeOk fd.ntmps (.rangeFunc f ps assign body)=true) (hrd:rd=false->ρ=none) (hf:FrOk g fd.ntmps fr ds a) (ho:Ok P g hp.at nx w) (hg:Glob P g) :
  (Code.rangeFunc f ps assign body).wpIn (fen ρ) 9 P (PostR P g hp w fd.ntmps e fr' ds' hp' nx') a w:=by
 unfold rangeB at h
 replace h:=br_inv h
 rcases h with⟨_,h⟩|⟨hrd',h⟩
 ·cases h
 ·obtain rfl:=hrd hrd'
  replace h:=opK_inv h gon (hf.inr _) hg
  obtain⟨v,h,hv⟩:=h
  split at h
  ·rename_i gf first cap
   replace h:=br_t h gon
   obtain⟨hbod,h⟩:=h
   replace h:=behind_inv h
   obtain⟨v,hp3,st,fn3,tm3,ps3,a3,b3,D3,pend,hent,hat3,hst,hat4,rfl,rfl,hpend⟩:=h
   unfold enterR at hent
   replace hent:=new_inv hent on
   obtain⟨hp1,hent,hat1⟩:=hent
   replace hent:=new_inv hent on
   obtain⟨hp2,hent,hat2⟩:=hent
   obtain⟨fn',fi,ca,ev,hfn,hfi,hca⟩:=hv
   cases hfn
   have hfi:=VRA_iff.1 hfi
   have hca:=VRA_iff.1 hca
   simp only[codeOk,Bool.and_eq_true]at hco
   obtain⟨⟨hc1,hc2⟩,hc3⟩:=hco
   refine wpIn_rangeFunc fun fnm _=>?_
   obtain⟨o1,t1⟩:=ho.new (o:=.mark true) (H':=hp1.at) (w':=w.alloc (.deferred (some []))) 0 0 (O:=.deferred (some [])) rfl hat1 chg_alloc (World.alloc_heap_new w _)
   have hf1:FrOk (setG g nx ⟨w.heap.size,0,0,0⟩) fd.ntmps fr' ds a:=hf.mono t1.ext
   have hsz:(w.alloc (.deferred (some []))).heap.size=w.heap.size+1:=World.size_alloc w _
   have hext2:=ext_setG (l:=⟨w.heap.size+1,0,0,0⟩) (o1.bnd (nx+1) (Nat.le_refl _))
   have hD2:setG (setG g nx ⟨w.heap.size,0,0,0⟩) (nx+1) ⟨w.heap.size+1,0,0,0⟩ nx=some ⟨w.heap.size,0,0,0⟩:=hext2 _ _ (setG_at _ _ _)
   have hnew2:=o1.new (o:=.loop 0 fn fr' ps.toList assign body nx none) (H':=hp2.at) (w':=(w.alloc (.deferred (some []))).alloc (.loop {state:=.ready,pending:=none,fn:=fnm,tmps:=a.tmps,params:=ps,assign,body,defers:=w.heap.size})) 0 0
    (O:=.loop {state:=.ready,pending:=none,fn:=fnm,tmps:=a.tmps,params:=ps,assign,body,defers:=w.heap.size})
    (by
     rw[hsz]
     exact⟨a.tmps,⟨w.heap.size,0,0,0⟩,fd,fnm,rfl,hD2,hf1.fr.mono hext2,hfd,hf.size,hc2,hc3,hc1⟩)
    hat2 chg_alloc (World.alloc_heap_new _ _)
   rw[hsz]at hnew2
   obtain⟨o2,t2⟩:=hnew2
   have hlast:setG (setG g nx ⟨w.heap.size,0,0,0⟩) (nx+1) ⟨w.heap.size+1,0,0,0⟩ (nx+1)=some ⟨w.heap.size+1,0,0,0⟩:=setG_at _ _ _
   have he2:Ext g (setG (setG g nx ⟨w.heap.size,0,0,0⟩) (nx+1) ⟨w.heap.size+1,0,0,0⟩):=t1.ext.trans t2.ext
   have hargs:VRL (setG (setG g nx ⟨w.heap.size,0,0,0⟩) (nx+1) ⟨w.heap.size+1,0,0,0⟩) (app first.toList (.func (.yield (nx+1)) #[] #[]::cap.toList)) (fi++(.func (.yield (w.heap.size+1)) #[] #[]::ca)):=by
    rw[app_eq]
    refine(hfi.mono he2).append ⟨_,_,rfl,⟨.yield (w.heap.size+1),[],[],rfl,⟨_,hlast,rfl⟩,rfl,rfl⟩,hca.mono he2⟩
   have hres:=hcs _ _ _ _ _ _ _ hent _ _ _ o2 (hg.mono he2) hargs
   refine⟨w.heap.size+1,[{target:=.collected w.heap.size,args:=#[]}],((w.alloc (.deferred (some []))).alloc (.loop {state:=.ready,pending:=none,fn:=fnm,tmps:=a.tmps,params:=ps,assign,body,defers:=w.heap.size})),{target:=.fn (.func gf) ⟨ca⟩,args:=⟨fi⟩++#[.func (.yield (w.heap.size+1)) #[] #[]]},((w.alloc (.deferred (some []))).alloc (.loop {state:=.ready,pending:=none,fn:=fnm,tmps:=a.tmps,params:=ps,assign,body,defers:=w.heap.size})),gf,(fi++(.func (.yield (w.heap.size+1)) #[] #[]::ca)).toArray,((w.alloc (.deferred (some []))).alloc (.loop {state:=.ready,pending:=none,fn:=fnm,tmps:=a.tmps,params:=ps,assign,body,defers:=w.heap.size})),run_enterLoop_outer _ _ _ _ _,?_,fun _ _=>trivial,?_,(fun e=>by cases e),?_⟩
   ·have e7:Array.map a.eval #[.const (.func (.yield (w.heap.size+1)) #[] #[])]=#[.func (.yield (w.heap.size+1)) #[] #[]]:=by simp[Act.eval]
    simp only[resolve,ev,Deferred.ofValue,e7]
    rfl
   ·have e6:((⟨fi⟩:Array Value)++#[.func (.yield (w.heap.size+1)) #[] #[]])++(⟨ca⟩:Array Value)=(fi++(.func (.yield (w.heap.size+1)) #[] #[]::ca)).toArray:=by apply Array.ext';simp
    simp only[invoke,e6]
    exact bodied_enter hpo hbod _ _
   ·rcases hres with⟨_,hres⟩|⟨u,w',hres,_⟩
    ·refine callsIn_fen (hres.mono ?_)
     rintro x w3 ⟨u,rfl,g3,_,o3,t3⟩
     have hl3:=t3.ext _ _ hlast
     obtain⟨r,fd3,p1,p2,p3,_,_,_,_,_,_,_,_,_,o4,t4⟩:=o3.loop (st':=3) (pend':=pend) hat3 hl3 hat4
     have tt:Aft g hp.at w g3 hp'.at _:=((t1.trans t2).trans t3).trans t4
     have ff:FrOk g3 fd.ntmps fr' (nx::ds) {a with defers:=[{target:=.collected w.heap.size,args:=#[]}]++a.defers}:=⟨hf.size,hf.fr.mono tt.ext,⟨⟨w.heap.size,0,0,0⟩,a.defers,rfl,t3.ext _ _ hD2,hf.ds.mono tt.ext⟩⟩
     refine⟨r.pending,_,run_endLoop p1 (by rw[p2];exact hst),?_⟩
     rw[p3]
     rcases hpend with⟨rfl,rfl⟩|⟨rfl,rfl⟩|⟨i,rfl,rfl⟩
     ·exact⟨rfl,g3,ff,o4,tt⟩
     ·exact wpIn_ret ⟨rfl,g3,ff,o4,tt⟩
     ·exact wpIn_exit ⟨rfl,g3,ff,o4,tt⟩
    ·rw[bodied_enter hpo hbod]at hres;cases hres
  ·cases h
theorem seqB_inv {r:RC}{k:Fr->List Nat->Hp->Nat->RC}{e:Ex}{fr':Fr}{ds':List Nat}{hp':Hp}{nx':Nat}(h:seqB r k=.go e fr' ds' hp' nx'):∃e1 fr1 ds1 hp1 nx1,r=.go e1 fr1 ds1 hp1 nx1/\((e1=.normal/\k fr1 ds1 hp1 nx1=.go e fr' ds' hp' nx')\/(e1≠.normal/\e1=e/\fr1=fr'/\ds1=ds'/\hp1=hp'/\nx1=nx')):=by
 cases r with
 |no=>cases h
 |go e1 fr1 ds1 hp1 nx1=>
  refine⟨e1,fr1,ds1,hp1,nx1,rfl,?_⟩
  cases e1 with
  |normal=>exact .inl ⟨rfl,h⟩
  |ret=>cases h;exact .inr ⟨by simp,rfl,rfl,rfl,rfl,rfl⟩
  |exit i=>cases h;exact .inr ⟨by simp,rfl,rfl,rfl,rfl,rfl⟩
theorem blockB_inv {r:RC}{id:Nat}{e:Ex}{fr':Fr}{ds':List Nat}{hp':Hp}{nx':Nat}(h:blockB id r=.go e fr' ds' hp' nx'):∃e1,r=.go e1 fr' ds' hp' nx'/\((e1=.normal/\e=.normal)\/(e1=.ret/\e=.ret)\/(e1=.exit id/\e=.normal)\/∃i,i≠id/\e1=.exit i/\e=.exit i):=by
 cases r with
 |no=>cases h
 |go e1 fr1 ds1 hp1 nx1=>
  cases e1 with
  |normal=>cases h;exact⟨_,rfl,.inl ⟨rfl,rfl⟩⟩
  |ret=>cases h;exact⟨_,rfl,.inr (.inl ⟨rfl,rfl⟩)⟩
  |exit i=>
   replace h:@Bool.rec (fun _=>RC) (.go (.exit i) fr1 ds1 hp1 nx1) (.go .normal fr1 ds1 hp1 nx1) (Nat.beq i id)=.go e fr' ds' hp' nx':=h
   cases hi:Nat.beq i id with
   |true=>
    rw[hi]at h
    cases h
    have:=Nat.beq_eq.mp hi
    subst this
    exact⟨_,rfl,.inr (.inr (.inl ⟨rfl,rfl⟩))⟩
   |false=>
    rw[hi]at h
    cases h
    refine⟨_,rfl,.inr (.inr (.inr ⟨i,fun e=>?_,rfl,rfl⟩))⟩
    subst e
    rw[Nat.beq_refl]at hi;cases hi
theorem code_sound {J:FuncId->List Value->Hp->Nat->Option RV}(hpo:ProgOk P){n:Nat}(hs:∀k,k<n->CallSound P (ev P J k).call/\YieldSound P (ev P J k)):∀(code:Code)(k:Nat),k<n->CodeAt P (codeB P (ev P J k)) code:=by
 intro code
 induction code with
 |skip=>
  intro k hk rd fn fr ds hp nx e fr' ds' hp' nx' h fd hfd hco ρ g w a hrd hf ho hg
  cases h
  exact wpIn_skip (PostR.here hf ho (Aft.refl _ _ _))
 |label l=>
  intro k hk rd fn fr ds hp nx e fr' ds' hp' nx' h fd hfd hco ρ g w a hrd hf ho hg
  cases h
  exact wpIn_label (PostR.here hf ho (Aft.refl _ _ _))
 |exit id=>
  intro k hk rd fn fr ds hp nx e fr' ds' hp' nx' h fd hfd hco ρ g w a hrd hf ho hg
  cases h
  exact wpIn_exit ⟨rfl,g,hf,ho,Aft.refl _ _ _⟩
 |ret=>
  intro k hk rd fn fr ds hp nx e fr' ds' hp' nx' h fd hfd hco ρ g w a hrd hf ho hg
  cases h
  exact wpIn_ret ⟨rfl,g,hf,ho,Aft.refl _ _ _⟩
 |goto l=>intro k hk rd fn fr ds hp nx e fr' ds' hp' nx' h;cases h
 |refuse=>intro k hk rd fn fr ds hp nx e fr' ds' hp' nx' h;cases h
 |region id ops draw=>
  intro k hk rd fn fr ds hp nx e fr' ds' hp' nx' h fd hfd hco ρ g w a hrd hf ho hg
  obtain⟨hcs,hys⟩:=hs k hk
  replace h:@Bool.rec (fun _=>RC) (opsB P (ev P J k) ds (prep P ops) fr hp nx) (@Option.rec _ (fun _=>RC) .no (fun l=>planB P (ev P J k) ds l [hp] fr hp nx) (planOf P ops)) draw=_:=h
  have hd:∀o∈ops.toList,∀d,o.dst=some d->Nat.blt d fd.ntmps=true:=fun o hm d hd=>by
   have:=List.all_eq_true.1 hco o hm
   rw[hd]at this
   exact this
  rcases br_inv h with⟨rfl,h1⟩|⟨rfl,h1⟩
  ·replace h1:=op_inv h1 gon
   obtain⟨r,hr,h1⟩:=h1
   exact drawn_ok hr h1 hpo hcs hys (fun i o d hi hdd=>hd o (by rw[<-Array.getElem?_toList]at hi;exact List.mem_of_getElem? hi) d hdd) hf ho hg
  ·obtain rfl:=opsB_n ops.toList h1
   exact wpIn_region_list (opsB_ok hcs hys ops.toList h1 hd hf ho hg fun a' w' k=>k)
 |seq x y ihx ihy=>
  intro k hk rd fn fr ds hp nx e fr' ds' hp' nx' h fd hfd hco ρ g w a hrd hf ho hg
  simp only[codeOk,Bool.and_eq_true]at hco
  replace h:seqB (codeB P (ev P J k) x rd fn fr ds hp nx) (codeB P (ev P J k) y rd fn)=_:=h
  replace h:=seqB_inv h
  obtain⟨e1,fr1,ds1,hp1,nx1,h1,h2⟩:=h
  refine wpIn_seq (wpIn_mono (ihx k hk _ _ _ _ _ _ _ _ _ _ _ h1 fd hfd hco.1 ρ g w a hrd hf ho hg) ?_)
  rintro ex a1 w1 ⟨rfl,g1,f1,o1,t1⟩
  rcases h2 with⟨rfl,h2⟩|⟨hne,rfl,rfl,rfl,rfl,rfl⟩
  ·exact wpIn_mono (ihy k hk _ _ _ _ _ _ _ _ _ _ _ h2 fd hfd hco.2 ρ g1 w1 a1 hrd f1 o1 (hg.mono t1.ext)) fun e a w q=>PostR.after t1 q
  ·cases e1 with
   |normal=>exact absurd rfl hne
   |ret=>exact⟨rfl,g1,f1,o1,t1⟩
   |exit i=>exact⟨rfl,g1,f1,o1,t1⟩
 |cond c x y ihx ihy=>
  intro k hk rd fn fr ds hp nx e fr' ds' hp' nx' h fd hfd hco ρ g w a hrd hf ho hg
  simp only[codeOk,Bool.and_eq_true]at hco
  replace h:(opK fr (argOf P c) RC.no fun v=>vBool v RC.no fun t=>@Bool.rec (fun _=>RC) (codeB P (ev P J k) y rd fn fr ds hp nx) (codeB P (ev P J k) x rd fn fr ds hp nx) t)=_:=h
  replace h:=opK_inv h gon (hf.inr _) hg
  obtain⟨v,h,hv⟩:=h
  replace h:=vBool_inv h gon
  obtain⟨t,rfl,h⟩:=h
  have ht:a.eval c=.bool t:=hv
  rcases br_inv h with⟨rfl,h1⟩|⟨rfl,h1⟩
  ·exact wpIn_cond_true ht (ihx k hk _ _ _ _ _ _ _ _ _ _ _ h1 fd hfd hco.1 ρ g w a hrd hf ho hg)
  ·exact wpIn_cond_false ht (ihy k hk _ _ _ _ _ _ _ _ _ _ _ h1 fd hfd hco.2 ρ g w a hrd hf ho hg)
 |block id x ihx=>
  intro k hk rd fn fr ds hp nx e fr' ds' hp' nx' h fd hfd hco ρ g w a hrd hf ho hg
  replace h:blockB id (codeB P (ev P J k) x rd fn fr ds hp nx)=_:=h
  replace h:=blockB_inv h
  obtain⟨e1,h1,h2⟩:=h
  refine wpIn_block (wpIn_mono (ihx k hk _ _ _ _ _ _ _ _ _ _ _ h1 fd hfd hco ρ g w a hrd hf ho hg) ?_)
  rintro ex a1 w1 ⟨rfl,g1,f1,o1,t1⟩
  rcases h2 with⟨rfl,rfl⟩|⟨rfl,rfl⟩|⟨rfl,rfl⟩|⟨i,hi,rfl,rfl⟩
  ·exact⟨rfl,g1,f1,o1,t1⟩
  ·exact⟨rfl,g1,f1,o1,t1⟩
  ·show(if id=id then _ else _)
   rw[if_pos rfl]
   exact⟨rfl,g1,f1,o1,t1⟩
  ·show(if i=id then _ else _)
   rw[if_neg hi]
   exact⟨rfl,g1,f1,o1,t1⟩
 |scope x ihx=>
  intro k hk rd fn fr ds hp nx e fr' ds' hp' nx' h fd hfd hco ρ g w a hrd hf ho hg
  refine wpIn_scope (wpIn_mono (ihx k hk _ _ _ _ _ _ _ _ _ _ _ h fd hfd hco ρ g w a hrd hf ho hg) ?_)
  rintro ex a1 w1 ⟨rfl,g1,f1,o1,t1⟩
  cases e<;>exact⟨rfl,g1,f1,o1,t1⟩
 |rangeFunc f ps assign body iha ihb=>
  intro k hk rd fn fr ds hp nx e fr' ds' hp' nx' h fd hfd hco ρ g w a hrd hf ho hg
  exact range_ok hpo (hs k hk).1 h hfd hco hrd hf ho hg
 |loop x ihx=>
  intro k hk rd fn fr ds hp nx e fr' ds' hp' nx' h fd hfd hco ρ g w a hrd hf ho hg
  refine wpIn_loop_ghost (fun j a1 w1=>j<n/\∃fr1 ds1 hp1 nx1 g1,codeB P (ev P J j) (.loop x) rd fn fr1 ds1 hp1 nx1=.go e fr' ds' hp' nx'/\FrOk g1 fd.ntmps fr1 ds1 a1/\Ok P g1 hp1.at nx1 w1/\Aft g hp.at w g1 hp1.at w1) k ⟨hk,fr,ds,hp,nx,g,h,hf,ho,Aft.refl _ _ _⟩ ?_
  rintro j a1 w1 ⟨hj,fr1,ds1,hp1,nx1,g1,h1,f1,o1,t1⟩
  replace h1:seqB (codeB P (ev P J j) x rd fn fr1 ds1 hp1 nx1) ((ev P J j).code (.loop x) rd fn)=_:=h1
  replace h1:=seqB_inv h1
  obtain⟨e2,fr2,ds2,hp2,nx2,h2,h3⟩:=h1
  refine wpIn_mono (ihx j hj _ _ _ _ _ _ _ _ _ _ _ h2 fd hfd hco ρ g1 w1 a1 hrd f1 o1 (hg.mono t1.ext)) ?_
  rintro ex a2 w2 ⟨rfl,g2,f2,o2,t2⟩
  rcases h3 with⟨rfl,h3⟩|⟨hne,rfl,rfl,rfl,rfl,rfl⟩
  ·cases j with
   |zero=>cases h3
   |succ j=>exact⟨j,Nat.lt_succ_self j,by omega,fr2,ds2,hp2,nx2,g2,h3,f2,o2,t1.trans t2⟩
  ·cases e2 with
   |normal=>exact absurd rfl hne
   |ret=>exact⟨rfl,g2,f2,o2,t1.trans t2⟩
   |exit i=>exact⟨rfl,g2,f2,o2,t1.trans t2⟩
end
end Go.Ev
namespace Go.Ev
open Go.RowKit
set_option linter.unusedVariables false
section
variable {P:Program}{g:Gm}{w:World}{hp:Hp}{nx:Nat}
def HookSound (P:Program)(J:FuncId->List Value->Hp->Nat->Option RV):Prop:=
 ∀f args hp nx v hp' nx',J f args hp nx=some (.ok v hp' nx')->∀g w us,Ok P g hp.at nx w->Glob P g->VRL g args us->CallRes P f us w (ResR P g hp w v hp' nx')
theorem asAddr_of {t:TypeId}{x u:Value}(hx:∃p,x=.pointer p)(h:(Instr.loadAt t x).run P w=.ok u w):(do loadVar t (<-asAddr x):Sem Value).run P w=.ok u w:=by
 obtain⟨p,rfl⟩:=hx
 cases p with
 |none=>simp[Instr.loadAt,Instr.sureAddr]at h
 |some a=>exact h
theorem read_ptr {v x u:Value}(h:VR g v x)(hv:∃a,v=.pointer (some a)):∃p,x=.pointer p:=by
 obtain⟨a,rfl⟩:=hv
 obtain⟨l,_,rfl⟩:=h
 exact⟨_,rfl⟩
theorem hLoad1_ptr {x v:Value}(h:hLoad1 [x] hp=some v):∃a,x=.pointer (some a):=by
 unfold hLoad1 at h
 replace h:=l1_inv h sn
 obtain⟨y,e,h⟩:=h
 cases e
 replace h:=vPtr_inv h sn
 obtain⟨a,rfl,_⟩:=h
 exact⟨a,rfl⟩
theorem hLoadN_ptr {n:Nat}{x v:Value}(h:hLoadN n [x] hp=some v):∃a,x=.pointer (some a):=by
 unfold hLoadN at h
 replace h:=l1_inv h sn
 obtain⟨y,e,h⟩:=h
 cases e
 replace h:=vPtr_inv h sn
 obtain⟨a,rfl,_⟩:=h
 exact⟨a,rfl⟩
def resOf (tmps:Array Value)(r:ResultVar):Sem Value:=match r with
 |.tmp t=>pure (tmps.getD t undef)
 |.cell a t=>do loadVar t (<-asAddr (tmps.getD a undef))
theorem resL_ok {fr:Fr}{tmps:Array Value}(hf:FrR g fr (fun i=>tmps.getD i undef))(ho:OkW P g hp.at w):∀{rs:List ResultVar}{l:List Value},resL P rs fr hp=some l->∃us,VRL g l us/\(rs.mapM (resOf tmps)).run P w=.ok us w
 |[],l,h=>by
  cases h
  exact⟨[],rfl,rfl⟩
 |r::rs,l,h=>by
  have key:∃v t,l=v::t/\resL P rs fr hp=some t/\∃u,VR g v u/\(resOf tmps r).run P w=.ok u w:=by
   cases r with
   |tmp x=>
    replace h:@Option.rec _ (fun _=>Option (List Value)) none (fun v=>@Option.rec _ (fun _=>Option (List Value)) none (fun t=>some (v::t)) (resL P rs fr hp)) (Fr.get fr (slot x))=some l:=h
    replace h:=op_inv h sn
    obtain⟨v,hv,h⟩:=h
    replace h:=op_inv h sn
    obtain⟨t,ht,h⟩:=h
    cases h
    exact⟨v,t,rfl,ht,_,hf x v (Fr.get_slot fr x hv),rfl⟩
   |cell x ty=>
    replace h:@Option.rec _ (fun _=>Option (List Value)) none (fun x=>@Option.rec _ (fun _=>Option (List Value)) none (fun v=>@Option.rec _ (fun _=>Option (List Value)) none (fun t=>some (v::t)) (resL P rs fr hp))
     (@Bool.rec (fun _=>Option Value) none (@Bool.rec (fun _=>Option Value) (hLoad1 [x] hp) (hLoadN (sizeB P ty) [x] hp) (aggB P ty)) (tyOk P ty))) (Fr.get fr (slot x))=some l:=h
    replace h:=op_inv h sn
    obtain⟨y,hy,h⟩:=h
    replace h:=op_inv h sn
    obtain⟨v,hv,h⟩:=h
    replace h:=op_inv h sn
    obtain⟨t,ht,h⟩:=h
    cases h
    replace hv:=br_t hv sn
    obtain⟨hk,hv⟩:=hv
    have hyr:=hf x y (Fr.get_slot fr x hy)
    have hone:VRL g [y] [tmps.getD x undef]:=⟨_,_,rfl,hyr,rfl⟩
    rcases br_inv hv with⟨ha,hv⟩|⟨ha,hv⟩
    ·obtain⟨x',u,e,h1,h2⟩:=hLoadN_ok hk ha hv ho hone
     cases e
     exact⟨v,t,rfl,ht,u,h1,asAddr_of (read_ptr (u:=u) hyr (hLoadN_ptr hv)) h2⟩
    ·obtain⟨x',u,e,h1,h2⟩:=hLoad1_ok hk ha hv ho hone
     cases e
     exact⟨v,t,rfl,ht,u,h1,asAddr_of (read_ptr (u:=u) hyr (hLoad1_ptr hv)) h2⟩
  obtain⟨v,t,rfl,ht,u,h1,h2⟩:=key
  obtain⟨us,h3,h4⟩:=resL_ok hf ho ht
  refine⟨u::us,⟨u,us,rfl,h1,h3⟩,?_⟩
  rw[List.mapM_cons,Sem.run_bind,h2]
  simp only[Result.andThen,Sem.run_bind,h4,Sem.run_pure]
theorem results_ok {fn:Func}{tmps:Array Value}{l us:List Value}(h:(fn.results.toList.mapM (resOf tmps)).run P w=.ok us w)(hv:VRL g l us):∃u,(results fn tmps).run P w=.ok u w/\VR g (lst l (.tuple ⟨l⟩) fun v t=>nil1 t (.tuple ⟨l⟩) v) u:=by
 have hm:(fn.results.mapM (resOf tmps)).run P w=.ok ⟨us⟩ w:=by
  rw[Array.mapM_eq_mapM_toList,map_eq_pure_bind,Sem.run_bind,h]
  try rfl
 have he:results fn tmps=(do let vs <-fn.results.mapM (resOf tmps);pure (if h:vs.size=1 then vs[0]else .tuple vs)):=by
  unfold results
  congr 1
 rw[he,Sem.run_bind,hm]
 refine⟨_,rfl,?_⟩
 cases l with
 |nil=>
  cases(show us=[]from hv)
  exact .mk_tup rfl
 |cons v t=>
  obtain⟨u,us',rfl,h1,h2⟩:=hv
  cases t with
  |nil=>
   cases(show us'=[]from h2)
   exact h1
  |cons v2 t=>
   obtain⟨u2,us2,rfl,h3,h4⟩:=h2
   rw[dif_neg (by simp)]
   exact .mk_tup ⟨u,_,rfl,h1,u2,_,rfl,h3,h4⟩
theorem leave_ok {fn:Func}{fr:Fr}{tmps:Array Value}{v:Value}{hp':Hp}{nx':Nat}{R:Ending->World->Prop}:∀{ds:List Nat}{defs:List Deferred}{hp:Hp}{g:Gm}{w:World},
  marksOff (fun h=>@Option.rec _ (fun _=>RV) .no (fun l=>.ok (lst l (.tuple ⟨l⟩) fun v t=>nil1 t (.tuple ⟨l⟩) v) h nx) (resL P fn.results.toList fr h)) ds hp=.ok v hp' nx'->FrR g fr (fun i=>tmps.getD i undef)->DsR g ds defs->Ok P g hp.at nx w ->
  (∀u w',ResR P g hp w v hp' nx' u w'->R (.returned u) w')->LeavesInM Fence.wide 9 P fn tmps R defs .returning w
 |[],defs,hp,g,w,h,hf,hd,ho,k=>by
  cases(show defs=[]from hd)
  replace h:@Option.rec _ (fun _=>RV) .no (fun l=>.ok (lst l (.tuple ⟨l⟩) fun v t=>nil1 t (.tuple ⟨l⟩) v) hp nx) (resL P fn.results.toList fr hp)=.ok v hp' nx':=h
  replace h:=op_inv h on
  obtain⟨l,hl,h⟩:=h
  cases h
  obtain⟨us,h1,h2⟩:=resL_ok hf ho.toW hl
  obtain⟨u,h3,h4⟩:=results_ok h2 h1
  exact⟨u,h3,k u w ⟨g,h4,ho,Aft.refl _ _ _⟩⟩
 |d::ds,defs,hp,g,w,h,hf,hd,ho,k=>by
  obtain⟨L,ms,rfl,hg,hms⟩:=hd
  unfold marksOff at h
  simp only at h
  split at h
  ·rename_i hget
   replace h:=upd_inv h on
   obtain⟨hp1,h,hat⟩:=h
   have hd0:=Hp.get_at hp d hget
   obtain⟨l',O,q1,q2,q3⟩:=ho.den d _ hd0 rfl
   rw[hg]at q1;cases q1
   replace q3:O=.deferred (some []):=q3
   subst q3
   obtain⟨o1,t1⟩:=ho.upd (o':=.mark false) (H':=hp1.at) (O':=.deferred none) hd0 rfl hg (World.putObj_heap_same (lt_of_heap q2)) rfl chg_put hat
   refine⟨by simp,.inl ⟨L.blk,_,rfl,run_takeDeferred q2,?_⟩⟩
   refine leave_ok h (hf.mono t1.ext) (hms.mono t1.ext) o1 fun u w' hr=>k u w' ?_
   obtain⟨g',r1,r2,r3⟩:=hr
   exact⟨g',r1,r2,t1.trans r3⟩
  ·cases h
theorem argF_inv:∀(l:List Value){i:Nat}{us:List Value}{fr:Fr}{k:Fr->RC}{r:RC}{t:Nat->Value},argF l i fr k=r->r≠.no->VRL g l us->FrR g fr t->(∀j,i<=j->fr.at j=none)->(∀j u,us[j]?=some u->t (i+j)=u)->∃fr1,k fr1=r/\FrR g fr1 t
 |[],i,us,fr,k,r,t,h,hn,hv,hf,h0,ht=>⟨fr,h,hf⟩
 |v::l,i,us,fr,k,r,t,h,hn,hv,hf,h0,ht=>by
  obtain⟨u,us',rfl,h1,h2⟩:=hv
  replace h:Fr.set fr (slot i) v (fun fr=>argF l (Nat.succ i) fr k)=r:=h
  rcases Fr.set_slot fr i v (fun fr=>argF l (Nat.succ i) fr k)with e|⟨fr',e,ha⟩
  ·rw[e]at h;exact absurd h.symm hn
  ·rw[e]at h
   refine argF_inv l h hn h2 (fun j x hx=>?_) (fun j hj=>?_) (fun j u' hu'=>?_)
   ·rw[ha]at hx
    split at hx
    ·rename_i e;subst e
     cases hx
     have:=ht 0 u (by simp)
     rw[Nat.add_zero]at this
     rw[this];exact h1
    ·exact hf j x hx
   ·rw[ha,if_neg (by omega)]
    exact h0 j (by omega)
   ·have:=ht (j+1) u' (by simpa using hu')
    rw[<-this];congr 1;omega
theorem rc_inv {r:RC}{k:Ex->Fr->List Nat->Hp->Nat->RV}{res:RV}(h:@RC.rec (fun _=>RV) .no (fun e fr ds h n=>k e fr ds h n) r=res)(hn:res≠.no):∃e fr ds hp nx,r=.go e fr ds hp nx/\k e fr ds hp nx=res:=by
 cases r with
 |no=>exact absurd h.symm hn
 |go e fr ds hp nx=>exact⟨e,fr,ds,hp,nx,rfl,h⟩
theorem full_toL {β:Type}(x:β)(j:Nat):(full x).toL[j]?=if j<16 then some x else none:=by
 have:(full x).toL=List.replicate 16 x:=rfl
 rw[this,List.getElem?_replicate]
theorem fr0_at (j:Nat):fr0.at j=none:=by
 unfold Fr.at fr0
 rw[full_toL]
 split
 ·show((full (none:Option Value)).toL[j % 16]?).bind id=none
  rw[full_toL]
  split<;>rfl
 ·rfl
theorem call_sound {J:FuncId->List Value->Hp->Nat->Option RV}(hpo:ProgOk P)(hJ:HookSound P J){ih:Evl}(hcd:CodeSound P ih.code):CallSound P (callB P J ih):=by
 intro f args hp nx v hp' nx' h g w us ho hg hr
 unfold callB at h
 cases hj:J f args hp nx with
 |some r=>
  rw[hj]at h
  replace h:r=_:=h
  subst h
  exact hJ _ _ _ _ _ _ _ hj g w us ho hg hr
 |none=>
  rw[hj]at h
  simp only at h
  cases hfn:P.funcs.toList[f]? with
  |none=>rw[hfn]at h;cases h
  |some fn=>
   rw[hfn]at h
   simp only at h
   replace h:=op_inv h on
   obtain⟨c,hc,h⟩:=h
   replace h:=br_t h on
   obtain⟨hco,h⟩:=h
   replace h:=br_t h on
   obtain⟨hle,h⟩:=h
   have hf:P.funcs[f]?=some fn:=by rw[<-Array.getElem?_toList];exact hfn
   have hlen:args.length<=fn.ntmps:=by
    rw[lenL_eq]at hle
    exact Nat.le_of_ble_eq_true hle
   have hlu:us.length=args.length:=hr.length
   have hbod:bodied P f=true:=by unfold bodied;rw[hfn];simp only;rw[hc];rfl
   refine .inl ⟨bodied_enter hpo hbod _ _,?_⟩
   unfold leave at h
   replace h:=rc_inv h on
   obtain⟨e,fr,ds,hp1,nx1,h1,h2⟩:=h
   let t0:Array Value:=us.toArray++Array.replicate (fn.ntmps-us.toArray.size) undef
   have ht0:t0.size=fn.ntmps:=by simp[t0];omega
   obtain⟨fr1,h3,h4⟩:=argF_inv (t:=fun i=>t0.getD i undef) args h1 gon hr (fun i x hx=>by rw[fr0_at]at hx;cases hx) (fun j _=>fr0_at j) (fun j u hu=>by
    have hj:j<us.length:=by
     rcases Nat.lt_or_ge j us.length with h|h
     ·exact h
     ·rw[List.getElem?_eq_none h]at hu;cases hu
    show t0.getD (0+j) undef=u
    rw[Nat.zero_add,Array.getD_eq_getD_getElem?]
    simp only[t0]
    rw[Array.getElem?_append_left (by simpa using hj)]
    simp[hu])
   have hcode:=hcd _ _ _ _ _ _ _ _ _ _ _ _ h3 fn hfn hco none g w {tmps:=t0,defers:=[]} (fun _=>rfl) ⟨ht0,h4,rfl⟩ ho hg
   refine callsIn_wide.1 (callsIn_of_wp_marks (F:=Fence.wide) (n:=9) hf hc trivial (wpIn_mono hcode ?_))
   have fin:∀(a:Act) (w':World),(∃g',FrOk g' fn.ntmps fr ds a/\Ok P g' hp1.at nx1 w'/\Aft g hp.at w g' hp1.at w')->leaveB P fn.results.toList fr ds hp1 nx1=.ok v hp' nx'->LeavesInM Fence.wide 9 P fn a.tmps (fun e w'=>∃u,e=.returned u/\ResR P g hp w v hp' nx' u w') a.defers .returning w':=by
    rintro a w' ⟨g',k1,k2,k3⟩ hl
    refine leave_ok hl k1.fr k1.ds k2 fun u w'' hres=>⟨u,rfl,?_⟩
    obtain⟨g'',r1,r2,r3⟩:=hres
    exact⟨g'',r1,r2,k3.trans r3⟩
   rintro x a w' ⟨rfl,hres⟩
   cases e with
   |normal=>exact fin a w' hres h2
   |ret=>exact fin a w' hres h2
   |exit i=>cases h2
theorem ev_sound {J:FuncId->List Value->Hp->Nat->Option RV}(hpo:ProgOk P)(hJ:HookSound P J):∀n,CallSound P (ev P J n).call/\CodeSound P (ev P J n).code:=by
 intro n
 induction n using Nat.strongRecOn with
 |_ n ihn=>
  cases n with
  |zero=>exact⟨fun f args hp nx v hp' nx' h=>(by cases h),fun code rd fn fr ds hp nx e fr' ds' hp' nx' h=>(by cases h)⟩
  |succ n=>
   have hn:=ihn n (Nat.lt_succ_self n)
   exact⟨call_sound hpo hJ hn.2,fun code=>code_sound hpo (fun k hk=>⟨(ihn k hk).1,yield_sound (ihn k hk).2⟩) code n (Nat.lt_succ_self n)⟩
end
end Go.Ev
