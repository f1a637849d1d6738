import Derived.Test.YtgdmlkgjpcnelaaGreatDoorRows
import Derived.Test.YtgdmlkgjpcnelaaGreatDoorTbZg
import Derived.WalkKit
import Derived.ProofKit
import Derived.LaidMore
import Derived.LaidSub
import Derived.OpenShut
import Derived.Stop.Joined
import Derived.MakeChecks
namespace Go.Proofs.YtgdmlkgjpcnelaaGreatDoor
open Go.ChangeShapes Go.WideShapes Go.ChangeAt Go.RowKit
set_option linter.unusedVariables false
set_option maxRecDepth 100000
abbrev laidL:List (String × DataW Unit) := [("math/bits.deBruijn32tab",Rows.laid_math_bits_deBruijn32tab), ("seesaw/expr.operators",Rows.laid_seesaw_expr_operators), ("seesaw/event.kinds",Rows.laid_seesaw_event_kinds)]
theorem gKinds:Tryz.prog.globalNamed "seesaw/event.kinds" = some 0:=by kernel_rfl
theorem gOps:Tryz.prog.globalNamed "seesaw/expr.operators" = some 1:=by kernel_rfl
theorem gTab:Tryz.prog.globalNamed "math/bits.deBruijn32tab" = some 2:=by kernel_rfl
theorem tKinds:(Tryz.prog.globals[0]?).map (·.type)=some 260:=by kernel_rfl
theorem tOps:(Tryz.prog.globals[1]?).map (·.type)=some 453:=by kernel_rfl
theorem tTab:(Tryz.prog.globals[2]?).map (·.type)=some 459:=by kernel_rfl
theorem two_at {l:List Value}{k:Nat}{c0 c1:Value}(h:(l.drop k).take 2=[c0,c1]):l[k]?=some c0/\l[k+1]?=some c1:=by
 have h0:((l.drop k).take 2)[0]?=some c0:=by rw[h];rfl
 have h1:((l.drop k).take 2)[1]?=some c1:=by rw[h];rfl
 rw[List.getElem?_take,if_pos (by omega),List.getElem?_drop]at h0 h1
 exact⟨h0,h1⟩
theorem one_at {l:List Value}{k:Nat}{c:Value}(h:(l.drop k).take 1=[c]):l[k]?=some c:=by
 have h0:((l.drop k).take 1)[0]?=some c:=by rw[h];rfl
 rw[List.getElem?_take,if_pos (by omega),List.getElem?_drop]at h0
 exact h0
theorem one_of {l:List Value}{k:Nat}(h:k<l.length):(l.drop k).take 1=[l[k]]:=by
 rw[List.drop_eq_getElem_cons h];rfl
theorem tab_of {W:World}(h:laidMetH Tryz.prog laidL W):∀i,i<32->W.cell? ⟨2,i,none⟩=some (.int .u8 ((deBr.getD i 0:Nat):Int)):=by
 have h2:=h.filter (fun x=>x.1 == "math/bits.deBruijn32tab")
 have e:laidL.filter (fun x=>x.1 == "math/bits.deBruijn32tab") = [("math/bits.deBruijn32tab",Rows.laid_math_bits_deBruijn32tab)]:=by kernel_rfl
 rw[e,MakeChecks.laidMetH_plain _ _ _ (by kernel_rfl)]at h2
 obtain⟨ps,⟨g0,t0,cs0,f0,p0,q0,hg0,ht0,hv0,hd0,_,_⟩,_,_⟩:=h2
 obtain rfl:=Option.some.inj (gTab.symm.trans hg0)
 obtain rfl:=Option.some.inj (tTab.symm.trans ht0)
 obtain⟨xs,m,_,hx,hl,hn,hel⟩:=DataW.trod_array Tryz.underlying459 hd0
 have hmap:xs.map (·.1)=deBr.map fun z=>(.lit (.int .u8 (z:Nat))):=by
  have:=congrArg Prod.fst hx
  exact(DataW.agg.inj this).symm
 have c5:Tryz.prog.cellsOf 5=1:=by kernel_rfl
 intro i hi
 have hi32:i<deBr.length:=hi
 have hE:=hel i hi
 rw[c5,Nat.mul_one]at hE
 have hxi:i<xs.length:=by omega
 rw[List.getElem?_eq_getElem hxi]at hE
 obtain⟨k,e1,e2,_⟩:=DataW.trod_int Tryz.underlying5 hE
 have hfst:(xs.map (·.1))[i]?=some (.lit (.int .u8 k)):=by
  rw[List.getElem?_map,List.getElem?_eq_getElem hxi,e2];rfl
 rw[hmap,List.getElem?_map,List.getElem?_eq_getElem hi32]at hfst
 simp only[Option.map_some,Option.some.injEq,DataW.lit.injEq,Lit.int.injEq,true_and]at hfst
 have hc:=one_at e1
 rw[World.var?_cell hg0 hv0 i,List.getD_eq_getElem?_getD,List.getElem?_eq_getElem hi32]
 simp only[Option.getD_some]
 rw[hfst,<-hc]
 simp
def fnT (j:Nat):Nat:=match j with|2=>fTx|3=>fAt|4=>fV|5=>fX|_=>fWhy
def nmB (j:Nat):List UInt8:=match j with
 |2=>[40,42,115,101,101,115,97,119,47,101,118,101,110,116,46,119,104,111,108,101,41,46,116,120]
 |3=>[40,42,115,101,101,115,97,119,47,101,118,101,110,116,46,119,104,111,108,101,41,46,97,116]
 |4=>[40,42,115,101,101,115,97,119,47,101,118,101,110,116,46,119,104,111,108,101,41,46,118]
 |5=>[40,42,115,101,101,115,97,119,47,101,118,101,110,116,46,119,104,111,108,101,41,46,120]
 |_=>[40,42,115,101,101,115,97,119,47,101,118,101,110,116,46,119,104,111,108,101,41,46,119,104,121]
theorem fn_of {W:World}{n:Nat}{v:Value}{q:List MemPlace}{j:Nat}(hj:2<=j/\j<=6)(h:DataW.trod (funcToken Tryz.prog) Tryz.prog W 0 (fun _=>true) true n 262 [v]=some (.held (nmB j),q)):v=.func (.func (fnT j)) #[] #[]:=by
 have hh:j=2\/j=3\/j=4\/j=5\/j=6:=by omega
 rcases hh with rfl|rfl|rfl|rfl|rfl
 ·exact func_of_trod (f0:=428) Tryz.underlying262 (by kernel_rfl) h
 ·exact func_of_trod (f0:=399) Tryz.underlying262 (by kernel_rfl) h
 ·exact func_of_trod (f0:=429) Tryz.underlying262 (by kernel_rfl) h
 ·exact func_of_trod (f0:=430) Tryz.underlying262 (by kernel_rfl) h
 ·exact func_of_trod (f0:=431) Tryz.underlying262 (by kernel_rfl) h
def PartsAt (W:World)(js:List Nat)(b off cap:Nat):Prop:=js.length<=cap/\∀i,i<js.length->W.cell? ⟨b,off+i,none⟩=some (.func (.func (fnT (js.getD i 0))) #[] #[])
theorem row_of {W:World}{m:Nat}{c:Value}{js:List Nat}{q:List MemPlace}(hjs:∀j∈js,2<=j/\j<=6)(hne:js≠[])
  (h:DataW.trod (funcToken Tryz.prog) Tryz.prog W 0 (fun _=>true) true m 258 [c]=some (.slice (js.map fun j=>.held (nmB j)) [],q)):∃b off cap,c=.slice (some ⟨b,off,none⟩) js.length cap/\PartsAt W js b off cap:=by
 have c262:Tryz.prog.cellsOf 262=1:=by kernel_rfl
 obtain⟨a,cap,hcs,hle,hel⟩:=open_row Tryz.underlying258 c262 h
 have hc:c=.slice (some a) (js.map fun j=>(DataW.held (nmB j):DataW (List UInt8))).length cap:=by simpa using hcs
 rw[List.length_map]at hc hle
 have hcell:∀i,i<js.length->W.cell? (a.add i)=some (.func (.func (fnT (js.getD i 0))) #[] #[]):=fun i hi=>by
  obtain⟨v,n,q',hv,hr⟩:=hel i (.held (nmB (js.getD i 0))) (by rw[List.getElem?_map,List.getElem?_eq_getElem hi,List.getD_eq_getElem?_getD,List.getElem?_eq_getElem hi];rfl)
  rw[hv,fn_of (hjs _ (by rw[List.getD_eq_getElem?_getD,List.getElem?_eq_getElem hi];exact List.getElem_mem hi)) hr]
 have h0:=hcell 0 (by cases js with
  |nil=>exact absurd rfl hne
  |cons _ _=>exact Nat.zero_lt_succ _)
 obtain⟨b,off,spot⟩:=a
 have hspot:spot=none:=by simpa[Addr.add]using World.cell?_spot h0
 subst hspot
 refine⟨b,off,cap,hc,hle,fun i hi=>?_⟩
 have:=hcell i hi
 rcases Nat.eq_zero_or_pos i with rfl|h0
 ·simpa[Addr.add]using this
 ·simpa[Addr.add,Nat.ne_of_gt h0]using this
def hasD (js:List Nat):DataW (List UInt8):=match js with|[]=>.nil|_=>.slice (js.map fun j=>.held (nmB j)) []
def kData (s:List UInt8)(js:List Nat):DataW (List UInt8):=.agg [.lit (.string s),hasD js]
def KindAt (W:World)(s:List UInt8)(js:List Nat)(z:Value × Value × Nat × Nat × Nat):Prop:=z.1=.string ⟨⟨s⟩⟩/\((js=[]/\z.2.1=.slice none 0 0)\/(js≠[]/\z.2.1=.slice (some ⟨z.2.2.1,z.2.2.2.1,none⟩) js.length z.2.2.2.2/\PartsAt W js z.2.2.1 z.2.2.2.1 z.2.2.2.2))
theorem kind_of {W:World}{m:Nat}{cs:List Value}{js:List Nat}{s:List UInt8}{q:List MemPlace}(hjs:∀j∈js,2<=j/\j<=6)
  (h:DataW.trod (funcToken Tryz.prog) Tryz.prog W 0 (fun _=>true) true m 259 cs=some (kData s js,q)):∃z,cs=[z.1,z.2.1]/\KindAt W s js z:=by
 obtain⟨y0,y1,n,hx,hl,h0,h1⟩:=trod_struct2 Tryz.underlying259 h
 have c259:Tryz.prog.cellsOf 259=2:=by kernel_rfl
 have c258:Tryz.prog.cellsOf 258=1:=by kernel_rfl
 have c9:Tryz.prog.cellsOf 9=1:=by kernel_rfl
 rw[c259]at hl
 match cs,hl with
 |[c0,c1],_=>
  have h0':DataW.trod (funcToken Tryz.prog) Tryz.prog W 0 (fun _=>true) true n 9 (([c0,c1].drop 0).take (Tryz.prog.cellsOf 9))=some y0:=h0
  rw[c9]at h0'
  have h0':DataW.trod (funcToken Tryz.prog) Tryz.prog W 0 (fun _=>true) true n 9 [c0]=some y0:=h0'
  have h1':DataW.trod (funcToken Tryz.prog) Tryz.prog W 0 (fun _=>true) true n 258 (([c0,c1].drop 1).take (Tryz.prog.cellsOf 258))=some y1:=h1
  rw[c258]at h1'
  have h1':DataW.trod (funcToken Tryz.prog) Tryz.prog W 0 (fun _=>true) true n 258 [c1]=some y1:=h1'
  have hy0:y0.1=.lit (.string s)/\y1.1=hasD js:=by
   have:=congrArg Prod.fst hx
   unfold kData at this
   simp only[DataW.agg.injEq,List.cons.injEq,and_true]at this
   exact⟨this.1.symm,this.2.symm⟩
  obtain⟨hy0,hy⟩:=hy0
  obtain⟨t,e0,e1,_⟩:=DataW.trod_string Tryz.underlying9 h0'
  have hc0:c0=.string ⟨⟨s⟩⟩:=by
   rw[e1]at hy0
   have e2:t.data.toList=s:=by simpa using hy0
   obtain rfl:c0=.string t:=by simpa using e0
   rw[<-e2]
  subst hc0
  obtain⟨d,q1⟩:=y1
  simp only at hy
  subst hy
  cases js with
  |nil=>
   rcases DataW.trod_slice Tryz.underlying258 h1' with⟨hcs,_⟩|⟨a,len,cap,elems,rest,n,_,hcs,hx2,_⟩
   ·obtain rfl:c1=.slice none 0 0:=by simpa using hcs
    exact⟨(_,_,0,0,0),rfl,rfl,.inl ⟨rfl,rfl⟩⟩
   ·simp[hasD]at hx2
  |cons j r=>
   obtain⟨b,off,cap,rfl,hs⟩:=row_of hjs (by simp) h1'
   exact⟨(_,_,b,off,cap),rfl,rfl,.inr ⟨by simp,rfl,hs⟩⟩
def partsT (k:Nat):List Nat:=match k with
 |1=>[2,4]|2=>[3,4]|3=>[3,5]|4=>[3]|5=>[4]|6=>[3]|7=>[4]|8=>[3,5]|9=>[3]|10=>[6,3]|11=>[3]|_=>[]
theorem partsT_in (k:Nat):∀j∈partsT k,2<=j/\j<=6:=by
 unfold partsT
 split<;>simp
theorem kinds_of {W:World}(h:laidMetH Tryz.prog laidL W):∃f:Nat->Value × Value × Nat × Nat × Nat,∀i,i<14->W.cell? ⟨0,i*2,none⟩=some (f i).1/\W.cell? ⟨0,i*2+1,none⟩=some (f i).2.1/\KindAt W (nameK i) (partsT i) (f i):=by
 obtain⟨g,t,cs,fuel,p,hg,ht,hv,hd⟩:=h.funcs (n := "seesaw/event.kinds") (List.mem_cons_of_mem _ (List.mem_cons_of_mem _ (List.mem_singleton.2 rfl)))
 obtain rfl:=Option.some.inj (gKinds.symm.trans hg)
 obtain rfl:=Option.some.inj (tKinds.symm.trans ht)
 obtain⟨xs,m,_,hx,hl,hn,hel⟩:=DataW.trod_array Tryz.underlying260 hd
 have c259:Tryz.prog.cellsOf 259=2:=by kernel_rfl
 rw[c259]at hel
 have hmap:xs.map (·.1)=(List.range 14).map fun i=>kData (nameK i) (partsT i):=by
  have:=congrArg Prod.fst hx
  exact(DataW.agg.inj this).symm
 have hone:∀i:Nat,∃z:Value × Value × Nat × Nat × Nat,i<14->W.cell? ⟨0,i*2,none⟩=some z.1/\W.cell? ⟨0,i*2+1,none⟩=some z.2.1/\KindAt W (nameK i) (partsT i) z:=fun i=>by
  by_cases hi:i<14
  ·have hE:=hel i hi
   have hxi:i<xs.length:=by omega
   rw[List.getElem?_eq_getElem hxi]at hE
   have hs:(xs.map (·.1))[i]?=some (kData (nameK i) (partsT i)):=by rw[hmap,List.getElem?_map,List.getElem?_range hi];rfl
   rw[List.getElem?_map,List.getElem?_eq_getElem hxi]at hs
   simp only[Option.map_some,Option.some.injEq]at hs
   have hE2:DataW.trod (funcToken Tryz.prog) Tryz.prog W 0 (fun _=>true) true m 259 ((cs.toList.drop (i*2)).take 2)=some (kData (nameK i) (partsT i),(xs[i]).2):=by rw[hE,<-hs]
   obtain⟨z,e1,e2⟩:=kind_of (partsT_in i) hE2
   obtain⟨g0,g1⟩:=two_at e1
   refine⟨z,fun _=>⟨?_,?_,e2⟩⟩
   ·rw[World.var?_cell hg hv,<-g0];simp
   ·rw[World.var?_cell hg hv,<-g1];simp
  ·exact⟨(.nilFunc,.nilFunc,0,0,0),fun h=>absurd h hi⟩
 obtain⟨f,hf⟩:=Classical.skolem.1 hone
 exact⟨f,hf⟩
theorem nilf_of {W:World}{n:Nat}{t:TypeId}{ps rs:Array TypeId}{va:Bool}{v:Value}{q:List MemPlace}(ht:Tryz.prog.underlying t=some (.func ps rs va))(h:DataW.trod (funcToken Tryz.prog) Tryz.prog W 0 (fun _=>true) true n t [v]=some (.nil,q)):v=.nilFunc:=by
 cases n with
 |zero=>simp[DataW.trod]at h
 |succ n=>cases v<;>simp[DataW.trod,ht]at h ⊢
def opN (i:Nat):List UInt8:=[115,101,101,115,97,119,47,101,120,112,114,46,111,112,101,114,97,116,111,114,115,36,UInt8.ofNat (45+i)]
def opW (i:Nat):Value:=match i with
 |4=>.func (.func 432) #[] #[]|5=>.func (.func 433) #[] #[]|6=>.func (.func 434) #[] #[]|7=>.func (.func 435) #[] #[]|8=>.func (.func 437) #[] #[]|_=>.nilFunc
theorem ops_of {W:World}(h:laidMetH Tryz.prog laidL W):∀i,i<9->W.cell? ⟨1,i,none⟩=some (opW i):=by
 obtain⟨g,t,cs,fuel,p,hg,ht,hv,hd⟩:=h.funcs (n := "seesaw/expr.operators") (List.mem_cons_of_mem _ (List.mem_cons_self ..))
 obtain rfl:=Option.some.inj (gOps.symm.trans hg)
 obtain rfl:=Option.some.inj (tOps.symm.trans ht)
 obtain⟨xs,m,_,hx,hl,hn,hel⟩:=DataW.trod_array Tryz.underlying453 hd
 have c452:Tryz.prog.cellsOf 452=1:=by kernel_rfl
 rw[c452]at hel
 have hmap:xs.map (·.1)=[.nil,.nil,.nil,.nil,.held (opN 4),.held (opN 5),.held (opN 6),.held (opN 7),.held (opN 8)]:=by
  have:=congrArg Prod.fst hx
  exact(DataW.agg.inj this).symm
 intro i hi
 have hE:=hel i hi
 have hxi:i<xs.length:=by omega
 rw[List.getElem?_eq_getElem hxi,Nat.mul_one]at hE
 have hci:i<cs.toList.length:=by
  rcases Nat.lt_or_ge i cs.toList.length with h|h
  ·exact h
  ·rw[List.drop_eq_nil_of_le h]at hE
   exfalso
   cases m with
   |zero=>simp[DataW.trod]at hE
   |succ m=>simp[DataW.trod,Tryz.underlying452]at hE
 rw[one_of hci]at hE
 rw[World.var?_cell hg hv i,<-Array.getElem?_toList,List.getElem?_eq_getElem hci]
 have hs:(xs.map (·.1))[i]?=some (xs[i]).1:=by rw[List.getElem?_map,List.getElem?_eq_getElem hxi];rfl
 rw[hmap]at hs
 generalize cs.toList[i]=v at hE ⊢
 generalize xs[i]=y at hE hs
 obtain⟨d,q⟩:=y
 dsimp only at hs
 congr 1
 have hh:i=0\/i=1\/i=2\/i=3\/i=4\/i=5\/i=6\/i=7\/i=8:=by omega
 rcases hh with rfl|rfl|rfl|rfl|rfl|rfl|rfl|rfl|rfl<;>(obtain rfl:=Option.some.inj hs)
 ·exact nilf_of Tryz.underlying452 hE
 ·exact nilf_of Tryz.underlying452 hE
 ·exact nilf_of Tryz.underlying452 hE
 ·exact nilf_of Tryz.underlying452 hE
 ·exact func_of_trod (f0:=432) Tryz.underlying452 (by kernel_rfl) hE
 ·exact func_of_trod (f0:=433) Tryz.underlying452 (by kernel_rfl) hE
 ·exact func_of_trod (f0:=434) Tryz.underlying452 (by kernel_rfl) hE
 ·exact func_of_trod (f0:=435) Tryz.underlying452 (by kernel_rfl) hE
 ·exact func_of_trod (f0:=437) Tryz.underlying452 (by kernel_rfl) hE
end Go.Proofs.YtgdmlkgjpcnelaaGreatDoor
