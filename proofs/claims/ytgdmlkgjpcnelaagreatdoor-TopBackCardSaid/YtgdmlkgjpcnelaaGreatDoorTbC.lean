import Derived.Test.YtgdmlkgjpcnelaaGreatDoorTbB
namespace Go.Proofs.YtgdmlkgjpcnelaaGreatDoor
open Go Go.Vc
set_option linter.unusedVariables false
set_option maxRecDepth 100000
set_option maxHeartbeats 1000000
structure Th where
 at_:Int
 commits:Int
 rv:Int
 wv:Int
 stripe:Int
 v:Int
 read:Int
 owned:Int
 stored:Int
 check:Int
 locked:Int
 var_:Int
 full:Bool
noncomputable def thC (x:Th)(j:Nat):SV:=match j with
 |0=>.int .i64 x.at_|1=>.int .i64 x.commits|2=>.int .i64 x.rv|3=>.int .i64 x.wv|4=>.int .i64 x.stripe|5=>.int .i64 x.v|6=>.int .u32 x.read|7=>.int .u32 x.owned|8=>.int .u32 x.stored|9=>.int .u32 x.check|10=>.int .i64 x.locked|11=>.int .i64 x.var_|12=>.bool x.full|_=>.int .i64 0
noncomputable def thG (th:Nat->Th):Nat->Nat->SV:=fun i j=>thC (th i) j
noncomputable def stG (st:Nat->Int × Int):Nat->Nat->SV:=fun i j=>match j with|0=>.int .i64 (st i).1|_=>.int .i64 (st i).2
instance plTh (th):PlainG (thG th):=⟨fun τ i j=>by unfold thG thC;split<;>rfl,fun i j=>by unfold thG thC;split<;>rfl⟩
instance plSt (st):PlainG (stG st):=⟨fun τ i j=>by unfold stG;split<;>rfl,fun i j=>by unfold stG;split<;>rfl⟩
structure Sh where
 vars:Int
 clock:Int
 events:Int
 nt:Nat
 ns:Nat
 th:Nat->Th
 st:Nat->Int × Int
def updT (f:Nat->Th)(i:Nat)(x:Th):Nat->Th:=fun k=>if k=i then x else f k
def updS (f:Nat->Int × Int)(i:Nat)(x:Int × Int):Nat->Int × Int:=fun k=>if k=i then x else f k
noncomputable abbrev ckO (m:Sh):Ob:=.row [.c (.int .i64 m.vars),.c (.int .i64 m.clock),.c (.int .i64 m.events),.c (.sl 16 0 13 m.nt (.k m.nt)),.c (.sl 17 0 2 m.ns (.k m.ns))] 227 0
noncomputable abbrev shL (m:Sh):Hv:=[ckO m,.rows m.nt 13 (thG m.th) 234 0,.rows m.ns 2 (stG m.st) 225 0]
noncomputable abbrev shB (m:Sh):Hv:=bH (shL m)
theorem beq_ne {a b:Nat}(h:¬a=b):Nat.beq a b=false:=by
 cases hb:Nat.beq a b with
 |false=>rfl
 |true=>exact absurd (Nat.eq_of_beq_eq_true hb) h
theorem all13 {P:Nat->Prop}(h0:P 0)(h1:P 1)(h2:P 2)(h3:P 3)(h4:P 4)(h5:P 5)(h6:P 6)(h7:P 7)(h8:P 8)(h9:P 9)(h10:P 10)(h11:P 11)(h12:P 12):∀j,j<13->P j:=fun j hj=>by
 have:j=0\/j=1\/j=2\/j=3\/j=4\/j=5\/j=6\/j=7\/j=8\/j=9\/j=10\/j=11\/j=12:=by omega
 rcases this with rfl|rfl|rfl|rfl|rfl|rfl|rfl|rfl|rfl|rfl|rfl|rfl|rfl<;>assumption
theorem all2 {P:Nat->Prop}(h0:P 0)(h1:P 1):∀j,j<2->P j:=fun j hj=>by
 have:j=0\/j=1:=by omega
 rcases this with rfl|rfl<;>assumption
theorem LiesAt.gp {τ:Nat->Nat}{n sz e m:Nat}{g g':Nat->Nat->SV}{u':List (Nat × Nat × SV)} [hp:PlainG g](h:∀i j,i<n->j<sz->ovG u' g' i j=g i j):LiesAt (some (.rows n sz g' e m u')) ((Ob.rows n sz g e m).mp τ):=.g (u:=[]) fun i j hi hj=>by
 rw[h i j hi hj]
 exact(hp.pl τ i j).symm
theorem vfree_at (m:Sh)(s:Int)(hs:0<=s/\s<m.ns):CallG Tryz.prog 201 [.ptr 15 0 0 0,.int .i64 s] (shB m) fun v H=>v=.bool (decide ((m.st s.toNat).1=-1))/\H=shB m:=by
 refine Ze Tryz.func201 rfl fun g w=>?_
 refine Zr0 ?_
 exact Zv (v':=.bool (decide ((m.st s.toNat).1=-1))) (Hl:=shB m) (c15 [15,16,17]) ⟨rfl,rfl⟩ Zx1
theorem nd_t {p:Prop} [Decidable p](h:(!(decide p))=true):¬p:=by simpa using h
theorem nd_f {p:Prop} [Decidable p](h:(!(decide p))=false):p:=by simpa using h
def beginS (m:Sh)(i:Nat)(e:Evt):Option Sh:=if(m.th i).at_≠0 then none else if e.tx≠(m.th i).commits then none else if e.v<m.clock then none else
 some {m with clock:=e.v,th:=updT m.th i ⟨1,(m.th i).commits,e.v,0,0,0,0,0,0,0,-1,-1,false⟩}
theorem vbegin_at (m:Sh)(i:Nat)(e:Evt)(hi:i<m.nt):CallG Tryz.prog 130 [.ptr 15 0 0 0,.ptr 16 i 13 0,evS e] (shB m) fun v H=>v=.bool (beginS m i e).isSome/\H=shB ((beginS m i e).getD m):=by
 refine Ze Tryz.func130 rfl fun g w=>?_
 refine Zw [(0,0),(1,0),(2,0),(3,0),(4,0),(5,0),(6,0),(7,0),(8,0),(9,0),(10,0),(11,0),(12,0),(13,0),(14,0),(15,0),(16,0),(17,0),(18,0),(19,0),(20,0),(21,0),(22,0)] ?_
 refine Zr0 ?_
 refine Br.o (fun h1=>?_) (fun h1=>?_)
 ·refine Zr1 ?_
  have hs:beginS m i e=none:=by unfold beginS;rw[if_pos (of_decide_eq_true h1)]
  exact Zv (v':=.bool false) (Hl:=shB m) (c15 [15,16,17]) ⟨by rw[hs];rfl,by rw[hs];rfl⟩ Zx1
 refine Zr3 ?_
 refine Br.o (fun h2=>?_) (fun h2=>?_)
 ·refine Zr1 ?_
  have hs:beginS m i e=none:=by unfold beginS;rw[if_neg (of_decide_eq_false h1),if_pos (of_decide_eq_true h2)]
  exact Zv (v':=.bool false) (Hl:=shB m) (c15 [15,16,17]) ⟨by rw[hs];rfl,by rw[hs];rfl⟩ Zx1
 refine Zr2 ?_
 refine Br.o (fun h3=>?_) (fun h3=>?_)
 ·skip
  have hs:beginS m i e=none:=by unfold beginS;rw[if_neg (of_decide_eq_false h1),if_neg (of_decide_eq_false h2),if_pos (of_decide_eq_true h3)]
  exact Zv (v':=.bool false) (Hl:=shB m) (c15 [15,16,17]) ⟨by rw[hs];rfl,by rw[hs];rfl⟩ Zx1
 refine Zw Zl11 ?_
 refine Zr0 ?_
 have hs:beginS m i e=some {m with clock:=e.v,th:=updT m.th i ⟨1,(m.th i).commits,e.v,0,0,0,0,0,0,0,-1,-1,false⟩}:=by unfold beginS;rw[if_neg (of_decide_eq_false h1),if_neg (of_decide_eq_false h2),if_neg (of_decide_eq_false h3)]
 exact Lv.mk' (v':=.bool true) (Hl:=shB {m with clock:=e.v,th:=updT m.th i ⟨1,(m.th i).commits,e.v,0,0,0,0,0,0,0,-1,-1,false⟩}) [0,1,2,3,4,5,6,7,8,9,10,11,12,13,14,15,16,17] ⟨by rw[hs];rfl,by rw[hs];rfl⟩ rfl (fitB rfl ⟨.r rfl,LiesAt.gp (fun i' j hi hj=>by
  have hj':j=0\/j=1\/j=2\/j=3\/j=4\/j=5\/j=6\/j=7\/j=8\/j=9\/j=10\/j=11\/j=12:=by omega
  by_cases h:i'=i
  ·subst h
   rcases hj' with rfl|rfl|rfl|rfl|rfl|rfl|rfl|rfl|rfl|rfl|rfl|rfl|rfl<;>(simp[pushU,SV.cells,ovG,thG,thC,updT]<;>rfl)
  ·simp[pushU,SV.cells,ovG,beq_ne h,thG,updT,h]),.p,trivial⟩) rfl rfl rfl rfl rfl
def lookS (m:Sh)(i:Nat)(e:Evt):Option Sh:=if(m.th i).at_≠1 then none else if ¬((m.st e.at_.toNat).1=-1)then none else if e.v<(m.st e.at_.toNat).2 then none else if(m.th i).rv<e.v then none else
 some {m with st:=updS m.st e.at_.toNat ((m.st e.at_.toNat).1,e.v),th:=updT m.th i {m.th i with at_:=2,stripe:=e.at_,v:=e.v}}
theorem vlook_at (m:Sh)(i:Nat)(e:Evt)(hi:i<m.nt)(ha:0<=e.at_/\e.at_<m.ns):CallG Tryz.prog 131 [.ptr 15 0 0 0,.ptr 16 i 13 0,evS e] (shB m) fun v H=>v=.bool (lookS m i e).isSome/\H=shB ((lookS m i e).getD m):=by
 refine Ze Tryz.func131 rfl fun g w=>?_
 refine Zw [(0,0),(1,0),(2,0),(3,0),(4,0),(5,0),(6,0),(7,0),(8,0),(9,0),(10,0),(11,0),(12,0),(13,0),(14,0),(15,0),(16,0),(17,0),(18,0),(19,0),(20,0),(21,0),(22,0),(23,0),(24,0),(25,0),(26,0),(27,0),(28,0),(29,0),(30,0),(31,0),(32,0),(33,0),(34,0)] ?_
 refine Zr0 ?_
 refine Br.o (fun h1=>?_) (fun h1=>?_)
 ·refine Zr1 ?_
  have hs:lookS m i e=none:=by unfold lookS;rw[if_pos (of_decide_eq_true h1)]
  exact Zv (v':=.bool false) (Hl:=shB m) (c15 [15,16,17]) ⟨by rw[hs];rfl,by rw[hs];rfl⟩ Zx1
 refine Zr2 ?_
 refine Zd (c15 [15,16,17]) (n15 [none,none,none]) [] (vfree_at m e.at_ ha) Zx1 Zx11 ?_
 refine Zr2 ?_
 refine Br.o (fun h2=>?_) (fun h2=>?_)
 ·refine Zr1 ?_
  have hs:lookS m i e=none:=by unfold lookS;rw[if_neg (of_decide_eq_false h1),if_pos (nd_t h2)]
  exact Zv (v':=.bool false) (Hl:=shB m) (c15 [15,16,17]) ⟨by rw[hs];rfl,by rw[hs];rfl⟩ Zx1
 refine Zr3 ?_
 refine Br.o (fun h3=>?_) (fun h3=>?_)
 ·refine Zr1 ?_
  have hs:lookS m i e=none:=by unfold lookS;rw[if_neg (of_decide_eq_false h1),if_neg (fun q=>q (nd_f h2)),if_pos (of_decide_eq_true h3)]
  exact Zv (v':=.bool false) (Hl:=shB m) (c15 [15,16,17]) ⟨by rw[hs];rfl,by rw[hs];rfl⟩ Zx1
 refine Zr3 ?_
 refine Br.o (fun h4=>?_) (fun h4=>?_)
 ·skip
  have hs:lookS m i e=none:=by unfold lookS;rw[if_neg (of_decide_eq_false h1),if_neg (fun q=>q (nd_f h2)),if_neg (of_decide_eq_false h3),if_pos (of_decide_eq_true h4)]
  exact Zv (v':=.bool false) (Hl:=shB m) (c15 [15,16,17]) ⟨by rw[hs];rfl,by rw[hs];rfl⟩ Zx1
 refine Zw Zl7 ?_
 refine Zr0 ?_
 refine Zw [(0,0),(7,0),(8,0),(9,0),(1,1),(3,1),(4,1),(10,0),(11,0),(12,0),(2,2),(5,2),(6,2),(13,0),(14,0),(15,0)] ?_
 repeat ((show Sd _ _;refine Sd.mk (by first|omega|exact⟨rfl,trivial⟩|exact⟨rfl,rfl,trivial⟩) ?_))
 have hs:lookS m i e=some {m with st:=updS m.st e.at_.toNat ((m.st e.at_.toNat).1,e.v),th:=updT m.th i {m.th i with at_:=2,stripe:=e.at_,v:=e.v}}:=by unfold lookS;rw[if_neg (of_decide_eq_false h1),if_neg (fun q=>q (nd_f h2)),if_neg (of_decide_eq_false h3),if_neg (of_decide_eq_false h4)]
 exact Lv.mk' (v':=.bool true) (Hl:=shB {m with st:=updS m.st e.at_.toNat ((m.st e.at_.toNat).1,e.v),th:=updT m.th i {m.th i with at_:=2,stripe:=e.at_,v:=e.v}}) [0,1,2,3,4,5,6,7,8,9,10,11,12,13,14,15,16,17] ⟨by rw[hs];rfl,by rw[hs];rfl⟩ rfl (fitB rfl ⟨.r rfl,LiesAt.gp (fun i' j hi hj=>by
  have hj':j=0\/j=1\/j=2\/j=3\/j=4\/j=5\/j=6\/j=7\/j=8\/j=9\/j=10\/j=11\/j=12:=by omega
  by_cases h:i'=i
  ·subst h
   rcases hj' with rfl|rfl|rfl|rfl|rfl|rfl|rfl|rfl|rfl|rfl|rfl|rfl|rfl<;>(simp[pushU,SV.cells,ovG,thG,thC,updT]<;>rfl)
  ·simp[pushU,SV.cells,ovG,beq_ne h,thG,updT,h]),LiesAt.gp (fun i' j hi hj=>by
  have hj':j=0\/j=1:=by omega
  by_cases h:i'=e.at_.toNat
  ·subst h
   rcases hj' with rfl|rfl<;>(simp[pushU,SV.cells,ovG,stG,updS]<;>rfl)
  ·rcases hj' with rfl|rfl<;>(simp[pushU,SV.cells,ovG,beq_ne h,stG,updS,h]<;>rfl)),trivial⟩) rfl rfl rfl rfl rfl
theorem vstill_at (m:Sh)(i:Nat)(hi:i<m.nt)(ha:0<=(m.th i).stripe/\(m.th i).stripe<m.ns):CallG Tryz.prog 202 [.ptr 15 0 0 0,.ptr 16 i 13 0] (shB m) fun v H=>v=.bool (decide ((m.st (m.th i).stripe.toNat).1=-1) && decide ((m.st (m.th i).stripe.toNat).2=(m.th i).v))/\H=shB m:=by
 refine Ze Tryz.func202 rfl fun g w=>?_
 refine Zw [(0,0),(1,0),(2,0),(3,0),(4,0),(5,0),(6,0),(7,0),(8,0),(9,0),(10,0),(11,0),(12,0),(13,0),(14,0),(15,0),(16,0),(17,0),(18,0),(19,0),(20,0),(21,0),(22,0),(23,0),(24,0)] ?_
 refine Zr0 ?_
 refine Zd (c15 [15,16,17]) (n15 [none,none,none]) [] (vfree_at m (m.th i).stripe ha) Zx1 Zx11 ?_
 refine Br.o (fun h=>?_) (fun h=>?_)
 ·refine Zr3 ?_
  exact Zv (c15 [15,16,17]) ⟨by rw[h],rfl⟩ Zx1
 ·refine Zr2 ?_
  exact Zv (c15 [15,16,17]) ⟨by rw[h],rfl⟩ Zx1
theorem vothers_at (m:Sh)(s:Int)(e:Evt)(ha:0<=s/\s<m.ns):CallG Tryz.prog 204 [.ptr 15 0 0 0,.int .i64 s,evS e] (shB m) fun v H=>v=.bool (!decide ((m.st s.toNat).1=-1) && decide ((m.st s.toNat).1≠e.thread))/\H=shB m:=by
 refine Ze Tryz.func204 rfl fun g w=>?_
 refine Zw Zl8 ?_
 refine Zd (c15 [15,16,17]) (n15 [none,none,none]) [] (vfree_at m s ha) Zx1 Zx11 ?_
 refine Br.o (fun h=>?_) (fun h=>?_)
 ·refine Zr3 ?_
  exact Zv (c15 [15,16,17]) ⟨by rw[h],rfl⟩ Zx1
 ·refine Zr2 ?_
  exact Zv (c15 [15,16,17]) ⟨by rw[h],rfl⟩ Zx1
theorem vnewer_at (m:Sh)(s:Int)(i:Nat)(hi:i<m.nt)(ha:0<=s/\s<m.ns):CallG Tryz.prog 205 [.ptr 15 0 0 0,.int .i64 s,.ptr 16 i 13 0] (shB m) fun v H=>v=.bool (decide ((m.th i).rv<(m.st s.toNat).2))/\H=shB m:=by
 refine Ze Tryz.func205 rfl fun g w=>?_
 refine Zw Zl9 ?_
 refine Zr0 ?_
 exact Zv (c15 [15,16,17]) ⟨rfl,rfl⟩ Zx1
def endsS (m:Sh)(i:Nat):Sh:={m with th:=updT m.th i {m.th i with at_:=0,commits:=(m.th i).commits+1}}
theorem vends_at (m:Sh)(i:Nat)(hi:i<m.nt)(hc:0<=(m.th i).commits/\(m.th i).commits<=1048576):CallG Tryz.prog 206 [.ptr 16 i 13 0] (shB m) fun v H=>v=.tup []/\H=shB (endsS m i):=by
 refine Ze Tryz.func206 rfl fun g w=>?_
 refine Zr0 ?_
 exact Lv.mk' (v':=.tup []) (Hl:=shB (endsS m i)) [0,1,2,3,4,5,6,7,8,9,10,11,12,13,14,15,16,17] ⟨rfl,rfl⟩ rfl (fitB rfl ⟨.r rfl,LiesAt.gp (fun i' j hi hj=>by
  have hj':j=0\/j=1\/j=2\/j=3\/j=4\/j=5\/j=6\/j=7\/j=8\/j=9\/j=10\/j=11\/j=12:=by omega
  by_cases h:i'=i
  ·subst h
   rcases hj' with rfl|rfl|rfl|rfl|rfl|rfl|rfl|rfl|rfl|rfl|rfl|rfl|rfl<;>(simp[pushU,SV.cells,ovG,endsS,thG,thC,updT]<;>rfl)
  ·simp[pushU,SV.cells,ovG,beq_ne h,endsS,thG,updT,h]),.p,trivial⟩) rfl rfl rfl rfl rfl
theorem bit_in {a:Int}(h:0<=a/\a<32):0<=(1:Int)*2 ^ shf .u32 a/\(1:Int)*2 ^ shf .u32 a<=4294967295:=by
 have:shf .u32 a<=31:=by unfold shf;have:IntKind.u32.bits=32:=rfl;omega
 have h2:(2:Nat) ^ shf .u32 a<=2 ^ 31:=Nat.pow_le_pow_right (by decide) this
 have h3:((2:Int) ^ shf .u32 a)=(((2:Nat) ^ shf .u32 a:Nat):Int):=by simp
 rw[Int.one_mul,h3]
 constructor
 ·exact Int.natCast_nonneg _
 ·have:((2:Nat) ^ shf .u32 a)<=2147483648:=h2
  omega
def bitS (a:Int):Int:=1*2 ^ shf .u32 a
def leaveS (m:Sh)(i:Nat)(s:Int):Sh:={m with th:=updT m.th i {m.th i with owned:=bitR .andNot .u32 (m.th i).owned (bitS s)},st:=updS m.st s.toNat (-1,(m.st s.toNat).2)}
theorem vleave_at (m:Sh)(i:Nat)(s:Int)(hi:i<m.nt)(ha:0<=s/\s<m.ns)(hn:m.ns<=32):CallG Tryz.prog 207 [.ptr 15 0 0 0,.ptr 16 i 13 0,.int .i64 s] (shB m) fun v H=>v=.tup []/\H=shB (leaveS m i s):=by
 have hb:=bit_in (a:=s) (by omega)
 refine Ze Tryz.func207 rfl fun g w=>?_
 refine Zw Zl11 ?_
 refine Zr0 ?_
 exact Lv.mk' (v':=.tup []) (Hl:=shB (leaveS m i s)) [0,1,2,3,4,5,6,7,8,9,10,11,12,13,14,15,16,17] ⟨rfl,rfl⟩ rfl (fitB rfl ⟨.r rfl,LiesAt.gp (fun i' j hi hj=>by
  have hj':j=0\/j=1\/j=2\/j=3\/j=4\/j=5\/j=6\/j=7\/j=8\/j=9\/j=10\/j=11\/j=12:=by omega
  by_cases h:i'=i
  ·subst h
   rcases hj' with rfl|rfl|rfl|rfl|rfl|rfl|rfl|rfl|rfl|rfl|rfl|rfl|rfl<;>(simp[pushU,SV.cells,ovG,leaveS,bitS,thG,thC,updT]<;>rfl)
  ·simp[pushU,SV.cells,ovG,beq_ne h,leaveS,thG,updT,h]),LiesAt.gp (fun i' j hi hj=>by
  have hj':j=0\/j=1:=by omega
  by_cases h:i'=s.toNat
  ·subst h
   rcases hj' with rfl|rfl<;>(simp[pushU,SV.cells,ovG,leaveS,stG,updS]<;>rfl)
  ·rcases hj' with rfl|rfl<;>(simp[pushU,SV.cells,ovG,beq_ne h,leaveS,stG,updS,h]<;>rfl)),trivial⟩) rfl rfl rfl rfl rfl
def loadS (m:Sh)(i:Nat)(e:Evt):Option Sh:=if(m.th i).at_≠2 then none else if e.at_.tmod m.ns≠(m.th i).stripe then none else if ¬((decide ((m.st (m.th i).stripe.toNat).1=-1) && decide ((m.st (m.th i).stripe.toNat).2=(m.th i).v))=true)then none else
 some {m with th:=updT m.th i {m.th i with at_:=1,read:=bitR .or .u32 (m.th i).read (bitS (m.th i).stripe)}}
theorem nb_t {b:Bool}(h:(!b)=true):¬b=true:=by simpa using h
theorem nb_f {b:Bool}(h:(!b)=false):b=true:=by simpa using h
theorem vload_at (m:Sh)(i:Nat)(e:Evt)(hi:i<m.nt)(h0:0<m.ns)(hn:m.ns<=32)(hst:(m.th i).at_=2->0<=(m.th i).stripe/\(m.th i).stripe<m.ns):CallG Tryz.prog 132 [.ptr 15 0 0 0,.ptr 16 i 13 0,evS e] (shB m) fun v H=>v=.bool (loadS m i e).isSome/\H=shB ((loadS m i e).getD m):=by
 refine Ze Tryz.func132 rfl fun g w=>?_
 refine Zw [(0,0),(1,0),(2,0),(3,0),(4,0),(5,0),(6,0),(7,0),(8,0),(9,0),(10,0),(11,0),(12,0),(13,0),(14,0),(15,0),(16,0),(17,0),(18,0),(19,0),(20,0),(21,0),(22,0),(23,0),(24,0),(25,0)] ?_
 refine Zr0 ?_
 refine Br.o (fun h1=>?_) (fun h1=>?_)
 ·refine Zr1 ?_
  have hs:loadS m i e=none:=by unfold loadS;rw[if_pos (of_decide_eq_true h1)]
  exact Zv (v':=.bool false) (Hl:=shB m) (c15 [15,16,17]) ⟨by rw[hs];rfl,by rw[hs];rfl⟩ Zx1
 refine Zr3 ?_
 refine Br.o (fun h2=>?_) (fun h2=>?_)
 ·refine Zr1 ?_
  have hs:loadS m i e=none:=by unfold loadS;rw[if_neg (of_decide_eq_false h1),if_pos (of_decide_eq_true h2)]
  exact Zv (v':=.bool false) (Hl:=shB m) (c15 [15,16,17]) ⟨by rw[hs];rfl,by rw[hs];rfl⟩ Zx1
 refine Zr2 ?_
 have ha:=hst (by have:=of_decide_eq_false h1;omega)
 have hb:=bit_in (a:=(m.th i).stripe) (by omega)
 refine Zd (c15 [15,16,17]) (n15 [none,none,none]) [] (vstill_at m i hi ha) Zx1 Zx11 ?_
 refine Zr2 ?_
 refine Br.o (fun h3=>?_) (fun h3=>?_)
 ·skip
  have hs:loadS m i e=none:=by unfold loadS;rw[if_neg (of_decide_eq_false h1),if_neg (of_decide_eq_false h2),if_pos (nb_t h3)]
  exact Zv (v':=.bool false) (Hl:=shB m) (c15 [15,16,17]) ⟨by rw[hs];rfl,by rw[hs];rfl⟩ Zx1
 refine Zr0 ?_
 refine Zw Zl14 ?_
 refine Zr0 ?_
 have hs:loadS m i e=some {m with th:=updT m.th i {m.th i with at_:=1,read:=bitR .or .u32 (m.th i).read (bitS (m.th i).stripe)}}:=by unfold loadS;rw[if_neg (of_decide_eq_false h1),if_neg (of_decide_eq_false h2),if_neg (fun q=>q (nb_f h3))]
 exact Lv.mk' (v':=.bool true) (Hl:=shB {m with th:=updT m.th i {m.th i with at_:=1,read:=bitR .or .u32 (m.th i).read (bitS (m.th i).stripe)}}) [0,1,2,3,4,5,6,7,8,9,10,11,12,13,14,15,16,17] ⟨by rw[hs];rfl,by rw[hs];rfl⟩ rfl (fitB rfl ⟨.r rfl,LiesAt.gp (fun i' j hi hj=>by
  have hj':j=0\/j=1\/j=2\/j=3\/j=4\/j=5\/j=6\/j=7\/j=8\/j=9\/j=10\/j=11\/j=12:=by omega
  by_cases h:i'=i
  ·subst h
   rcases hj' with rfl|rfl|rfl|rfl|rfl|rfl|rfl|rfl|rfl|rfl|rfl|rfl|rfl<;>(simp[pushU,SV.cells,ovG,bitS,thG,thC,updT]<;>rfl)
  ·simp[pushU,SV.cells,ovG,beq_ne h,thG,updT,h]),.p,trivial⟩) rfl rfl rfl rfl rfl
def leastZ (w:Int):Int:=if w=0 then 32 else((deBr.getD ((IntKind.u32.wrap (bitR .and .u32 w (IntKind.u32.wrap (-w))*125613361)).fdiv (2 ^ shf .u32 27)).toNat 0:Nat):Int)
theorem deBr_le (i:Nat):deBr.getD i 0<=31:=by
 by_cases h:i<32
 ·have:∀i,i<32->deBr.getD i 0<=31:=by decide
  exact this i h
 ·rw[List.getD_eq_getElem?_getD,List.getElem?_eq_none (by show 32<=i;omega)]
  exact Nat.zero_le _
theorem wrap_u32 (z:Int):0<=IntKind.u32.wrap z/\IntKind.u32.wrap z<4294967296:=by
 unfold IntKind.wrap
 simp[IntKind.bits,IntKind.signed]
 omega
theorem fd27 {x:Int}(h:0<=x/\x<4294967296):0<=x.fdiv (2 ^ shf .u32 27)/\x.fdiv (2 ^ shf .u32 27)<32:=by
 have e:(2:Int) ^ shf .u32 27=134217728:=by decide
 rw[e,Int.fdiv_eq_ediv_of_nonneg _ (by decide)]
 omega
theorem vtz_at (w:Int):CallG Tryz.prog 273 [.int .u32 w] (bH []) fun v H=>v=.int .i64 (leastZ w)/\H=bH []:=by
 refine CallG.enter (X:=cxw) cxw_ok (fun _=>[]) Tryz.func273 rfl (by kernel_rfl) rfl rfl fun g _=>?_
 refine Br.o (fun h=>?_) (fun h=>?_)
 ·skip
  exact Zv (v':=.int .i64 32) (c15 []) ⟨by unfold leastZ;rw[if_pos (of_decide_eq_true h)],rfl⟩ Zx0
 ·have hz:=fd27 (wrap_u32 (bitR .and .u32 w (IntKind.u32.wrap (-w))*125613361))
  refine Zr10 ?_
  exact Lv.mk' (v':=.int .i64 (leastZ w)) [0,1,2,3,4,5,6,7,8,9,10,11,12,13,14] ⟨rfl,rfl⟩ (by
   show SV.int .i64 (leastZ w)=SV.int .i64 (IntKind.i64.wrap ((deBr.getD ((IntKind.u32.wrap (bitR .and .u32 w (IntKind.u32.wrap (-w))*125613361)).fdiv (2 ^ shf .u32 27)).toNat 0:Nat):Int))
   have hd:=deBr_le ((IntKind.u32.wrap (bitR .and .u32 w (IntKind.u32.wrap (-w))*125613361)).fdiv (2 ^ shf .u32 27)).toNat
   rw[wrap_in (k:=.i64) (by simp only;omega)]
   unfold leastZ
   rw[if_neg (of_decide_eq_false h)]) (fitB rfl trivial) rfl rfl rfl rfl rfl
theorem vleast_at (w:Int):CallG Tryz.prog 203 [.int .u32 w] (bH []) fun v H=>v=.int .i64 (leastZ w)/\H=bH []:=by
 refine Ze Tryz.func203 rfl fun g _=>?_
 refine Zc (c15 []) (n15 []) [] (vtz_at w) Zx0 Zx12 ?_
 exact Zv (c15 []) ⟨rfl,rfl⟩ Zx0
def lockS (m:Sh)(i:Nat)(e:Evt):Option Sh:=if(m.th i).at_≠1/\(m.th i).at_≠3 then none else if e.at_<=(m.th i).locked then none else if ¬((m.st e.at_.toNat).1=-1)then none else
 some {m with th:=updT m.th i {m.th i with at_:=3,locked:=e.at_,owned:=bitR .or .u32 (m.th i).owned (bitS e.at_)},st:=updS m.st e.at_.toNat (e.thread,(m.st e.at_.toNat).2)}
theorem vlock_at (m:Sh)(i:Nat)(e:Evt)(hi:i<m.nt)(ha:0<=e.at_/\e.at_<m.ns)(hn:m.ns<=32):CallG Tryz.prog 133 [.ptr 15 0 0 0,.ptr 16 i 13 0,evS e] (shB m) fun v H=>v=.bool (lockS m i e).isSome/\H=shB ((lockS m i e).getD m):=by
 refine Ze Tryz.func133 rfl fun g w=>?_
 have hb:=bit_in (a:=e.at_) (by omega)
 refine Zw [(0,0),(1,0),(2,0),(3,0),(4,0),(5,0),(6,0),(7,0),(8,0),(9,0),(10,0),(11,0),(12,0),(13,0),(14,0),(15,0),(16,0),(17,0),(18,0),(19,0),(20,0),(21,0),(22,0),(23,0),(24,0),(25,0),(26,0),(27,0)] ?_
 refine Zr0 ?_
 refine Br.o (fun h1=>?_) (fun h1=>?_)
 ·have p1:=of_decide_eq_true h1
  refine Zr3 ?_
  refine Br.o (fun h2=>?_) (fun h2=>?_)
  ·have p2:=of_decide_eq_true h2
   refine Zr1 ?_
   have hs:lockS m i e=none:=by unfold lockS;(repeat' split);all_goals (first|rfl|(exfalso;omega))
   exact Zv (v':=.bool false) (Hl:=shB m) (c15 [15,16,17]) ⟨by rw[hs];rfl,by rw[hs];rfl⟩ Zx1
  have p2:=of_decide_eq_false h2
  refine Zr3 ?_
  refine Br.o (fun h3=>?_) (fun h3=>?_)
  ·refine Zr1 ?_
   have p3:=of_decide_eq_true h3
   have hs:lockS m i e=none:=by unfold lockS;(repeat' split);all_goals (rfl)
   exact Zv (v':=.bool false) (Hl:=shB m) (c15 [15,16,17]) ⟨by rw[hs];rfl,by rw[hs];rfl⟩ Zx1
  have p3:=of_decide_eq_false h3
  refine Zr2 ?_
  refine Zd (c15 [15,16,17]) (n15 [none,none,none]) [] (vfree_at m e.at_ ha) Zx1 Zx11 ?_
  refine Zr2 ?_
  refine Br.o (fun h4=>?_) (fun h4=>?_)
  ·skip
   have p4:=nd_t h4
   have hs:lockS m i e=none:=by unfold lockS;(repeat' split);all_goals (rfl)
   exact Zv (v':=.bool false) (Hl:=shB m) (c15 [15,16,17]) ⟨by rw[hs];rfl,by rw[hs];rfl⟩ Zx1
  have p4:=nd_f h4
  refine Zw Zl16 ?_
  refine Zr12 ?_
  refine Zw Zl7 ?_
  refine Zr0 ?_
  refine Zw Zl7 ?_
  refine Zr0 ?_
  have hs:lockS m i e=some {m with th:=updT m.th i {m.th i with at_:=3,locked:=e.at_,owned:=bitR .or .u32 (m.th i).owned (bitS e.at_)},st:=updS m.st e.at_.toNat (e.thread,(m.st e.at_.toNat).2)}:=by unfold lockS;(repeat' split);all_goals (first|rfl|(exfalso;omega))
  exact Lv.mk' (v':=.bool true) (Hl:=shB {m with th:=updT m.th i {m.th i with at_:=3,locked:=e.at_,owned:=bitR .or .u32 (m.th i).owned (bitS e.at_)},st:=updS m.st e.at_.toNat (e.thread,(m.st e.at_.toNat).2)}) [0,1,2,3,4,5,6,7,8,9,10,11,12,13,14,15,16,17] ⟨by rw[hs];rfl,by rw[hs];rfl⟩ rfl (fitB rfl ⟨.r rfl,LiesAt.gp (fun i' j hi hj=>by
    have hj':j=0\/j=1\/j=2\/j=3\/j=4\/j=5\/j=6\/j=7\/j=8\/j=9\/j=10\/j=11\/j=12:=by omega
    by_cases h:i'=i
    ·subst h
     rcases hj' with rfl|rfl|rfl|rfl|rfl|rfl|rfl|rfl|rfl|rfl|rfl|rfl|rfl<;>(simp[pushU,SV.cells,ovG,bitS,thG,thC,updT]<;>rfl)
    ·simp[pushU,SV.cells,ovG,beq_ne h,thG,updT,h]),LiesAt.gp (fun i' j hi hj=>by
    have hj':j=0\/j=1:=by omega
    by_cases h:i'=e.at_.toNat
    ·subst h
     rcases hj' with rfl|rfl<;>(simp[pushU,SV.cells,ovG,stG,updS]<;>rfl)
    ·rcases hj' with rfl|rfl<;>(simp[pushU,SV.cells,ovG,beq_ne h,stG,updS,h]<;>rfl)),trivial⟩) rfl rfl rfl rfl rfl
 have p1:=of_decide_eq_false h1
 refine Zr3 ?_
 refine Br.o (fun h3=>?_) (fun h3=>?_)
 ·refine Zr1 ?_
  have p3:=of_decide_eq_true h3
  have hs:lockS m i e=none:=by unfold lockS;(repeat' split);all_goals (rfl)
  exact Zv (v':=.bool false) (Hl:=shB m) (c15 [15,16,17]) ⟨by rw[hs];rfl,by rw[hs];rfl⟩ Zx1
 have p3:=of_decide_eq_false h3
 refine Zr2 ?_
 refine Zd (c15 [15,16,17]) (n15 [none,none,none]) [] (vfree_at m e.at_ ha) Zx1 Zx11 ?_
 refine Zr2 ?_
 refine Br.o (fun h4=>?_) (fun h4=>?_)
 ·skip
  have p4:=nd_t h4
  have hs:lockS m i e=none:=by unfold lockS;(repeat' split);all_goals (rfl)
  exact Zv (v':=.bool false) (Hl:=shB m) (c15 [15,16,17]) ⟨by rw[hs];rfl,by rw[hs];rfl⟩ Zx1
 have p4:=nd_f h4
 refine Zw Zl16 ?_
 refine Zr12 ?_
 refine Zw Zl7 ?_
 refine Zr0 ?_
 refine Zw Zl7 ?_
 refine Zr0 ?_
 have hs:lockS m i e=some {m with th:=updT m.th i {m.th i with at_:=3,locked:=e.at_,owned:=bitR .or .u32 (m.th i).owned (bitS e.at_)},st:=updS m.st e.at_.toNat (e.thread,(m.st e.at_.toNat).2)}:=by unfold lockS;(repeat' split);all_goals (first|rfl|(exfalso;omega))
 exact Lv.mk' (v':=.bool true) (Hl:=shB {m with th:=updT m.th i {m.th i with at_:=3,locked:=e.at_,owned:=bitR .or .u32 (m.th i).owned (bitS e.at_)},st:=updS m.st e.at_.toNat (e.thread,(m.st e.at_.toNat).2)}) [0,1,2,3,4,5,6,7,8,9,10,11,12,13,14,15,16,17] ⟨by rw[hs];rfl,by rw[hs];rfl⟩ rfl (fitB rfl ⟨.r rfl,LiesAt.gp (fun i' j hi hj=>by
   have hj':j=0\/j=1\/j=2\/j=3\/j=4\/j=5\/j=6\/j=7\/j=8\/j=9\/j=10\/j=11\/j=12:=by omega
   by_cases h:i'=i
   ·subst h
    rcases hj' with rfl|rfl|rfl|rfl|rfl|rfl|rfl|rfl|rfl|rfl|rfl|rfl|rfl<;>(simp[pushU,SV.cells,ovG,bitS,thG,thC,updT]<;>rfl)
   ·simp[pushU,SV.cells,ovG,beq_ne h,thG,updT,h]),LiesAt.gp (fun i' j hi hj=>by
   have hj':j=0\/j=1:=by omega
   by_cases h:i'=e.at_.toNat
   ·subst h
    rcases hj' with rfl|rfl<;>(simp[pushU,SV.cells,ovG,stG,updS]<;>rfl)
   ·rcases hj' with rfl|rfl<;>(simp[pushU,SV.cells,ovG,beq_ne h,stG,updS,h]<;>rfl)),trivial⟩) rfl rfl rfl rfl rfl
def bumpS (m:Sh)(i:Nat)(e:Evt):Option Sh:=if(m.th i).at_≠3 then none else if e.v<=m.clock then none else
 some {m with clock:=e.v,th:=updT m.th i {m.th i with at_:=4,wv:=e.v,check:=if e.v=(m.th i).rv+1 then(m.th i).check else(m.th i).read}}
theorem vbump_at (m:Sh)(i:Nat)(e:Evt)(hi:i<m.nt)(hrv:0<=(m.th i).rv/\(m.th i).rv<=1099511627776):CallG Tryz.prog 134 [.ptr 15 0 0 0,.ptr 16 i 13 0,evS e] (shB m) fun v H=>v=.bool (bumpS m i e).isSome/\H=shB ((bumpS m i e).getD m):=by
 refine Ze Tryz.func134 rfl fun g w=>?_
 refine Zw Zl9 ?_
 refine Zr0 ?_
 refine Br.o (fun h1=>?_) (fun h1=>?_)
 ·refine Zr1 ?_
  have hs:bumpS m i e=none:=by unfold bumpS;rw[if_pos (of_decide_eq_true h1)]
  exact Zv (v':=.bool false) (Hl:=shB m) (c15 [15,16,17]) ⟨by rw[hs];rfl,by rw[hs];rfl⟩ Zx1
 refine Zr2 ?_
 refine Br.o (fun h2=>?_) (fun h2=>?_)
 ·skip
  have hs:bumpS m i e=none:=by unfold bumpS;rw[if_neg (of_decide_eq_false h1),if_pos (of_decide_eq_true h2)]
  exact Zv (v':=.bool false) (Hl:=shB m) (c15 [15,16,17]) ⟨by rw[hs];rfl,by rw[hs];rfl⟩ Zx1
 refine Zw Zl16 ?_
 refine Zr9 ?_
 refine Zw Zl15 ?_
 refine Zr0 ?_
 refine Br.o (fun h3=>?_) (fun h3=>?_)
 ·have p3:=of_decide_eq_true h3
  refine Zr0 ?_
  have hs:bumpS m i e=some {m with clock:=e.v,th:=updT m.th i {m.th i with at_:=4,wv:=e.v,check:=if e.v=(m.th i).rv+1 then(m.th i).check else(m.th i).read}}:=by unfold bumpS;rw[if_neg (of_decide_eq_false h1),if_neg (of_decide_eq_false h2)]
  exact Lv.mk' (v':=.bool true) (Hl:=shB {m with clock:=e.v,th:=updT m.th i {m.th i with at_:=4,wv:=e.v,check:=if e.v=(m.th i).rv+1 then(m.th i).check else(m.th i).read}}) [0,1,2,3,4,5,6,7,8,9,10,11,12,13,14,15,16,17] ⟨by rw[hs];rfl,by rw[hs];rfl⟩ rfl (fitB rfl ⟨.r rfl,LiesAt.gp (fun i' j hi hj=>by
   have hj':j=0\/j=1\/j=2\/j=3\/j=4\/j=5\/j=6\/j=7\/j=8\/j=9\/j=10\/j=11\/j=12:=by omega
   by_cases h:i'=i
   ·subst h
    rcases hj' with rfl|rfl|rfl|rfl|rfl|rfl|rfl|rfl|rfl|rfl|rfl|rfl|rfl<;>(simp[pushU,SV.cells,ovG,p3,thG,thC,updT]<;>rfl)
   ·simp[pushU,SV.cells,ovG,beq_ne h,thG,updT,h]),.p,trivial⟩) rfl rfl rfl rfl rfl
 ·have p3:e.v=(m.th i).rv+1:=Classical.byContradiction (of_decide_eq_false h3)
  have hs:bumpS m i e=some {m with clock:=e.v,th:=updT m.th i {m.th i with at_:=4,wv:=e.v,check:=if e.v=(m.th i).rv+1 then(m.th i).check else(m.th i).read}}:=by unfold bumpS;rw[if_neg (of_decide_eq_false h1),if_neg (of_decide_eq_false h2)]
  exact Lv.mk' (v':=.bool true) (Hl:=shB {m with clock:=e.v,th:=updT m.th i {m.th i with at_:=4,wv:=e.v,check:=if e.v=(m.th i).rv+1 then(m.th i).check else(m.th i).read}}) [0,1,2,3,4,5,6,7,8,9,10,11,12,13,14,15,16,17] ⟨by rw[hs];rfl,by rw[hs];rfl⟩ rfl (fitB rfl ⟨.r rfl,LiesAt.gp (fun i' j hi hj=>by
   have hj':j=0\/j=1\/j=2\/j=3\/j=4\/j=5\/j=6\/j=7\/j=8\/j=9\/j=10\/j=11\/j=12:=by omega
   by_cases h:i'=i
   ·subst h
    rcases hj' with rfl|rfl|rfl|rfl|rfl|rfl|rfl|rfl|rfl|rfl|rfl|rfl|rfl<;>(simp[pushU,SV.cells,ovG,if_pos p3,thG,thC,updT]<;>rfl)
   ·simp[pushU,SV.cells,ovG,beq_ne h,thG,updT,h]),.p,trivial⟩) rfl rfl rfl rfl rfl
def waitS (m:Sh)(i:Nat)(e:Evt):Option Sh:=if(m.th i).at_≠1 then none else some {m with th:=updT m.th i {m.th i with at_:=8}}
theorem vwait_at (m:Sh)(i:Nat)(e:Evt)(hi:i<m.nt):CallG Tryz.prog 141 [.ptr 15 0 0 0,.ptr 16 i 13 0,evS e] (shB m) fun v H=>v=.bool (waitS m i e).isSome/\H=shB ((waitS m i e).getD m):=by
 refine Ze Tryz.func141 rfl fun g w=>?_
 refine Zr0 ?_
 refine Br.o (fun h1=>?_) (fun h1=>?_)
 ·skip
  have hs:waitS m i e=none:=by unfold waitS;rw[if_pos (of_decide_eq_true h1)]
  exact Zv (v':=.bool false) (Hl:=shB m) (c15 [15,16,17]) ⟨by rw[hs];rfl,by rw[hs];rfl⟩ Zx1
 refine Zr0 ?_
 have hs:waitS m i e=some {m with th:=updT m.th i {m.th i with at_:=8}}:=by unfold waitS;rw[if_neg (of_decide_eq_false h1)]
 exact Lv.mk' (v':=.bool true) (Hl:=shB {m with th:=updT m.th i {m.th i with at_:=8}}) [0,1,2,3,4,5,6,7,8,9,10,11,12,13,14,15,16,17] ⟨by rw[hs];rfl,by rw[hs];rfl⟩ rfl (fitB rfl ⟨.r rfl,LiesAt.gp (fun i' j hi hj=>by
  have hj':j=0\/j=1\/j=2\/j=3\/j=4\/j=5\/j=6\/j=7\/j=8\/j=9\/j=10\/j=11\/j=12:=by omega
  by_cases h:i'=i
  ·subst h
   rcases hj' with rfl|rfl|rfl|rfl|rfl|rfl|rfl|rfl|rfl|rfl|rfl|rfl|rfl<;>(simp[pushU,SV.cells,ovG,thG,thC,updT]<;>rfl)
  ·simp[pushU,SV.cells,ovG,beq_ne h,thG,updT,h]),.p,trivial⟩) rfl rfl rfl rfl rfl
def checkedS (m:Sh)(i:Nat)(e:Evt):Option Sh:=if(m.th i).at_≠4 then none else if e.at_≠leastZ (m.th i).check then none else if(!decide ((m.st e.at_.toNat).1=-1) && decide ((m.st e.at_.toNat).1≠e.thread))=true then none else if(m.th i).rv<(m.st e.at_.toNat).2 then none else
 some {m with th:=updT m.th i {m.th i with check:=bitR .andNot .u32 (m.th i).check (bitS e.at_)}}
theorem vchecked_at (m:Sh)(i:Nat)(e:Evt)(hi:i<m.nt)(ha:0<=e.at_/\e.at_<m.ns)(hn:m.ns<=32):CallG Tryz.prog 135 [.ptr 15 0 0 0,.ptr 16 i 13 0,evS e] (shB m) fun v H=>v=.bool (checkedS m i e).isSome/\H=shB ((checkedS m i e).getD m):=by
 refine Ze Tryz.func135 rfl fun g w=>?_
 have hb:=bit_in (a:=e.at_) (by omega)
 refine Zw [(0,0),(1,0),(2,0),(3,0),(4,0),(5,0),(8,0),(9,0),(10,0),(11,0),(12,0),(6,1),(7,1),(13,0),(14,0),(15,0),(16,0),(17,0),(18,0),(19,0),(20,0),(21,0),(22,0),(23,0),(24,0),(25,0),(26,0),(27,0),(28,0)] ?_
 refine Zr0 ?_
 refine Br.o (fun h1=>?_) (fun h1=>?_)
 ·refine Zr1 ?_
  have hs:checkedS m i e=none:=by unfold checkedS;rw[if_pos (of_decide_eq_true h1)]
  exact Zv (v':=.bool false) (Hl:=shB m) (c15 [15,16,17]) ⟨by rw[hs];rfl,by rw[hs];rfl⟩ Zx1
 refine Zr3 ?_
 refine Zd (c15 []) (n15 []) [] (vleast_at (m.th i).check) Zx0 Zx12 ?_
 refine Zr3 ?_
 refine Br.o (fun h2=>?_) (fun h2=>?_)
 ·refine Zr1 ?_
  have hs:checkedS m i e=none:=by unfold checkedS;rw[if_neg (of_decide_eq_false h1),if_pos (of_decide_eq_true h2)]
  exact Zv (v':=.bool false) (Hl:=shB m) (c15 [15,16,17]) ⟨by rw[hs];rfl,by rw[hs];rfl⟩ Zx1
 refine Zr2 ?_
 refine Zd (c15 [15,16,17]) (n15 [none,none,none]) [] (vothers_at m e.at_ e ha) Zx1 Zx11 ?_
 refine Zr2 ?_
 refine Br.o (fun h3=>?_) (fun h3=>?_)
 ·refine Zr1 ?_
  have hs:checkedS m i e=none:=by unfold checkedS;rw[if_neg (of_decide_eq_false h1),if_neg (of_decide_eq_false h2),if_pos (h3)]
  exact Zv (v':=.bool false) (Hl:=shB m) (c15 [15,16,17]) ⟨by rw[hs];rfl,by rw[hs];rfl⟩ Zx1
 refine Zr2 ?_
 refine Zd (c15 [15,16,17]) (n15 [none,none,none]) [] (vnewer_at m e.at_ i hi ha) Zx1 Zx11 ?_
 refine Zr2 ?_
 refine Br.o (fun h4=>?_) (fun h4=>?_)
 ·skip
  have hs:checkedS m i e=none:=by unfold checkedS;rw[if_neg (of_decide_eq_false h1),if_neg (of_decide_eq_false h2),if_neg (by rw[h3];exact Bool.false_ne_true),if_pos (of_decide_eq_true h4)]
  exact Zv (v':=.bool false) (Hl:=shB m) (c15 [15,16,17]) ⟨by rw[hs];rfl,by rw[hs];rfl⟩ Zx1
 refine Zw Zl7 ?_
 refine Zr0 ?_
 have hs:checkedS m i e=some {m with th:=updT m.th i {m.th i with check:=bitR .andNot .u32 (m.th i).check (bitS e.at_)}}:=by unfold checkedS;rw[if_neg (of_decide_eq_false h1),if_neg (of_decide_eq_false h2),if_neg (by rw[h3];exact Bool.false_ne_true),if_neg (of_decide_eq_false h4)]
 exact Lv.mk' (v':=.bool true) (Hl:=shB {m with th:=updT m.th i {m.th i with check:=bitR .andNot .u32 (m.th i).check (bitS e.at_)}}) [0,1,2,3,4,5,6,7,8,9,10,11,12,13,14,15,16,17] ⟨by rw[hs];rfl,by rw[hs];rfl⟩ rfl (fitB rfl ⟨.r rfl,LiesAt.gp (fun i' j hi hj=>by
  have hj':j=0\/j=1\/j=2\/j=3\/j=4\/j=5\/j=6\/j=7\/j=8\/j=9\/j=10\/j=11\/j=12:=by omega
  by_cases h:i'=i
  ·subst h
   rcases hj' with rfl|rfl|rfl|rfl|rfl|rfl|rfl|rfl|rfl|rfl|rfl|rfl|rfl<;>(simp[pushU,SV.cells,ovG,bitS,thG,thC,updT]<;>rfl)
  ·simp[pushU,SV.cells,ovG,beq_ne h,thG,updT,h]),.p,trivial⟩) rfl rfl rfl rfl rfl
def commitS (m:Sh)(i:Nat)(e:Evt):Option Sh:=if e.v=0/\(m.th i).at_=1 then some (endsS m i)else if e.v≠0/\(m.th i).at_=4/\(m.th i).check=0/\e.v=(m.th i).wv then some {m with th:=updT m.th i {m.th i with at_:=5}}else none
theorem vcommit_at (m:Sh)(i:Nat)(e:Evt)(hi:i<m.nt)(hc:0<=(m.th i).commits/\(m.th i).commits<=1048576):CallG Tryz.prog 136 [.ptr 15 0 0 0,.ptr 16 i 13 0,evS e] (shB m) fun v H=>v=.bool (commitS m i e).isSome/\H=shB ((commitS m i e).getD m):=by
 refine Ze Tryz.func136 rfl fun g w=>?_
 refine Zr7 ?_
 refine Br.o (fun h1=>?_) (fun h1=>?_)
 ·have p1:e.v=0:=of_decide_eq_true h1
  refine Zr3 ?_
  refine Br.o (fun h2=>?_) (fun h2=>?_)
  ·have p2:(m.th i).at_=1:=of_decide_eq_true h2
   refine Zc (c15 [15,16,17]) (n15 [none,some (.rows m.nt 13 (thG (endsS m i).th) 234 0),none]) [] (vends_at m i hi hc) Zx1 (by exact keptB rfl ⟨.r rfl,.q,.p,trivial⟩) ?_
   have hs:commitS m i e=some (endsS m i):=by unfold commitS;(repeat' split);all_goals (first|rfl|(exfalso;omega))
   exact Zv (v':=.bool true) (Hl:=shB (endsS m i)) (c15 [15,16,17]) ⟨by rw[hs];rfl,by rw[hs];rfl⟩ Zx1
  have p2:¬(m.th i).at_=1:=of_decide_eq_false h2
  refine Zw Zl12 ?_
  refine Br.o (fun h3=>?_) (fun h3=>?_)
  rotate_left
  ·have p3:e.v=0:=Classical.byContradiction (of_decide_eq_false h3)
   refine Zr2 ?_
   have hs:commitS m i e=none:=by unfold commitS;(repeat' split);all_goals (first|rfl|(exfalso;omega))
   exact Zv (v':=.bool false) (Hl:=shB m) (c15 [15,16,17]) ⟨by rw[hs];rfl,by rw[hs];rfl⟩ Zx1
  have p3:e.v≠0:=of_decide_eq_true h3
  refine Zr3 ?_
  refine Br.o (fun h4=>?_) (fun h4=>?_)
  rotate_left
  ·have p4:¬(m.th i).at_=4:=of_decide_eq_false h4
   refine Zr2 ?_
   have hs:commitS m i e=none:=by unfold commitS;(repeat' split);all_goals (first|rfl|(exfalso;omega))
   exact Zv (v':=.bool false) (Hl:=shB m) (c15 [15,16,17]) ⟨by rw[hs];rfl,by rw[hs];rfl⟩ Zx1
  have p4:(m.th i).at_=4:=of_decide_eq_true h4
  refine Zr3 ?_
  refine Br.o (fun h5=>?_) (fun h5=>?_)
  rotate_left
  ·have p5:¬(m.th i).check=0:=of_decide_eq_false h5
   refine Zr2 ?_
   have hs:commitS m i e=none:=by unfold commitS;(repeat' split);all_goals (first|rfl|(exfalso;omega))
   exact Zv (v':=.bool false) (Hl:=shB m) (c15 [15,16,17]) ⟨by rw[hs];rfl,by rw[hs];rfl⟩ Zx1
  have p5:(m.th i).check=0:=of_decide_eq_true h5
  refine Zr3 ?_
  refine Br.o (fun h6=>?_) (fun h6=>?_)
  rotate_left
  ·have p6:¬e.v=(m.th i).wv:=of_decide_eq_false h6
   have hs:commitS m i e=none:=by unfold commitS;(repeat' split);all_goals (first|rfl|(exfalso;omega))
   exact Zv (v':=.bool false) (Hl:=shB m) (c15 [15,16,17]) ⟨by rw[hs];rfl,by rw[hs];rfl⟩ Zx1
  have p6:e.v=(m.th i).wv:=of_decide_eq_true h6
  refine Zr0 ?_
  have hs:commitS m i e=some {m with th:=updT m.th i {m.th i with at_:=5}}:=by unfold commitS;(repeat' split);all_goals (first|rfl|(exfalso;omega))
  exact Lv.mk' (v':=.bool true) (Hl:=shB {m with th:=updT m.th i {m.th i with at_:=5}}) [0,1,2,3,4,5,6,7,8,9,10,11,12,13,14,15,16,17] ⟨by rw[hs];rfl,by rw[hs];rfl⟩ rfl (fitB rfl ⟨.r rfl,LiesAt.gp (fun i' j hi hj=>by
    have hj':j=0\/j=1\/j=2\/j=3\/j=4\/j=5\/j=6\/j=7\/j=8\/j=9\/j=10\/j=11\/j=12:=by omega
    by_cases h:i'=i
    ·subst h
     rcases hj' with rfl|rfl|rfl|rfl|rfl|rfl|rfl|rfl|rfl|rfl|rfl|rfl|rfl<;>(simp[pushU,SV.cells,ovG,thG,thC,updT]<;>rfl)
    ·simp[pushU,SV.cells,ovG,beq_ne h,thG,updT,h]),.p,trivial⟩) rfl rfl rfl rfl rfl
 have p1:¬e.v=0:=of_decide_eq_false h1
 refine Zr2 ?_
 refine Zw Zl12 ?_
 refine Br.o (fun h3=>?_) (fun h3=>?_)
 rotate_left
 ·have p3:e.v=0:=Classical.byContradiction (of_decide_eq_false h3)
  refine Zr2 ?_
  have hs:commitS m i e=none:=by unfold commitS;(repeat' split);all_goals (first|rfl|(exfalso;omega))
  exact Zv (v':=.bool false) (Hl:=shB m) (c15 [15,16,17]) ⟨by rw[hs];rfl,by rw[hs];rfl⟩ Zx1
 have p3:e.v≠0:=of_decide_eq_true h3
 refine Zr3 ?_
 refine Br.o (fun h4=>?_) (fun h4=>?_)
 rotate_left
 ·have p4:¬(m.th i).at_=4:=of_decide_eq_false h4
  refine Zr2 ?_
  have hs:commitS m i e=none:=by unfold commitS;(repeat' split);all_goals (first|rfl|(exfalso;omega))
  exact Zv (v':=.bool false) (Hl:=shB m) (c15 [15,16,17]) ⟨by rw[hs];rfl,by rw[hs];rfl⟩ Zx1
 have p4:(m.th i).at_=4:=of_decide_eq_true h4
 refine Zr3 ?_
 refine Br.o (fun h5=>?_) (fun h5=>?_)
 rotate_left
 ·have p5:¬(m.th i).check=0:=of_decide_eq_false h5
  refine Zr2 ?_
  have hs:commitS m i e=none:=by unfold commitS;(repeat' split);all_goals (first|rfl|(exfalso;omega))
  exact Zv (v':=.bool false) (Hl:=shB m) (c15 [15,16,17]) ⟨by rw[hs];rfl,by rw[hs];rfl⟩ Zx1
 have p5:(m.th i).check=0:=of_decide_eq_true h5
 refine Zr3 ?_
 refine Br.o (fun h6=>?_) (fun h6=>?_)
 rotate_left
 ·have p6:¬e.v=(m.th i).wv:=of_decide_eq_false h6
  have hs:commitS m i e=none:=by unfold commitS;(repeat' split);all_goals (first|rfl|(exfalso;omega))
  exact Zv (v':=.bool false) (Hl:=shB m) (c15 [15,16,17]) ⟨by rw[hs];rfl,by rw[hs];rfl⟩ Zx1
 have p6:e.v=(m.th i).wv:=of_decide_eq_true h6
 refine Zr0 ?_
 have hs:commitS m i e=some {m with th:=updT m.th i {m.th i with at_:=5}}:=by unfold commitS;(repeat' split);all_goals (first|rfl|(exfalso;omega))
 exact Lv.mk' (v':=.bool true) (Hl:=shB {m with th:=updT m.th i {m.th i with at_:=5}}) [0,1,2,3,4,5,6,7,8,9,10,11,12,13,14,15,16,17] ⟨by rw[hs];rfl,by rw[hs];rfl⟩ rfl (fitB rfl ⟨.r rfl,LiesAt.gp (fun i' j hi hj=>by
   have hj':j=0\/j=1\/j=2\/j=3\/j=4\/j=5\/j=6\/j=7\/j=8\/j=9\/j=10\/j=11\/j=12:=by omega
   by_cases h:i'=i
   ·subst h
    rcases hj' with rfl|rfl|rfl|rfl|rfl|rfl|rfl|rfl|rfl|rfl|rfl|rfl|rfl<;>(simp[pushU,SV.cells,ovG,thG,thC,updT]<;>rfl)
   ·simp[pushU,SV.cells,ovG,beq_ne h,thG,updT,h]),.p,trivial⟩) rfl rfl rfl rfl rfl
def storeS (m:Sh)(i:Nat)(e:Evt):Option Sh:=if(m.th i).at_≠5 then none else if e.at_<=(m.th i).var_ then none else if bitR .and .u32 ((m.th i).owned.fdiv (2 ^ shf .u32 (e.at_.tmod m.ns))) 1=0 then none else
 some {m with th:=updT m.th i {m.th i with var_:=e.at_,stored:=bitR .or .u32 (m.th i).stored (bitS (e.at_.tmod m.ns))}}
theorem vstore_at (m:Sh)(i:Nat)(e:Evt)(hi:i<m.nt)(ha:0<=e.at_)(h0:0<m.ns)(hn:m.ns<=32):CallG Tryz.prog 137 [.ptr 15 0 0 0,.ptr 16 i 13 0,evS e] (shB m) fun v H=>v=.bool (storeS m i e).isSome/\H=shB ((storeS m i e).getD m):=by
 refine Ze Tryz.func137 rfl fun g w=>?_
 have ht0:0<=e.at_.tmod m.ns:=Int.tmod_nonneg _ ha
 have ht1:e.at_.tmod m.ns<m.ns:=Int.tmod_lt_of_pos _ (by omega)
 have hb:=bit_in (a:=e.at_.tmod m.ns) (by omega)
 refine Zw Zl13 ?_
 refine Zr0 ?_
 refine Zw [(0,0),(1,0),(2,0),(3,0),(4,0),(5,0),(6,0),(7,0),(8,0),(9,0),(10,0),(11,0),(12,0),(13,0),(14,0),(15,0),(16,0),(17,0),(18,0),(19,0),(20,0),(21,0),(22,0),(23,0)] ?_
 refine Zr0 ?_
 refine Br.o (fun h1=>?_) (fun h1=>?_)
 ·refine Zr1 ?_
  have hs:storeS m i e=none:=by unfold storeS;rw[if_pos (of_decide_eq_true h1)]
  exact Zv (v':=.bool false) (Hl:=shB m) (c15 [15,16,17]) ⟨by rw[hs];rfl,by rw[hs];rfl⟩ Zx1
 refine Zr3 ?_
 refine Br.o (fun h2=>?_) (fun h2=>?_)
 ·refine Zr1 ?_
  have hs:storeS m i e=none:=by unfold storeS;rw[if_neg (of_decide_eq_false h1),if_pos (of_decide_eq_true h2)]
  exact Zv (v':=.bool false) (Hl:=shB m) (c15 [15,16,17]) ⟨by rw[hs];rfl,by rw[hs];rfl⟩ Zx1
 refine Zr3 ?_
 refine Br.o (fun h3=>?_) (fun h3=>?_)
 ·skip
  have hs:storeS m i e=none:=by unfold storeS;rw[if_neg (of_decide_eq_false h1),if_neg (of_decide_eq_false h2),if_pos (of_decide_eq_true h3)]
  exact Zv (v':=.bool false) (Hl:=shB m) (c15 [15,16,17]) ⟨by rw[hs];rfl,by rw[hs];rfl⟩ Zx1
 refine Zr0 ?_
 refine Zw Zl11 ?_
 refine Zr0 ?_
 have hs:storeS m i e=some {m with th:=updT m.th i {m.th i with var_:=e.at_,stored:=bitR .or .u32 (m.th i).stored (bitS (e.at_.tmod m.ns))}}:=by unfold storeS;rw[if_neg (of_decide_eq_false h1),if_neg (of_decide_eq_false h2),if_neg (of_decide_eq_false h3)]
 exact Lv.mk' (v':=.bool true) (Hl:=shB {m with th:=updT m.th i {m.th i with var_:=e.at_,stored:=bitR .or .u32 (m.th i).stored (bitS (e.at_.tmod m.ns))}}) [0,1,2,3,4,5,6,7,8,9,10,11,12,13,14,15,16,17] ⟨by rw[hs];rfl,by rw[hs];rfl⟩ rfl (fitB rfl ⟨.r rfl,LiesAt.gp (fun i' j hi hj=>by
  have hj':j=0\/j=1\/j=2\/j=3\/j=4\/j=5\/j=6\/j=7\/j=8\/j=9\/j=10\/j=11\/j=12:=by omega
  by_cases h:i'=i
  ·subst h
   rcases hj' with rfl|rfl|rfl|rfl|rfl|rfl|rfl|rfl|rfl|rfl|rfl|rfl|rfl<;>(simp[pushU,SV.cells,ovG,bitS,thG,thC,updT]<;>rfl)
  ·simp[pushU,SV.cells,ovG,beq_ne h,thG,updT,h]),.p,trivial⟩) rfl rfl rfl rfl rfl
end Go.Proofs.YtgdmlkgjpcnelaaGreatDoor
