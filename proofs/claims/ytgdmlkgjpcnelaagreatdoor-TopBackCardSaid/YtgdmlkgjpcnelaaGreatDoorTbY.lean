import Derived.Test.YtgdmlkgjpcnelaaGreatDoorTbW
namespace Go.Proofs.YtgdmlkgjpcnelaaGreatDoor
open Go Go.Vc
set_option linter.unusedVariables false
set_option maxRecDepth 100000
set_option maxHeartbeats 1000000
noncomputable abbrev rdO (l:List UInt8)(r:Rs):Ob:=.row [.c (.str l),.c (.int .i64 (r.p:Int)),.c (.int .i64 r.e)] 267 0
noncomputable abbrev moO (m:Int):Ob:=.row [.c (.int .u64 m)] 139 0
theorem vnewReader_at (l:List UInt8)(h:l.length<=10000000):CallG Tryz.prog 66 [.str l] z4 fun v H=>v=.tup [.ptr 4 0 0 0,.int .i64 0]/\H=z4++[rdO l ⟨0,0⟩]:=by
 refine Ze Tryz.func66 rfl fun g w=>?_
 refine Zr16 ?_
 exact Zv (v':=.tup [.ptr 4 0 0 0,.int .i64 0]) (Hl:=z4++[rdO l ⟨0,0⟩]) (c4 [4]) ⟨rfl,rfl⟩ Zx3
theorem vrAt_at (l:List UInt8)(r:Rs):CallG Tryz.prog 68 [.ptr 4 0 0 0] (z4++[rdO l r]) fun v H=>v=.int .i64 (r.p:Int)/\H=z4++[rdO l r]:=by
 refine Ze Tryz.func68 rfl fun g w=>?_
 refine Zr2 ?_
 exact Zv (v':=.int .i64 (r.p:Int)) (Hl:=z4++[rdO l r]) (c4 [4]) ⟨rfl,rfl⟩ Zx3
theorem vwrong_at (l:List UInt8)(r:Rs):CallG Tryz.prog 71 [.ptr 4 0 0 0] (z4++[rdO l r]) fun v H=>v=.tup [.int .i64 (if r.e=0 then 0 else(r.p:Int)),.int .i64 r.e]/\H=z4++[rdO l r]:=by
 refine Ze Tryz.func71 rfl fun g w=>?_
 refine Zr2 ?_
 refine Br.o (fun h1=>?_) (fun h1=>?_)
 ·have p1:r.e=0:=of_decide_eq_true h1
  rw[if_pos p1,show(SV.int .i64 r.e)=.int .i64 0 by rw[p1]]
  exact Zv (v':=.tup [.int .i64 0,.int .i64 0]) (Hl:=z4++[rdO l r]) (c4 [4]) ⟨rfl,rfl⟩ Zx3
 ·have p1:¬r.e=0:=of_decide_eq_false h1
  rw[if_neg p1]
  refine Zw Zl11 ?_
  exact Zv (v':=.tup [.int .i64 (r.p:Int),.int .i64 r.e]) (Hl:=z4++[rdO l r]) (c4 [4]) ⟨rfl,rfl⟩ Zx3
def failV (place:Nat)(err:Int)(r:Rs):Int:=if r.e≠0 then r.e else if r.p<place then 1 else err
theorem vfail_at (l:List UInt8)(r:Rs)(place:Nat)(err:Int)(he:err≠0):CallG Tryz.prog 70 [.ptr 4 0 0 0,.int .i64 (place:Int),.int .i64 err] (z4++[rdO l r]) fun v H=>v=.int .i64 (failV place err r)/\H=z4++[rdO l (failF place err r)]:=by
 unfold failV failF
 refine Ze Tryz.func70 rfl fun g w=>?_
 refine Zr2 ?_
 refine Br.o (fun h1=>?_) (fun h1=>?_)
 ·have p1:r.e≠0:=of_decide_eq_true h1
  rw[if_pos p1,if_pos p1]
  exact Zv (v':=.int .i64 r.e) (Hl:=z4++[rdO l r]) (c4 [4]) ⟨rfl,rfl⟩ Zx3
 ·have p1:¬r.e≠0:=of_decide_eq_false h1
  rw[if_neg p1,if_neg p1]
  refine Zr2 ?_
  refine Br.o (fun h2=>?_) (fun h2=>?_)
  ·have p2:r.p<place:=by have h2:(r.p:Int)<(place:Int):=of_decide_eq_true h2;omega
   rw[if_pos p2,if_pos (.inl p2)]
   refine Zr1 ?_
   exact Zv (v':=.int .i64 1) (Hl:=z4++[rdO l r]) (c4 [4]) ⟨rfl,rfl⟩ Zx3
  ·have p2:¬r.p<place:=by have h2:¬(r.p:Int)<(place:Int):=of_decide_eq_false h2;omega
   rw[if_neg p2,if_neg (fun q=>q.elim p2 he)]
   refine Zr15 ?_
   exact Zv (v':=.int .i64 err) (Hl:=z4++[rdO l ⟨place,err⟩]) (c4 [4]) ⟨rfl,rfl⟩ Zx3
theorem vnum1_at (s:List UInt8)(most:Int):CallG Tryz.prog 158 [.str s,.ptr 4 0 0 0] (z4++[moO most]) fun v H=>v=.tup [.int .u64 ((getB s).1:Int),.int .i64 ((getB s).2.1:Int),.int .i64 (if(getB s).2.2=0/\most<((getB s).1:Int)then 20 else((getB s).2.2:Int))]/\H=z4++[moO most]:=by
 have hc:=vget_at s
 revert hc
 rcases getB s with⟨m,size,e⟩
 intro hc
 dsimp only at hc ⊢
 refine Ze Tryz.func158 rfl fun g w=>?_
 refine Zc [0,1,2,3] [none,none,none,none] [] (hc) Zx2 Zx4 ?_
 refine Zr7 ?_
 refine Br.o (fun h1=>?_) (fun h1=>?_)
 ·have p1:e=0:=by have h1:(e:Int)=0:=of_decide_eq_true h1;omega
  refine Zr1 ?_
  refine Br.o (fun h2=>?_) (fun h2=>?_)
  ·have p2:most<(m:Int):=of_decide_eq_true h2
   rw[if_pos ⟨p1,p2⟩]
   exact Zv (v':=.tup [.int .u64 (m:Int),.int .i64 (size:Int),.int .i64 20]) (Hl:=z4++[moO most]) (c4 [4]) ⟨rfl,rfl⟩ Zx3
  ·have p2:¬most<(m:Int):=of_decide_eq_false h2
   rw[if_neg (fun q=>p2 q.2)]
   exact Zv (v':=.tup [.int .u64 (m:Int),.int .i64 (size:Int),.int .i64 (e:Int)]) (Hl:=z4++[moO most]) (c4 [4]) ⟨rfl,rfl⟩ Zx3
 ·have p1:¬e=0:=by have h1:¬(e:Int)=0:=of_decide_eq_false h1;omega
  rw[if_neg (fun q=>p1 q.1)]
  refine Zr2 ?_
  exact Zv (v':=.tup [.int .u64 (m:Int),.int .i64 (size:Int),.int .i64 (e:Int)]) (Hl:=z4++[moO most]) (c4 [4]) ⟨rfl,rfl⟩ Zx3
theorem vread64_at (l:List UInt8)(r:Rs)(most:Int)(hl:l.length<=10000000)(hp:r.p<=l.length):CallG Tryz.prog 157 [.ptr 4 0 0 0,.fn 158 [] [.ptr 5 0 0 0]] (z4++[rdO l r,moO most]) fun v H=>v=.tup [.int .u64 (numF l most r).1,.int .i64 (numF l most r).2.e]/\H=z4++[rdO l (numF l most r).2,moO most]:=by
 have hc:=vnum1_at (l.drop r.p) most
 have hbk:=getB_back (l.drop r.p)
 have hld:(l.drop r.p).length=l.length-r.p:=List.length_drop
 unfold numF
 rcases hg:getB (l.drop r.p)with⟨m,size,e⟩
 rw[hg]at hc
 have hb:=hbk m size e hg
 dsimp only at hc ⊢
 refine Ze Tryz.func157 rfl fun g w=>?_
 refine Zr2 ?_
 refine Br.o (fun h1=>?_) (fun h1=>?_)
 ·have p1:r.e≠0:=of_decide_eq_true h1
  rw[if_pos p1]
  refine Zw Zl10 ?_
  exact Zv (v':=.tup [.int .u64 0,.int .i64 r.e]) (Hl:=z4++[rdO l r,moO most]) (c4 [4,5]) ⟨rfl,rfl⟩ Zx7
 have p1:¬r.e≠0:=of_decide_eq_false h1
 rw[if_neg p1]
 have e0:r.e=0:=Classical.not_not.1 p1
 refine Zw Zl8 ?_
 refine Zr0 ?_
 by_cases h2:e=0/\most<(m:Int)
 ·rw[if_pos h2]at hc
  rw[if_neg (fun q=>q h2.1),if_pos h2.2]
  refine Zd [0,1,2,3,5] [none,none,none,none,none] [] (hc) Zx3 Zx5 ?_
  refine Zr1 ?_
  exact Zv (v':=.tup [.int .u64 0,.int .i64 20]) (Hl:=z4++[rdO l ⟨r.p,20⟩,moO most]) (c4 [4,5]) ⟨rfl,rfl⟩ Zx7
 rw[if_neg h2]at hc
 by_cases h3:e≠0
 ·rw[if_pos h3]
  refine Zd [0,1,2,3,5] [none,none,none,none,none] [] (hc) Zx3 Zx5 ?_
  refine Br.t (decide_eq_true (by omega)) ?_
  exact Zv (v':=.tup [.int .u64 0,.int .i64 (e:Int)]) (Hl:=z4++[rdO l ⟨r.p,e⟩,moO most]) (c4 [4,5]) ⟨rfl,rfl⟩ Zx7
 ·rw[if_neg h3,if_neg (fun q=>h2 ⟨Classical.not_not.1 h3,q⟩)]
  have e1:e=0:=Classical.not_not.1 h3
  subst e1
  refine Zd [0,1,2,3,5] [none,none,none,none,none] [] (hc) Zx3 Zx5 ?_
  refine Zr3 ?_
  conv=>whnf
  rw[e0]
  exact Zv (v':=.tup [.int .u64 (m:Int),.int .i64 0]) (Hl:=z4++[rdO l ⟨r.p+size,0⟩,moO most]) (c4 [4,5]) ⟨rfl,rfl⟩ Zx7
theorem vrNum_at (l:List UInt8)(r:Rs)(most:Int)(hl:l.length<=10000000)(hp:r.p<=l.length):CallG Tryz.prog 69 [.ptr 4 0 0 0,.int .u64 most] (z4++[rdO l r]) fun v H=>v=.tup [.int .u64 (numF l most r).1,.int .i64 (numF l most r).2.e]/\H=z4++[rdO l (numF l most r).2]:=by
 have hc:=vread64_at l r most hl hp
 revert hc
 rcases numF l most r with⟨x,r2⟩
 intro hc
 dsimp only at hc ⊢
 refine Ze Tryz.func69 rfl fun g w=>?_
 refine Zc [0,1,2,3,4,5] [none,none,none,none,some (rdO l r2),none] [] (hc) Zx7 Zx10 ?_
 exact Zv (v':=.tup [.int .u64 x,.int .i64 r2.e]) (Hl:=z4++[rdO l r2]) (c4 [4]) ⟨rfl,rfl⟩ Zx3
theorem vrInt_at (l:List UInt8)(r:Rs)(hl:l.length<=10000000)(hp:r.p<=l.length):CallG Tryz.prog 222 [.ptr 4 0 0 0] (z4++[rdO l r]) fun v H=>v=.tup [.int .i64 (intF l r).1,.int .i64 (intF l r).2.e]/\H=z4++[rdO l (intF l r).2]:=by
 have hc:=vrNum_at l r 18446744073709551615 hl hp
 have hb:=numF_bd (l:=l) (r:=r) (show(0:Int)<=18446744073709551615 by decide)
 unfold intF
 revert hb hc
 rcases numF l 18446744073709551615 r with⟨x,r2⟩
 intro hc hb
 dsimp only at hc hb ⊢
 refine Ze Tryz.func222 rfl fun g w=>?_
 refine Zc [0,1,2,3,4] [none,none,none,none,some (rdO l r2)] [] (hc) Zx3 Zx5 ?_
 refine Zc [0,1,2,3] [none,none,none,none] [] (vzag_z x ⟨hb.1,by omega⟩) Zx2 Zx4 ?_
 exact Zv (v':=.tup [.int .i64 (zagI x),.int .i64 r2.e]) (Hl:=z4++[rdO l r2]) (c4 [4]) ⟨rfl,rfl⟩ Zx3
theorem vend1n_at (s:List UInt8)(h:s≠[]):CallG Tryz.prog 162 [.str s] z4 fun v H=>v=.tup [.bool false,.int .i64 0,.int .i64 10]/\H=z4:=by
 refine Ze Tryz.func162 rfl fun g w=>?_
 refine Br.t (decide_eq_true h) ?_
 exact Zv (v':=.tup [.bool false,.int .i64 0,.int .i64 10]) (Hl:=z4) (c4 []) ⟨rfl,rfl⟩ Zx2
theorem vend1_at:CallG Tryz.prog 162 [.str []] z4 fun v H=>v=.tup [.bool true,.int .i64 0,.int .i64 0]/\H=z4:=by
 refine Ze Tryz.func162 rfl fun g w=>?_
 refine Zr2 ?_
 exact Zv (v':=.tup [.bool true,.int .i64 0,.int .i64 0]) (Hl:=z4) (c4 []) ⟨rfl,rfl⟩ Zx2
def endB (l:List UInt8)(r:Rs):Bool:=if r.e≠0 then false else if l.drop r.p≠[]then false else true
theorem vreadB_at (l:List UInt8)(r:Rs)(hl:l.length<=10000000)(hp:r.p<=l.length):CallG Tryz.prog 161 [.ptr 4 0 0 0,.fn 162 [] []] (z4++[rdO l r]) fun v H=>v=.tup [.bool (endB l r),.int .i64 (endF l r).e]/\H=z4++[rdO l (endF l r)]:=by
 unfold endB endF
 refine Ze Tryz.func161 rfl fun g w=>?_
 refine Zr2 ?_
 refine Br.o (fun h1=>?_) (fun h1=>?_)
 ·have p1:r.e≠0:=of_decide_eq_true h1
  rw[if_pos p1,if_pos p1]
  refine Zw Zl10 ?_
  exact Zv (v':=.tup [.bool false,.int .i64 r.e]) (Hl:=z4++[rdO l r]) (c4 [4]) ⟨rfl,rfl⟩ Zx3
 have p1:¬r.e≠0:=of_decide_eq_false h1
 rw[if_neg p1,if_neg p1]
 have e0:r.e=0:=Classical.not_not.1 p1
 refine Zw Zl8 ?_
 refine Zr0 ?_
 by_cases h2:l.drop r.p≠[]
 ·rw[if_pos h2,if_pos h2]
  refine Zd [0,1,2,3] [none,none,none,none] [] (vend1n_at (l.drop r.p) h2) Zx2 Zx4 ?_
  refine Zr1 ?_
  exact Zv (v':=.tup [.bool false,.int .i64 10]) (Hl:=z4++[rdO l ⟨r.p,10⟩]) (c4 [4]) ⟨rfl,rfl⟩ Zx3
 ·rw[if_neg h2,if_neg h2]
  have h3:l.drop r.p=[]:=Classical.not_not.1 h2
  conv=>whnf
  rw[show l.drop (r.p:Int).toNat=[]from h3]
  refine Zd [0,1,2,3] [none,none,none,none] [] (vend1_at) Zx2 Zx4 ?_
  refine Zr3 ?_
  conv=>whnf
  rw[e0]
  refine Zv (v':=.tup [.bool true,.int .i64 0]) (Hl:=z4++[rdO l r]) (c4 [4]) ⟨rfl,rfl⟩ ⟨trivial,trivial,trivial,trivial,.s ⟨rfl,?_,?_,trivial⟩,trivial⟩
  ·show SV.int .i64 ((r.p:Int)+0)=_
   rw[Int.add_zero];rfl
  ·show SV.int .i64 0=SV.int .i64 r.e
   rw[e0]
theorem vend_at (l:List UInt8)(r:Rs)(hl:l.length<=10000000)(hp:r.p<=l.length):CallG Tryz.prog 73 [.ptr 4 0 0 0] (z4++[rdO l r]) fun v H=>v=.int .i64 (endF l r).e/\H=z4++[rdO l (endF l r)]:=by
 have hc:=vreadB_at l r hl hp
 revert hc
 generalize endF l r=r2
 intro hc
 refine Ze Tryz.func73 rfl fun g w=>?_
 refine Zc [0,1,2,3,4] [none,none,none,none,some (rdO l r2)] [] (hc) Zx3 Zx5 ?_
 exact Zv (v':=.int .i64 r2.e) (Hl:=z4++[rdO l r2]) (c4 [4]) ⟨rfl,rfl⟩ Zx3
end Go.Proofs.YtgdmlkgjpcnelaaGreatDoor
