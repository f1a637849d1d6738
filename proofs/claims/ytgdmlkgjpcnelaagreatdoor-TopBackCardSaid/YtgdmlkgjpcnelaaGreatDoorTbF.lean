import Derived.Test.YtgdmlkgjpcnelaaGreatDoorTbE
namespace Go.Proofs.YtgdmlkgjpcnelaaGreatDoor
open Go Go.Vc
set_option linter.unusedVariables false
set_option maxRecDepth 100000
set_option maxHeartbeats 1000000
theorem bAnd_t {a b:Bool}(h:a=true)(k:b=true):(a && b)=true:=by rw[h,k];rfl
theorem bAnd_f1 {a b:Bool}(h:a=false):(a && b)=false:=by rw[h];rfl
theorem bAnd_f2 {a b:Bool}(h:b=false):(a && b)=false:=by rw[h];cases a<;>rfl
def wakeC (m:Sh)(i:Nat)(s:Nat):Bool:=decide (bitR .and .u32 ((m.th i).read.fdiv (2 ^ shf .u32 (s:Int))) 1=1) && (decide ((m.st s).1=-1) && decide ((m.th i).rv<(m.st s).2))
def wakeS (m:Sh)(i:Nat)(e:Evt):Option Sh:=if(m.th i).at_≠8 then none else if(List.range m.ns).any (wakeC m i)=true then some {m with th:=updT m.th i {m.th i with at_:=0}}else none
theorem vwake_at (m:Sh)(i:Nat)(e:Evt)(hi:i<m.nt)(hns:m.ns<=32):CallG Tryz.prog 142 [.ptr 15 0 0 0,.ptr 16 i 13 0,evS e] (shB m) fun v H=>v=.bool (wakeS m i e).isSome/\H=shB ((wakeS m i e).getD m):=by
 refine Ze Tryz.func142 rfl fun g w=>?_
 refine Zr0 ?_
 refine Br.o (fun h0=>?_) (fun h0=>?_)
 ·skip
  have hs:wakeS m i e=none:=by unfold wakeS;rw[if_pos (of_decide_eq_true h0)]
  exact Zv (v':=.bool false) (Hl:=shB m) (c15 [15,16,17]) ⟨by rw[hs];rfl,by rw[hs];rfl⟩ Zx1
 refine LoopG.by (α:=Nat) (fun k fr ds H=>k<=m.ns/\(∀s,s<k->wakeC m i s=false)/\Has [(0,.ptr 15 0 0 0),(1,.ptr 16 i 13 0),(17,.int .i64 m.ns),(18,.int .i64 (k:Int))] fr/\ds=[]/\H=bH [ckO m,.rows m.nt 13 (thG m.th) 234 0,.rows m.ns 2 (stG m.st) 225 0,evO e 65]) (fun k=>m.ns-k) 0 ⟨Nat.zero_le _,fun s h=>by omega,has_cons rfl (has_cons rfl (has_cons rfl (has_cons rfl (has_nil _)))),rfl,rfl⟩ ?_
 rintro k fr ds H ⟨hk,hno,hfr,rfl,rfl⟩
 refine T.weak hfr (vCode_ok cx_ok (by kernel_rfl) ?_)
 refine Br.o (fun h1=>?_) (fun h1=>?_)
 rotate_left
 ·have p1:¬(k:Int)<m.ns:=of_decide_eq_false h1
  have hs:wakeS m i e=none:=by
   unfold wakeS
   rw[if_neg (of_decide_eq_false h0),if_neg]
   rw[List.any_eq_true]
   rintro ⟨s,h,q⟩
   rw[hno s (by have:=List.mem_range.1 h;omega)]at q
   cases q
  exact Zv (v':=.bool false) (Hl:=shB m) (c15 [15,16,17]) ⟨by rw[hs];rfl,by rw[hs];rfl⟩ Zx1
 have p1:(k:Int)<m.ns:=of_decide_eq_true h1
 refine Zr0 ?_
 refine Br.o (fun h2=>?_) (fun h2=>?_)
 rotate_left
 ·have hc:wakeC m i k=false:=bAnd_f1 h2
  refine Zr3 ?_
  exact Exists.intro (k+1) ⟨by show m.ns-(k+1)<m.ns-k;omega,by omega,fun s hs=>by
   rcases Nat.lt_succ_iff_lt_or_eq.1 hs with q|q
   ·exact hno s q
   ·subst q;exact hc,has_cons rfl (has_cons rfl (has_cons rfl (has_cons rfl (has_nil _)))),rfl,rfl⟩
 refine Zr1 ?_
 refine Zc (c15 [15,16,17]) (n15 [none,none,none]) [] (vfree_at m (k:Int) ⟨by omega,p1⟩) Zx1 Zx11 ?_
 refine Zr1 ?_
 refine Br.o (fun h3=>?_) (fun h3=>?_)
 rotate_left
 ·have hc:wakeC m i k=false:=bAnd_f2 (bAnd_f1 h3)
  refine Zr3 ?_
  exact Exists.intro (k+1) ⟨by show m.ns-(k+1)<m.ns-k;omega,by omega,fun s hs=>by
   rcases Nat.lt_succ_iff_lt_or_eq.1 hs with q|q
   ·exact hno s q
   ·subst q;exact hc,has_cons rfl (has_cons rfl (has_cons rfl (has_cons rfl (has_nil _)))),rfl,rfl⟩
 refine Zr1 ?_
 refine Zc (c15 [15,16,17]) (n15 [none,none,none]) [] (vnewer_at m (k:Int) i hi ⟨by omega,p1⟩) Zx1 Zx11 ?_
 refine Zr1 ?_
 refine Br.o (fun h4=>?_) (fun h4=>?_)
 rotate_left
 ·have hc:wakeC m i k=false:=bAnd_f2 (bAnd_f2 h4)
  refine Zr0 ?_
  exact Exists.intro (k+1) ⟨by show m.ns-(k+1)<m.ns-k;omega,by omega,fun s hs=>by
   rcases Nat.lt_succ_iff_lt_or_eq.1 hs with q|q
   ·exact hno s q
   ·subst q;exact hc,has_cons rfl (has_cons rfl (has_cons rfl (has_cons rfl (has_nil _)))),rfl,rfl⟩
 have hc:wakeC m i k=true:=bAnd_t h2 (bAnd_t h3 h4)
 have hs:wakeS m i e=some {m with th:=updT m.th i {m.th i with at_:=0}}:=by
  unfold wakeS
  rw[if_neg (of_decide_eq_false h0),if_pos]
  rw[List.any_eq_true]
  exact⟨k,List.mem_range.2 (by omega),hc⟩
 refine Zr0 ?_
 exact Lv.mk' (v':=.bool true) (Hl:=shB {m with th:=updT m.th i {m.th i with at_:=0}}) [0,1,2,3,4,5,6,7,8,9,10,11,12,13,14,15,16,17] ⟨by rw[hs];rfl,by rw[hs];rfl⟩ rfl (fitB rfl ⟨.r rfl,LiesAt.gp (fun i' j hi hj=>by
  have hj':j=0\/j=1\/j=2\/j=3\/j=4\/j=5\/j=6\/j=7\/j=8\/j=9\/j=10\/j=11\/j=12:=by omega
  by_cases h:i'=i
  ·subst h
   rcases hj' with rfl|rfl|rfl|rfl|rfl|rfl|rfl|rfl|rfl|rfl|rfl|rfl|rfl<;>(simp[pushU,SV.cells,ovG,thG,thC,updT]<;>rfl)
  ·simp[pushU,SV.cells,ovG,beq_ne h,thG,updT,h]),.p,trivial⟩) rfl rfl rfl rfl rfl
end Go.Proofs.YtgdmlkgjpcnelaaGreatDoor
