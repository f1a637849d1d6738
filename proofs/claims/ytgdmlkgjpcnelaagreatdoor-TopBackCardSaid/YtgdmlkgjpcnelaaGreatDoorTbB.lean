import Derived.Test.YtgdmlkgjpcnelaaGreatDoorTbA
namespace Go.Proofs.YtgdmlkgjpcnelaaGreatDoor
open Go Go.Vc
set_option linter.unusedVariables false
set_option maxRecDepth 100000
set_option maxHeartbeats 1000000
theorem within_t {a n b:Int}(h:(decide (a<=n) && decide (n<=b))=true):a<=n/\n<=b:=by simpa using h
theorem within_f {a n b:Int}(h:(decide (a<=n) && decide (n<=b))=false):¬(a<=n/\n<=b):=fun k=>by rw[decide_eq_true k.1,decide_eq_true k.2]at h;cases h
theorem vwithin_at (n lo hi:Int):CallG Tryz.prog 62 [.int .i64 n,.int .i64 lo,.int .i64 hi] z4 fun v H=>v=.bool (decide (lo<=n) && decide (n<=hi))/\H=z4:=by
 refine Ze Tryz.func62 rfl fun g w=>?_
 refine Br.o (fun h=>?_) (fun h=>?_)
 ·refine Zr1 ?_
  exact Zv [0,1,2,3] ⟨by rw[h],rfl⟩ Zx2
 ·refine Zr2 ?_
  exact Zv [0,1,2,3] ⟨by rw[h],rfl⟩ Zx2
theorem vknown_at (k:Int):CallG Tryz.prog 63 [.int .u8 k] z4 fun v H=>v=.bool (decide (1<=k) && decide (k<=13))/\H=z4:=by
 refine Ze Tryz.func63 rfl fun g w=>?_
 refine Br.o (fun h=>?_) (fun h=>?_)
 ·refine Zr1 ?_
  exact Zv [0,1,2,3] ⟨by rw[h],rfl⟩ Zx2
 ·refine Zr2 ?_
  exact Zv [0,1,2,3] ⟨by rw[h],rfl⟩ Zx2
theorem nwithin_f {a n b:Int}(h:(!(decide (a<=n) && decide (n<=b)))=true):¬(a<=n/\n<=b):=fun k=>by rw[decide_eq_true k.1,decide_eq_true k.2]at h;cases h
theorem nwithin_t {a n b:Int}(h:(!(decide (a<=n) && decide (n<=b)))=false):a<=n/\n<=b:=within_t (by revert h;cases(decide (a<=n) && decide (n<=b))<;>simp)
def evL (e:Evt):List Int:=[e.kind,e.thread,e.tx,e.at_,e.v,e.x,e.why]
def leastE (e:Evt):Int:=if e.kind=5 then 1 else 0
def placesE (e:Evt)(vars stripes:Int):Int:=if e.kind=3\/e.kind=8 then vars else if e.kind=10/\e.why=6 then 1 else stripes
def MayP (e:Evt)(t v s:Int):Prop:=(1<=t/\t<=6)/\(1<=v/\v<=32)/\(1<=s/\s<=v)/\(1<=e.kind/\e.kind<=13)/\(e.kind=10->1<=e.why/\e.why<=6)/\(0<=e.thread/\e.thread<=t-1)/\(0<=e.tx/\e.tx<=5)/\(leastE e<=e.v/\e.v<=1099511627776)/\(0<=e.at_/\e.at_<=placesE e v s-1)/\evL e=evL (bareE e)
instance (e:Evt) (t v s:Int):Decidable (MayP e t v s):=by unfold MayP;infer_instance
theorem may_no {e:Evt}{t v s:Int}(h:¬MayP e t v s):SV.bool false=SV.bool (decide (MayP e t v s)):=by rw[decide_eq_false h]
theorem may_yes {e:Evt}{t v s:Int}{b:Bool}(h:b=true↔MayP e t v s):SV.bool b=SV.bool (decide (MayP e t v s)):=by
 congr 1
 cases b with
 |true=>exact(decide_eq_true (h.1 rfl)).symm
 |false=>exact(decide_eq_false (fun k=>by cases h.2 k)).symm
structure EvR (e:Evt):Prop where
 kind:0<=e.kind/\e.kind<=255
 why:0<=e.why/\e.why<=255
theorem vmay_at (e:Evt)(t v s:Int)(hr:EvR e):CallG Tryz.prog 17 [evS e,.int .i64 t,.int .i64 v,.int .i64 s] (bH []) fun r H=>r=.bool (decide (MayP e t v s))/\H=bH []:=by
 obtain⟨ek,th,tx,at_,ev,ex,why⟩:=e
 refine Ze Tryz.func17 rfl fun g w=>?_
 refine Zc [0,1,2,3] [none,none,none,none] [] (vwithin_at t 1 6) Zx2 Zx4 ?_
 refine Br.o (fun h1=>?_) (fun h1=>?_)
 ·refine Zr1 ?_
  exact Zv (c15 []) ⟨may_no (fun hp=>nwithin_f h1 hp.1),rfl⟩ Zx0
 refine Zr2 ?_
 refine Zc [0,1,2,3] [none,none,none,none] [] (vwithin_at v 1 32) Zx2 Zx4 ?_
 refine Zr2 ?_
 refine Br.o (fun h2=>?_) (fun h2=>?_)
 ·refine Zr1 ?_
  exact Zv (c15 []) ⟨may_no (fun hp=>nwithin_f h2 hp.2.1),rfl⟩ Zx0
 refine Zr2 ?_
 refine Zc [0,1,2,3] [none,none,none,none] [] (vwithin_at s 1 v) Zx2 Zx4 ?_
 refine Zr2 ?_
 refine Br.o (fun h3=>?_) (fun h3=>?_)
 ·refine Zr1 ?_
  exact Zv (c15 []) ⟨may_no (fun hp=>nwithin_f h3 hp.2.2.1),rfl⟩ Zx0
 refine Zr2 ?_
 refine Zc [0,1,2,3] [none,none,none,none] [] (vknown_at ek) Zx2 Zx4 ?_
 refine Zr2 ?_
 refine Br.o (fun h4=>?_) (fun h4=>?_)
 ·skip
  exact Zv (c15 []) ⟨may_no (fun hp=>nwithin_f h4 hp.2.2.2.1),rfl⟩ Zx0
 have k1:=nwithin_t h1
 have k2:=nwithin_t h2
 have k3:=nwithin_t h3
 have k4:=nwithin_t h4
 have hw:=hr.why
 clear h4 hr
 have hh:ek=1\/ek=2\/ek=3\/ek=4\/ek=5\/ek=6\/ek=7\/ek=8\/ek=9\/ek=10\/ek=11\/ek=12\/ek=13:=by omega
 rcases hh with rfl|rfl|rfl|rfl|rfl|rfl|rfl|rfl|rfl|rfl|rfl|rfl|rfl
 ·refine Zr4 ?_
  refine Zw Zl4 ?_
  refine Zr0 ?_
  refine Zd [0,1,2,3] [none,none,none,none] [] (vwithin_at th 0 (t-1)) Zx2 Zx4 ?_
  refine Br.o (fun h5=>?_) (fun h5=>?_)
  rotate_left
  ·refine Zr2 ?_
   exact Zv (c15 []) ⟨may_no (fun hp=>within_f h5 hp.2.2.2.2.2.1),rfl⟩ Zx0
  refine Zr1 ?_
  refine Zd [0,1,2,3] [none,none,none,none] [] (vwithin_at tx 0 5) Zx2 Zx4 ?_
  refine Zr1 ?_
  refine Br.o (fun h6=>?_) (fun h6=>?_)
  rotate_left
  ·refine Zr2 ?_
   exact Zv (c15 []) ⟨may_no (fun hp=>within_f h6 hp.2.2.2.2.2.2.1),rfl⟩ Zx0
  refine Zr1 ?_
  refine Zd [0,1,2,3] [none,none,none,none] [] (vwithin_at ev 0 1099511627776) Zx2 Zx4 ?_
  refine Zr1 ?_
  refine Br.o (fun h7=>?_) (fun h7=>?_)
  rotate_left
  ·refine Zr2 ?_
   exact Zv (c15 []) ⟨may_no (fun hp=>within_f h7 hp.2.2.2.2.2.2.2.1),rfl⟩ Zx0
  refine Zr3 ?_
  refine Zd [0,1,2,3] [none,none,none,none] [] (vwithin_at at_ 0 (s-1)) Zx2 Zx4 ?_
  refine Zr1 ?_
  refine Br.o (fun h8=>?_) (fun h8=>?_)
  rotate_left
  ·refine Zr2 ?_
   exact Zv (c15 []) ⟨may_no (fun hp=>within_f h8 hp.2.2.2.2.2.2.2.2.1),rfl⟩ Zx0
  refine Zr1 ?_
  refine Zd (c15 []) (n15 []) [] (vbare1_at ⟨1,th,tx,at_,ev,ex,why⟩ rfl hw) Zx0 Zx12 ?_
  refine Zr3 ?_
  exact Zv (c15 []) ⟨may_yes ⟨fun q=>⟨k1,k2,k3,show(1:Int)<=1/\(1:Int)<=13 by decide,fun(q:(1:Int)=10)=>absurd q (by decide),within_t h5,within_t h6,within_t h7,within_t h8,of_decide_eq_true q⟩,fun q=>decide_eq_true q.2.2.2.2.2.2.2.2.2⟩,rfl⟩ Zx0
 ·refine Zr4 ?_
  refine Zw Zl4 ?_
  refine Zr0 ?_
  refine Zd [0,1,2,3] [none,none,none,none] [] (vwithin_at th 0 (t-1)) Zx2 Zx4 ?_
  refine Br.o (fun h5=>?_) (fun h5=>?_)
  rotate_left
  ·refine Zr2 ?_
   exact Zv (c15 []) ⟨may_no (fun hp=>within_f h5 hp.2.2.2.2.2.1),rfl⟩ Zx0
  refine Zr1 ?_
  refine Zd [0,1,2,3] [none,none,none,none] [] (vwithin_at tx 0 5) Zx2 Zx4 ?_
  refine Zr1 ?_
  refine Br.o (fun h6=>?_) (fun h6=>?_)
  rotate_left
  ·refine Zr2 ?_
   exact Zv (c15 []) ⟨may_no (fun hp=>within_f h6 hp.2.2.2.2.2.2.1),rfl⟩ Zx0
  refine Zr1 ?_
  refine Zd [0,1,2,3] [none,none,none,none] [] (vwithin_at ev 0 1099511627776) Zx2 Zx4 ?_
  refine Zr1 ?_
  refine Br.o (fun h7=>?_) (fun h7=>?_)
  rotate_left
  ·refine Zr2 ?_
   exact Zv (c15 []) ⟨may_no (fun hp=>within_f h7 hp.2.2.2.2.2.2.2.1),rfl⟩ Zx0
  refine Zr3 ?_
  refine Zd [0,1,2,3] [none,none,none,none] [] (vwithin_at at_ 0 (s-1)) Zx2 Zx4 ?_
  refine Zr1 ?_
  refine Br.o (fun h8=>?_) (fun h8=>?_)
  rotate_left
  ·refine Zr2 ?_
   exact Zv (c15 []) ⟨may_no (fun hp=>within_f h8 hp.2.2.2.2.2.2.2.2.1),rfl⟩ Zx0
  refine Zr1 ?_
  refine Zd (c15 []) (n15 []) [] (vbare2_at ⟨2,th,tx,at_,ev,ex,why⟩ rfl hw) Zx0 Zx12 ?_
  refine Zr3 ?_
  exact Zv (c15 []) ⟨may_yes ⟨fun q=>⟨k1,k2,k3,show(1:Int)<=2/\(2:Int)<=13 by decide,fun(q:(2:Int)=10)=>absurd q (by decide),within_t h5,within_t h6,within_t h7,within_t h8,of_decide_eq_true q⟩,fun q=>decide_eq_true q.2.2.2.2.2.2.2.2.2⟩,rfl⟩ Zx0
 ·refine Zr4 ?_
  refine Zw Zl4 ?_
  refine Zr0 ?_
  refine Zd [0,1,2,3] [none,none,none,none] [] (vwithin_at th 0 (t-1)) Zx2 Zx4 ?_
  refine Br.o (fun h5=>?_) (fun h5=>?_)
  rotate_left
  ·refine Zr2 ?_
   exact Zv (c15 []) ⟨may_no (fun hp=>within_f h5 hp.2.2.2.2.2.1),rfl⟩ Zx0
  refine Zr1 ?_
  refine Zd [0,1,2,3] [none,none,none,none] [] (vwithin_at tx 0 5) Zx2 Zx4 ?_
  refine Zr1 ?_
  refine Br.o (fun h6=>?_) (fun h6=>?_)
  rotate_left
  ·refine Zr2 ?_
   exact Zv (c15 []) ⟨may_no (fun hp=>within_f h6 hp.2.2.2.2.2.2.1),rfl⟩ Zx0
  refine Zr1 ?_
  refine Zd [0,1,2,3] [none,none,none,none] [] (vwithin_at ev 0 1099511627776) Zx2 Zx4 ?_
  refine Zr1 ?_
  refine Br.o (fun h7=>?_) (fun h7=>?_)
  rotate_left
  ·refine Zr2 ?_
   exact Zv (c15 []) ⟨may_no (fun hp=>within_f h7 hp.2.2.2.2.2.2.2.1),rfl⟩ Zx0
  refine Zr3 ?_
  refine Zd [0,1,2,3] [none,none,none,none] [] (vwithin_at at_ 0 (v-1)) Zx2 Zx4 ?_
  refine Zr1 ?_
  refine Br.o (fun h8=>?_) (fun h8=>?_)
  rotate_left
  ·refine Zr2 ?_
   exact Zv (c15 []) ⟨may_no (fun hp=>within_f h8 hp.2.2.2.2.2.2.2.2.1),rfl⟩ Zx0
  refine Zr1 ?_
  refine Zd (c15 []) (n15 []) [] (vbare3_at ⟨3,th,tx,at_,ev,ex,why⟩ rfl hw) Zx0 Zx12 ?_
  refine Zr3 ?_
  exact Zv (c15 []) ⟨may_yes ⟨fun q=>⟨k1,k2,k3,show(1:Int)<=3/\(3:Int)<=13 by decide,fun(q:(3:Int)=10)=>absurd q (by decide),within_t h5,within_t h6,within_t h7,within_t h8,of_decide_eq_true q⟩,fun q=>decide_eq_true q.2.2.2.2.2.2.2.2.2⟩,rfl⟩ Zx0
 ·refine Zr4 ?_
  refine Zw Zl4 ?_
  refine Zr0 ?_
  refine Zd [0,1,2,3] [none,none,none,none] [] (vwithin_at th 0 (t-1)) Zx2 Zx4 ?_
  refine Br.o (fun h5=>?_) (fun h5=>?_)
  rotate_left
  ·refine Zr2 ?_
   exact Zv (c15 []) ⟨may_no (fun hp=>within_f h5 hp.2.2.2.2.2.1),rfl⟩ Zx0
  refine Zr1 ?_
  refine Zd [0,1,2,3] [none,none,none,none] [] (vwithin_at tx 0 5) Zx2 Zx4 ?_
  refine Zr1 ?_
  refine Br.o (fun h6=>?_) (fun h6=>?_)
  rotate_left
  ·refine Zr2 ?_
   exact Zv (c15 []) ⟨may_no (fun hp=>within_f h6 hp.2.2.2.2.2.2.1),rfl⟩ Zx0
  refine Zr1 ?_
  refine Zd [0,1,2,3] [none,none,none,none] [] (vwithin_at ev 0 1099511627776) Zx2 Zx4 ?_
  refine Zr1 ?_
  refine Br.o (fun h7=>?_) (fun h7=>?_)
  rotate_left
  ·refine Zr2 ?_
   exact Zv (c15 []) ⟨may_no (fun hp=>within_f h7 hp.2.2.2.2.2.2.2.1),rfl⟩ Zx0
  refine Zr3 ?_
  refine Zd [0,1,2,3] [none,none,none,none] [] (vwithin_at at_ 0 (s-1)) Zx2 Zx4 ?_
  refine Zr1 ?_
  refine Br.o (fun h8=>?_) (fun h8=>?_)
  rotate_left
  ·refine Zr2 ?_
   exact Zv (c15 []) ⟨may_no (fun hp=>within_f h8 hp.2.2.2.2.2.2.2.2.1),rfl⟩ Zx0
  refine Zr1 ?_
  refine Zd (c15 []) (n15 []) [] (vbare4_at ⟨4,th,tx,at_,ev,ex,why⟩ rfl hw) Zx0 Zx12 ?_
  refine Zr3 ?_
  exact Zv (c15 []) ⟨may_yes ⟨fun q=>⟨k1,k2,k3,show(1:Int)<=4/\(4:Int)<=13 by decide,fun(q:(4:Int)=10)=>absurd q (by decide),within_t h5,within_t h6,within_t h7,within_t h8,of_decide_eq_true q⟩,fun q=>decide_eq_true q.2.2.2.2.2.2.2.2.2⟩,rfl⟩ Zx0
 ·refine Zr4 ?_
  refine Zw Zl4 ?_
  refine Zr0 ?_
  refine Zd [0,1,2,3] [none,none,none,none] [] (vwithin_at th 0 (t-1)) Zx2 Zx4 ?_
  refine Br.o (fun h5=>?_) (fun h5=>?_)
  rotate_left
  ·refine Zr2 ?_
   exact Zv (c15 []) ⟨may_no (fun hp=>within_f h5 hp.2.2.2.2.2.1),rfl⟩ Zx0
  refine Zr1 ?_
  refine Zd [0,1,2,3] [none,none,none,none] [] (vwithin_at tx 0 5) Zx2 Zx4 ?_
  refine Zr1 ?_
  refine Br.o (fun h6=>?_) (fun h6=>?_)
  rotate_left
  ·refine Zr2 ?_
   exact Zv (c15 []) ⟨may_no (fun hp=>within_f h6 hp.2.2.2.2.2.2.1),rfl⟩ Zx0
  refine Zr1 ?_
  refine Zd [0,1,2,3] [none,none,none,none] [] (vwithin_at ev 1 1099511627776) Zx2 Zx4 ?_
  refine Zr1 ?_
  refine Br.o (fun h7=>?_) (fun h7=>?_)
  rotate_left
  ·refine Zr2 ?_
   exact Zv (c15 []) ⟨may_no (fun hp=>within_f h7 hp.2.2.2.2.2.2.2.1),rfl⟩ Zx0
  refine Zr3 ?_
  refine Zd [0,1,2,3] [none,none,none,none] [] (vwithin_at at_ 0 (s-1)) Zx2 Zx4 ?_
  refine Zr1 ?_
  refine Br.o (fun h8=>?_) (fun h8=>?_)
  rotate_left
  ·refine Zr2 ?_
   exact Zv (c15 []) ⟨may_no (fun hp=>within_f h8 hp.2.2.2.2.2.2.2.2.1),rfl⟩ Zx0
  refine Zr1 ?_
  refine Zd (c15 []) (n15 []) [] (vbare5_at ⟨5,th,tx,at_,ev,ex,why⟩ rfl hw) Zx0 Zx12 ?_
  refine Zr3 ?_
  exact Zv (c15 []) ⟨may_yes ⟨fun q=>⟨k1,k2,k3,show(1:Int)<=5/\(5:Int)<=13 by decide,fun(q:(5:Int)=10)=>absurd q (by decide),within_t h5,within_t h6,within_t h7,within_t h8,of_decide_eq_true q⟩,fun q=>decide_eq_true q.2.2.2.2.2.2.2.2.2⟩,rfl⟩ Zx0
 ·refine Zr4 ?_
  refine Zw Zl4 ?_
  refine Zr0 ?_
  refine Zd [0,1,2,3] [none,none,none,none] [] (vwithin_at th 0 (t-1)) Zx2 Zx4 ?_
  refine Br.o (fun h5=>?_) (fun h5=>?_)
  rotate_left
  ·refine Zr2 ?_
   exact Zv (c15 []) ⟨may_no (fun hp=>within_f h5 hp.2.2.2.2.2.1),rfl⟩ Zx0
  refine Zr1 ?_
  refine Zd [0,1,2,3] [none,none,none,none] [] (vwithin_at tx 0 5) Zx2 Zx4 ?_
  refine Zr1 ?_
  refine Br.o (fun h6=>?_) (fun h6=>?_)
  rotate_left
  ·refine Zr2 ?_
   exact Zv (c15 []) ⟨may_no (fun hp=>within_f h6 hp.2.2.2.2.2.2.1),rfl⟩ Zx0
  refine Zr1 ?_
  refine Zd [0,1,2,3] [none,none,none,none] [] (vwithin_at ev 0 1099511627776) Zx2 Zx4 ?_
  refine Zr1 ?_
  refine Br.o (fun h7=>?_) (fun h7=>?_)
  rotate_left
  ·refine Zr2 ?_
   exact Zv (c15 []) ⟨may_no (fun hp=>within_f h7 hp.2.2.2.2.2.2.2.1),rfl⟩ Zx0
  refine Zr3 ?_
  refine Zd [0,1,2,3] [none,none,none,none] [] (vwithin_at at_ 0 (s-1)) Zx2 Zx4 ?_
  refine Zr1 ?_
  refine Br.o (fun h8=>?_) (fun h8=>?_)
  rotate_left
  ·refine Zr2 ?_
   exact Zv (c15 []) ⟨may_no (fun hp=>within_f h8 hp.2.2.2.2.2.2.2.2.1),rfl⟩ Zx0
  refine Zr1 ?_
  refine Zd (c15 []) (n15 []) [] (vbare6_at ⟨6,th,tx,at_,ev,ex,why⟩ rfl hw) Zx0 Zx12 ?_
  refine Zr3 ?_
  exact Zv (c15 []) ⟨may_yes ⟨fun q=>⟨k1,k2,k3,show(1:Int)<=6/\(6:Int)<=13 by decide,fun(q:(6:Int)=10)=>absurd q (by decide),within_t h5,within_t h6,within_t h7,within_t h8,of_decide_eq_true q⟩,fun q=>decide_eq_true q.2.2.2.2.2.2.2.2.2⟩,rfl⟩ Zx0
 ·refine Zr4 ?_
  refine Zw Zl4 ?_
  refine Zr0 ?_
  refine Zd [0,1,2,3] [none,none,none,none] [] (vwithin_at th 0 (t-1)) Zx2 Zx4 ?_
  refine Br.o (fun h5=>?_) (fun h5=>?_)
  rotate_left
  ·refine Zr2 ?_
   exact Zv (c15 []) ⟨may_no (fun hp=>within_f h5 hp.2.2.2.2.2.1),rfl⟩ Zx0
  refine Zr1 ?_
  refine Zd [0,1,2,3] [none,none,none,none] [] (vwithin_at tx 0 5) Zx2 Zx4 ?_
  refine Zr1 ?_
  refine Br.o (fun h6=>?_) (fun h6=>?_)
  rotate_left
  ·refine Zr2 ?_
   exact Zv (c15 []) ⟨may_no (fun hp=>within_f h6 hp.2.2.2.2.2.2.1),rfl⟩ Zx0
  refine Zr1 ?_
  refine Zd [0,1,2,3] [none,none,none,none] [] (vwithin_at ev 0 1099511627776) Zx2 Zx4 ?_
  refine Zr1 ?_
  refine Br.o (fun h7=>?_) (fun h7=>?_)
  rotate_left
  ·refine Zr2 ?_
   exact Zv (c15 []) ⟨may_no (fun hp=>within_f h7 hp.2.2.2.2.2.2.2.1),rfl⟩ Zx0
  refine Zr3 ?_
  refine Zd [0,1,2,3] [none,none,none,none] [] (vwithin_at at_ 0 (s-1)) Zx2 Zx4 ?_
  refine Zr1 ?_
  refine Br.o (fun h8=>?_) (fun h8=>?_)
  rotate_left
  ·refine Zr2 ?_
   exact Zv (c15 []) ⟨may_no (fun hp=>within_f h8 hp.2.2.2.2.2.2.2.2.1),rfl⟩ Zx0
  refine Zr1 ?_
  refine Zd (c15 []) (n15 []) [] (vbare7_at ⟨7,th,tx,at_,ev,ex,why⟩ rfl hw) Zx0 Zx12 ?_
  refine Zr3 ?_
  exact Zv (c15 []) ⟨may_yes ⟨fun q=>⟨k1,k2,k3,show(1:Int)<=7/\(7:Int)<=13 by decide,fun(q:(7:Int)=10)=>absurd q (by decide),within_t h5,within_t h6,within_t h7,within_t h8,of_decide_eq_true q⟩,fun q=>decide_eq_true q.2.2.2.2.2.2.2.2.2⟩,rfl⟩ Zx0
 ·refine Zr4 ?_
  refine Zw Zl4 ?_
  refine Zr0 ?_
  refine Zd [0,1,2,3] [none,none,none,none] [] (vwithin_at th 0 (t-1)) Zx2 Zx4 ?_
  refine Br.o (fun h5=>?_) (fun h5=>?_)
  rotate_left
  ·refine Zr2 ?_
   exact Zv (c15 []) ⟨may_no (fun hp=>within_f h5 hp.2.2.2.2.2.1),rfl⟩ Zx0
  refine Zr1 ?_
  refine Zd [0,1,2,3] [none,none,none,none] [] (vwithin_at tx 0 5) Zx2 Zx4 ?_
  refine Zr1 ?_
  refine Br.o (fun h6=>?_) (fun h6=>?_)
  rotate_left
  ·refine Zr2 ?_
   exact Zv (c15 []) ⟨may_no (fun hp=>within_f h6 hp.2.2.2.2.2.2.1),rfl⟩ Zx0
  refine Zr1 ?_
  refine Zd [0,1,2,3] [none,none,none,none] [] (vwithin_at ev 0 1099511627776) Zx2 Zx4 ?_
  refine Zr1 ?_
  refine Br.o (fun h7=>?_) (fun h7=>?_)
  rotate_left
  ·refine Zr2 ?_
   exact Zv (c15 []) ⟨may_no (fun hp=>within_f h7 hp.2.2.2.2.2.2.2.1),rfl⟩ Zx0
  refine Zr3 ?_
  refine Zd [0,1,2,3] [none,none,none,none] [] (vwithin_at at_ 0 (v-1)) Zx2 Zx4 ?_
  refine Zr1 ?_
  refine Br.o (fun h8=>?_) (fun h8=>?_)
  rotate_left
  ·refine Zr2 ?_
   exact Zv (c15 []) ⟨may_no (fun hp=>within_f h8 hp.2.2.2.2.2.2.2.2.1),rfl⟩ Zx0
  refine Zr1 ?_
  refine Zd (c15 []) (n15 []) [] (vbare8_at ⟨8,th,tx,at_,ev,ex,why⟩ rfl hw) Zx0 Zx12 ?_
  refine Zr3 ?_
  exact Zv (c15 []) ⟨may_yes ⟨fun q=>⟨k1,k2,k3,show(1:Int)<=8/\(8:Int)<=13 by decide,fun(q:(8:Int)=10)=>absurd q (by decide),within_t h5,within_t h6,within_t h7,within_t h8,of_decide_eq_true q⟩,fun q=>decide_eq_true q.2.2.2.2.2.2.2.2.2⟩,rfl⟩ Zx0
 ·refine Zr4 ?_
  refine Zw Zl4 ?_
  refine Zr0 ?_
  refine Zd [0,1,2,3] [none,none,none,none] [] (vwithin_at th 0 (t-1)) Zx2 Zx4 ?_
  refine Br.o (fun h5=>?_) (fun h5=>?_)
  rotate_left
  ·refine Zr2 ?_
   exact Zv (c15 []) ⟨may_no (fun hp=>within_f h5 hp.2.2.2.2.2.1),rfl⟩ Zx0
  refine Zr1 ?_
  refine Zd [0,1,2,3] [none,none,none,none] [] (vwithin_at tx 0 5) Zx2 Zx4 ?_
  refine Zr1 ?_
  refine Br.o (fun h6=>?_) (fun h6=>?_)
  rotate_left
  ·refine Zr2 ?_
   exact Zv (c15 []) ⟨may_no (fun hp=>within_f h6 hp.2.2.2.2.2.2.1),rfl⟩ Zx0
  refine Zr1 ?_
  refine Zd [0,1,2,3] [none,none,none,none] [] (vwithin_at ev 0 1099511627776) Zx2 Zx4 ?_
  refine Zr1 ?_
  refine Br.o (fun h7=>?_) (fun h7=>?_)
  rotate_left
  ·refine Zr2 ?_
   exact Zv (c15 []) ⟨may_no (fun hp=>within_f h7 hp.2.2.2.2.2.2.2.1),rfl⟩ Zx0
  refine Zr3 ?_
  refine Zd [0,1,2,3] [none,none,none,none] [] (vwithin_at at_ 0 (s-1)) Zx2 Zx4 ?_
  refine Zr1 ?_
  refine Br.o (fun h8=>?_) (fun h8=>?_)
  rotate_left
  ·refine Zr2 ?_
   exact Zv (c15 []) ⟨may_no (fun hp=>within_f h8 hp.2.2.2.2.2.2.2.2.1),rfl⟩ Zx0
  refine Zr1 ?_
  refine Zd (c15 []) (n15 []) [] (vbare9_at ⟨9,th,tx,at_,ev,ex,why⟩ rfl hw) Zx0 Zx12 ?_
  refine Zr3 ?_
  exact Zv (c15 []) ⟨may_yes ⟨fun q=>⟨k1,k2,k3,show(1:Int)<=9/\(9:Int)<=13 by decide,fun(q:(9:Int)=10)=>absurd q (by decide),within_t h5,within_t h6,within_t h7,within_t h8,of_decide_eq_true q⟩,fun q=>decide_eq_true q.2.2.2.2.2.2.2.2.2⟩,rfl⟩ Zx0
 ·refine Zr4 ?_
  refine Br.o (fun hy=>?_) (fun hy=>?_)
  ·replace hy:why=6:=of_decide_eq_true hy
   subst hy
   have hq:(1:Int)<=6/\(6:Int)<=6:=by decide
   have hy:True:=trivial
   refine Zr2 ?_
   refine Zw Zl4 ?_
   refine Zr0 ?_
   refine Zd [0,1,2,3] [none,none,none,none] [] (vwithin_at th 0 (t-1)) Zx2 Zx4 ?_
   refine Br.o (fun h5=>?_) (fun h5=>?_)
   rotate_left
   ·refine Zr2 ?_
    exact Zv (c15 []) ⟨may_no (fun hp=>within_f h5 hp.2.2.2.2.2.1),rfl⟩ Zx0
   refine Zr1 ?_
   refine Zd [0,1,2,3] [none,none,none,none] [] (vwithin_at tx 0 5) Zx2 Zx4 ?_
   refine Zr1 ?_
   refine Br.o (fun h6=>?_) (fun h6=>?_)
   rotate_left
   ·refine Zr2 ?_
    exact Zv (c15 []) ⟨may_no (fun hp=>within_f h6 hp.2.2.2.2.2.2.1),rfl⟩ Zx0
   refine Zr1 ?_
   refine Zd [0,1,2,3] [none,none,none,none] [] (vwithin_at ev 0 1099511627776) Zx2 Zx4 ?_
   refine Zr1 ?_
   refine Br.o (fun h7=>?_) (fun h7=>?_)
   rotate_left
   ·refine Zr2 ?_
    exact Zv (c15 []) ⟨may_no (fun hp=>within_f h7 hp.2.2.2.2.2.2.2.1),rfl⟩ Zx0
   refine Zr3 ?_
   refine Zd [0,1,2,3] [none,none,none,none] [] (vwithin_at at_ 0 (1-1)) Zx2 Zx4 ?_
   refine Zr1 ?_
   refine Br.o (fun h8=>?_) (fun h8=>?_)
   rotate_left
   ·refine Zr2 ?_
    exact Zv (c15 []) ⟨may_no (fun hp=>within_f h8 (by have q:=hp.2.2.2.2.2.2.2.2.1;unfold placesE at q;exact q)),rfl⟩ Zx0
   refine Zr1 ?_
   refine Zd (c15 []) (n15 []) [] (vbare10_at ⟨10,th,tx,at_,ev,ex,6⟩ rfl hw) Zx0 Zx12 ?_
   refine Zr3 ?_
   exact Zv (c15 []) ⟨may_yes ⟨fun q=>⟨k1,k2,k3,show(1:Int)<=10/\(10:Int)<=13 by decide,fun _=>hq,within_t h5,within_t h6,within_t h7,by exact within_t h8,of_decide_eq_true q⟩,fun q=>decide_eq_true q.2.2.2.2.2.2.2.2.2⟩,rfl⟩ Zx0
  replace hy:¬why=6:=of_decide_eq_false hy
  refine Br.o (fun h9=>?_) (fun h9=>?_)
  ·refine Zr1 ?_
   exact Zv (c15 []) ⟨may_no (fun hp=>by have a1:why<1:=of_decide_eq_true h9;have a2:1<=why:=(hp.2.2.2.2.1 rfl).1;omega),rfl⟩ Zx0
  refine Zr2 ?_
  refine Br.o (fun h10=>?_) (fun h10=>?_)
  ·exact Zv (c15 []) ⟨may_no (fun hp=>by have a1:6<why:=of_decide_eq_true h10;have a2:why<=6:=(hp.2.2.2.2.1 rfl).2;omega),rfl⟩ Zx0
  have hq:1<=why/\why<=6:=⟨by have a1:¬why<1:=of_decide_eq_false h9;omega,by have a1:¬6<why:=of_decide_eq_false h10;omega⟩
  refine Zw Zl4 ?_
  refine Zr0 ?_
  refine Zd [0,1,2,3] [none,none,none,none] [] (vwithin_at th 0 (t-1)) Zx2 Zx4 ?_
  refine Br.o (fun h5=>?_) (fun h5=>?_)
  rotate_left
  ·refine Zr2 ?_
   exact Zv (c15 []) ⟨may_no (fun hp=>within_f h5 hp.2.2.2.2.2.1),rfl⟩ Zx0
  refine Zr1 ?_
  refine Zd [0,1,2,3] [none,none,none,none] [] (vwithin_at tx 0 5) Zx2 Zx4 ?_
  refine Zr1 ?_
  refine Br.o (fun h6=>?_) (fun h6=>?_)
  rotate_left
  ·refine Zr2 ?_
   exact Zv (c15 []) ⟨may_no (fun hp=>within_f h6 hp.2.2.2.2.2.2.1),rfl⟩ Zx0
  refine Zr1 ?_
  refine Zd [0,1,2,3] [none,none,none,none] [] (vwithin_at ev 0 1099511627776) Zx2 Zx4 ?_
  refine Zr1 ?_
  refine Br.o (fun h7=>?_) (fun h7=>?_)
  rotate_left
  ·refine Zr2 ?_
   exact Zv (c15 []) ⟨may_no (fun hp=>within_f h7 hp.2.2.2.2.2.2.2.1),rfl⟩ Zx0
  refine Zr3 ?_
  refine Zd [0,1,2,3] [none,none,none,none] [] (vwithin_at at_ 0 (s-1)) Zx2 Zx4 ?_
  refine Zr1 ?_
  refine Br.o (fun h8=>?_) (fun h8=>?_)
  rotate_left
  ·refine Zr2 ?_
   exact Zv (c15 []) ⟨may_no (fun hp=>within_f h8 (by have q:=hp.2.2.2.2.2.2.2.2.1;unfold placesE at q;rw[if_neg (show ¬((10:Int)=3\/(10:Int)=8) by decide),if_neg (fun e=>hy e.2)]at q;exact q)),rfl⟩ Zx0
  refine Zr1 ?_
  refine Zd (c15 []) (n15 []) [] (vbare10_at ⟨10,th,tx,at_,ev,ex,why⟩ rfl hw) Zx0 Zx12 ?_
  refine Zr3 ?_
  exact Zv (c15 []) ⟨may_yes ⟨fun q=>⟨k1,k2,k3,show(1:Int)<=10/\(10:Int)<=13 by decide,fun _=>hq,within_t h5,within_t h6,within_t h7,by unfold placesE;rw[if_neg (show ¬((10:Int)=3\/(10:Int)=8) by decide),if_neg (fun e=>hy e.2)];exact within_t h8,of_decide_eq_true q⟩,fun q=>decide_eq_true q.2.2.2.2.2.2.2.2.2⟩,rfl⟩ Zx0
 ·refine Zr4 ?_
  refine Zw Zl4 ?_
  refine Zr0 ?_
  refine Zd [0,1,2,3] [none,none,none,none] [] (vwithin_at th 0 (t-1)) Zx2 Zx4 ?_
  refine Br.o (fun h5=>?_) (fun h5=>?_)
  rotate_left
  ·refine Zr2 ?_
   exact Zv (c15 []) ⟨may_no (fun hp=>within_f h5 hp.2.2.2.2.2.1),rfl⟩ Zx0
  refine Zr1 ?_
  refine Zd [0,1,2,3] [none,none,none,none] [] (vwithin_at tx 0 5) Zx2 Zx4 ?_
  refine Zr1 ?_
  refine Br.o (fun h6=>?_) (fun h6=>?_)
  rotate_left
  ·refine Zr2 ?_
   exact Zv (c15 []) ⟨may_no (fun hp=>within_f h6 hp.2.2.2.2.2.2.1),rfl⟩ Zx0
  refine Zr1 ?_
  refine Zd [0,1,2,3] [none,none,none,none] [] (vwithin_at ev 0 1099511627776) Zx2 Zx4 ?_
  refine Zr1 ?_
  refine Br.o (fun h7=>?_) (fun h7=>?_)
  rotate_left
  ·refine Zr2 ?_
   exact Zv (c15 []) ⟨may_no (fun hp=>within_f h7 hp.2.2.2.2.2.2.2.1),rfl⟩ Zx0
  refine Zr3 ?_
  refine Zd [0,1,2,3] [none,none,none,none] [] (vwithin_at at_ 0 (s-1)) Zx2 Zx4 ?_
  refine Zr1 ?_
  refine Br.o (fun h8=>?_) (fun h8=>?_)
  rotate_left
  ·refine Zr2 ?_
   exact Zv (c15 []) ⟨may_no (fun hp=>within_f h8 hp.2.2.2.2.2.2.2.2.1),rfl⟩ Zx0
  refine Zr1 ?_
  refine Zd (c15 []) (n15 []) [] (vbare11_at ⟨11,th,tx,at_,ev,ex,why⟩ rfl hw) Zx0 Zx12 ?_
  refine Zr3 ?_
  exact Zv (c15 []) ⟨may_yes ⟨fun q=>⟨k1,k2,k3,show(1:Int)<=11/\(11:Int)<=13 by decide,fun(q:(11:Int)=10)=>absurd q (by decide),within_t h5,within_t h6,within_t h7,within_t h8,of_decide_eq_true q⟩,fun q=>decide_eq_true q.2.2.2.2.2.2.2.2.2⟩,rfl⟩ Zx0
 ·refine Zr4 ?_
  refine Zw Zl4 ?_
  refine Zr0 ?_
  refine Zd [0,1,2,3] [none,none,none,none] [] (vwithin_at th 0 (t-1)) Zx2 Zx4 ?_
  refine Br.o (fun h5=>?_) (fun h5=>?_)
  rotate_left
  ·refine Zr2 ?_
   exact Zv (c15 []) ⟨may_no (fun hp=>within_f h5 hp.2.2.2.2.2.1),rfl⟩ Zx0
  refine Zr1 ?_
  refine Zd [0,1,2,3] [none,none,none,none] [] (vwithin_at tx 0 5) Zx2 Zx4 ?_
  refine Zr1 ?_
  refine Br.o (fun h6=>?_) (fun h6=>?_)
  rotate_left
  ·refine Zr2 ?_
   exact Zv (c15 []) ⟨may_no (fun hp=>within_f h6 hp.2.2.2.2.2.2.1),rfl⟩ Zx0
  refine Zr1 ?_
  refine Zd [0,1,2,3] [none,none,none,none] [] (vwithin_at ev 0 1099511627776) Zx2 Zx4 ?_
  refine Zr1 ?_
  refine Br.o (fun h7=>?_) (fun h7=>?_)
  rotate_left
  ·refine Zr2 ?_
   exact Zv (c15 []) ⟨may_no (fun hp=>within_f h7 hp.2.2.2.2.2.2.2.1),rfl⟩ Zx0
  refine Zr3 ?_
  refine Zd [0,1,2,3] [none,none,none,none] [] (vwithin_at at_ 0 (s-1)) Zx2 Zx4 ?_
  refine Zr1 ?_
  refine Br.o (fun h8=>?_) (fun h8=>?_)
  rotate_left
  ·refine Zr2 ?_
   exact Zv (c15 []) ⟨may_no (fun hp=>within_f h8 hp.2.2.2.2.2.2.2.2.1),rfl⟩ Zx0
  refine Zr1 ?_
  refine Zd (c15 []) (n15 []) [] (vbare12_at ⟨12,th,tx,at_,ev,ex,why⟩ rfl hw) Zx0 Zx12 ?_
  refine Zr3 ?_
  exact Zv (c15 []) ⟨may_yes ⟨fun q=>⟨k1,k2,k3,show(1:Int)<=12/\(12:Int)<=13 by decide,fun(q:(12:Int)=10)=>absurd q (by decide),within_t h5,within_t h6,within_t h7,within_t h8,of_decide_eq_true q⟩,fun q=>decide_eq_true q.2.2.2.2.2.2.2.2.2⟩,rfl⟩ Zx0
 ·refine Zr4 ?_
  refine Zw Zl4 ?_
  refine Zr0 ?_
  refine Zd [0,1,2,3] [none,none,none,none] [] (vwithin_at th 0 (t-1)) Zx2 Zx4 ?_
  refine Br.o (fun h5=>?_) (fun h5=>?_)
  rotate_left
  ·refine Zr2 ?_
   exact Zv (c15 []) ⟨may_no (fun hp=>within_f h5 hp.2.2.2.2.2.1),rfl⟩ Zx0
  refine Zr1 ?_
  refine Zd [0,1,2,3] [none,none,none,none] [] (vwithin_at tx 0 5) Zx2 Zx4 ?_
  refine Zr1 ?_
  refine Br.o (fun h6=>?_) (fun h6=>?_)
  rotate_left
  ·refine Zr2 ?_
   exact Zv (c15 []) ⟨may_no (fun hp=>within_f h6 hp.2.2.2.2.2.2.1),rfl⟩ Zx0
  refine Zr1 ?_
  refine Zd [0,1,2,3] [none,none,none,none] [] (vwithin_at ev 0 1099511627776) Zx2 Zx4 ?_
  refine Zr1 ?_
  refine Br.o (fun h7=>?_) (fun h7=>?_)
  rotate_left
  ·refine Zr2 ?_
   exact Zv (c15 []) ⟨may_no (fun hp=>within_f h7 hp.2.2.2.2.2.2.2.1),rfl⟩ Zx0
  refine Zr3 ?_
  refine Zd [0,1,2,3] [none,none,none,none] [] (vwithin_at at_ 0 (s-1)) Zx2 Zx4 ?_
  refine Zr1 ?_
  refine Br.o (fun h8=>?_) (fun h8=>?_)
  rotate_left
  ·refine Zr2 ?_
   exact Zv (c15 []) ⟨may_no (fun hp=>within_f h8 hp.2.2.2.2.2.2.2.2.1),rfl⟩ Zx0
  refine Zr1 ?_
  refine Zd (c15 []) (n15 []) [] (vbare13_at ⟨13,th,tx,at_,ev,ex,why⟩ rfl hw) Zx0 Zx12 ?_
  refine Zr3 ?_
  exact Zv (c15 []) ⟨may_yes ⟨fun q=>⟨k1,k2,k3,show(1:Int)<=13/\(13:Int)<=13 by decide,fun(q:(13:Int)=10)=>absurd q (by decide),within_t h5,within_t h6,within_t h7,within_t h8,of_decide_eq_true q⟩,fun q=>decide_eq_true q.2.2.2.2.2.2.2.2.2⟩,rfl⟩ Zx0
end Go.Proofs.YtgdmlkgjpcnelaaGreatDoor
