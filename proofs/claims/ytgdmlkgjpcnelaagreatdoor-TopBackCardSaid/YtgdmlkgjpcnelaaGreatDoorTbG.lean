import Derived.Test.YtgdmlkgjpcnelaaGreatDoorTbF
namespace Go.Proofs.YtgdmlkgjpcnelaaGreatDoor
open Go Go.Vc
set_option linter.unusedVariables false
set_option maxRecDepth 100000
set_option maxHeartbeats 1000000
noncomputable def stepS (m:Sh)(i:Nat)(e:Evt):Option Sh:=match e.kind with
 |1=>beginS m i e
 |2=>lookS m i e
 |3=>loadS m i e
 |4=>lockS m i e
 |5=>bumpS m i e
 |6=>checkedS m i e
 |7=>commitS m i e
 |8=>storeS m i e
 |9=>freedS m i e
 |10=>abortS m i e
 |11=>undoS m i e
 |12=>waitS m i e
 |13=>wakeS m i e
 |_=>none
structure OkSh (m:Sh):Prop where
 h0:0<m.ns
 hn:m.ns<=32
 ev:0<=m.events/\m.events<=1048576
 st:∀i,i<m.nt->(m.th i).at_=2->0<=(m.th i).stripe/\(m.th i).stripe<m.ns
 rv:∀i,i<m.nt->0<=(m.th i).rv/\(m.th i).rv<=1099511627776
 cm:∀i,i<m.nt->0<=(m.th i).commits/\(m.th i).commits<=1048576
noncomputable def nextS (m:Sh)(e:Evt):Int × Sh:=if m.events ≥ 1048576 then(40,m)else if ¬MayP e m.nt m.vars m.ns then(4,m)else match stepS m e.thread.toNat e with
 |none=>(4,m)
 |some m'=>(0,{m' with events:=m'.events+1})
theorem leaveS_is (m:Sh)(i:Nat)(s:Int):(leaveS m i s).events=m.events/\(leaveS m i s).nt=m.nt/\(leaveS m i s).ns=m.ns/\(leaveS m i s).vars=m.vars:=⟨rfl,rfl,rfl,rfl⟩
def Keeps (m m':Sh):Prop:=m'.events=m.events/\m'.nt=m.nt/\m'.ns=m.ns/\m'.vars=m.vars
theorem begin_keeps {m m':Sh}{i:Nat}{e:Evt}(h:beginS m i e=some m'):Keeps m m':=by
 unfold beginS at h
 (repeat' split at h)<;>first|(cases h;done)|(cases h;exact⟨rfl,rfl,rfl,rfl⟩)
theorem look_keeps {m m':Sh}{i:Nat}{e:Evt}(h:lookS m i e=some m'):Keeps m m':=by
 unfold lookS at h
 (repeat' split at h)<;>first|(cases h;done)|(cases h;exact⟨rfl,rfl,rfl,rfl⟩)
theorem load_keeps {m m':Sh}{i:Nat}{e:Evt}(h:loadS m i e=some m'):Keeps m m':=by
 unfold loadS at h
 (repeat' split at h)<;>first|(cases h;done)|(cases h;exact⟨rfl,rfl,rfl,rfl⟩)
theorem lock_keeps {m m':Sh}{i:Nat}{e:Evt}(h:lockS m i e=some m'):Keeps m m':=by
 unfold lockS at h
 (repeat' split at h)<;>first|(cases h;done)|(cases h;exact⟨rfl,rfl,rfl,rfl⟩)
theorem bump_keeps {m m':Sh}{i:Nat}{e:Evt}(h:bumpS m i e=some m'):Keeps m m':=by
 unfold bumpS at h
 (repeat' split at h)<;>first|(cases h;done)|(cases h;exact⟨rfl,rfl,rfl,rfl⟩)
theorem checked_keeps {m m':Sh}{i:Nat}{e:Evt}(h:checkedS m i e=some m'):Keeps m m':=by
 unfold checkedS at h
 (repeat' split at h)<;>first|(cases h;done)|(cases h;exact⟨rfl,rfl,rfl,rfl⟩)
theorem commit_keeps {m m':Sh}{i:Nat}{e:Evt}(h:commitS m i e=some m'):Keeps m m':=by
 unfold commitS at h
 (repeat' split at h)<;>first|(cases h;done)|(cases h;exact⟨rfl,rfl,rfl,rfl⟩)
theorem store_keeps {m m':Sh}{i:Nat}{e:Evt}(h:storeS m i e=some m'):Keeps m m':=by
 unfold storeS at h
 (repeat' split at h)<;>first|(cases h;done)|(cases h;exact⟨rfl,rfl,rfl,rfl⟩)
theorem freed_keeps {m m':Sh}{i:Nat}{e:Evt}(h:freedS m i e=some m'):Keeps m m':=by
 unfold freedS at h
 (repeat' split at h)<;>first|(cases h;done)|(cases h;exact⟨rfl,rfl,rfl,rfl⟩)
theorem abort_keeps {m m':Sh}{i:Nat}{e:Evt}(h:abortS m i e=some m'):Keeps m m':=by
 unfold abortS at h
 (repeat' split at h)<;>first|(cases h;done)|(cases h;exact⟨rfl,rfl,rfl,rfl⟩)
theorem undo_keeps {m m':Sh}{i:Nat}{e:Evt}(h:undoS m i e=some m'):Keeps m m':=by
 unfold undoS at h
 (repeat' split at h)<;>first|(cases h;done)|(cases h;exact⟨rfl,rfl,rfl,rfl⟩)
theorem wait_keeps {m m':Sh}{i:Nat}{e:Evt}(h:waitS m i e=some m'):Keeps m m':=by
 unfold waitS at h
 (repeat' split at h)<;>first|(cases h;done)|(cases h;exact⟨rfl,rfl,rfl,rfl⟩)
theorem wake_keeps {m m':Sh}{i:Nat}{e:Evt}(h:wakeS m i e=some m'):Keeps m m':=by
 unfold wakeS at h
 (repeat' split at h)<;>first|(cases h;done)|(cases h;exact⟨rfl,rfl,rfl,rfl⟩)
theorem vnext_at (m:Sh)(e:Evt)(hr:EvR e)(hm:OkSh m):CallG Tryz.prog 55 [.ptr 15 0 0 0,evS e] (shB m) fun v H=>v=.int .i64 (nextS m e).1/\H=shB (nextS m e).2:=by
 have h0:=hm.h0
 have hn:=hm.hn
 have hst':=hm.st
 have hrv:=hm.rv
 have hcm:=hm.cm
 have hev:=hm.ev
 refine Ze Tryz.func55 rfl fun g w=>?_
 refine Zr2 ?_
 refine Br.o (fun h1=>?_) (fun h1=>?_)
 ·have hs:nextS m e=(40,m):=by unfold nextS;rw[if_pos (of_decide_eq_true h1)]
  exact Zv (v':=.int .i64 40) (Hl:=shB m) (c15 [15,16,17]) ⟨by rw[hs],by rw[hs]⟩ Zx1
 have p1:¬m.events ≥ 1048576:=of_decide_eq_false h1
 refine Zw Zl8 ?_
 refine Zd (c15 []) (n15 []) [] (vmay_at e m.nt m.vars m.ns hr) Zx0 Zx12 ?_
 refine Br.o (fun h2=>?_) (fun h2=>?_)
 ·have hs:nextS m e=(4,m):=by unfold nextS;rw[if_neg p1,if_pos (nd_t h2)]
  exact Zv (v':=.int .i64 4) (Hl:=shB m) (c15 [15,16,17]) ⟨by rw[hs],by rw[hs]⟩ Zx1
 have p2:MayP e m.nt m.vars m.ns:=nd_f h2
 obtain⟨q1,q2,q3,q4,q5,q6,q7,q8,q9,q10⟩:=id p2
 have hth:e.thread.toNat<m.nt:=by omega
 have hwhy:=hr.why
 obtain⟨ek,eth,tx,at_,ev,ex,why⟩:=e
 have hh:ek=1\/ek=2\/ek=3\/ek=4\/ek=5\/ek=6\/ek=7\/ek=8\/ek=9\/ek=10\/ek=11\/ek=12\/ek=13:=by have:1<=ek/\ek<=13:=q4;omega
 have ha0:0<=at_:=q9.1
 have ht6:0<=eth/\eth<=m.nt-1:=q6
 have hmay:=p2
 clear h2 q4 q8
 rcases hh with rfl|rfl|rfl|rfl|rfl|rfl|rfl|rfl|rfl|rfl|rfl|rfl|rfl
 ·skip
  refine Zw Zl3 ?_
  refine Zr8 ?_
  have hc:=vbegin_at m eth.toNat ⟨1,eth,tx,at_,ev,ex,why⟩ hth
  cases hS:beginS m eth.toNat ⟨1,eth,tx,at_,ev,ex,why⟩with
  |none=>
   rw[hS]at hc
   have hs:nextS m ⟨1,eth,tx,at_,ev,ex,why⟩=(4,m):=by unfold nextS;rw[if_neg p1,if_neg (fun q=>q hmay),show stepS m (⟨1,eth,tx,at_,ev,ex,why⟩:Evt).thread.toNat ⟨1,eth,tx,at_,ev,ex,why⟩=none from hS]
   refine Zd (c15 [15,16,17]) (n15 [none,none,none]) [] ((show CallG Tryz.prog 130 [.ptr 15 0 0 0,.ptr 16 eth.toNat 13 0,evS ⟨1,eth,tx,at_,ev,ex,why⟩] (shB m) (fun v H=>v=.bool false/\H=shB m)from hc)) Zx1 Zx11 ?_
   refine Zr1 ?_
   exact Zv (v':=.int .i64 4) (Hl:=shB m) (c15 [15,16,17]) ⟨by rw[hs],by rw[hs]⟩ Zx1
  |some m'=>
   rw[hS]at hc
   obtain⟨k1,k2,k3,k4⟩:=begin_keeps hS
   have hs:nextS m ⟨1,eth,tx,at_,ev,ex,why⟩=(0,{m' with events:=m'.events+1}):=by unfold nextS;rw[if_neg p1,if_neg (fun q=>q hmay),show stepS m (⟨1,eth,tx,at_,ev,ex,why⟩:Evt).thread.toNat ⟨1,eth,tx,at_,ev,ex,why⟩=some m' from hS]
   refine Zd (c15 [15,16,17]) (n15 [some (ckO m'),some (.rows m'.nt 13 (thG m'.th) 234 0),some (.rows m'.ns 2 (stG m'.st) 225 0)]) [] ((show CallG Tryz.prog 130 [.ptr 15 0 0 0,.ptr 16 eth.toNat 13 0,evS ⟨1,eth,tx,at_,ev,ex,why⟩] (shB m) (fun v H=>v=.bool true/\H=shB m')from hc)) Zx1 Zx13 ?_
   refine Zr3 ?_
   exact Zv (v':=.int .i64 0) (Hl:=shB {m' with events:=m'.events+1}) (c15 [15,16,17]) ⟨by rw[hs],by rw[hs]⟩ Zx1
 ·have ha:0<=at_/\at_<(m.ns:Int):=⟨ha0,by have h9:at_<=placesE ⟨2,eth,tx,at_,ev,ex,why⟩ m.vars m.ns-1:=q9.2;have e9:placesE ⟨2,eth,tx,at_,ev,ex,why⟩ m.vars m.ns=(m.ns:Int):=(by unfold placesE;rw[if_neg (show ¬((2:Int)=3\/(2:Int)=8) by decide),if_neg (fun q=>absurd (show(2:Int)=10 from q.1) (by decide))]);rw[e9]at h9;show at_<(m.ns:Int);omega⟩
  refine Zw Zl3 ?_
  refine Zr8 ?_
  have hc:=vlook_at m eth.toNat ⟨2,eth,tx,at_,ev,ex,why⟩ hth ha
  cases hS:lookS m eth.toNat ⟨2,eth,tx,at_,ev,ex,why⟩with
  |none=>
   rw[hS]at hc
   have hs:nextS m ⟨2,eth,tx,at_,ev,ex,why⟩=(4,m):=by unfold nextS;rw[if_neg p1,if_neg (fun q=>q hmay),show stepS m (⟨2,eth,tx,at_,ev,ex,why⟩:Evt).thread.toNat ⟨2,eth,tx,at_,ev,ex,why⟩=none from hS]
   refine Zd (c15 [15,16,17]) (n15 [none,none,none]) [] ((show CallG Tryz.prog 131 [.ptr 15 0 0 0,.ptr 16 eth.toNat 13 0,evS ⟨2,eth,tx,at_,ev,ex,why⟩] (shB m) (fun v H=>v=.bool false/\H=shB m)from hc)) Zx1 Zx11 ?_
   refine Zr1 ?_
   exact Zv (v':=.int .i64 4) (Hl:=shB m) (c15 [15,16,17]) ⟨by rw[hs],by rw[hs]⟩ Zx1
  |some m'=>
   rw[hS]at hc
   obtain⟨k1,k2,k3,k4⟩:=look_keeps hS
   have hs:nextS m ⟨2,eth,tx,at_,ev,ex,why⟩=(0,{m' with events:=m'.events+1}):=by unfold nextS;rw[if_neg p1,if_neg (fun q=>q hmay),show stepS m (⟨2,eth,tx,at_,ev,ex,why⟩:Evt).thread.toNat ⟨2,eth,tx,at_,ev,ex,why⟩=some m' from hS]
   refine Zd (c15 [15,16,17]) (n15 [some (ckO m'),some (.rows m'.nt 13 (thG m'.th) 234 0),some (.rows m'.ns 2 (stG m'.st) 225 0)]) [] ((show CallG Tryz.prog 131 [.ptr 15 0 0 0,.ptr 16 eth.toNat 13 0,evS ⟨2,eth,tx,at_,ev,ex,why⟩] (shB m) (fun v H=>v=.bool true/\H=shB m')from hc)) Zx1 Zx13 ?_
   refine Zr3 ?_
   exact Zv (v':=.int .i64 0) (Hl:=shB {m' with events:=m'.events+1}) (c15 [15,16,17]) ⟨by rw[hs],by rw[hs]⟩ Zx1
 ·skip
  refine Zw Zl3 ?_
  refine Zr8 ?_
  have hc:=vload_at m eth.toNat ⟨3,eth,tx,at_,ev,ex,why⟩ hth h0 hn (hst' _ hth)
  cases hS:loadS m eth.toNat ⟨3,eth,tx,at_,ev,ex,why⟩with
  |none=>
   rw[hS]at hc
   have hs:nextS m ⟨3,eth,tx,at_,ev,ex,why⟩=(4,m):=by unfold nextS;rw[if_neg p1,if_neg (fun q=>q hmay),show stepS m (⟨3,eth,tx,at_,ev,ex,why⟩:Evt).thread.toNat ⟨3,eth,tx,at_,ev,ex,why⟩=none from hS]
   refine Zd (c15 [15,16,17]) (n15 [none,none,none]) [] ((show CallG Tryz.prog 132 [.ptr 15 0 0 0,.ptr 16 eth.toNat 13 0,evS ⟨3,eth,tx,at_,ev,ex,why⟩] (shB m) (fun v H=>v=.bool false/\H=shB m)from hc)) Zx1 Zx11 ?_
   refine Zr1 ?_
   exact Zv (v':=.int .i64 4) (Hl:=shB m) (c15 [15,16,17]) ⟨by rw[hs],by rw[hs]⟩ Zx1
  |some m'=>
   rw[hS]at hc
   obtain⟨k1,k2,k3,k4⟩:=load_keeps hS
   have hs:nextS m ⟨3,eth,tx,at_,ev,ex,why⟩=(0,{m' with events:=m'.events+1}):=by unfold nextS;rw[if_neg p1,if_neg (fun q=>q hmay),show stepS m (⟨3,eth,tx,at_,ev,ex,why⟩:Evt).thread.toNat ⟨3,eth,tx,at_,ev,ex,why⟩=some m' from hS]
   refine Zd (c15 [15,16,17]) (n15 [some (ckO m'),some (.rows m'.nt 13 (thG m'.th) 234 0),some (.rows m'.ns 2 (stG m'.st) 225 0)]) [] ((show CallG Tryz.prog 132 [.ptr 15 0 0 0,.ptr 16 eth.toNat 13 0,evS ⟨3,eth,tx,at_,ev,ex,why⟩] (shB m) (fun v H=>v=.bool true/\H=shB m')from hc)) Zx1 Zx13 ?_
   refine Zr3 ?_
   exact Zv (v':=.int .i64 0) (Hl:=shB {m' with events:=m'.events+1}) (c15 [15,16,17]) ⟨by rw[hs],by rw[hs]⟩ Zx1
 ·have ha:0<=at_/\at_<(m.ns:Int):=⟨ha0,by have h9:at_<=placesE ⟨4,eth,tx,at_,ev,ex,why⟩ m.vars m.ns-1:=q9.2;have e9:placesE ⟨4,eth,tx,at_,ev,ex,why⟩ m.vars m.ns=(m.ns:Int):=(by unfold placesE;rw[if_neg (show ¬((4:Int)=3\/(4:Int)=8) by decide),if_neg (fun q=>absurd (show(4:Int)=10 from q.1) (by decide))]);rw[e9]at h9;show at_<(m.ns:Int);omega⟩
  refine Zw Zl3 ?_
  refine Zr8 ?_
  have hc:=vlock_at m eth.toNat ⟨4,eth,tx,at_,ev,ex,why⟩ hth ha hn
  cases hS:lockS m eth.toNat ⟨4,eth,tx,at_,ev,ex,why⟩with
  |none=>
   rw[hS]at hc
   have hs:nextS m ⟨4,eth,tx,at_,ev,ex,why⟩=(4,m):=by unfold nextS;rw[if_neg p1,if_neg (fun q=>q hmay),show stepS m (⟨4,eth,tx,at_,ev,ex,why⟩:Evt).thread.toNat ⟨4,eth,tx,at_,ev,ex,why⟩=none from hS]
   refine Zd (c15 [15,16,17]) (n15 [none,none,none]) [] ((show CallG Tryz.prog 133 [.ptr 15 0 0 0,.ptr 16 eth.toNat 13 0,evS ⟨4,eth,tx,at_,ev,ex,why⟩] (shB m) (fun v H=>v=.bool false/\H=shB m)from hc)) Zx1 Zx11 ?_
   refine Zr1 ?_
   exact Zv (v':=.int .i64 4) (Hl:=shB m) (c15 [15,16,17]) ⟨by rw[hs],by rw[hs]⟩ Zx1
  |some m'=>
   rw[hS]at hc
   obtain⟨k1,k2,k3,k4⟩:=lock_keeps hS
   have hs:nextS m ⟨4,eth,tx,at_,ev,ex,why⟩=(0,{m' with events:=m'.events+1}):=by unfold nextS;rw[if_neg p1,if_neg (fun q=>q hmay),show stepS m (⟨4,eth,tx,at_,ev,ex,why⟩:Evt).thread.toNat ⟨4,eth,tx,at_,ev,ex,why⟩=some m' from hS]
   refine Zd (c15 [15,16,17]) (n15 [some (ckO m'),some (.rows m'.nt 13 (thG m'.th) 234 0),some (.rows m'.ns 2 (stG m'.st) 225 0)]) [] ((show CallG Tryz.prog 133 [.ptr 15 0 0 0,.ptr 16 eth.toNat 13 0,evS ⟨4,eth,tx,at_,ev,ex,why⟩] (shB m) (fun v H=>v=.bool true/\H=shB m')from hc)) Zx1 Zx13 ?_
   refine Zr3 ?_
   exact Zv (v':=.int .i64 0) (Hl:=shB {m' with events:=m'.events+1}) (c15 [15,16,17]) ⟨by rw[hs],by rw[hs]⟩ Zx1
 ·skip
  refine Zw Zl3 ?_
  refine Zr8 ?_
  have hc:=vbump_at m eth.toNat ⟨5,eth,tx,at_,ev,ex,why⟩ hth (hrv _ hth)
  cases hS:bumpS m eth.toNat ⟨5,eth,tx,at_,ev,ex,why⟩with
  |none=>
   rw[hS]at hc
   have hs:nextS m ⟨5,eth,tx,at_,ev,ex,why⟩=(4,m):=by unfold nextS;rw[if_neg p1,if_neg (fun q=>q hmay),show stepS m (⟨5,eth,tx,at_,ev,ex,why⟩:Evt).thread.toNat ⟨5,eth,tx,at_,ev,ex,why⟩=none from hS]
   refine Zd (c15 [15,16,17]) (n15 [none,none,none]) [] ((show CallG Tryz.prog 134 [.ptr 15 0 0 0,.ptr 16 eth.toNat 13 0,evS ⟨5,eth,tx,at_,ev,ex,why⟩] (shB m) (fun v H=>v=.bool false/\H=shB m)from hc)) Zx1 Zx11 ?_
   refine Zr1 ?_
   exact Zv (v':=.int .i64 4) (Hl:=shB m) (c15 [15,16,17]) ⟨by rw[hs],by rw[hs]⟩ Zx1
  |some m'=>
   rw[hS]at hc
   obtain⟨k1,k2,k3,k4⟩:=bump_keeps hS
   have hs:nextS m ⟨5,eth,tx,at_,ev,ex,why⟩=(0,{m' with events:=m'.events+1}):=by unfold nextS;rw[if_neg p1,if_neg (fun q=>q hmay),show stepS m (⟨5,eth,tx,at_,ev,ex,why⟩:Evt).thread.toNat ⟨5,eth,tx,at_,ev,ex,why⟩=some m' from hS]
   refine Zd (c15 [15,16,17]) (n15 [some (ckO m'),some (.rows m'.nt 13 (thG m'.th) 234 0),some (.rows m'.ns 2 (stG m'.st) 225 0)]) [] ((show CallG Tryz.prog 134 [.ptr 15 0 0 0,.ptr 16 eth.toNat 13 0,evS ⟨5,eth,tx,at_,ev,ex,why⟩] (shB m) (fun v H=>v=.bool true/\H=shB m')from hc)) Zx1 Zx13 ?_
   refine Zr3 ?_
   exact Zv (v':=.int .i64 0) (Hl:=shB {m' with events:=m'.events+1}) (c15 [15,16,17]) ⟨by rw[hs],by rw[hs]⟩ Zx1
 ·have ha:0<=at_/\at_<(m.ns:Int):=⟨ha0,by have h9:at_<=placesE ⟨6,eth,tx,at_,ev,ex,why⟩ m.vars m.ns-1:=q9.2;have e9:placesE ⟨6,eth,tx,at_,ev,ex,why⟩ m.vars m.ns=(m.ns:Int):=(by unfold placesE;rw[if_neg (show ¬((6:Int)=3\/(6:Int)=8) by decide),if_neg (fun q=>absurd (show(6:Int)=10 from q.1) (by decide))]);rw[e9]at h9;show at_<(m.ns:Int);omega⟩
  refine Zw Zl3 ?_
  refine Zr8 ?_
  have hc:=vchecked_at m eth.toNat ⟨6,eth,tx,at_,ev,ex,why⟩ hth ha hn
  cases hS:checkedS m eth.toNat ⟨6,eth,tx,at_,ev,ex,why⟩with
  |none=>
   rw[hS]at hc
   have hs:nextS m ⟨6,eth,tx,at_,ev,ex,why⟩=(4,m):=by unfold nextS;rw[if_neg p1,if_neg (fun q=>q hmay),show stepS m (⟨6,eth,tx,at_,ev,ex,why⟩:Evt).thread.toNat ⟨6,eth,tx,at_,ev,ex,why⟩=none from hS]
   refine Zd (c15 [15,16,17]) (n15 [none,none,none]) [] ((show CallG Tryz.prog 135 [.ptr 15 0 0 0,.ptr 16 eth.toNat 13 0,evS ⟨6,eth,tx,at_,ev,ex,why⟩] (shB m) (fun v H=>v=.bool false/\H=shB m)from hc)) Zx1 Zx11 ?_
   refine Zr1 ?_
   exact Zv (v':=.int .i64 4) (Hl:=shB m) (c15 [15,16,17]) ⟨by rw[hs],by rw[hs]⟩ Zx1
  |some m'=>
   rw[hS]at hc
   obtain⟨k1,k2,k3,k4⟩:=checked_keeps hS
   have hs:nextS m ⟨6,eth,tx,at_,ev,ex,why⟩=(0,{m' with events:=m'.events+1}):=by unfold nextS;rw[if_neg p1,if_neg (fun q=>q hmay),show stepS m (⟨6,eth,tx,at_,ev,ex,why⟩:Evt).thread.toNat ⟨6,eth,tx,at_,ev,ex,why⟩=some m' from hS]
   refine Zd (c15 [15,16,17]) (n15 [some (ckO m'),some (.rows m'.nt 13 (thG m'.th) 234 0),some (.rows m'.ns 2 (stG m'.st) 225 0)]) [] ((show CallG Tryz.prog 135 [.ptr 15 0 0 0,.ptr 16 eth.toNat 13 0,evS ⟨6,eth,tx,at_,ev,ex,why⟩] (shB m) (fun v H=>v=.bool true/\H=shB m')from hc)) Zx1 Zx13 ?_
   refine Zr3 ?_
   exact Zv (v':=.int .i64 0) (Hl:=shB {m' with events:=m'.events+1}) (c15 [15,16,17]) ⟨by rw[hs],by rw[hs]⟩ Zx1
 ·skip
  refine Zw Zl3 ?_
  refine Zr8 ?_
  have hc:=vcommit_at m eth.toNat ⟨7,eth,tx,at_,ev,ex,why⟩ hth (hcm _ hth)
  cases hS:commitS m eth.toNat ⟨7,eth,tx,at_,ev,ex,why⟩with
  |none=>
   rw[hS]at hc
   have hs:nextS m ⟨7,eth,tx,at_,ev,ex,why⟩=(4,m):=by unfold nextS;rw[if_neg p1,if_neg (fun q=>q hmay),show stepS m (⟨7,eth,tx,at_,ev,ex,why⟩:Evt).thread.toNat ⟨7,eth,tx,at_,ev,ex,why⟩=none from hS]
   refine Zd (c15 [15,16,17]) (n15 [none,none,none]) [] ((show CallG Tryz.prog 136 [.ptr 15 0 0 0,.ptr 16 eth.toNat 13 0,evS ⟨7,eth,tx,at_,ev,ex,why⟩] (shB m) (fun v H=>v=.bool false/\H=shB m)from hc)) Zx1 Zx11 ?_
   refine Zr1 ?_
   exact Zv (v':=.int .i64 4) (Hl:=shB m) (c15 [15,16,17]) ⟨by rw[hs],by rw[hs]⟩ Zx1
  |some m'=>
   rw[hS]at hc
   obtain⟨k1,k2,k3,k4⟩:=commit_keeps hS
   have hs:nextS m ⟨7,eth,tx,at_,ev,ex,why⟩=(0,{m' with events:=m'.events+1}):=by unfold nextS;rw[if_neg p1,if_neg (fun q=>q hmay),show stepS m (⟨7,eth,tx,at_,ev,ex,why⟩:Evt).thread.toNat ⟨7,eth,tx,at_,ev,ex,why⟩=some m' from hS]
   refine Zd (c15 [15,16,17]) (n15 [some (ckO m'),some (.rows m'.nt 13 (thG m'.th) 234 0),some (.rows m'.ns 2 (stG m'.st) 225 0)]) [] ((show CallG Tryz.prog 136 [.ptr 15 0 0 0,.ptr 16 eth.toNat 13 0,evS ⟨7,eth,tx,at_,ev,ex,why⟩] (shB m) (fun v H=>v=.bool true/\H=shB m')from hc)) Zx1 Zx13 ?_
   refine Zr3 ?_
   exact Zv (v':=.int .i64 0) (Hl:=shB {m' with events:=m'.events+1}) (c15 [15,16,17]) ⟨by rw[hs],by rw[hs]⟩ Zx1
 ·skip
  refine Zw Zl3 ?_
  refine Zr8 ?_
  have hc:=vstore_at m eth.toNat ⟨8,eth,tx,at_,ev,ex,why⟩ hth ha0 h0 hn
  cases hS:storeS m eth.toNat ⟨8,eth,tx,at_,ev,ex,why⟩with
  |none=>
   rw[hS]at hc
   have hs:nextS m ⟨8,eth,tx,at_,ev,ex,why⟩=(4,m):=by unfold nextS;rw[if_neg p1,if_neg (fun q=>q hmay),show stepS m (⟨8,eth,tx,at_,ev,ex,why⟩:Evt).thread.toNat ⟨8,eth,tx,at_,ev,ex,why⟩=none from hS]
   refine Zd (c15 [15,16,17]) (n15 [none,none,none]) [] ((show CallG Tryz.prog 137 [.ptr 15 0 0 0,.ptr 16 eth.toNat 13 0,evS ⟨8,eth,tx,at_,ev,ex,why⟩] (shB m) (fun v H=>v=.bool false/\H=shB m)from hc)) Zx1 Zx11 ?_
   refine Zr1 ?_
   exact Zv (v':=.int .i64 4) (Hl:=shB m) (c15 [15,16,17]) ⟨by rw[hs],by rw[hs]⟩ Zx1
  |some m'=>
   rw[hS]at hc
   obtain⟨k1,k2,k3,k4⟩:=store_keeps hS
   have hs:nextS m ⟨8,eth,tx,at_,ev,ex,why⟩=(0,{m' with events:=m'.events+1}):=by unfold nextS;rw[if_neg p1,if_neg (fun q=>q hmay),show stepS m (⟨8,eth,tx,at_,ev,ex,why⟩:Evt).thread.toNat ⟨8,eth,tx,at_,ev,ex,why⟩=some m' from hS]
   refine Zd (c15 [15,16,17]) (n15 [some (ckO m'),some (.rows m'.nt 13 (thG m'.th) 234 0),some (.rows m'.ns 2 (stG m'.st) 225 0)]) [] ((show CallG Tryz.prog 137 [.ptr 15 0 0 0,.ptr 16 eth.toNat 13 0,evS ⟨8,eth,tx,at_,ev,ex,why⟩] (shB m) (fun v H=>v=.bool true/\H=shB m')from hc)) Zx1 Zx13 ?_
   refine Zr3 ?_
   exact Zv (v':=.int .i64 0) (Hl:=shB {m' with events:=m'.events+1}) (c15 [15,16,17]) ⟨by rw[hs],by rw[hs]⟩ Zx1
 ·have ha:0<=at_/\at_<(m.ns:Int):=⟨ha0,by have h9:at_<=placesE ⟨9,eth,tx,at_,ev,ex,why⟩ m.vars m.ns-1:=q9.2;have e9:placesE ⟨9,eth,tx,at_,ev,ex,why⟩ m.vars m.ns=(m.ns:Int):=(by unfold placesE;rw[if_neg (show ¬((9:Int)=3\/(9:Int)=8) by decide),if_neg (fun q=>absurd (show(9:Int)=10 from q.1) (by decide))]);rw[e9]at h9;show at_<(m.ns:Int);omega⟩
  refine Zw Zl3 ?_
  refine Zr8 ?_
  have hc:=vfreed_at m eth.toNat ⟨9,eth,tx,at_,ev,ex,why⟩ hth ha hn (hcm _ hth)
  cases hS:freedS m eth.toNat ⟨9,eth,tx,at_,ev,ex,why⟩with
  |none=>
   rw[hS]at hc
   have hs:nextS m ⟨9,eth,tx,at_,ev,ex,why⟩=(4,m):=by unfold nextS;rw[if_neg p1,if_neg (fun q=>q hmay),show stepS m (⟨9,eth,tx,at_,ev,ex,why⟩:Evt).thread.toNat ⟨9,eth,tx,at_,ev,ex,why⟩=none from hS]
   refine Zd (c15 [15,16,17]) (n15 [none,none,none]) [] ((show CallG Tryz.prog 138 [.ptr 15 0 0 0,.ptr 16 eth.toNat 13 0,evS ⟨9,eth,tx,at_,ev,ex,why⟩] (shB m) (fun v H=>v=.bool false/\H=shB m)from hc)) Zx1 Zx11 ?_
   refine Zr1 ?_
   exact Zv (v':=.int .i64 4) (Hl:=shB m) (c15 [15,16,17]) ⟨by rw[hs],by rw[hs]⟩ Zx1
  |some m'=>
   rw[hS]at hc
   obtain⟨k1,k2,k3,k4⟩:=freed_keeps hS
   have hs:nextS m ⟨9,eth,tx,at_,ev,ex,why⟩=(0,{m' with events:=m'.events+1}):=by unfold nextS;rw[if_neg p1,if_neg (fun q=>q hmay),show stepS m (⟨9,eth,tx,at_,ev,ex,why⟩:Evt).thread.toNat ⟨9,eth,tx,at_,ev,ex,why⟩=some m' from hS]
   refine Zd (c15 [15,16,17]) (n15 [some (ckO m'),some (.rows m'.nt 13 (thG m'.th) 234 0),some (.rows m'.ns 2 (stG m'.st) 225 0)]) [] ((show CallG Tryz.prog 138 [.ptr 15 0 0 0,.ptr 16 eth.toNat 13 0,evS ⟨9,eth,tx,at_,ev,ex,why⟩] (shB m) (fun v H=>v=.bool true/\H=shB m')from hc)) Zx1 Zx13 ?_
   refine Zr3 ?_
   exact Zv (v':=.int .i64 0) (Hl:=shB {m' with events:=m'.events+1}) (c15 [15,16,17]) ⟨by rw[hs],by rw[hs]⟩ Zx1
 ·have hwy:1<=why/\why<=6:=q5 rfl
  have ha:0<=at_/\at_<(m.ns:Int):=⟨ha0,by
   have h9:=q9.2
   show at_ < _
   unfold placesE at h9
   rw[if_neg (show ¬((10:Int)=3\/(10:Int)=8) by decide)]at h9
   split at h9
   ·have:at_<=1-1:=h9;omega
   ·have:at_<=m.ns-1:=h9;omega⟩
  refine Zw Zl3 ?_
  refine Zr8 ?_
  have hc:=vabort_at m eth.toNat ⟨10,eth,tx,at_,ev,ex,why⟩ hth hwy ha hn (hst' _ hth)
  cases hS:abortS m eth.toNat ⟨10,eth,tx,at_,ev,ex,why⟩with
  |none=>
   rw[hS]at hc
   have hs:nextS m ⟨10,eth,tx,at_,ev,ex,why⟩=(4,m):=by unfold nextS;rw[if_neg p1,if_neg (fun q=>q hmay),show stepS m (⟨10,eth,tx,at_,ev,ex,why⟩:Evt).thread.toNat ⟨10,eth,tx,at_,ev,ex,why⟩=none from hS]
   refine Zd (c15 [15,16,17]) (n15 [none,none,none]) [] ((show CallG Tryz.prog 139 [.ptr 15 0 0 0,.ptr 16 eth.toNat 13 0,evS ⟨10,eth,tx,at_,ev,ex,why⟩] (shB m) (fun v H=>v=.bool false/\H=shB m)from hc)) Zx1 Zx11 ?_
   refine Zr1 ?_
   exact Zv (v':=.int .i64 4) (Hl:=shB m) (c15 [15,16,17]) ⟨by rw[hs],by rw[hs]⟩ Zx1
  |some m'=>
   rw[hS]at hc
   obtain⟨k1,k2,k3,k4⟩:=abort_keeps hS
   have hs:nextS m ⟨10,eth,tx,at_,ev,ex,why⟩=(0,{m' with events:=m'.events+1}):=by unfold nextS;rw[if_neg p1,if_neg (fun q=>q hmay),show stepS m (⟨10,eth,tx,at_,ev,ex,why⟩:Evt).thread.toNat ⟨10,eth,tx,at_,ev,ex,why⟩=some m' from hS]
   refine Zd (c15 [15,16,17]) (n15 [some (ckO m'),some (.rows m'.nt 13 (thG m'.th) 234 0),some (.rows m'.ns 2 (stG m'.st) 225 0)]) [] ((show CallG Tryz.prog 139 [.ptr 15 0 0 0,.ptr 16 eth.toNat 13 0,evS ⟨10,eth,tx,at_,ev,ex,why⟩] (shB m) (fun v H=>v=.bool true/\H=shB m')from hc)) Zx1 Zx13 ?_
   refine Zr3 ?_
   exact Zv (v':=.int .i64 0) (Hl:=shB {m' with events:=m'.events+1}) (c15 [15,16,17]) ⟨by rw[hs],by rw[hs]⟩ Zx1
 ·have ha:0<=at_/\at_<(m.ns:Int):=⟨ha0,by have h9:at_<=placesE ⟨11,eth,tx,at_,ev,ex,why⟩ m.vars m.ns-1:=q9.2;have e9:placesE ⟨11,eth,tx,at_,ev,ex,why⟩ m.vars m.ns=(m.ns:Int):=(by unfold placesE;rw[if_neg (show ¬((11:Int)=3\/(11:Int)=8) by decide),if_neg (fun q=>absurd (show(11:Int)=10 from q.1) (by decide))]);rw[e9]at h9;show at_<(m.ns:Int);omega⟩
  refine Zw Zl3 ?_
  refine Zr8 ?_
  have hc:=vundo_at m eth.toNat ⟨11,eth,tx,at_,ev,ex,why⟩ hth ha hn
  cases hS:undoS m eth.toNat ⟨11,eth,tx,at_,ev,ex,why⟩with
  |none=>
   rw[hS]at hc
   have hs:nextS m ⟨11,eth,tx,at_,ev,ex,why⟩=(4,m):=by unfold nextS;rw[if_neg p1,if_neg (fun q=>q hmay),show stepS m (⟨11,eth,tx,at_,ev,ex,why⟩:Evt).thread.toNat ⟨11,eth,tx,at_,ev,ex,why⟩=none from hS]
   refine Zd (c15 [15,16,17]) (n15 [none,none,none]) [] ((show CallG Tryz.prog 140 [.ptr 15 0 0 0,.ptr 16 eth.toNat 13 0,evS ⟨11,eth,tx,at_,ev,ex,why⟩] (shB m) (fun v H=>v=.bool false/\H=shB m)from hc)) Zx1 Zx11 ?_
   refine Zr1 ?_
   exact Zv (v':=.int .i64 4) (Hl:=shB m) (c15 [15,16,17]) ⟨by rw[hs],by rw[hs]⟩ Zx1
  |some m'=>
   rw[hS]at hc
   obtain⟨k1,k2,k3,k4⟩:=undo_keeps hS
   have hs:nextS m ⟨11,eth,tx,at_,ev,ex,why⟩=(0,{m' with events:=m'.events+1}):=by unfold nextS;rw[if_neg p1,if_neg (fun q=>q hmay),show stepS m (⟨11,eth,tx,at_,ev,ex,why⟩:Evt).thread.toNat ⟨11,eth,tx,at_,ev,ex,why⟩=some m' from hS]
   refine Zd (c15 [15,16,17]) (n15 [some (ckO m'),some (.rows m'.nt 13 (thG m'.th) 234 0),some (.rows m'.ns 2 (stG m'.st) 225 0)]) [] ((show CallG Tryz.prog 140 [.ptr 15 0 0 0,.ptr 16 eth.toNat 13 0,evS ⟨11,eth,tx,at_,ev,ex,why⟩] (shB m) (fun v H=>v=.bool true/\H=shB m')from hc)) Zx1 Zx13 ?_
   refine Zr3 ?_
   exact Zv (v':=.int .i64 0) (Hl:=shB {m' with events:=m'.events+1}) (c15 [15,16,17]) ⟨by rw[hs],by rw[hs]⟩ Zx1
 ·skip
  refine Zw Zl3 ?_
  refine Zr8 ?_
  have hc:=vwait_at m eth.toNat ⟨12,eth,tx,at_,ev,ex,why⟩ hth
  cases hS:waitS m eth.toNat ⟨12,eth,tx,at_,ev,ex,why⟩with
  |none=>
   rw[hS]at hc
   have hs:nextS m ⟨12,eth,tx,at_,ev,ex,why⟩=(4,m):=by unfold nextS;rw[if_neg p1,if_neg (fun q=>q hmay),show stepS m (⟨12,eth,tx,at_,ev,ex,why⟩:Evt).thread.toNat ⟨12,eth,tx,at_,ev,ex,why⟩=none from hS]
   refine Zd (c15 [15,16,17]) (n15 [none,none,none]) [] ((show CallG Tryz.prog 141 [.ptr 15 0 0 0,.ptr 16 eth.toNat 13 0,evS ⟨12,eth,tx,at_,ev,ex,why⟩] (shB m) (fun v H=>v=.bool false/\H=shB m)from hc)) Zx1 Zx11 ?_
   refine Zr1 ?_
   exact Zv (v':=.int .i64 4) (Hl:=shB m) (c15 [15,16,17]) ⟨by rw[hs],by rw[hs]⟩ Zx1
  |some m'=>
   rw[hS]at hc
   obtain⟨k1,k2,k3,k4⟩:=wait_keeps hS
   have hs:nextS m ⟨12,eth,tx,at_,ev,ex,why⟩=(0,{m' with events:=m'.events+1}):=by unfold nextS;rw[if_neg p1,if_neg (fun q=>q hmay),show stepS m (⟨12,eth,tx,at_,ev,ex,why⟩:Evt).thread.toNat ⟨12,eth,tx,at_,ev,ex,why⟩=some m' from hS]
   refine Zd (c15 [15,16,17]) (n15 [some (ckO m'),some (.rows m'.nt 13 (thG m'.th) 234 0),some (.rows m'.ns 2 (stG m'.st) 225 0)]) [] ((show CallG Tryz.prog 141 [.ptr 15 0 0 0,.ptr 16 eth.toNat 13 0,evS ⟨12,eth,tx,at_,ev,ex,why⟩] (shB m) (fun v H=>v=.bool true/\H=shB m')from hc)) Zx1 Zx13 ?_
   refine Zr3 ?_
   exact Zv (v':=.int .i64 0) (Hl:=shB {m' with events:=m'.events+1}) (c15 [15,16,17]) ⟨by rw[hs],by rw[hs]⟩ Zx1
 ·skip
  refine Zw Zl3 ?_
  refine Zr8 ?_
  have hc:=vwake_at m eth.toNat ⟨13,eth,tx,at_,ev,ex,why⟩ hth hn
  cases hS:wakeS m eth.toNat ⟨13,eth,tx,at_,ev,ex,why⟩with
  |none=>
   rw[hS]at hc
   have hs:nextS m ⟨13,eth,tx,at_,ev,ex,why⟩=(4,m):=by unfold nextS;rw[if_neg p1,if_neg (fun q=>q hmay),show stepS m (⟨13,eth,tx,at_,ev,ex,why⟩:Evt).thread.toNat ⟨13,eth,tx,at_,ev,ex,why⟩=none from hS]
   refine Zd (c15 [15,16,17]) (n15 [none,none,none]) [] ((show CallG Tryz.prog 142 [.ptr 15 0 0 0,.ptr 16 eth.toNat 13 0,evS ⟨13,eth,tx,at_,ev,ex,why⟩] (shB m) (fun v H=>v=.bool false/\H=shB m)from hc)) Zx1 Zx11 ?_
   refine Zr1 ?_
   exact Zv (v':=.int .i64 4) (Hl:=shB m) (c15 [15,16,17]) ⟨by rw[hs],by rw[hs]⟩ Zx1
  |some m'=>
   rw[hS]at hc
   obtain⟨k1,k2,k3,k4⟩:=wake_keeps hS
   have hs:nextS m ⟨13,eth,tx,at_,ev,ex,why⟩=(0,{m' with events:=m'.events+1}):=by unfold nextS;rw[if_neg p1,if_neg (fun q=>q hmay),show stepS m (⟨13,eth,tx,at_,ev,ex,why⟩:Evt).thread.toNat ⟨13,eth,tx,at_,ev,ex,why⟩=some m' from hS]
   refine Zd (c15 [15,16,17]) (n15 [some (ckO m'),some (.rows m'.nt 13 (thG m'.th) 234 0),some (.rows m'.ns 2 (stG m'.st) 225 0)]) [] ((show CallG Tryz.prog 142 [.ptr 15 0 0 0,.ptr 16 eth.toNat 13 0,evS ⟨13,eth,tx,at_,ev,ex,why⟩] (shB m) (fun v H=>v=.bool true/\H=shB m')from hc)) Zx1 Zx13 ?_
   refine Zr3 ?_
   exact Zv (v':=.int .i64 0) (Hl:=shB {m' with events:=m'.events+1}) (c15 [15,16,17]) ⟨by rw[hs],by rw[hs]⟩ Zx1
end Go.Proofs.YtgdmlkgjpcnelaaGreatDoor
