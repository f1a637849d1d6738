import Derived.Test.YtgdmlkgjpcnelaaGreatDoorTbD
namespace Go.Proofs.YtgdmlkgjpcnelaaGreatDoor
open Go Go.Vc
set_option linter.unusedVariables false
set_option maxRecDepth 100000
set_option maxHeartbeats 1000000
def othB (m:Sh)(s th:Int):Bool:=!decide ((m.st s.toNat).1=-1) && decide ((m.st s.toNat).1≠th)
def stillB (m:Sh)(i:Nat):Bool:=decide ((m.st (m.th i).stripe.toNat).1=-1) && decide ((m.st (m.th i).stripe.toNat).2=(m.th i).v)
def FitA (m:Sh)(i:Nat)(e:Evt):Prop:=match e.why with
 |1=>(m.th i).at_=1/\othB m e.at_ e.thread=true
 |2=>(m.th i).at_=1/\(m.st e.at_.toNat).1=-1/\(m.th i).rv<(m.st e.at_.toNat).2
 |3=>(m.th i).at_=2/\e.at_=(m.th i).stripe/\¬stillB m i=true
 |4=>((m.th i).at_=1\/(m.th i).at_=3)/\(m.th i).locked<e.at_/\othB m e.at_ e.thread=true
 |5=>(m.th i).at_=4/\e.at_=leastZ (m.th i).check/\(othB m e.at_ e.thread=true\/(m.th i).rv<(m.st e.at_.toNat).2)
 |6=>(m.th i).at_=3
 |_=>False
def abT (m:Sh)(i:Nat)(e:Evt):Sh:={m with th:=updT m.th i {m.th i with at_:=if(m.th i).owned=0 then 0 else 7,full:=decide (e.why=6)}}
open Classical in
noncomputable def abortS (m:Sh)(i:Nat)(e:Evt):Option Sh:=if FitA m i e then some (abT m i e)else none
theorem vabort1_at (m:Sh)(i:Nat)(e:Evt)(hi:i<m.nt)(hw:e.why=1)(ha:0<=e.at_/\e.at_<m.ns)(hn:m.ns<=32)(hst:(m.th i).at_=2->0<=(m.th i).stripe/\(m.th i).stripe<m.ns):CallG Tryz.prog 139 [.ptr 15 0 0 0,.ptr 16 i 13 0,evS e] (shB m) fun v H=>v=.bool (abortS m i e).isSome/\H=shB ((abortS m i e).getD m):=by
 obtain⟨ek,th,tx,at_,ev,ex,why⟩:=e
 obtain rfl:why=1:=hw
 refine Ze Tryz.func139 rfl fun g w=>?_
 refine Zr11 ?_
 refine Br.o (fun h1=>?_) (fun h1=>?_)
 rotate_left
 ·have p:¬(m.th i).at_=1:=of_decide_eq_false h1
  refine Zr6 ?_
  have hs:abortS m i (⟨ek,th,tx,at_,ev,ex,1⟩:Evt)=none:=by unfold abortS;rw[if_neg (show ¬FitA m i ⟨ek,th,tx,at_,ev,ex,1⟩from fun q=>p q.1)]
  exact Zv (v':=.bool false) (Hl:=shB m) (c15 [15,16,17]) ⟨by rw[hs];rfl,by rw[hs];rfl⟩ Zx1
 have p1:(m.th i).at_=1:=of_decide_eq_true h1
 refine Zr1 ?_
 refine Zc (c15 [15,16,17]) (n15 [none,none,none]) [] (vothers_at m at_ ⟨ek,th,tx,at_,ev,ex,1⟩ ha) Zx1 Zx11 ?_
 refine Zr1 ?_
 refine Br.o (fun h2=>?_) (fun h2=>?_)
 ·skip
  have hs:abortS m i (⟨ek,th,tx,at_,ev,ex,1⟩:Evt)=none:=by unfold abortS;rw[if_neg (show ¬FitA m i ⟨ek,th,tx,at_,ev,ex,1⟩from fun q=>nb_t h2 q.2)]
  exact Zv (v':=.bool false) (Hl:=shB m) (c15 [15,16,17]) ⟨by rw[hs];rfl,by rw[hs];rfl⟩ Zx1
 have hs:abortS m i (⟨ek,th,tx,at_,ev,ex,1⟩:Evt)=some (abT m i ⟨ek,th,tx,at_,ev,ex,1⟩):=by unfold abortS;rw[if_pos (show FitA m i ⟨ek,th,tx,at_,ev,ex,1⟩from⟨p1,nb_f h2⟩)]
 refine Zw Zl6 ?_
 refine Zr9 ?_
 refine Br.o (fun h9=>?_) (fun h9=>?_)
 ·have p9:=of_decide_eq_true h9
  refine Zr0 ?_
  exact Zv (v':=.bool true) (Hl:=shB (abT m i ⟨ek,th,tx,at_,ev,ex,1⟩)) (c15 [15,16,17]) ⟨by rw[hs];rfl,by rw[hs];rfl⟩ Zx21
 ·have p9:=of_decide_eq_false h9
  exact Zv (v':=.bool true) (Hl:=shB (abT m i ⟨ek,th,tx,at_,ev,ex,1⟩)) (c15 [15,16,17]) ⟨by rw[hs];rfl,by rw[hs];rfl⟩ Zx22
theorem vabort2_at (m:Sh)(i:Nat)(e:Evt)(hi:i<m.nt)(hw:e.why=2)(ha:0<=e.at_/\e.at_<m.ns)(hn:m.ns<=32)(hst:(m.th i).at_=2->0<=(m.th i).stripe/\(m.th i).stripe<m.ns):CallG Tryz.prog 139 [.ptr 15 0 0 0,.ptr 16 i 13 0,evS e] (shB m) fun v H=>v=.bool (abortS m i e).isSome/\H=shB ((abortS m i e).getD m):=by
 obtain⟨ek,th,tx,at_,ev,ex,why⟩:=e
 obtain rfl:why=2:=hw
 refine Ze Tryz.func139 rfl fun g w=>?_
 refine Zr11 ?_
 refine Br.o (fun h1=>?_) (fun h1=>?_)
 rotate_left
 ·have p:¬(m.th i).at_=1:=of_decide_eq_false h1
  refine Zr6 ?_
  have hs:abortS m i (⟨ek,th,tx,at_,ev,ex,2⟩:Evt)=none:=by unfold abortS;rw[if_neg (show ¬FitA m i ⟨ek,th,tx,at_,ev,ex,2⟩from fun q=>p q.1)]
  exact Zv (v':=.bool false) (Hl:=shB m) (c15 [15,16,17]) ⟨by rw[hs];rfl,by rw[hs];rfl⟩ Zx1
 have p1:(m.th i).at_=1:=of_decide_eq_true h1
 refine Zr1 ?_
 refine Zc (c15 [15,16,17]) (n15 [none,none,none]) [] (vfree_at m at_ ha) Zx1 Zx11 ?_
 refine Zr1 ?_
 refine Br.o (fun h2=>?_) (fun h2=>?_)
 rotate_left
 ·have p:¬(m.st at_.toNat).1=-1:=of_decide_eq_false h2
  refine Zr6 ?_
  have hs:abortS m i (⟨ek,th,tx,at_,ev,ex,2⟩:Evt)=none:=by unfold abortS;rw[if_neg (show ¬FitA m i ⟨ek,th,tx,at_,ev,ex,2⟩from fun q=>p q.2.1)]
  exact Zv (v':=.bool false) (Hl:=shB m) (c15 [15,16,17]) ⟨by rw[hs];rfl,by rw[hs];rfl⟩ Zx1
 have p2:(m.st at_.toNat).1=-1:=of_decide_eq_true h2
 refine Zr1 ?_
 refine Zc (c15 [15,16,17]) (n15 [none,none,none]) [] (vnewer_at m at_ i hi ha) Zx1 Zx11 ?_
 refine Zr1 ?_
 refine Br.o (fun h3=>?_) (fun h3=>?_)
 ·skip
  have hs:abortS m i (⟨ek,th,tx,at_,ev,ex,2⟩:Evt)=none:=by unfold abortS;rw[if_neg (show ¬FitA m i ⟨ek,th,tx,at_,ev,ex,2⟩from fun q=>nd_t h3 q.2.2)]
  exact Zv (v':=.bool false) (Hl:=shB m) (c15 [15,16,17]) ⟨by rw[hs];rfl,by rw[hs];rfl⟩ Zx1
 have hs:abortS m i (⟨ek,th,tx,at_,ev,ex,2⟩:Evt)=some (abT m i ⟨ek,th,tx,at_,ev,ex,2⟩):=by unfold abortS;rw[if_pos (show FitA m i ⟨ek,th,tx,at_,ev,ex,2⟩from⟨p1,p2,nd_f h3⟩)]
 refine Zw Zl6 ?_
 refine Zr9 ?_
 refine Br.o (fun h9=>?_) (fun h9=>?_)
 ·have p9:=of_decide_eq_true h9
  refine Zr0 ?_
  exact Zv (v':=.bool true) (Hl:=shB (abT m i ⟨ek,th,tx,at_,ev,ex,2⟩)) (c15 [15,16,17]) ⟨by rw[hs];rfl,by rw[hs];rfl⟩ Zx21
 ·have p9:=of_decide_eq_false h9
  exact Zv (v':=.bool true) (Hl:=shB (abT m i ⟨ek,th,tx,at_,ev,ex,2⟩)) (c15 [15,16,17]) ⟨by rw[hs];rfl,by rw[hs];rfl⟩ Zx22
theorem vabort3_at (m:Sh)(i:Nat)(e:Evt)(hi:i<m.nt)(hw:e.why=3)(ha:0<=e.at_/\e.at_<m.ns)(hn:m.ns<=32)(hst:(m.th i).at_=2->0<=(m.th i).stripe/\(m.th i).stripe<m.ns):CallG Tryz.prog 139 [.ptr 15 0 0 0,.ptr 16 i 13 0,evS e] (shB m) fun v H=>v=.bool (abortS m i e).isSome/\H=shB ((abortS m i e).getD m):=by
 obtain⟨ek,th,tx,at_,ev,ex,why⟩:=e
 obtain rfl:why=3:=hw
 refine Ze Tryz.func139 rfl fun g w=>?_
 refine Zr4 ?_
 refine Zw [(0,0),(1,0),(2,0),(3,0),(4,0),(5,0),(6,0),(7,0),(8,0),(9,0),(10,0),(11,0),(12,0),(13,0),(14,0),(15,0),(16,0),(17,0),(18,0),(19,0),(20,0)] ?_
 refine Zr0 ?_
 refine Br.o (fun h1=>?_) (fun h1=>?_)
 rotate_left
 ·have p:¬(m.th i).at_=2:=of_decide_eq_false h1
  refine Zr6 ?_
  have hs:abortS m i (⟨ek,th,tx,at_,ev,ex,3⟩:Evt)=none:=by unfold abortS;rw[if_neg (show ¬FitA m i ⟨ek,th,tx,at_,ev,ex,3⟩from fun q=>p q.1)]
  exact Zv (v':=.bool false) (Hl:=shB m) (c15 [15,16,17]) ⟨by rw[hs];rfl,by rw[hs];rfl⟩ Zx1
 have p1:(m.th i).at_=2:=of_decide_eq_true h1
 refine Zr3 ?_
 refine Br.o (fun h2=>?_) (fun h2=>?_)
 rotate_left
 ·have p:¬at_=(m.th i).stripe:=of_decide_eq_false h2
  refine Zr6 ?_
  have hs:abortS m i (⟨ek,th,tx,at_,ev,ex,3⟩:Evt)=none:=by unfold abortS;rw[if_neg (show ¬FitA m i ⟨ek,th,tx,at_,ev,ex,3⟩from fun q=>p q.2.1)]
  exact Zv (v':=.bool false) (Hl:=shB m) (c15 [15,16,17]) ⟨by rw[hs];rfl,by rw[hs];rfl⟩ Zx1
 have p2:at_=(m.th i).stripe:=of_decide_eq_true h2
 refine Zr1 ?_
 refine Zd (c15 [15,16,17]) (n15 [none,none,none]) [] (vstill_at m i hi (hst p1)) Zx1 Zx11 ?_
 refine Zr1 ?_
 refine Br.o (fun h3=>?_) (fun h3=>?_)
 ·skip
  have hs:abortS m i (⟨ek,th,tx,at_,ev,ex,3⟩:Evt)=none:=by unfold abortS;rw[if_neg (show ¬FitA m i ⟨ek,th,tx,at_,ev,ex,3⟩from fun q=>q.2.2 (by simpa[stillB]using h3))]
  exact Zv (v':=.bool false) (Hl:=shB m) (c15 [15,16,17]) ⟨by rw[hs];rfl,by rw[hs];rfl⟩ Zx1
 have hs:abortS m i (⟨ek,th,tx,at_,ev,ex,3⟩:Evt)=some (abT m i ⟨ek,th,tx,at_,ev,ex,3⟩):=by unfold abortS;rw[if_pos (show FitA m i ⟨ek,th,tx,at_,ev,ex,3⟩from⟨p1,p2,fun q=>by simp only[stillB]at q;rw[q]at h3;cases h3⟩)]
 refine Zw Zl6 ?_
 refine Zr9 ?_
 refine Br.o (fun h9=>?_) (fun h9=>?_)
 ·have p9:=of_decide_eq_true h9
  refine Zr0 ?_
  exact Zv (v':=.bool true) (Hl:=shB (abT m i ⟨ek,th,tx,at_,ev,ex,3⟩)) (c15 [15,16,17]) ⟨by rw[hs];rfl,by rw[hs];rfl⟩ Zx21
 ·have p9:=of_decide_eq_false h9
  exact Zv (v':=.bool true) (Hl:=shB (abT m i ⟨ek,th,tx,at_,ev,ex,3⟩)) (c15 [15,16,17]) ⟨by rw[hs];rfl,by rw[hs];rfl⟩ Zx22
theorem vabort6_at (m:Sh)(i:Nat)(e:Evt)(hi:i<m.nt)(hw:e.why=6)(ha:0<=e.at_/\e.at_<m.ns)(hn:m.ns<=32)(hst:(m.th i).at_=2->0<=(m.th i).stripe/\(m.th i).stripe<m.ns):CallG Tryz.prog 139 [.ptr 15 0 0 0,.ptr 16 i 13 0,evS e] (shB m) fun v H=>v=.bool (abortS m i e).isSome/\H=shB ((abortS m i e).getD m):=by
 obtain⟨ek,th,tx,at_,ev,ex,why⟩:=e
 obtain rfl:why=6:=hw
 refine Ze Tryz.func139 rfl fun g w=>?_
 refine Zr11 ?_
 refine Br.o (fun h1=>?_) (fun h1=>?_)
 ·skip
  have hs:abortS m i (⟨ek,th,tx,at_,ev,ex,6⟩:Evt)=none:=by unfold abortS;rw[if_neg (show ¬FitA m i ⟨ek,th,tx,at_,ev,ex,6⟩from fun q=>nd_t (p:=(m.th i).at_=3) h1 q)]
  exact Zv (v':=.bool false) (Hl:=shB m) (c15 [15,16,17]) ⟨by rw[hs];rfl,by rw[hs];rfl⟩ Zx1
 have hs:abortS m i (⟨ek,th,tx,at_,ev,ex,6⟩:Evt)=some (abT m i ⟨ek,th,tx,at_,ev,ex,6⟩):=by unfold abortS;rw[if_pos (show FitA m i ⟨ek,th,tx,at_,ev,ex,6⟩from nd_f (p:=(m.th i).at_=3) h1)]
 refine Zw Zl6 ?_
 refine Zr9 ?_
 refine Br.o (fun h9=>?_) (fun h9=>?_)
 ·have p9:=of_decide_eq_true h9
  refine Zr0 ?_
  exact Zv (v':=.bool true) (Hl:=shB (abT m i ⟨ek,th,tx,at_,ev,ex,6⟩)) (c15 [15,16,17]) ⟨by rw[hs];rfl,by rw[hs];rfl⟩ Zx21
 ·have p9:=of_decide_eq_false h9
  exact Zv (v':=.bool true) (Hl:=shB (abT m i ⟨ek,th,tx,at_,ev,ex,6⟩)) (c15 [15,16,17]) ⟨by rw[hs];rfl,by rw[hs];rfl⟩ Zx22
theorem vabort4_at (m:Sh)(i:Nat)(e:Evt)(hi:i<m.nt)(hw:e.why=4)(ha:0<=e.at_/\e.at_<m.ns)(hn:m.ns<=32)(hst:(m.th i).at_=2->0<=(m.th i).stripe/\(m.th i).stripe<m.ns):CallG Tryz.prog 139 [.ptr 15 0 0 0,.ptr 16 i 13 0,evS e] (shB m) fun v H=>v=.bool (abortS m i e).isSome/\H=shB ((abortS m i e).getD m):=by
 obtain⟨ek,th,tx,at_,ev,ex,why⟩:=e
 obtain rfl:why=4:=hw
 refine Ze Tryz.func139 rfl fun g w=>?_
 refine Zr4 ?_
 refine Zw [(0,0),(1,0),(2,0),(3,0),(4,0),(5,0),(6,0),(7,0),(8,0),(9,0),(10,0),(11,0),(12,0),(13,0),(14,0),(15,0),(16,0),(17,0),(18,0),(19,0),(20,0),(21,0),(22,0),(23,0),(24,0),(25,0),(26,0),(27,0),(28,0)] ?_
 refine Zr0 ?_
 refine Br.o (fun h1=>?_) (fun h1=>?_)
 ·have p1:(m.th i).at_=1:=of_decide_eq_true h1
  refine Zr3 ?_
  refine Br.o (fun h3=>?_) (fun h3=>?_)
  rotate_left
  ·have p:¬(m.th i).locked<at_:=of_decide_eq_false h3
   refine Zr6 ?_
   have hs:abortS m i (⟨ek,th,tx,at_,ev,ex,4⟩:Evt)=none:=by unfold abortS;rw[if_neg (show ¬FitA m i ⟨ek,th,tx,at_,ev,ex,4⟩from fun q=>p q.2.1)]
   exact Zv (v':=.bool false) (Hl:=shB m) (c15 [15,16,17]) ⟨by rw[hs];rfl,by rw[hs];rfl⟩ Zx1
  have p3:(m.th i).locked<at_:=of_decide_eq_true h3
  refine Zr1 ?_
  refine Zd (c15 [15,16,17]) (n15 [none,none,none]) [] (vothers_at m at_ ⟨ek,th,tx,at_,ev,ex,4⟩ ha) Zx1 Zx11 ?_
  refine Zr1 ?_
  refine Br.o (fun h4=>?_) (fun h4=>?_)
  ·skip
   have hs:abortS m i (⟨ek,th,tx,at_,ev,ex,4⟩:Evt)=none:=by unfold abortS;rw[if_neg (show ¬FitA m i ⟨ek,th,tx,at_,ev,ex,4⟩from fun q=>nb_t h4 q.2.2)]
   exact Zv (v':=.bool false) (Hl:=shB m) (c15 [15,16,17]) ⟨by rw[hs];rfl,by rw[hs];rfl⟩ Zx1
  have hs:abortS m i (⟨ek,th,tx,at_,ev,ex,4⟩:Evt)=some (abT m i ⟨ek,th,tx,at_,ev,ex,4⟩):=by unfold abortS;rw[if_pos (show FitA m i ⟨ek,th,tx,at_,ev,ex,4⟩from⟨.inl p1,p3,nb_f h4⟩)]
  refine Zw Zl6 ?_
  refine Zr9 ?_
  refine Br.o (fun h9=>?_) (fun h9=>?_)
  ·have p9:=of_decide_eq_true h9
   refine Zr0 ?_
   exact Zv (v':=.bool true) (Hl:=shB (abT m i ⟨ek,th,tx,at_,ev,ex,4⟩)) (c15 [15,16,17]) ⟨by rw[hs];rfl,by rw[hs];rfl⟩ Zx21
  ·have p9:=of_decide_eq_false h9
   exact Zv (v':=.bool true) (Hl:=shB (abT m i ⟨ek,th,tx,at_,ev,ex,4⟩)) (c15 [15,16,17]) ⟨by rw[hs];rfl,by rw[hs];rfl⟩ Zx22
 have p1:¬(m.th i).at_=1:=of_decide_eq_false h1
 refine Zr3 ?_
 refine Br.o (fun h2=>?_) (fun h2=>?_)
 ·have p2:(m.th i).at_=3:=of_decide_eq_true h2
  refine Zr3 ?_
  refine Br.o (fun h3=>?_) (fun h3=>?_)
  rotate_left
  ·have p:¬(m.th i).locked<at_:=of_decide_eq_false h3
   refine Zr6 ?_
   have hs:abortS m i (⟨ek,th,tx,at_,ev,ex,4⟩:Evt)=none:=by unfold abortS;rw[if_neg (show ¬FitA m i ⟨ek,th,tx,at_,ev,ex,4⟩from fun q=>p q.2.1)]
   exact Zv (v':=.bool false) (Hl:=shB m) (c15 [15,16,17]) ⟨by rw[hs];rfl,by rw[hs];rfl⟩ Zx1
  have p3:(m.th i).locked<at_:=of_decide_eq_true h3
  refine Zr1 ?_
  refine Zd (c15 [15,16,17]) (n15 [none,none,none]) [] (vothers_at m at_ ⟨ek,th,tx,at_,ev,ex,4⟩ ha) Zx1 Zx11 ?_
  refine Zr1 ?_
  refine Br.o (fun h4=>?_) (fun h4=>?_)
  ·skip
   have hs:abortS m i (⟨ek,th,tx,at_,ev,ex,4⟩:Evt)=none:=by unfold abortS;rw[if_neg (show ¬FitA m i ⟨ek,th,tx,at_,ev,ex,4⟩from fun q=>nb_t h4 q.2.2)]
   exact Zv (v':=.bool false) (Hl:=shB m) (c15 [15,16,17]) ⟨by rw[hs];rfl,by rw[hs];rfl⟩ Zx1
  have hs:abortS m i (⟨ek,th,tx,at_,ev,ex,4⟩:Evt)=some (abT m i ⟨ek,th,tx,at_,ev,ex,4⟩):=by unfold abortS;rw[if_pos (show FitA m i ⟨ek,th,tx,at_,ev,ex,4⟩from⟨.inr p2,p3,nb_f h4⟩)]
  refine Zw Zl6 ?_
  refine Zr9 ?_
  refine Br.o (fun h9=>?_) (fun h9=>?_)
  ·have p9:=of_decide_eq_true h9
   refine Zr0 ?_
   exact Zv (v':=.bool true) (Hl:=shB (abT m i ⟨ek,th,tx,at_,ev,ex,4⟩)) (c15 [15,16,17]) ⟨by rw[hs];rfl,by rw[hs];rfl⟩ Zx21
  ·have p9:=of_decide_eq_false h9
   exact Zv (v':=.bool true) (Hl:=shB (abT m i ⟨ek,th,tx,at_,ev,ex,4⟩)) (c15 [15,16,17]) ⟨by rw[hs];rfl,by rw[hs];rfl⟩ Zx22
 have p2:¬(m.th i).at_=3:=of_decide_eq_false h2
 refine Zr6 ?_
 have hs:abortS m i (⟨ek,th,tx,at_,ev,ex,4⟩:Evt)=none:=by unfold abortS;rw[if_neg (show ¬FitA m i ⟨ek,th,tx,at_,ev,ex,4⟩from fun q=>q.1.elim p1 p2)]
 exact Zv (v':=.bool false) (Hl:=shB m) (c15 [15,16,17]) ⟨by rw[hs];rfl,by rw[hs];rfl⟩ Zx1
theorem vabort5_at (m:Sh)(i:Nat)(e:Evt)(hi:i<m.nt)(hw:e.why=5)(ha:0<=e.at_/\e.at_<m.ns)(hn:m.ns<=32)(hst:(m.th i).at_=2->0<=(m.th i).stripe/\(m.th i).stripe<m.ns):CallG Tryz.prog 139 [.ptr 15 0 0 0,.ptr 16 i 13 0,evS e] (shB m) fun v H=>v=.bool (abortS m i e).isSome/\H=shB ((abortS m i e).getD m):=by
 obtain⟨ek,th,tx,at_,ev,ex,why⟩:=e
 obtain rfl:why=5:=hw
 refine Ze Tryz.func139 rfl fun g w=>?_
 refine Zr4 ?_
 refine Zw [(0,0),(1,0),(2,0),(3,0),(4,0),(5,0),(8,0),(9,0),(10,0),(11,0),(12,0),(6,1),(7,1),(13,0),(14,0),(15,0),(16,0),(17,0),(18,0),(19,0),(20,0),(21,0),(22,0),(23,0),(24,0),(25,0),(26,0),(27,0),(28,0),(29,0)] ?_
 refine Zr0 ?_
 refine Br.o (fun h1=>?_) (fun h1=>?_)
 rotate_left
 ·have p:¬(m.th i).at_=4:=of_decide_eq_false h1
  refine Zr6 ?_
  have hs:abortS m i (⟨ek,th,tx,at_,ev,ex,5⟩:Evt)=none:=by unfold abortS;rw[if_neg (show ¬FitA m i ⟨ek,th,tx,at_,ev,ex,5⟩from fun q=>p q.1)]
  exact Zv (v':=.bool false) (Hl:=shB m) (c15 [15,16,17]) ⟨by rw[hs];rfl,by rw[hs];rfl⟩ Zx1
 have p1:(m.th i).at_=4:=of_decide_eq_true h1
 refine Zr3 ?_
 refine Zd (c15 []) (n15 []) [] (vleast_at (m.th i).check) Zx0 Zx12 ?_
 refine Zr3 ?_
 refine Br.o (fun h2=>?_) (fun h2=>?_)
 rotate_left
 ·have p:¬at_=leastZ (m.th i).check:=of_decide_eq_false h2
  refine Zr6 ?_
  have hs:abortS m i (⟨ek,th,tx,at_,ev,ex,5⟩:Evt)=none:=by unfold abortS;rw[if_neg (show ¬FitA m i ⟨ek,th,tx,at_,ev,ex,5⟩from fun q=>p q.2.1)]
  exact Zv (v':=.bool false) (Hl:=shB m) (c15 [15,16,17]) ⟨by rw[hs];rfl,by rw[hs];rfl⟩ Zx1
 have p2:at_=leastZ (m.th i).check:=of_decide_eq_true h2
 refine Zr1 ?_
 refine Zd (c15 [15,16,17]) (n15 [none,none,none]) [] (vothers_at m at_ ⟨ek,th,tx,at_,ev,ex,5⟩ ha) Zx1 Zx11 ?_
 refine Zr1 ?_
 refine Br.o (fun h3=>?_) (fun h3=>?_)
 ·refine Zr6 ?_
  have hs:abortS m i (⟨ek,th,tx,at_,ev,ex,5⟩:Evt)=some (abT m i ⟨ek,th,tx,at_,ev,ex,5⟩):=by unfold abortS;rw[if_pos (show FitA m i ⟨ek,th,tx,at_,ev,ex,5⟩from⟨p1,p2,.inl h3⟩)]
  refine Zw Zl6 ?_
  refine Zr9 ?_
  refine Br.o (fun h9=>?_) (fun h9=>?_)
  ·have p9:=of_decide_eq_true h9
   refine Zr0 ?_
   exact Zv (v':=.bool true) (Hl:=shB (abT m i ⟨ek,th,tx,at_,ev,ex,5⟩)) (c15 [15,16,17]) ⟨by rw[hs];rfl,by rw[hs];rfl⟩ Zx21
  ·have p9:=of_decide_eq_false h9
   exact Zv (v':=.bool true) (Hl:=shB (abT m i ⟨ek,th,tx,at_,ev,ex,5⟩)) (c15 [15,16,17]) ⟨by rw[hs];rfl,by rw[hs];rfl⟩ Zx22
 refine Zr2 ?_
 refine Zd (c15 [15,16,17]) (n15 [none,none,none]) [] (vnewer_at m at_ i hi ha) Zx1 Zx11 ?_
 refine Zr6 ?_
 refine Br.o (fun h4=>?_) (fun h4=>?_)
 ·skip
  have hs:abortS m i (⟨ek,th,tx,at_,ev,ex,5⟩:Evt)=none:=by unfold abortS;rw[if_neg (show ¬FitA m i ⟨ek,th,tx,at_,ev,ex,5⟩from fun q=>q.2.2.elim (fun r=>by rw[show othB m at_ th=false from h3]at r;cases r) (nd_t h4))]
  exact Zv (v':=.bool false) (Hl:=shB m) (c15 [15,16,17]) ⟨by rw[hs];rfl,by rw[hs];rfl⟩ Zx1
 have hs:abortS m i (⟨ek,th,tx,at_,ev,ex,5⟩:Evt)=some (abT m i ⟨ek,th,tx,at_,ev,ex,5⟩):=by unfold abortS;rw[if_pos (show FitA m i ⟨ek,th,tx,at_,ev,ex,5⟩from⟨p1,p2,.inr (nd_f h4)⟩)]
 refine Zw Zl6 ?_
 refine Zr9 ?_
 refine Br.o (fun h9=>?_) (fun h9=>?_)
 ·have p9:=of_decide_eq_true h9
  refine Zr0 ?_
  exact Zv (v':=.bool true) (Hl:=shB (abT m i ⟨ek,th,tx,at_,ev,ex,5⟩)) (c15 [15,16,17]) ⟨by rw[hs];rfl,by rw[hs];rfl⟩ Zx21
 ·have p9:=of_decide_eq_false h9
  exact Zv (v':=.bool true) (Hl:=shB (abT m i ⟨ek,th,tx,at_,ev,ex,5⟩)) (c15 [15,16,17]) ⟨by rw[hs];rfl,by rw[hs];rfl⟩ Zx22
theorem vabort_at (m:Sh)(i:Nat)(e:Evt)(hi:i<m.nt)(hw:1<=e.why/\e.why<=6)(ha:0<=e.at_/\e.at_<m.ns)(hn:m.ns<=32)(hst:(m.th i).at_=2->0<=(m.th i).stripe/\(m.th i).stripe<m.ns):CallG Tryz.prog 139 [.ptr 15 0 0 0,.ptr 16 i 13 0,evS e] (shB m) fun v H=>v=.bool (abortS m i e).isSome/\H=shB ((abortS m i e).getD m):=by
 have h:e.why=1\/e.why=2\/e.why=3\/e.why=4\/e.why=5\/e.why=6:=by omega
 rcases h with h|h|h|h|h|h
 ·exact vabort1_at m i e hi h ha hn hst
 ·exact vabort2_at m i e hi h ha hn hst
 ·exact vabort3_at m i e hi h ha hn hst
 ·exact vabort4_at m i e hi h ha hn hst
 ·exact vabort5_at m i e hi h ha hn hst
 ·exact vabort6_at m i e hi h ha hn hst
end Go.Proofs.YtgdmlkgjpcnelaaGreatDoor
