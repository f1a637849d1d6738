import Derived.Test.YtgdmlkgjpcnelaaGreatDoorTbC
namespace Go.Proofs.YtgdmlkgjpcnelaaGreatDoor
open Go Go.Vc
set_option linter.unusedVariables false
set_option maxRecDepth 100000
set_option maxHeartbeats 1000000
def undoS (m:Sh)(i:Nat)(e:Evt):Option Sh:=if(m.th i).at_≠7 then none else if e.at_≠leastZ (m.th i).owned then none else
 some (if((leaveS m i e.at_).th i).owned=0/\((leaveS m i e.at_).th i).full=true then {leaveS m i e.at_ with th:=updT (leaveS m i e.at_).th i {(leaveS m i e.at_).th i with at_:=9}}
  else if((leaveS m i e.at_).th i).owned=0 then {leaveS m i e.at_ with th:=updT (leaveS m i e.at_).th i {(leaveS m i e.at_).th i with at_:=0}}else leaveS m i e.at_)
theorem vundo_at (m:Sh)(i:Nat)(e:Evt)(hi:i<m.nt)(ha:0<=e.at_/\e.at_<m.ns)(hn:m.ns<=32):CallG Tryz.prog 140 [.ptr 15 0 0 0,.ptr 16 i 13 0,evS e] (shB m) fun v H=>v=.bool (undoS m i e).isSome/\H=shB ((undoS m i e).getD m):=by
 refine Ze Tryz.func140 rfl fun g w=>?_
 refine Zw [(0,0),(1,0),(2,0),(3,0),(4,0),(5,0),(8,0),(9,0),(10,0),(11,0),(12,0),(6,1),(7,1),(13,0),(14,0)] ?_
 refine Zr0 ?_
 refine Br.o (fun h1=>?_) (fun h1=>?_)
 ·refine Zr1 ?_
  have hs:undoS m i e=none:=by unfold undoS;rw[if_pos (of_decide_eq_true h1)]
  exact Zv (v':=.bool false) (Hl:=shB m) (c15 [15,16,17]) ⟨by rw[hs];rfl,by rw[hs];rfl⟩ Zx1
 refine Zr3 ?_
 refine Zd (c15 []) (n15 []) [] (vleast_at (m.th i).owned) Zx0 Zx12 ?_
 refine Zr3 ?_
 refine Br.o (fun h2=>?_) (fun h2=>?_)
 ·skip
  have hs:undoS m i e=none:=by unfold undoS;rw[if_neg (of_decide_eq_false h1),if_pos (of_decide_eq_true h2)]
  exact Zv (v':=.bool false) (Hl:=shB m) (c15 [15,16,17]) ⟨by rw[hs];rfl,by rw[hs];rfl⟩ Zx1
 refine Zc (c15 [15,16,17]) (n15 [none,some (.rows m.nt 13 (thG (leaveS m i e.at_).th) 234 0),some (.rows m.ns 2 (stG (leaveS m i e.at_).st) 225 0)]) [] (vleave_at m i e.at_ hi ha hn) Zx1 Zx13 ?_
 refine Zr9 ?_
 refine Br.o (fun h3=>?_) (fun h3=>?_)
 ·have p3:((leaveS m i e.at_).th i).owned=0:=of_decide_eq_true h3
  refine Zr3 ?_
  refine Br.o (fun h4=>?_) (fun h4=>?_)
  ·refine Zr0 ?_
   have hs:undoS m i e=some {leaveS m i e.at_ with th:=updT (leaveS m i e.at_).th i {(leaveS m i e.at_).th i with at_:=9}}:=by unfold undoS;rw[if_neg (of_decide_eq_false h1),if_neg (of_decide_eq_false h2),if_pos ⟨p3,h4⟩]
   exact Lv.mk' (v':=.bool true) (Hl:=shB {leaveS m i e.at_ with th:=updT (leaveS m i e.at_).th i {(leaveS m i e.at_).th i with at_:=9}}) [0,1,2,3,4,5,6,7,8,9,10,11,12,13,14,15,16,17] ⟨by rw[hs];rfl,by rw[hs];rfl⟩ rfl (fitB rfl ⟨.r rfl,LiesAt.gp (fun i' j hi hj=>by
     have hj':j=0\/j=1\/j=2\/j=3\/j=4\/j=5\/j=6\/j=7\/j=8\/j=9\/j=10\/j=11\/j=12:=by omega
     by_cases h:i'=i
     ·subst h
      rcases hj' with rfl|rfl|rfl|rfl|rfl|rfl|rfl|rfl|rfl|rfl|rfl|rfl|rfl<;>(simp[pushU,SV.cells,ovG,thG,thC,updT]<;>rfl)
     ·simp[pushU,SV.cells,ovG,beq_ne h,thG,updT,h]),.p,trivial⟩) rfl rfl rfl rfl rfl
  ·refine Zr0 ?_
   refine Br.o (fun h5=>?_) (fun h5=>?_)
   ·refine Zr0 ?_
    have hs:undoS m i e=some {leaveS m i e.at_ with th:=updT (leaveS m i e.at_).th i {(leaveS m i e.at_).th i with at_:=0}}:=by unfold undoS;rw[if_neg (of_decide_eq_false h1),if_neg (of_decide_eq_false h2),if_neg (fun q=>by rw[h4]at q;cases q.2),if_pos p3]
    exact Lv.mk' (v':=.bool true) (Hl:=shB {leaveS m i e.at_ with th:=updT (leaveS m i e.at_).th i {(leaveS m i e.at_).th i with at_:=0}}) [0,1,2,3,4,5,6,7,8,9,10,11,12,13,14,15,16,17] ⟨by rw[hs];rfl,by rw[hs];rfl⟩ rfl (fitB rfl ⟨.r rfl,LiesAt.gp (fun i' j hi hj=>by
      have hj':j=0\/j=1\/j=2\/j=3\/j=4\/j=5\/j=6\/j=7\/j=8\/j=9\/j=10\/j=11\/j=12:=by omega
      by_cases h:i'=i
      ·subst h
       rcases hj' with rfl|rfl|rfl|rfl|rfl|rfl|rfl|rfl|rfl|rfl|rfl|rfl|rfl<;>(simp[pushU,SV.cells,ovG,thG,thC,updT]<;>rfl)
      ·simp[pushU,SV.cells,ovG,beq_ne h,thG,updT,h]),.p,trivial⟩) rfl rfl rfl rfl rfl
   ·exact absurd p3 (of_decide_eq_false h5)
 ·have p3:¬((leaveS m i e.at_).th i).owned=0:=of_decide_eq_false h3
  refine Zr3 ?_
  refine Br.o (fun h5=>?_) (fun h5=>?_)
  ·exact absurd (of_decide_eq_true h5) p3
  ·skip
   have hs:undoS m i e=some (leaveS m i e.at_):=by unfold undoS;rw[if_neg (of_decide_eq_false h1),if_neg (of_decide_eq_false h2),if_neg (fun q=>p3 q.1),if_neg p3]
   exact Zv (v':=.bool true) (Hl:=shB (leaveS m i e.at_)) (c15 [15,16,17]) ⟨by rw[hs];rfl,by rw[hs];rfl⟩ Zx1
def freeS (m:Sh)(i:Nat)(e:Evt):Sh:={leaveS m i e.at_ with th:=updT (leaveS m i e.at_).th i {(leaveS m i e.at_).th i with at_:=6},st:=updS (leaveS m i e.at_).st e.at_.toNat (((leaveS m i e.at_).st e.at_.toNat).1,((leaveS m i e.at_).th i).wv)}
def freedS (m:Sh)(i:Nat)(e:Evt):Option Sh:=if(m.th i).at_≠6/\((m.th i).at_≠5\/(m.th i).stored≠(m.th i).owned)then none else if e.at_≠leastZ (m.th i).owned then none else
 some (if((leaveS m i e.at_).th i).owned=0 then endsS (freeS m i e) i else freeS m i e)
theorem vfreed_at (m:Sh)(i:Nat)(e:Evt)(hi:i<m.nt)(ha:0<=e.at_/\e.at_<m.ns)(hn:m.ns<=32)(hc:0<=(m.th i).commits/\(m.th i).commits<=1048576):CallG Tryz.prog 138 [.ptr 15 0 0 0,.ptr 16 i 13 0,evS e] (shB m) fun v H=>v=.bool (freedS m i e).isSome/\H=shB ((freedS m i e).getD m):=by
 refine Ze Tryz.func138 rfl fun g w=>?_
 have hcf:0<=((freeS m i e).th i).commits/\((freeS m i e).th i).commits<=1048576:=by simp only[freeS,leaveS,updT,if_true];exact hc
 refine Zw [(0,0),(1,0),(2,0),(3,0),(4,0),(5,0),(6,0),(7,0),(8,0),(9,0),(10,0),(11,0),(12,0),(13,0),(14,0),(15,0),(16,0),(17,0),(18,0),(19,0),(20,0),(21,0),(22,0),(23,0),(26,0),(27,0),(28,0),(29,0),(30,0),(24,1),(25,1),(31,0),(32,0)] ?_
 refine Zr0 ?_
 refine Br.o (fun h1=>?_) (fun h1=>?_)
 ·have p1:(m.th i).at_≠6:=of_decide_eq_true h1
  refine Zr3 ?_
  refine Br.o (fun h2=>?_) (fun h2=>?_)
  ·have p2:(m.th i).at_≠5:=of_decide_eq_true h2
   refine Zr1 ?_
   have hs:freedS m i e=none:=by unfold freedS;rw[if_pos (⟨p1,.inl p2⟩)]
   exact Zv (v':=.bool false) (Hl:=shB m) (c15 [15,16,17]) ⟨by rw[hs];rfl,by rw[hs];rfl⟩ Zx1
  have p2:¬(m.th i).at_≠5:=of_decide_eq_false h2
  refine Zr3 ?_
  refine Br.o (fun h3=>?_) (fun h3=>?_)
  ·have p3:(m.th i).stored≠(m.th i).owned:=of_decide_eq_true h3
   refine Zr1 ?_
   have hs:freedS m i e=none:=by unfold freedS;rw[if_pos (⟨p1,.inr p3⟩)]
   exact Zv (v':=.bool false) (Hl:=shB m) (c15 [15,16,17]) ⟨by rw[hs];rfl,by rw[hs];rfl⟩ Zx1
  have p3:¬(m.th i).stored≠(m.th i).owned:=of_decide_eq_false h3
  refine Zr3 ?_
  refine Zd (c15 []) (n15 []) [] (vleast_at (m.th i).owned) Zx0 Zx12 ?_
  refine Zr3 ?_
  refine Br.o (fun h4=>?_) (fun h4=>?_)
  ·skip
   have hs:freedS m i e=none:=by unfold freedS;rw[if_neg (fun q=>q.2.elim p2 p3),if_pos (of_decide_eq_true h4)]
   exact Zv (v':=.bool false) (Hl:=shB m) (c15 [15,16,17]) ⟨by rw[hs];rfl,by rw[hs];rfl⟩ Zx1
  refine Zc (c15 [15,16,17]) (n15 [none,some (.rows m.nt 13 (thG (leaveS m i e.at_).th) 234 0),some (.rows m.ns 2 (stG (leaveS m i e.at_).st) 225 0)]) [] (vleave_at m i e.at_ hi ha hn) Zx1 Zx13 ?_
  refine Zw Zl14 ?_
  refine Zr9 ?_
  refine Br.o (fun h5=>?_) (fun h5=>?_)
  ·have p5:((leaveS m i e.at_).th i).owned=0:=of_decide_eq_true h5
   refine Zc (c15 [15,16,17]) (n15 [none,some (.rows m.nt 13 (thG (endsS (freeS m i e) i).th) 234 0),some (.rows m.ns 2 (stG (endsS (freeS m i e) i).st) 225 0)]) [] (vends_at (freeS m i e) i hi hcf) Zx41 Zx13 ?_
   have hs:freedS m i e=some (endsS (freeS m i e) i):=by unfold freedS;rw[if_neg (fun q=>q.2.elim p2 p3),if_neg (of_decide_eq_false h4),if_pos p5]
   exact Zv (v':=.bool true) (Hl:=shB (endsS (freeS m i e) i)) (c15 [15,16,17]) ⟨by rw[hs];rfl,by rw[hs];rfl⟩ Zx1
  ·have p5:¬((leaveS m i e.at_).th i).owned=0:=of_decide_eq_false h5
   have hs:freedS m i e=some (freeS m i e):=by unfold freedS;rw[if_neg (fun q=>q.2.elim p2 p3),if_neg (of_decide_eq_false h4),if_neg p5]
   exact Lv.mk' (v':=.bool true) (Hl:=shB (freeS m i e)) [0,1,2,3,4,5,6,7,8,9,10,11,12,13,14,15,16,17] ⟨by rw[hs];rfl,by rw[hs];rfl⟩ rfl (fitB rfl ⟨.r rfl,LiesAt.gp (fun i' j hi hj=>by
    have hj':j=0\/j=1\/j=2\/j=3\/j=4\/j=5\/j=6\/j=7\/j=8\/j=9\/j=10\/j=11\/j=12:=by omega
    by_cases h:i'=i
    ·subst h
     rcases hj' with rfl|rfl|rfl|rfl|rfl|rfl|rfl|rfl|rfl|rfl|rfl|rfl|rfl<;>(simp[pushU,SV.cells,ovG,freeS,thG,thC,updT]<;>rfl)
    ·simp[pushU,SV.cells,ovG,beq_ne h,freeS,thG,updT,h]),LiesAt.gp (fun i' j hi hj=>by
    have hj':j=0\/j=1:=by omega
    by_cases h:i'=e.at_.toNat
    ·subst h
     rcases hj' with rfl|rfl<;>(simp[pushU,SV.cells,ovG,freeS,stG,updS]<;>rfl)
    ·rcases hj' with rfl|rfl<;>(simp[pushU,SV.cells,ovG,beq_ne h,freeS,stG,updS,h]<;>rfl)),trivial⟩) rfl rfl rfl rfl rfl
 have p1:¬(m.th i).at_≠6:=of_decide_eq_false h1
 refine Zr3 ?_
 refine Zd (c15 []) (n15 []) [] (vleast_at (m.th i).owned) Zx0 Zx12 ?_
 refine Zr3 ?_
 refine Br.o (fun h4=>?_) (fun h4=>?_)
 ·skip
  have hs:freedS m i e=none:=by unfold freedS;rw[if_neg (fun q=>p1 q.1),if_pos (of_decide_eq_true h4)]
  exact Zv (v':=.bool false) (Hl:=shB m) (c15 [15,16,17]) ⟨by rw[hs];rfl,by rw[hs];rfl⟩ Zx1
 refine Zc (c15 [15,16,17]) (n15 [none,some (.rows m.nt 13 (thG (leaveS m i e.at_).th) 234 0),some (.rows m.ns 2 (stG (leaveS m i e.at_).st) 225 0)]) [] (vleave_at m i e.at_ hi ha hn) Zx1 Zx13 ?_
 refine Zw Zl14 ?_
 refine Zr9 ?_
 refine Br.o (fun h5=>?_) (fun h5=>?_)
 ·have p5:((leaveS m i e.at_).th i).owned=0:=of_decide_eq_true h5
  refine Zc (c15 [15,16,17]) (n15 [none,some (.rows m.nt 13 (thG (endsS (freeS m i e) i).th) 234 0),some (.rows m.ns 2 (stG (endsS (freeS m i e) i).st) 225 0)]) [] (vends_at (freeS m i e) i hi hcf) Zx41 Zx13 ?_
  have hs:freedS m i e=some (endsS (freeS m i e) i):=by unfold freedS;rw[if_neg (fun q=>p1 q.1),if_neg (of_decide_eq_false h4),if_pos p5]
  exact Zv (v':=.bool true) (Hl:=shB (endsS (freeS m i e) i)) (c15 [15,16,17]) ⟨by rw[hs];rfl,by rw[hs];rfl⟩ Zx1
 ·have p5:¬((leaveS m i e.at_).th i).owned=0:=of_decide_eq_false h5
  have hs:freedS m i e=some (freeS m i e):=by unfold freedS;rw[if_neg (fun q=>p1 q.1),if_neg (of_decide_eq_false h4),if_neg p5]
  exact Lv.mk' (v':=.bool true) (Hl:=shB (freeS m i e)) [0,1,2,3,4,5,6,7,8,9,10,11,12,13,14,15,16,17] ⟨by rw[hs];rfl,by rw[hs];rfl⟩ rfl (fitB rfl ⟨.r rfl,LiesAt.gp (fun i' j hi hj=>by
   have hj':j=0\/j=1\/j=2\/j=3\/j=4\/j=5\/j=6\/j=7\/j=8\/j=9\/j=10\/j=11\/j=12:=by omega
   by_cases h:i'=i
   ·subst h
    rcases hj' with rfl|rfl|rfl|rfl|rfl|rfl|rfl|rfl|rfl|rfl|rfl|rfl|rfl<;>(simp[pushU,SV.cells,ovG,freeS,thG,thC,updT]<;>rfl)
   ·simp[pushU,SV.cells,ovG,beq_ne h,freeS,thG,updT,h]),LiesAt.gp (fun i' j hi hj=>by
   have hj':j=0\/j=1:=by omega
   by_cases h:i'=e.at_.toNat
   ·subst h
    rcases hj' with rfl|rfl<;>(simp[pushU,SV.cells,ovG,freeS,stG,updS]<;>rfl)
   ·rcases hj' with rfl|rfl<;>(simp[pushU,SV.cells,ovG,beq_ne h,freeS,stG,updS,h]<;>rfl)),trivial⟩) rfl rfl rfl rfl rfl
end Go.Proofs.YtgdmlkgjpcnelaaGreatDoor
