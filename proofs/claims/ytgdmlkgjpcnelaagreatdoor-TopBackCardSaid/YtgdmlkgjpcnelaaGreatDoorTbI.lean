import Derived.Test.YtgdmlkgjpcnelaaGreatDoorTbH
namespace Go.Proofs.YtgdmlkgjpcnelaaGreatDoor
open Go Go.Vc
set_option linter.unusedVariables false
set_option maxRecDepth 100000
set_option maxHeartbeats 1000000
def NewOk (t v s:Int):Prop:=(0<=t/\t<=6)/\(1<=v/\v<=32)/\1<=s/\s<=v
def th0:Th:=⟨0,0,0,0,0,0,0,0,0,0,0,0,false⟩
def sh0 (v:Int)(nt ns:Nat):Sh:=⟨v,0,0,nt,ns,fun _=>th0,fun _=>(-1,0)⟩
theorem vnewBad_at (t v s:Int)(h:¬NewOk t v s):CallG Tryz.prog 54 [.int .i64 t,.int .i64 v,.int .i64 s] (bH []) fun r H=>r=.tup [.nilp,.int .i64 1]/\H=bH []:=by
 refine Ze Tryz.func54 rfl fun g w=>?_
 refine Br.o (fun h1=>?_) (fun h1=>?_)
 ·refine Zr1 ?_
  exact Zv (v':=.tup [.nilp,.int .i64 1]) (Hl:=bH []) (c15 []) ⟨rfl,rfl⟩ Zx0
 replace h1:=of_decide_eq_false h1
 refine Zr2 ?_
 refine Br.o (fun h2=>?_) (fun h2=>?_)
 ·refine Zr1 ?_
  exact Zv (v':=.tup [.nilp,.int .i64 1]) (Hl:=bH []) (c15 []) ⟨rfl,rfl⟩ Zx0
 replace h2:=of_decide_eq_false h2
 refine Zr2 ?_
 refine Br.o (fun h3=>?_) (fun h3=>?_)
 ·refine Zr1 ?_
  exact Zv (v':=.tup [.nilp,.int .i64 1]) (Hl:=bH []) (c15 []) ⟨rfl,rfl⟩ Zx0
 replace h3:=of_decide_eq_false h3
 refine Zr2 ?_
 refine Br.o (fun h4=>?_) (fun h4=>?_)
 ·refine Zr1 ?_
  exact Zv (v':=.tup [.nilp,.int .i64 1]) (Hl:=bH []) (c15 []) ⟨rfl,rfl⟩ Zx0
 replace h4:=of_decide_eq_false h4
 refine Zr2 ?_
 refine Br.o (fun h5=>?_) (fun h5=>?_)
 ·refine Zr1 ?_
  exact Zv (v':=.tup [.nilp,.int .i64 1]) (Hl:=bH []) (c15 []) ⟨rfl,rfl⟩ Zx0
 replace h5:=of_decide_eq_false h5
 refine Zr2 ?_
 refine Br.o (fun h6=>?_) (fun h6=>?_)
 ·skip
  exact Zv (v':=.tup [.nilp,.int .i64 1]) (Hl:=bH []) (c15 []) ⟨rfl,rfl⟩ Zx0
 replace h6:=of_decide_eq_false h6
 exact absurd (show NewOk t v s from⟨⟨by omega,by omega⟩,⟨by omega,by omega⟩,by omega,by omega⟩) h
theorem vnewOk_at (nt ns:Nat)(v:Int)(h:NewOk nt v ns):CallG Tryz.prog 54 [.int .i64 nt,.int .i64 v,.int .i64 ns] (bH []) fun r H=>r=.tup [.ptr 15 0 0 0,.int .i64 0]/\H=shB (sh0 v nt ns):=by
 obtain⟨⟨a1,a2⟩,⟨a3,a4⟩,a5,a6⟩:=h
 refine Ze Tryz.func54 rfl fun g w=>?_
 refine Zr15 ?_
 refine Zw [(3,0),(4,0),(5,0),(6,0),(0,1),(1,1),(2,1),(7,0),(8,0),(9,0),(10,0)] ?_
 refine Zd [0,1,2,3,15] [none,none,none,none,none] [.rows ns 2 (repG ns) 225 0] (vrepeat_at ns (by omega)) Zx3 Zx31 ?_
 refine Zr0 ?_
 refine Zv (v':=.tup [.ptr 15 0 0 0,.int .i64 0]) (Hl:=shB (sh0 v nt ns)) (c15 [18,17,16]) ⟨rfl,rfl⟩ (fitB rfl ⟨.r rfl,LiesAt.gp (fun i j hi hj=>?_),LiesAt.gp (fun i j hi hj=>?_),trivial⟩)
 ·have hj2:j<13:=hj
  have hj':j=0\/j=1\/j=2\/j=3\/j=4\/j=5\/j=6\/j=7\/j=8\/j=9\/j=10\/j=11\/j=12:=by omega
  rcases hj' with rfl|rfl|rfl|rfl|rfl|rfl|rfl|rfl|rfl|rfl|rfl|rfl|rfl<;>rfl
 ·have hj2:j<2:=hj
  have hi2:i<ns:=hi
  have hj':j=0\/j=1:=by omega
  rcases hj' with rfl|rfl
  ·show SV.int .i64 (if i<ns then -1 else 0)=SV.int .i64 (-1)
   rw[if_pos hi2]
  ·rfl
end Go.Proofs.YtgdmlkgjpcnelaaGreatDoor
