import Derived.Test.YtgdmlkgjpcnelaaGreatDoorTbZd
namespace Go.Proofs.YtgdmlkgjpcnelaaGreatDoor
open Go Go.Vc
set_option linter.unusedVariables false
set_option maxRecDepth 100000
set_option maxHeartbeats 1000000
theorem vequal_at (n m1 m2:Nat)(c1 c2:Cap)(e1 e2:Nat->Evt)(h:∀i,i<n->e1 i=e2 i)(hn:n<1000000):CallG Tryz.prog 74 [.sl 4 0 7 n c1,.sl 5 0 7 n c2] (z4++[Ob.rows n 7 (evG e1) 65 m1,Ob.rows n 7 (evG e2) 65 m2]) fun v H=>v=.bool true/\H=z4++[Ob.rows n 7 (evG e1) 65 m1,Ob.rows n 7 (evG e2) 65 m2]:=by
 refine Ze Tryz.func74 rfl fun g w=>?_
 refine Zr16 ?_
 refine LoopG.by (α:=Nat) (fun k fr ds H=>k<=n/\HasR [0,1,2,3,4,5] [(0,.sl 4 0 7 n c1),(1,.sl 5 0 7 n c2),(12,.int .i64 (n:Int)),(13,.int .i64 (k:Int))] fr/\ds=[]/\allLt [0,1,2,3,4,5] (len H)=true/\Fits (ren [0,1,2,3,4,5]) H (z4++[Ob.rows n 7 (evG e1) 65 m1,Ob.rows n 7 (evG e2) 65 m2]) 0) (fun k=>n-k) 0 ⟨Nat.zero_le _,hasR_cons rfl (hasR_cons rfl (hasR_cons rfl (hasR_cons rfl (hasR_nil _ _)))),rfl,rfl,⟨trivial,trivial,trivial,trivial,.p,.p,trivial⟩⟩ ?_
 rintro k fr ds H ⟨hk,hfr,rfl,hlt,hfit⟩
 refine T.ren [0,1,2,3,4,5] (vCode_ok cx_ok (by kernel_rfl) ?_) hfr hfit rfl hlt rfl rfl rfl (by kernel_rfl)
 refine Br.o (fun h1=>?_) (fun h1=>?_)
 rotate_left
 ·skip
  exact Zv (v':=.bool true) (Hl:=z4++[Ob.rows n 7 (evG e1) 65 m1,Ob.rows n 7 (evG e2) 65 m2]) (c4 [4,5]) ⟨rfl,rfl⟩ Zx33
 have p1:(k:Int)<(n:Int):=of_decide_eq_true h1
 have he:=h k (by omega)
 refine Zw Zl13 ?_
 refine Zr0 ?_
 refine Br.f ?_ ?_
 ·show decide (_≠_)=false
  rw[show e1 (k:Int).toNat=e2 (k:Int).toNat from he]
  exact decide_eq_false (fun q=>q rfl)
 refine Zr0 ?_
 exact Exists.intro (k+1) ⟨by show n-(k+1)<n-k;omega,by show k+1<=n;omega,hasR_cons rfl (hasR_cons rfl (hasR_cons rfl (hasR_cons rfl (hasR_nil _ _)))),rfl,rfl,⟨trivial,trivial,trivial,trivial,.p,.p,trivial⟩⟩
theorem vequalNil_at:CallG Tryz.prog 74 [.nils,.nils] z4 fun v H=>v=.bool true/\H=z4:=by
 refine Ze Tryz.func74 rfl fun g w=>?_
 refine Zr2 ?_
 refine LoopG.rounds cx_ok 1 (by kernel_rfl) ?_
 refine Zr2 ?_
 exact Zv (v':=.bool true) (Hl:=z4) (c4 []) ⟨rfl,rfl⟩ Zx2
theorem vequal0_at (m1:Nat)(c1:Cap)(e1:Nat->Evt):CallG Tryz.prog 74 [.sl 4 0 7 0 c1,.nils] (z4++[Ob.rows 0 7 (evG e1) 65 m1]) fun v H=>v=.bool true/\H=z4++[Ob.rows 0 7 (evG e1) 65 m1]:=by
 refine Ze Tryz.func74 rfl fun g w=>?_
 refine Zr2 ?_
 refine LoopG.rounds cx_ok 1 (by kernel_rfl) ?_
 refine Zr2 ?_
 exact Zv (v':=.bool true) (Hl:=z4++[Ob.rows 0 7 (evG e1) 65 m1]) (c4 [4]) ⟨rfl,rfl⟩ Zx32
theorem vsame_at (t v s:Int)(n m1 m2:Nat)(c1 c2:Cap)(e1 e2:Nat->Evt)(h:∀i,i<n->e1 i=e2 i)(hn:n<1000000):CallG Tryz.prog 19 [trV t v s (.sl 4 0 7 n c1),trV t v s (.sl 5 0 7 n c2)] (z4++[Ob.rows n 7 (evG e1) 65 m1,Ob.rows n 7 (evG e2) 65 m2]) fun v H=>v=.bool true/\H=z4++[Ob.rows n 7 (evG e1) 65 m1,Ob.rows n 7 (evG e2) 65 m2]:=by
 refine Ze Tryz.func19 rfl fun g w=>?_
 refine Zr13 ?_
 refine Zc [0,1,2,3,4,5] [none,none,none,none,none,none] [] (vequal_at n m1 m2 c1 c2 e1 e2 h hn) Zx33 (by exact⟨.p,.p,trivial⟩) ?_
 refine Zr1 ?_
 exact Zv (v':=.bool true) (Hl:=z4++[Ob.rows n 7 (evG e1) 65 m1,Ob.rows n 7 (evG e2) 65 m2]) (c4 [4,5]) ⟨rfl,rfl⟩ Zx33
theorem vsameNil_at (t v s:Int):CallG Tryz.prog 19 [trV t v s .nils,trV t v s .nils] z4 fun v H=>v=.bool true/\H=z4:=by
 refine Ze Tryz.func19 rfl fun g w=>?_
 refine Zr13 ?_
 refine Zc [0,1,2,3] [none,none,none,none] [] (vequalNil_at) Zx2 Zx4 ?_
 refine Zr1 ?_
 exact Zv (v':=.bool true) (Hl:=z4) (c4 []) ⟨rfl,rfl⟩ Zx2
theorem vsame0_at (t v s:Int)(m1:Nat)(c1:Cap)(e1:Nat->Evt):CallG Tryz.prog 19 [trV t v s (.sl 4 0 7 0 c1),trV t v s .nils] (z4++[Ob.rows 0 7 (evG e1) 65 m1]) fun v H=>v=.bool true/\H=z4++[Ob.rows 0 7 (evG e1) 65 m1]:=by
 refine Ze Tryz.func19 rfl fun g w=>?_
 refine Zr13 ?_
 refine Zc [0,1,2,3,4] [none,none,none,none,none] [] (vequal0_at m1 c1 e1) Zx32 (by exact⟨.p,trivial⟩) ?_
 refine Zr1 ?_
 exact Zv (v':=.bool true) (Hl:=z4++[Ob.rows 0 7 (evG e1) 65 m1]) (c4 [4]) ⟨rfl,rfl⟩ Zx32
end Go.Proofs.YtgdmlkgjpcnelaaGreatDoor
