import Derived.Test.YtgdmlkgjpcnelaaGreatDoorTbQ
namespace Go.Proofs.YtgdmlkgjpcnelaaGreatDoor
open Go Go.Vc
set_option linter.unusedVariables false
set_option maxRecDepth 100000
set_option maxHeartbeats 1000000
noncomputable abbrev lw7 (k th tx at_ ev ex why:Int):Ob:=.row [.c (.ptr 4 0 0 0),.c (.int .u8 k),.c (.int .i64 th),.c (.int .i64 tx),.c (.int .i64 at_),.c (.int .i64 ev),.c (.int .i64 ex),.c (.int .u8 why),.c (.fn 147 [] [.ptr 6 0 0 0]),.c (.fn 148 [] [.ptr 6 0 0 0]),.c (.fn 146 [] [])] 248 0
theorem vwover1_at (c:Co)(t v s th tx at_ ev ex why:Int)(txt:List UInt8)(h:TellsP c ⟨1,th,tx,at_,ev,ex,why⟩ t v s)(hc:CoOk c t)(hx:-9223372036854775808<=ex/\ex<=9223372036854775807)(hs:txt.length<=700):CallG Tryz.prog 150 [.ptr 5 0 0 0] (z4++[coO c t v s,lw7 1 th tx at_ ev ex why,scO txt]) fun r H=>r=.tup []/\H=z4++[coO c t v s,lw7 1 th tx at_ ev ex why,scO (txt++encE t c ⟨1,th,tx,at_,ev,ex,why⟩)]:=by
 obtain⟨⟨q1,q2,q3,q4,q5,q6,q7,q8,q9,q10⟩,k1,k2,k5,k7⟩:=h
 dsimp only at q5 q6 q7 q8 k1 k2 k5 k7
 have hs32:1<=s/\s<=32:=⟨q3.1,by omega⟩
 have ha31:0<=at_/\at_<=31:=⟨q9.1,by have:at_<=s-1:=q9.2;omega⟩
 have q8:0<=ev/\ev<=1099511627776:=q8
 have ht6:0<=th/\th<6:=⟨q6.1,by omega⟩
 have hbg:=hc.begun th.toNat
 have hbu:=hc.bumped th.toNat
 have hcl:=hc.clock
 have hla:=hc.last
 have l1:=putB_len tx.toNat
 have l2:=putB_len at_.toNat
 obtain⟨g1,g2,g3⟩:=first_fwd q1 (k:=1) (th:=th) (last:=c.last) (by decide) ⟨q6.1,by omega⟩ hc.last
 unfold kindF at g2
 unfold thrF at g3
 have hm:0<=(th-c.last+t).tmod t/\(th-c.last+t).tmod t<t:=by rw[Int.tmod_eq_emod_of_nonneg (by omega)];exact⟨Int.emod_nonneg _ (by omega),Int.emod_lt_of_pos _ (by omega)⟩
 have hE:encE t c ⟨1,th,tx,at_,ev,ex,why⟩=putB ((1-1)*t+(th-c.last+t).tmod t).toNat++restE c ⟨1,th,tx,at_,ev,ex,why⟩:=rfl
 rw[hE]
 have t0:t≠0:=by omega
 refine Ze Tryz.func150 rfl fun g w=>?_
 refine Zw Zl1 ?_
 refine Zr0 ?_
 generalize (1-1)*t+(th-c.last+t).tmod t=F at g1 g2 g3 ⊢
 have l3:=putB_len F.toNat
 have hf:0<=F.tmod t/\F.tmod t<t:=by rw[Int.tmod_eq_emod_of_nonneg g1.1];exact⟨Int.emod_nonneg _ (by omega),Int.emod_lt_of_pos _ (by omega)⟩
 refine Zw Zl0 ?_
 refine Zr0 ?_
 refine Zd [0,1,2,3,6] [none,none,none,none,some (scO (txt++putB F.toNat))] [] (vwnum_at txt F (13*t-1) ⟨g1.1,by omega⟩ (by omega)) Zx3 Zx5 ?_
 refine Zw Zl2 ?_
 refine Zr0 ?_
 conv=>whnf
 rw[g2,g3]
 refine Zr5 ?_
 refine Zc [0,1,2,3,4,5,6] [none,none,none,none,none,none,some (scO (txt++putB F.toNat++putB tx.toNat++putB (ev-c.clock).toNat))] [] (vwbegin_at c t v s ⟨1,th,tx,at_,ev,ex,why⟩ (txt++putB F.toNat) q7 hcl ⟨k1 rfl,q8.2⟩ (by simp only[List.length_append];omega)) Zx6 Zx9 ?_
 conv=>whnf
 rw[show txt++(putB F.toNat++restE c ⟨1,th,tx,at_,ev,ex,why⟩)=txt++putB F.toNat++putB tx.toNat++putB (ev-c.clock).toNat by rw[show restE c ⟨1,th,tx,at_,ev,ex,why⟩=putB tx.toNat++putB (ev-c.clock).toNat from rfl];simp only[List.append_assoc]]
 exact Zv (v':=.tup []) (Hl:=z4++[coO c t v s,lw7 1 th tx at_ ev ex why,scO (txt++putB F.toNat++putB tx.toNat++putB (ev-c.clock).toNat)]) (c4 [4,5,6]) ⟨rfl,rfl⟩ Zx6
theorem vwover2_at (c:Co)(t v s th tx at_ ev ex why:Int)(txt:List UInt8)(h:TellsP c ⟨2,th,tx,at_,ev,ex,why⟩ t v s)(hc:CoOk c t)(hx:-9223372036854775808<=ex/\ex<=9223372036854775807)(hs:txt.length<=700):CallG Tryz.prog 150 [.ptr 5 0 0 0] (z4++[coO c t v s,lw7 2 th tx at_ ev ex why,scO txt]) fun r H=>r=.tup []/\H=z4++[coO c t v s,lw7 2 th tx at_ ev ex why,scO (txt++encE t c ⟨2,th,tx,at_,ev,ex,why⟩)]:=by
 obtain⟨⟨q1,q2,q3,q4,q5,q6,q7,q8,q9,q10⟩,k1,k2,k5,k7⟩:=h
 dsimp only at q5 q6 q7 q8 k1 k2 k5 k7
 have hs32:1<=s/\s<=32:=⟨q3.1,by omega⟩
 have ha31:0<=at_/\at_<=31:=⟨q9.1,by have:at_<=s-1:=q9.2;omega⟩
 have q8:0<=ev/\ev<=1099511627776:=q8
 have ht6:0<=th/\th<6:=⟨q6.1,by omega⟩
 have hbg:=hc.begun th.toNat
 have hbu:=hc.bumped th.toNat
 have hcl:=hc.clock
 have hla:=hc.last
 have l1:=putB_len tx.toNat
 have l2:=putB_len at_.toNat
 obtain⟨g1,g2,g3⟩:=first_fwd q1 (k:=2) (th:=th) (last:=c.last) (by decide) ⟨q6.1,by omega⟩ hc.last
 unfold kindF at g2
 unfold thrF at g3
 have hm:0<=(th-c.last+t).tmod t/\(th-c.last+t).tmod t<t:=by rw[Int.tmod_eq_emod_of_nonneg (by omega)];exact⟨Int.emod_nonneg _ (by omega),Int.emod_lt_of_pos _ (by omega)⟩
 have hE:encE t c ⟨2,th,tx,at_,ev,ex,why⟩=putB ((2-1)*t+(th-c.last+t).tmod t).toNat++restE c ⟨2,th,tx,at_,ev,ex,why⟩:=rfl
 rw[hE]
 have t0:t≠0:=by omega
 refine Ze Tryz.func150 rfl fun g w=>?_
 refine Zw Zl1 ?_
 refine Zr0 ?_
 generalize (2-1)*t+(th-c.last+t).tmod t=F at g1 g2 g3 ⊢
 have l3:=putB_len F.toNat
 have hf:0<=F.tmod t/\F.tmod t<t:=by rw[Int.tmod_eq_emod_of_nonneg g1.1];exact⟨Int.emod_nonneg _ (by omega),Int.emod_lt_of_pos _ (by omega)⟩
 refine Zw Zl0 ?_
 refine Zr0 ?_
 refine Zd [0,1,2,3,6] [none,none,none,none,some (scO (txt++putB F.toNat))] [] (vwnum_at txt F (13*t-1) ⟨g1.1,by omega⟩ (by omega)) Zx3 Zx5 ?_
 refine Zw Zl2 ?_
 refine Zr0 ?_
 conv=>whnf
 rw[g2,g3]
 refine Zr5 ?_
 refine Zc [0,1,2,3,4,5,6] [none,none,none,none,none,none,some (scO (txt++putB F.toNat++putB at_.toNat++putB (c.begun th.toNat-ev).toNat))] [] (vwlook_at c t v s ⟨2,th,tx,at_,ev,ex,why⟩ (txt++putB F.toNat) hs32 ha31 hbg ⟨q8.1,k2 rfl⟩ ht6 (by simp only[List.length_append];omega)) Zx6 Zx9 ?_
 conv=>whnf
 rw[show txt++(putB F.toNat++restE c ⟨2,th,tx,at_,ev,ex,why⟩)=txt++putB F.toNat++putB at_.toNat++putB (c.begun th.toNat-ev).toNat by rw[show restE c ⟨2,th,tx,at_,ev,ex,why⟩=putB at_.toNat++putB (c.begun th.toNat-ev).toNat from rfl];simp only[List.append_assoc]]
 exact Zv (v':=.tup []) (Hl:=z4++[coO c t v s,lw7 2 th tx at_ ev ex why,scO (txt++putB F.toNat++putB at_.toNat++putB (c.begun th.toNat-ev).toNat)]) (c4 [4,5,6]) ⟨rfl,rfl⟩ Zx6
theorem vwover3_at (c:Co)(t v s th tx at_ ev ex why:Int)(txt:List UInt8)(h:TellsP c ⟨3,th,tx,at_,ev,ex,why⟩ t v s)(hc:CoOk c t)(hx:-9223372036854775808<=ex/\ex<=9223372036854775807)(hs:txt.length<=700):CallG Tryz.prog 150 [.ptr 5 0 0 0] (z4++[coO c t v s,lw7 3 th tx at_ ev ex why,scO txt]) fun r H=>r=.tup []/\H=z4++[coO c t v s,lw7 3 th tx at_ ev ex why,scO (txt++encE t c ⟨3,th,tx,at_,ev,ex,why⟩)]:=by
 obtain⟨⟨q1,q2,q3,q4,q5,q6,q7,q8,q9,q10⟩,k1,k2,k5,k7⟩:=h
 dsimp only at q5 q6 q7 q8 k1 k2 k5 k7
 have hs32:1<=s/\s<=32:=⟨q3.1,by omega⟩
 have hav:0<=at_/\at_<v:=⟨q9.1,by have:at_<=v-1:=q9.2;omega⟩
 have q8:0<=ev/\ev<=1099511627776:=q8
 have ht6:0<=th/\th<6:=⟨q6.1,by omega⟩
 have hbg:=hc.begun th.toNat
 have hbu:=hc.bumped th.toNat
 have hcl:=hc.clock
 have hla:=hc.last
 have l1:=putB_len tx.toNat
 have l2:=putB_len at_.toNat
 obtain⟨g1,g2,g3⟩:=first_fwd q1 (k:=3) (th:=th) (last:=c.last) (by decide) ⟨q6.1,by omega⟩ hc.last
 unfold kindF at g2
 unfold thrF at g3
 have hm:0<=(th-c.last+t).tmod t/\(th-c.last+t).tmod t<t:=by rw[Int.tmod_eq_emod_of_nonneg (by omega)];exact⟨Int.emod_nonneg _ (by omega),Int.emod_lt_of_pos _ (by omega)⟩
 have hE:encE t c ⟨3,th,tx,at_,ev,ex,why⟩=putB ((3-1)*t+(th-c.last+t).tmod t).toNat++restE c ⟨3,th,tx,at_,ev,ex,why⟩:=rfl
 rw[hE]
 have t0:t≠0:=by omega
 refine Ze Tryz.func150 rfl fun g w=>?_
 refine Zw Zl1 ?_
 refine Zr0 ?_
 generalize (3-1)*t+(th-c.last+t).tmod t=F at g1 g2 g3 ⊢
 have l3:=putB_len F.toNat
 have hf:0<=F.tmod t/\F.tmod t<t:=by rw[Int.tmod_eq_emod_of_nonneg g1.1];exact⟨Int.emod_nonneg _ (by omega),Int.emod_lt_of_pos _ (by omega)⟩
 refine Zw Zl0 ?_
 refine Zr0 ?_
 refine Zd [0,1,2,3,6] [none,none,none,none,some (scO (txt++putB F.toNat))] [] (vwnum_at txt F (13*t-1) ⟨g1.1,by omega⟩ (by omega)) Zx3 Zx5 ?_
 refine Zw Zl2 ?_
 refine Zr0 ?_
 conv=>whnf
 rw[g2,g3]
 refine Zr5 ?_
 refine Zc [0,1,2,3,4,5,6] [none,none,none,none,none,none,some (scO (txt++putB F.toNat++putB at_.toNat++putB (zigI (IntKind.i64.wrap (ex-c.x at_.toNat))).toNat))] [] (vwvalue_at c t v s ⟨3,th,tx,at_,ev,ex,why⟩ (txt++putB F.toNat) q2 hav hx (by simp only[List.length_append];omega)) Zx6 Zx9 ?_
 conv=>whnf
 rw[show txt++(putB F.toNat++restE c ⟨3,th,tx,at_,ev,ex,why⟩)=txt++putB F.toNat++putB at_.toNat++putB (zigI (IntKind.i64.wrap (ex-c.x at_.toNat))).toNat by rw[show restE c ⟨3,th,tx,at_,ev,ex,why⟩=putB at_.toNat++putB (zigI (IntKind.i64.wrap (ex-c.x at_.toNat))).toNat from rfl];simp only[List.append_assoc]]
 exact Zv (v':=.tup []) (Hl:=z4++[coO c t v s,lw7 3 th tx at_ ev ex why,scO (txt++putB F.toNat++putB at_.toNat++putB (zigI (IntKind.i64.wrap (ex-c.x at_.toNat))).toNat)]) (c4 [4,5,6]) ⟨rfl,rfl⟩ Zx6
theorem vwover4_at (c:Co)(t v s th tx at_ ev ex why:Int)(txt:List UInt8)(h:TellsP c ⟨4,th,tx,at_,ev,ex,why⟩ t v s)(hc:CoOk c t)(hx:-9223372036854775808<=ex/\ex<=9223372036854775807)(hs:txt.length<=700):CallG Tryz.prog 150 [.ptr 5 0 0 0] (z4++[coO c t v s,lw7 4 th tx at_ ev ex why,scO txt]) fun r H=>r=.tup []/\H=z4++[coO c t v s,lw7 4 th tx at_ ev ex why,scO (txt++encE t c ⟨4,th,tx,at_,ev,ex,why⟩)]:=by
 obtain⟨⟨q1,q2,q3,q4,q5,q6,q7,q8,q9,q10⟩,k1,k2,k5,k7⟩:=h
 dsimp only at q5 q6 q7 q8 k1 k2 k5 k7
 have hs32:1<=s/\s<=32:=⟨q3.1,by omega⟩
 have ha31:0<=at_/\at_<=31:=⟨q9.1,by have:at_<=s-1:=q9.2;omega⟩
 have q8:0<=ev/\ev<=1099511627776:=q8
 have ht6:0<=th/\th<6:=⟨q6.1,by omega⟩
 have hbg:=hc.begun th.toNat
 have hbu:=hc.bumped th.toNat
 have hcl:=hc.clock
 have hla:=hc.last
 have l1:=putB_len tx.toNat
 have l2:=putB_len at_.toNat
 obtain⟨g1,g2,g3⟩:=first_fwd q1 (k:=4) (th:=th) (last:=c.last) (by decide) ⟨q6.1,by omega⟩ hc.last
 unfold kindF at g2
 unfold thrF at g3
 have hm:0<=(th-c.last+t).tmod t/\(th-c.last+t).tmod t<t:=by rw[Int.tmod_eq_emod_of_nonneg (by omega)];exact⟨Int.emod_nonneg _ (by omega),Int.emod_lt_of_pos _ (by omega)⟩
 have hE:encE t c ⟨4,th,tx,at_,ev,ex,why⟩=putB ((4-1)*t+(th-c.last+t).tmod t).toNat++restE c ⟨4,th,tx,at_,ev,ex,why⟩:=rfl
 rw[hE]
 have t0:t≠0:=by omega
 refine Ze Tryz.func150 rfl fun g w=>?_
 refine Zw Zl1 ?_
 refine Zr0 ?_
 generalize (4-1)*t+(th-c.last+t).tmod t=F at g1 g2 g3 ⊢
 have l3:=putB_len F.toNat
 have hf:0<=F.tmod t/\F.tmod t<t:=by rw[Int.tmod_eq_emod_of_nonneg g1.1];exact⟨Int.emod_nonneg _ (by omega),Int.emod_lt_of_pos _ (by omega)⟩
 refine Zw Zl0 ?_
 refine Zr0 ?_
 refine Zd [0,1,2,3,6] [none,none,none,none,some (scO (txt++putB F.toNat))] [] (vwnum_at txt F (13*t-1) ⟨g1.1,by omega⟩ (by omega)) Zx3 Zx5 ?_
 refine Zw Zl2 ?_
 refine Zr0 ?_
 conv=>whnf
 rw[g2,g3]
 refine Zr5 ?_
 refine Zc [0,1,2,3,4,5,6] [none,none,none,none,none,none,some (scO (txt++putB F.toNat++putB at_.toNat))] [] (vwstripe_at c t v s ⟨4,th,tx,at_,ev,ex,why⟩ (txt++putB F.toNat) hs32 ha31 (by simp only[List.length_append];omega)) Zx6 Zx9 ?_
 conv=>whnf
 rw[show txt++(putB F.toNat++restE c ⟨4,th,tx,at_,ev,ex,why⟩)=txt++putB F.toNat++putB at_.toNat by rw[show restE c ⟨4,th,tx,at_,ev,ex,why⟩=putB at_.toNat from rfl];simp only[List.append_assoc]]
 exact Zv (v':=.tup []) (Hl:=z4++[coO c t v s,lw7 4 th tx at_ ev ex why,scO (txt++putB F.toNat++putB at_.toNat)]) (c4 [4,5,6]) ⟨rfl,rfl⟩ Zx6
theorem vwover5_at (c:Co)(t v s th tx at_ ev ex why:Int)(txt:List UInt8)(h:TellsP c ⟨5,th,tx,at_,ev,ex,why⟩ t v s)(hc:CoOk c t)(hx:-9223372036854775808<=ex/\ex<=9223372036854775807)(hs:txt.length<=700):CallG Tryz.prog 150 [.ptr 5 0 0 0] (z4++[coO c t v s,lw7 5 th tx at_ ev ex why,scO txt]) fun r H=>r=.tup []/\H=z4++[coO c t v s,lw7 5 th tx at_ ev ex why,scO (txt++encE t c ⟨5,th,tx,at_,ev,ex,why⟩)]:=by
 obtain⟨⟨q1,q2,q3,q4,q5,q6,q7,q8,q9,q10⟩,k1,k2,k5,k7⟩:=h
 dsimp only at q5 q6 q7 q8 k1 k2 k5 k7
 have hs32:1<=s/\s<=32:=⟨q3.1,by omega⟩
 have ha31:0<=at_/\at_<=31:=⟨q9.1,by have:at_<=s-1:=q9.2;omega⟩
 have ht6:0<=th/\th<6:=⟨q6.1,by omega⟩
 have hbg:=hc.begun th.toNat
 have hbu:=hc.bumped th.toNat
 have hcl:=hc.clock
 have hla:=hc.last
 have l1:=putB_len tx.toNat
 have l2:=putB_len at_.toNat
 obtain⟨g1,g2,g3⟩:=first_fwd q1 (k:=5) (th:=th) (last:=c.last) (by decide) ⟨q6.1,by omega⟩ hc.last
 unfold kindF at g2
 unfold thrF at g3
 have hm:0<=(th-c.last+t).tmod t/\(th-c.last+t).tmod t<t:=by rw[Int.tmod_eq_emod_of_nonneg (by omega)];exact⟨Int.emod_nonneg _ (by omega),Int.emod_lt_of_pos _ (by omega)⟩
 have hE:encE t c ⟨5,th,tx,at_,ev,ex,why⟩=putB ((5-1)*t+(th-c.last+t).tmod t).toNat++restE c ⟨5,th,tx,at_,ev,ex,why⟩:=rfl
 rw[hE]
 have t0:t≠0:=by omega
 refine Ze Tryz.func150 rfl fun g w=>?_
 refine Zw Zl1 ?_
 refine Zr0 ?_
 generalize (5-1)*t+(th-c.last+t).tmod t=F at g1 g2 g3 ⊢
 have l3:=putB_len F.toNat
 have hf:0<=F.tmod t/\F.tmod t<t:=by rw[Int.tmod_eq_emod_of_nonneg g1.1];exact⟨Int.emod_nonneg _ (by omega),Int.emod_lt_of_pos _ (by omega)⟩
 refine Zw Zl0 ?_
 refine Zr0 ?_
 refine Zd [0,1,2,3,6] [none,none,none,none,some (scO (txt++putB F.toNat))] [] (vwnum_at txt F (13*t-1) ⟨g1.1,by omega⟩ (by omega)) Zx3 Zx5 ?_
 refine Zw Zl2 ?_
 refine Zr0 ?_
 conv=>whnf
 rw[g2,g3]
 refine Zr5 ?_
 refine Zc [0,1,2,3,4,5,6] [none,none,none,none,none,none,some (scO (txt++putB F.toNat++putB (ev-c.clock).toNat))] [] (vwbump_at c t v s ⟨5,th,tx,at_,ev,ex,why⟩ (txt++putB F.toNat) hcl ⟨k5 rfl,q8.2⟩ (by simp only[List.length_append];omega)) Zx6 Zx9 ?_
 conv=>whnf
 rw[show txt++(putB F.toNat++restE c ⟨5,th,tx,at_,ev,ex,why⟩)=txt++putB F.toNat++putB (ev-c.clock).toNat by rw[show restE c ⟨5,th,tx,at_,ev,ex,why⟩=putB (ev-c.clock).toNat from rfl];simp only[List.append_assoc]]
 exact Zv (v':=.tup []) (Hl:=z4++[coO c t v s,lw7 5 th tx at_ ev ex why,scO (txt++putB F.toNat++putB (ev-c.clock).toNat)]) (c4 [4,5,6]) ⟨rfl,rfl⟩ Zx6
theorem vwover6_at (c:Co)(t v s th tx at_ ev ex why:Int)(txt:List UInt8)(h:TellsP c ⟨6,th,tx,at_,ev,ex,why⟩ t v s)(hc:CoOk c t)(hx:-9223372036854775808<=ex/\ex<=9223372036854775807)(hs:txt.length<=700):CallG Tryz.prog 150 [.ptr 5 0 0 0] (z4++[coO c t v s,lw7 6 th tx at_ ev ex why,scO txt]) fun r H=>r=.tup []/\H=z4++[coO c t v s,lw7 6 th tx at_ ev ex why,scO (txt++encE t c ⟨6,th,tx,at_,ev,ex,why⟩)]:=by
 obtain⟨⟨q1,q2,q3,q4,q5,q6,q7,q8,q9,q10⟩,k1,k2,k5,k7⟩:=h
 dsimp only at q5 q6 q7 q8 k1 k2 k5 k7
 have hs32:1<=s/\s<=32:=⟨q3.1,by omega⟩
 have ha31:0<=at_/\at_<=31:=⟨q9.1,by have:at_<=s-1:=q9.2;omega⟩
 have q8:0<=ev/\ev<=1099511627776:=q8
 have ht6:0<=th/\th<6:=⟨q6.1,by omega⟩
 have hbg:=hc.begun th.toNat
 have hbu:=hc.bumped th.toNat
 have hcl:=hc.clock
 have hla:=hc.last
 have l1:=putB_len tx.toNat
 have l2:=putB_len at_.toNat
 obtain⟨g1,g2,g3⟩:=first_fwd q1 (k:=6) (th:=th) (last:=c.last) (by decide) ⟨q6.1,by omega⟩ hc.last
 unfold kindF at g2
 unfold thrF at g3
 have hm:0<=(th-c.last+t).tmod t/\(th-c.last+t).tmod t<t:=by rw[Int.tmod_eq_emod_of_nonneg (by omega)];exact⟨Int.emod_nonneg _ (by omega),Int.emod_lt_of_pos _ (by omega)⟩
 have hE:encE t c ⟨6,th,tx,at_,ev,ex,why⟩=putB ((6-1)*t+(th-c.last+t).tmod t).toNat++restE c ⟨6,th,tx,at_,ev,ex,why⟩:=rfl
 rw[hE]
 have t0:t≠0:=by omega
 refine Ze Tryz.func150 rfl fun g w=>?_
 refine Zw Zl1 ?_
 refine Zr0 ?_
 generalize (6-1)*t+(th-c.last+t).tmod t=F at g1 g2 g3 ⊢
 have l3:=putB_len F.toNat
 have hf:0<=F.tmod t/\F.tmod t<t:=by rw[Int.tmod_eq_emod_of_nonneg g1.1];exact⟨Int.emod_nonneg _ (by omega),Int.emod_lt_of_pos _ (by omega)⟩
 refine Zw Zl0 ?_
 refine Zr0 ?_
 refine Zd [0,1,2,3,6] [none,none,none,none,some (scO (txt++putB F.toNat))] [] (vwnum_at txt F (13*t-1) ⟨g1.1,by omega⟩ (by omega)) Zx3 Zx5 ?_
 refine Zw Zl2 ?_
 refine Zr0 ?_
 conv=>whnf
 rw[g2,g3]
 refine Zr5 ?_
 refine Zc [0,1,2,3,4,5,6] [none,none,none,none,none,none,some (scO (txt++putB F.toNat++putB at_.toNat))] [] (vwstripe_at c t v s ⟨6,th,tx,at_,ev,ex,why⟩ (txt++putB F.toNat) hs32 ha31 (by simp only[List.length_append];omega)) Zx6 Zx9 ?_
 conv=>whnf
 rw[show txt++(putB F.toNat++restE c ⟨6,th,tx,at_,ev,ex,why⟩)=txt++putB F.toNat++putB at_.toNat by rw[show restE c ⟨6,th,tx,at_,ev,ex,why⟩=putB at_.toNat from rfl];simp only[List.append_assoc]]
 exact Zv (v':=.tup []) (Hl:=z4++[coO c t v s,lw7 6 th tx at_ ev ex why,scO (txt++putB F.toNat++putB at_.toNat)]) (c4 [4,5,6]) ⟨rfl,rfl⟩ Zx6
theorem vwover7_at (c:Co)(t v s th tx at_ ev ex why:Int)(txt:List UInt8)(h:TellsP c ⟨7,th,tx,at_,ev,ex,why⟩ t v s)(hc:CoOk c t)(hx:-9223372036854775808<=ex/\ex<=9223372036854775807)(hs:txt.length<=700):CallG Tryz.prog 150 [.ptr 5 0 0 0] (z4++[coO c t v s,lw7 7 th tx at_ ev ex why,scO txt]) fun r H=>r=.tup []/\H=z4++[coO c t v s,lw7 7 th tx at_ ev ex why,scO (txt++encE t c ⟨7,th,tx,at_,ev,ex,why⟩)]:=by
 obtain⟨⟨q1,q2,q3,q4,q5,q6,q7,q8,q9,q10⟩,k1,k2,k5,k7⟩:=h
 dsimp only at q5 q6 q7 q8 k1 k2 k5 k7
 have hs32:1<=s/\s<=32:=⟨q3.1,by omega⟩
 have ha31:0<=at_/\at_<=31:=⟨q9.1,by have:at_<=s-1:=q9.2;omega⟩
 have q8:0<=ev/\ev<=1099511627776:=q8
 have ht6:0<=th/\th<6:=⟨q6.1,by omega⟩
 have hbg:=hc.begun th.toNat
 have hbu:=hc.bumped th.toNat
 have hcl:=hc.clock
 have hla:=hc.last
 have l1:=putB_len tx.toNat
 have l2:=putB_len at_.toNat
 obtain⟨g1,g2,g3⟩:=first_fwd q1 (k:=7) (th:=th) (last:=c.last) (by decide) ⟨q6.1,by omega⟩ hc.last
 unfold kindF at g2
 unfold thrF at g3
 have hm:0<=(th-c.last+t).tmod t/\(th-c.last+t).tmod t<t:=by rw[Int.tmod_eq_emod_of_nonneg (by omega)];exact⟨Int.emod_nonneg _ (by omega),Int.emod_lt_of_pos _ (by omega)⟩
 have hE:encE t c ⟨7,th,tx,at_,ev,ex,why⟩=putB ((7-1)*t+(th-c.last+t).tmod t).toNat++restE c ⟨7,th,tx,at_,ev,ex,why⟩:=rfl
 rw[hE]
 have t0:t≠0:=by omega
 refine Ze Tryz.func150 rfl fun g w=>?_
 refine Zw Zl1 ?_
 refine Zr0 ?_
 generalize (7-1)*t+(th-c.last+t).tmod t=F at g1 g2 g3 ⊢
 have l3:=putB_len F.toNat
 have hf:0<=F.tmod t/\F.tmod t<t:=by rw[Int.tmod_eq_emod_of_nonneg g1.1];exact⟨Int.emod_nonneg _ (by omega),Int.emod_lt_of_pos _ (by omega)⟩
 refine Zw Zl0 ?_
 refine Zr0 ?_
 refine Zd [0,1,2,3,6] [none,none,none,none,some (scO (txt++putB F.toNat))] [] (vwnum_at txt F (13*t-1) ⟨g1.1,by omega⟩ (by omega)) Zx3 Zx5 ?_
 refine Zw Zl2 ?_
 refine Zr0 ?_
 conv=>whnf
 rw[g2,g3]
 refine Zr5 ?_
 refine Zc [0,1,2,3,4,5,6] [none,none,none,none,none,none,some (scO (txt++putB F.toNat++putB (min ev 1).toNat))] [] (vwcommit_at c t v s ⟨7,th,tx,at_,ev,ex,why⟩ (txt++putB F.toNat) hbu.1 (k7 rfl) ht6 (by simp only[List.length_append];omega)) Zx6 Zx9 ?_
 conv=>whnf
 rw[show txt++(putB F.toNat++restE c ⟨7,th,tx,at_,ev,ex,why⟩)=txt++putB F.toNat++putB (min ev 1).toNat by rw[show restE c ⟨7,th,tx,at_,ev,ex,why⟩=putB (min ev 1).toNat from rfl];simp only[List.append_assoc]]
 exact Zv (v':=.tup []) (Hl:=z4++[coO c t v s,lw7 7 th tx at_ ev ex why,scO (txt++putB F.toNat++putB (min ev 1).toNat)]) (c4 [4,5,6]) ⟨rfl,rfl⟩ Zx6
theorem vwover8_at (c:Co)(t v s th tx at_ ev ex why:Int)(txt:List UInt8)(h:TellsP c ⟨8,th,tx,at_,ev,ex,why⟩ t v s)(hc:CoOk c t)(hx:-9223372036854775808<=ex/\ex<=9223372036854775807)(hs:txt.length<=700):CallG Tryz.prog 150 [.ptr 5 0 0 0] (z4++[coO c t v s,lw7 8 th tx at_ ev ex why,scO txt]) fun r H=>r=.tup []/\H=z4++[coO c t v s,lw7 8 th tx at_ ev ex why,scO (txt++encE t c ⟨8,th,tx,at_,ev,ex,why⟩)]:=by
 obtain⟨⟨q1,q2,q3,q4,q5,q6,q7,q8,q9,q10⟩,k1,k2,k5,k7⟩:=h
 dsimp only at q5 q6 q7 q8 k1 k2 k5 k7
 have hs32:1<=s/\s<=32:=⟨q3.1,by omega⟩
 have hav:0<=at_/\at_<v:=⟨q9.1,by have:at_<=v-1:=q9.2;omega⟩
 have q8:0<=ev/\ev<=1099511627776:=q8
 have ht6:0<=th/\th<6:=⟨q6.1,by omega⟩
 have hbg:=hc.begun th.toNat
 have hbu:=hc.bumped th.toNat
 have hcl:=hc.clock
 have hla:=hc.last
 have l1:=putB_len tx.toNat
 have l2:=putB_len at_.toNat
 obtain⟨g1,g2,g3⟩:=first_fwd q1 (k:=8) (th:=th) (last:=c.last) (by decide) ⟨q6.1,by omega⟩ hc.last
 unfold kindF at g2
 unfold thrF at g3
 have hm:0<=(th-c.last+t).tmod t/\(th-c.last+t).tmod t<t:=by rw[Int.tmod_eq_emod_of_nonneg (by omega)];exact⟨Int.emod_nonneg _ (by omega),Int.emod_lt_of_pos _ (by omega)⟩
 have hE:encE t c ⟨8,th,tx,at_,ev,ex,why⟩=putB ((8-1)*t+(th-c.last+t).tmod t).toNat++restE c ⟨8,th,tx,at_,ev,ex,why⟩:=rfl
 rw[hE]
 have t0:t≠0:=by omega
 refine Ze Tryz.func150 rfl fun g w=>?_
 refine Zw Zl1 ?_
 refine Zr0 ?_
 generalize (8-1)*t+(th-c.last+t).tmod t=F at g1 g2 g3 ⊢
 have l3:=putB_len F.toNat
 have hf:0<=F.tmod t/\F.tmod t<t:=by rw[Int.tmod_eq_emod_of_nonneg g1.1];exact⟨Int.emod_nonneg _ (by omega),Int.emod_lt_of_pos _ (by omega)⟩
 refine Zw Zl0 ?_
 refine Zr0 ?_
 refine Zd [0,1,2,3,6] [none,none,none,none,some (scO (txt++putB F.toNat))] [] (vwnum_at txt F (13*t-1) ⟨g1.1,by omega⟩ (by omega)) Zx3 Zx5 ?_
 refine Zw Zl2 ?_
 refine Zr0 ?_
 conv=>whnf
 rw[g2,g3]
 refine Zr5 ?_
 refine Zc [0,1,2,3,4,5,6] [none,none,none,none,none,none,some (scO (txt++putB F.toNat++putB at_.toNat++putB (zigI (IntKind.i64.wrap (ex-c.x at_.toNat))).toNat))] [] (vwvalue_at c t v s ⟨8,th,tx,at_,ev,ex,why⟩ (txt++putB F.toNat) q2 hav hx (by simp only[List.length_append];omega)) Zx6 Zx9 ?_
 conv=>whnf
 rw[show txt++(putB F.toNat++restE c ⟨8,th,tx,at_,ev,ex,why⟩)=txt++putB F.toNat++putB at_.toNat++putB (zigI (IntKind.i64.wrap (ex-c.x at_.toNat))).toNat by rw[show restE c ⟨8,th,tx,at_,ev,ex,why⟩=putB at_.toNat++putB (zigI (IntKind.i64.wrap (ex-c.x at_.toNat))).toNat from rfl];simp only[List.append_assoc]]
 exact Zv (v':=.tup []) (Hl:=z4++[coO c t v s,lw7 8 th tx at_ ev ex why,scO (txt++putB F.toNat++putB at_.toNat++putB (zigI (IntKind.i64.wrap (ex-c.x at_.toNat))).toNat)]) (c4 [4,5,6]) ⟨rfl,rfl⟩ Zx6
theorem vwover9_at (c:Co)(t v s th tx at_ ev ex why:Int)(txt:List UInt8)(h:TellsP c ⟨9,th,tx,at_,ev,ex,why⟩ t v s)(hc:CoOk c t)(hx:-9223372036854775808<=ex/\ex<=9223372036854775807)(hs:txt.length<=700):CallG Tryz.prog 150 [.ptr 5 0 0 0] (z4++[coO c t v s,lw7 9 th tx at_ ev ex why,scO txt]) fun r H=>r=.tup []/\H=z4++[coO c t v s,lw7 9 th tx at_ ev ex why,scO (txt++encE t c ⟨9,th,tx,at_,ev,ex,why⟩)]:=by
 obtain⟨⟨q1,q2,q3,q4,q5,q6,q7,q8,q9,q10⟩,k1,k2,k5,k7⟩:=h
 dsimp only at q5 q6 q7 q8 k1 k2 k5 k7
 have hs32:1<=s/\s<=32:=⟨q3.1,by omega⟩
 have ha31:0<=at_/\at_<=31:=⟨q9.1,by have:at_<=s-1:=q9.2;omega⟩
 have q8:0<=ev/\ev<=1099511627776:=q8
 have ht6:0<=th/\th<6:=⟨q6.1,by omega⟩
 have hbg:=hc.begun th.toNat
 have hbu:=hc.bumped th.toNat
 have hcl:=hc.clock
 have hla:=hc.last
 have l1:=putB_len tx.toNat
 have l2:=putB_len at_.toNat
 obtain⟨g1,g2,g3⟩:=first_fwd q1 (k:=9) (th:=th) (last:=c.last) (by decide) ⟨q6.1,by omega⟩ hc.last
 unfold kindF at g2
 unfold thrF at g3
 have hm:0<=(th-c.last+t).tmod t/\(th-c.last+t).tmod t<t:=by rw[Int.tmod_eq_emod_of_nonneg (by omega)];exact⟨Int.emod_nonneg _ (by omega),Int.emod_lt_of_pos _ (by omega)⟩
 have hE:encE t c ⟨9,th,tx,at_,ev,ex,why⟩=putB ((9-1)*t+(th-c.last+t).tmod t).toNat++restE c ⟨9,th,tx,at_,ev,ex,why⟩:=rfl
 rw[hE]
 have t0:t≠0:=by omega
 refine Ze Tryz.func150 rfl fun g w=>?_
 refine Zw Zl1 ?_
 refine Zr0 ?_
 generalize (9-1)*t+(th-c.last+t).tmod t=F at g1 g2 g3 ⊢
 have l3:=putB_len F.toNat
 have hf:0<=F.tmod t/\F.tmod t<t:=by rw[Int.tmod_eq_emod_of_nonneg g1.1];exact⟨Int.emod_nonneg _ (by omega),Int.emod_lt_of_pos _ (by omega)⟩
 refine Zw Zl0 ?_
 refine Zr0 ?_
 refine Zd [0,1,2,3,6] [none,none,none,none,some (scO (txt++putB F.toNat))] [] (vwnum_at txt F (13*t-1) ⟨g1.1,by omega⟩ (by omega)) Zx3 Zx5 ?_
 refine Zw Zl2 ?_
 refine Zr0 ?_
 conv=>whnf
 rw[g2,g3]
 refine Zr5 ?_
 refine Zc [0,1,2,3,4,5,6] [none,none,none,none,none,none,some (scO (txt++putB F.toNat++putB at_.toNat))] [] (vwstripe_at c t v s ⟨9,th,tx,at_,ev,ex,why⟩ (txt++putB F.toNat) hs32 ha31 (by simp only[List.length_append];omega)) Zx6 Zx9 ?_
 conv=>whnf
 rw[show txt++(putB F.toNat++restE c ⟨9,th,tx,at_,ev,ex,why⟩)=txt++putB F.toNat++putB at_.toNat by rw[show restE c ⟨9,th,tx,at_,ev,ex,why⟩=putB at_.toNat from rfl];simp only[List.append_assoc]]
 exact Zv (v':=.tup []) (Hl:=z4++[coO c t v s,lw7 9 th tx at_ ev ex why,scO (txt++putB F.toNat++putB at_.toNat)]) (c4 [4,5,6]) ⟨rfl,rfl⟩ Zx6
theorem vwover10_at (c:Co)(t v s th tx at_ ev ex why:Int)(txt:List UInt8)(h:TellsP c ⟨10,th,tx,at_,ev,ex,why⟩ t v s)(hc:CoOk c t)(hx:-9223372036854775808<=ex/\ex<=9223372036854775807)(hs:txt.length<=700):CallG Tryz.prog 150 [.ptr 5 0 0 0] (z4++[coO c t v s,lw7 10 th tx at_ ev ex why,scO txt]) fun r H=>r=.tup []/\H=z4++[coO c t v s,lw7 10 th tx at_ ev ex why,scO (txt++encE t c ⟨10,th,tx,at_,ev,ex,why⟩)]:=by
 obtain⟨⟨q1,q2,q3,q4,q5,q6,q7,q8,q9,q10⟩,k1,k2,k5,k7⟩:=h
 dsimp only at q5 q6 q7 q8 k1 k2 k5 k7
 have hs32:1<=s/\s<=32:=⟨q3.1,by omega⟩
 have ha31:0<=at_/\at_<=31:=⟨q9.1,by
  have h9:at_<=placesE ⟨10,th,tx,at_,ev,ex,why⟩ v s-1:=q9.2
  unfold placesE at h9
  rw[if_neg (show ¬((10:Int)=3\/(10:Int)=8) by decide)]at h9
  split at h9<;>omega⟩
 have q8:0<=ev/\ev<=1099511627776:=q8
 have ht6:0<=th/\th<6:=⟨q6.1,by omega⟩
 have hbg:=hc.begun th.toNat
 have hbu:=hc.bumped th.toNat
 have hcl:=hc.clock
 have hla:=hc.last
 have l1:=putB_len tx.toNat
 have l2:=putB_len at_.toNat
 obtain⟨g1,g2,g3⟩:=first_fwd q1 (k:=10) (th:=th) (last:=c.last) (by decide) ⟨q6.1,by omega⟩ hc.last
 unfold kindF at g2
 unfold thrF at g3
 have hm:0<=(th-c.last+t).tmod t/\(th-c.last+t).tmod t<t:=by rw[Int.tmod_eq_emod_of_nonneg (by omega)];exact⟨Int.emod_nonneg _ (by omega),Int.emod_lt_of_pos _ (by omega)⟩
 have hE:encE t c ⟨10,th,tx,at_,ev,ex,why⟩=putB ((10-1)*t+(th-c.last+t).tmod t).toNat++restE c ⟨10,th,tx,at_,ev,ex,why⟩:=rfl
 rw[hE]
 have t0:t≠0:=by omega
 refine Ze Tryz.func150 rfl fun g w=>?_
 refine Zw Zl1 ?_
 refine Zr0 ?_
 generalize (10-1)*t+(th-c.last+t).tmod t=F at g1 g2 g3 ⊢
 have l3:=putB_len F.toNat
 have hf:0<=F.tmod t/\F.tmod t<t:=by rw[Int.tmod_eq_emod_of_nonneg g1.1];exact⟨Int.emod_nonneg _ (by omega),Int.emod_lt_of_pos _ (by omega)⟩
 refine Zw Zl0 ?_
 refine Zr0 ?_
 refine Zd [0,1,2,3,6] [none,none,none,none,some (scO (txt++putB F.toNat))] [] (vwnum_at txt F (13*t-1) ⟨g1.1,by omega⟩ (by omega)) Zx3 Zx5 ?_
 refine Zw Zl2 ?_
 refine Zr0 ?_
 conv=>whnf
 rw[g2,g3]
 refine Zr5 ?_
 refine Zc [0,1,2,3,4,5,6] [none,none,none,none,none,none,some (scO (txt++putB F.toNat++putB (why-1).toNat++(if why=6 then []else putB at_.toNat)))] [] (vwabort_at c t v s ⟨10,th,tx,at_,ev,ex,why⟩ (txt++putB F.toNat) hs32 (q5 rfl) ha31 (by simp only[List.length_append];omega)) Zx6 Zx9 ?_
 conv=>whnf
 rw[show txt++(putB F.toNat++restE c ⟨10,th,tx,at_,ev,ex,why⟩)=txt++putB F.toNat++putB (why-1).toNat++(if why=6 then []else putB at_.toNat) by rw[show restE c ⟨10,th,tx,at_,ev,ex,why⟩=putB (why-1).toNat++(if why=6 then []else putB at_.toNat)from rfl];simp only[List.append_assoc]]
 exact Zv (v':=.tup []) (Hl:=z4++[coO c t v s,lw7 10 th tx at_ ev ex why,scO (txt++putB F.toNat++putB (why-1).toNat++(if why=6 then []else putB at_.toNat))]) (c4 [4,5,6]) ⟨rfl,rfl⟩ Zx6
theorem vwover11_at (c:Co)(t v s th tx at_ ev ex why:Int)(txt:List UInt8)(h:TellsP c ⟨11,th,tx,at_,ev,ex,why⟩ t v s)(hc:CoOk c t)(hx:-9223372036854775808<=ex/\ex<=9223372036854775807)(hs:txt.length<=700):CallG Tryz.prog 150 [.ptr 5 0 0 0] (z4++[coO c t v s,lw7 11 th tx at_ ev ex why,scO txt]) fun r H=>r=.tup []/\H=z4++[coO c t v s,lw7 11 th tx at_ ev ex why,scO (txt++encE t c ⟨11,th,tx,at_,ev,ex,why⟩)]:=by
 obtain⟨⟨q1,q2,q3,q4,q5,q6,q7,q8,q9,q10⟩,k1,k2,k5,k7⟩:=h
 dsimp only at q5 q6 q7 q8 k1 k2 k5 k7
 have hs32:1<=s/\s<=32:=⟨q3.1,by omega⟩
 have ha31:0<=at_/\at_<=31:=⟨q9.1,by have:at_<=s-1:=q9.2;omega⟩
 have q8:0<=ev/\ev<=1099511627776:=q8
 have ht6:0<=th/\th<6:=⟨q6.1,by omega⟩
 have hbg:=hc.begun th.toNat
 have hbu:=hc.bumped th.toNat
 have hcl:=hc.clock
 have hla:=hc.last
 have l1:=putB_len tx.toNat
 have l2:=putB_len at_.toNat
 obtain⟨g1,g2,g3⟩:=first_fwd q1 (k:=11) (th:=th) (last:=c.last) (by decide) ⟨q6.1,by omega⟩ hc.last
 unfold kindF at g2
 unfold thrF at g3
 have hm:0<=(th-c.last+t).tmod t/\(th-c.last+t).tmod t<t:=by rw[Int.tmod_eq_emod_of_nonneg (by omega)];exact⟨Int.emod_nonneg _ (by omega),Int.emod_lt_of_pos _ (by omega)⟩
 have hE:encE t c ⟨11,th,tx,at_,ev,ex,why⟩=putB ((11-1)*t+(th-c.last+t).tmod t).toNat++restE c ⟨11,th,tx,at_,ev,ex,why⟩:=rfl
 rw[hE]
 have t0:t≠0:=by omega
 refine Ze Tryz.func150 rfl fun g w=>?_
 refine Zw Zl1 ?_
 refine Zr0 ?_
 generalize (11-1)*t+(th-c.last+t).tmod t=F at g1 g2 g3 ⊢
 have l3:=putB_len F.toNat
 have hf:0<=F.tmod t/\F.tmod t<t:=by rw[Int.tmod_eq_emod_of_nonneg g1.1];exact⟨Int.emod_nonneg _ (by omega),Int.emod_lt_of_pos _ (by omega)⟩
 refine Zw Zl0 ?_
 refine Zr0 ?_
 refine Zd [0,1,2,3,6] [none,none,none,none,some (scO (txt++putB F.toNat))] [] (vwnum_at txt F (13*t-1) ⟨g1.1,by omega⟩ (by omega)) Zx3 Zx5 ?_
 refine Zw Zl2 ?_
 refine Zr0 ?_
 conv=>whnf
 rw[g2,g3]
 refine Zr5 ?_
 refine Zc [0,1,2,3,4,5,6] [none,none,none,none,none,none,some (scO (txt++putB F.toNat++putB at_.toNat))] [] (vwstripe_at c t v s ⟨11,th,tx,at_,ev,ex,why⟩ (txt++putB F.toNat) hs32 ha31 (by simp only[List.length_append];omega)) Zx6 Zx9 ?_
 conv=>whnf
 rw[show txt++(putB F.toNat++restE c ⟨11,th,tx,at_,ev,ex,why⟩)=txt++putB F.toNat++putB at_.toNat by rw[show restE c ⟨11,th,tx,at_,ev,ex,why⟩=putB at_.toNat from rfl];simp only[List.append_assoc]]
 exact Zv (v':=.tup []) (Hl:=z4++[coO c t v s,lw7 11 th tx at_ ev ex why,scO (txt++putB F.toNat++putB at_.toNat)]) (c4 [4,5,6]) ⟨rfl,rfl⟩ Zx6
theorem vwover12_at (c:Co)(t v s th tx at_ ev ex why:Int)(txt:List UInt8)(h:TellsP c ⟨12,th,tx,at_,ev,ex,why⟩ t v s)(hc:CoOk c t)(hx:-9223372036854775808<=ex/\ex<=9223372036854775807)(hs:txt.length<=700):CallG Tryz.prog 150 [.ptr 5 0 0 0] (z4++[coO c t v s,lw7 12 th tx at_ ev ex why,scO txt]) fun r H=>r=.tup []/\H=z4++[coO c t v s,lw7 12 th tx at_ ev ex why,scO (txt++encE t c ⟨12,th,tx,at_,ev,ex,why⟩)]:=by
 obtain⟨⟨q1,q2,q3,q4,q5,q6,q7,q8,q9,q10⟩,k1,k2,k5,k7⟩:=h
 dsimp only at q5 q6 q7 q8 k1 k2 k5 k7
 have hs32:1<=s/\s<=32:=⟨q3.1,by omega⟩
 have ha31:0<=at_/\at_<=31:=⟨q9.1,by have:at_<=s-1:=q9.2;omega⟩
 have q8:0<=ev/\ev<=1099511627776:=q8
 have ht6:0<=th/\th<6:=⟨q6.1,by omega⟩
 have hbg:=hc.begun th.toNat
 have hbu:=hc.bumped th.toNat
 have hcl:=hc.clock
 have hla:=hc.last
 have l1:=putB_len tx.toNat
 have l2:=putB_len at_.toNat
 obtain⟨g1,g2,g3⟩:=first_fwd q1 (k:=12) (th:=th) (last:=c.last) (by decide) ⟨q6.1,by omega⟩ hc.last
 unfold kindF at g2
 unfold thrF at g3
 have hm:0<=(th-c.last+t).tmod t/\(th-c.last+t).tmod t<t:=by rw[Int.tmod_eq_emod_of_nonneg (by omega)];exact⟨Int.emod_nonneg _ (by omega),Int.emod_lt_of_pos _ (by omega)⟩
 have hE:encE t c ⟨12,th,tx,at_,ev,ex,why⟩=putB ((12-1)*t+(th-c.last+t).tmod t).toNat++restE c ⟨12,th,tx,at_,ev,ex,why⟩:=rfl
 rw[hE]
 have t0:t≠0:=by omega
 refine Ze Tryz.func150 rfl fun g w=>?_
 refine Zw Zl1 ?_
 refine Zr0 ?_
 generalize (12-1)*t+(th-c.last+t).tmod t=F at g1 g2 g3 ⊢
 have l3:=putB_len F.toNat
 have hf:0<=F.tmod t/\F.tmod t<t:=by rw[Int.tmod_eq_emod_of_nonneg g1.1];exact⟨Int.emod_nonneg _ (by omega),Int.emod_lt_of_pos _ (by omega)⟩
 refine Zw Zl0 ?_
 refine Zr0 ?_
 refine Zd [0,1,2,3,6] [none,none,none,none,some (scO (txt++putB F.toNat))] [] (vwnum_at txt F (13*t-1) ⟨g1.1,by omega⟩ (by omega)) Zx3 Zx5 ?_
 refine Zw Zl2 ?_
 refine Zr0 ?_
 conv=>whnf
 rw[g2,g3]
 refine Zr5 ?_
 refine Zc [0,1,2,3,4,5,6] [none,none,none,none,none,none,some (scO (txt++putB F.toNat))] [] (vwnone_at c t v s ⟨12,th,tx,at_,ev,ex,why⟩ (txt++putB F.toNat)) Zx6 Zx9 ?_
 conv=>whnf
 rw[show txt++(putB F.toNat++restE c ⟨12,th,tx,at_,ev,ex,why⟩)=txt++putB F.toNat by rw[show restE c ⟨12,th,tx,at_,ev,ex,why⟩=[]from rfl];rw[List.append_nil]]
 exact Zv (v':=.tup []) (Hl:=z4++[coO c t v s,lw7 12 th tx at_ ev ex why,scO (txt++putB F.toNat)]) (c4 [4,5,6]) ⟨rfl,rfl⟩ Zx6
theorem vwover13_at (c:Co)(t v s th tx at_ ev ex why:Int)(txt:List UInt8)(h:TellsP c ⟨13,th,tx,at_,ev,ex,why⟩ t v s)(hc:CoOk c t)(hx:-9223372036854775808<=ex/\ex<=9223372036854775807)(hs:txt.length<=700):CallG Tryz.prog 150 [.ptr 5 0 0 0] (z4++[coO c t v s,lw7 13 th tx at_ ev ex why,scO txt]) fun r H=>r=.tup []/\H=z4++[coO c t v s,lw7 13 th tx at_ ev ex why,scO (txt++encE t c ⟨13,th,tx,at_,ev,ex,why⟩)]:=by
 obtain⟨⟨q1,q2,q3,q4,q5,q6,q7,q8,q9,q10⟩,k1,k2,k5,k7⟩:=h
 dsimp only at q5 q6 q7 q8 k1 k2 k5 k7
 have hs32:1<=s/\s<=32:=⟨q3.1,by omega⟩
 have ha31:0<=at_/\at_<=31:=⟨q9.1,by have:at_<=s-1:=q9.2;omega⟩
 have q8:0<=ev/\ev<=1099511627776:=q8
 have ht6:0<=th/\th<6:=⟨q6.1,by omega⟩
 have hbg:=hc.begun th.toNat
 have hbu:=hc.bumped th.toNat
 have hcl:=hc.clock
 have hla:=hc.last
 have l1:=putB_len tx.toNat
 have l2:=putB_len at_.toNat
 obtain⟨g1,g2,g3⟩:=first_fwd q1 (k:=13) (th:=th) (last:=c.last) (by decide) ⟨q6.1,by omega⟩ hc.last
 unfold kindF at g2
 unfold thrF at g3
 have hm:0<=(th-c.last+t).tmod t/\(th-c.last+t).tmod t<t:=by rw[Int.tmod_eq_emod_of_nonneg (by omega)];exact⟨Int.emod_nonneg _ (by omega),Int.emod_lt_of_pos _ (by omega)⟩
 have hE:encE t c ⟨13,th,tx,at_,ev,ex,why⟩=putB ((13-1)*t+(th-c.last+t).tmod t).toNat++restE c ⟨13,th,tx,at_,ev,ex,why⟩:=rfl
 rw[hE]
 have t0:t≠0:=by omega
 refine Ze Tryz.func150 rfl fun g w=>?_
 refine Zw Zl1 ?_
 refine Zr0 ?_
 generalize (13-1)*t+(th-c.last+t).tmod t=F at g1 g2 g3 ⊢
 have l3:=putB_len F.toNat
 have hf:0<=F.tmod t/\F.tmod t<t:=by rw[Int.tmod_eq_emod_of_nonneg g1.1];exact⟨Int.emod_nonneg _ (by omega),Int.emod_lt_of_pos _ (by omega)⟩
 refine Zw Zl0 ?_
 refine Zr0 ?_
 refine Zd [0,1,2,3,6] [none,none,none,none,some (scO (txt++putB F.toNat))] [] (vwnum_at txt F (13*t-1) ⟨g1.1,by omega⟩ (by omega)) Zx3 Zx5 ?_
 refine Zw Zl2 ?_
 refine Zr0 ?_
 conv=>whnf
 rw[g2,g3]
 refine Zr5 ?_
 refine Zc [0,1,2,3,4,5,6] [none,none,none,none,none,none,some (scO (txt++putB F.toNat))] [] (vwnone_at c t v s ⟨13,th,tx,at_,ev,ex,why⟩ (txt++putB F.toNat)) Zx6 Zx9 ?_
 conv=>whnf
 rw[show txt++(putB F.toNat++restE c ⟨13,th,tx,at_,ev,ex,why⟩)=txt++putB F.toNat by rw[show restE c ⟨13,th,tx,at_,ev,ex,why⟩=[]from rfl];rw[List.append_nil]]
 exact Zv (v':=.tup []) (Hl:=z4++[coO c t v s,lw7 13 th tx at_ ev ex why,scO (txt++putB F.toNat)]) (c4 [4,5,6]) ⟨rfl,rfl⟩ Zx6
theorem vwover_at (c:Co)(t v s:Int)(e:Evt)(txt:List UInt8)(h:TellsP c e t v s)(hc:CoOk c t)(hx:XOk e)(hs:txt.length<=700):CallG Tryz.prog 150 [.ptr 5 0 0 0] (z4++[coO c t v s,lwO e,scO txt]) fun r H=>r=.tup []/\H=z4++[coO c t v s,lwO e,scO (txt++encE t c e)]:=by
 obtain⟨ek,th,tx,at_,ev,ex,why⟩:=e
 have hk:1<=ek/\ek<=13:=h.may.2.2.2.1
 have hh:ek=1\/ek=2\/ek=3\/ek=4\/ek=5\/ek=6\/ek=7\/ek=8\/ek=9\/ek=10\/ek=11\/ek=12\/ek=13:=by omega
 rcases hh with rfl|rfl|rfl|rfl|rfl|rfl|rfl|rfl|rfl|rfl|rfl|rfl|rfl
 ·exact vwover1_at c t v s th tx at_ ev ex why txt h hc hx hs
 ·exact vwover2_at c t v s th tx at_ ev ex why txt h hc hx hs
 ·exact vwover3_at c t v s th tx at_ ev ex why txt h hc hx hs
 ·exact vwover4_at c t v s th tx at_ ev ex why txt h hc hx hs
 ·exact vwover5_at c t v s th tx at_ ev ex why txt h hc hx hs
 ·exact vwover6_at c t v s th tx at_ ev ex why txt h hc hx hs
 ·exact vwover7_at c t v s th tx at_ ev ex why txt h hc hx hs
 ·exact vwover8_at c t v s th tx at_ ev ex why txt h hc hx hs
 ·exact vwover9_at c t v s th tx at_ ev ex why txt h hc hx hs
 ·exact vwover10_at c t v s th tx at_ ev ex why txt h hc hx hs
 ·exact vwover11_at c t v s th tx at_ ev ex why txt h hc hx hs
 ·exact vwover12_at c t v s th tx at_ ev ex why txt h hc hx hs
 ·exact vwover13_at c t v s th tx at_ ev ex why txt h hc hx hs
theorem encE_ne (t:Int)(c:Co)(e:Evt):encE t c e≠[]:=fun q=>by have:=(encE_len t c e).1;rw[q]at this;exact absurd this (by decide)
theorem vwrite_at (c:Co)(t v s:Int)(e:Evt)(b:List UInt8)(h:TellsP c e t v s)(hr:EvR e)(hc:CoOk c t)(hx:XOk e)(hb:b.length<900000):CallG Tryz.prog 59 [.ptr 15 0 0 0,.ptr 16 0 0 0,evS e] (bH [coO c t v s,wrO 17 b.length,byO b]) fun r H=>r=.int .i64 0/\H=bH [coO (knowS c e) t v s,wrO 18 (b++encE t c e).length,.dead,byO (b++encE t c e)]:=by
 have hl:=(encE_len t c e).2
 have hk:1<=e.kind/\e.kind<=13:=h.may.2.2.2.1
 have ht:0<=e.thread/\e.thread<6:=by obtain⟨q1,q2,q3,q4,q5,q6,_⟩:=h.may;omega
 have ha:0<=e.at_/\e.at_<32:=by
  obtain⟨q1,q2,q3,q4,q5,q6,q7,q8,q9,_⟩:=h.may
  have:placesE e v s<=32:=by unfold placesE;(repeat' split);all_goals omega
  omega
 refine Ze Tryz.func59 rfl fun g w=>?_
 refine Zr2 ?_
 refine Zc (c15 [15]) (n15 [none]) [] (vtells_at c t v s e hr h) Zx14 Zx24 ?_
 refine Zr2 ?_
 refine Zc [0,1,2,3,15,20,19] [none,none,none,none,none,none,some (scO ([]++encE t c e))] [] (vwover_at c t v s e [] h hc hx (by decide)) Zx6 Zx9 ?_
 refine Zc [0,1,2,3,16,17] [none,none,none,none,some (wrO 21 (b++encE t c e).length),some .dead] [byO (b++encE t c e)] (vraw_at b (encE t c e) (encE_ne t c e) (by omega)) Zx17 Zx20 ?_
 refine Zr4 ?_
 refine Zc (c15 [15]) (n15 [some (coO (knowS c e) t v s)]) [] (vknows_at c t v s e hk ht ha) Zx14 Zx24 ?_
 exact Zv (v':=.int .i64 0) (Hl:=bH [coO (knowS c e) t v s,wrO 18 (b++encE t c e).length,.dead,byO (b++encE t c e)]) (c15 [15,16,17,21]) ⟨rfl,rfl⟩ (fitB rfl ⟨.r rfl,.r rfl,trivial,.p,trivial⟩)
end Go.Proofs.YtgdmlkgjpcnelaaGreatDoor
