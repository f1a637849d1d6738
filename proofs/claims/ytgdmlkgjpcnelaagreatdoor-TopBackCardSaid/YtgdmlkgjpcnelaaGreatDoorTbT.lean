/-  -/
import Derived.Test.YtgdmlkgjpcnelaaGreatDoorTbS
import Derived.Test.YtgdmlkgjpcnelaaGreatDoorAlv
namespace Go.Proofs.YtgdmlkgjpcnelaaGreatDoor
open Go Go.Vc
set_option linter.unusedVariables false
set_option maxRecDepth 100000
set_option maxHeartbeats 1000000
noncomputable abbrev txO (l:List (List UInt8)):Ob:=.row (l.map fun s=>.c (.str s)) 9 0
theorem join3 (a b c:List UInt8):Lib.join [a,b,c] []=a++b++c:=by
 rw[Lib.join_cons];simp[Lib.joinTail]
theorem vjoin_at (a b c:List UInt8)(h:a.length+b.length+c.length<=140737488355328):CallG Tryz.prog 152 [.sl 4 0 1 3 (.k 3),.str []] (z4++[txO [a,b,c]]) fun v H=>v=.str (a++b++c)/\H=z4++[txO [a,b,c]]:=by
 intro g w us ho hg hv
 obtain⟨u1,us2,rfl,v1,u2,us3,rfl,v2,hv3⟩:=hv
 cases(show us3=[]from hv3)
 cases(show u2=.string ⟨⟨[]⟩⟩from v2)
 obtain⟨loc,hgl,hsl⟩:∃l,g 4=some l/\Go.Ev.SlR l 0 3 3 u1:=v1
 obtain⟨L',O,h1,h2,h3⟩:=ho.den 4 (.row [.string ⟨⟨a⟩⟩,.string ⟨⟨b⟩⟩,.string ⟨⟨c⟩⟩] 9 0) rfl rfl
 rw[hgl]at h1
 cases h1
 obtain⟨us,k1,k2,k3⟩:=Go.Ev.row_part (o:=0) (n:=3) h2 h3 rfl
 have hus:us=[ByteArray.mk ⟨a⟩,⟨⟨b⟩⟩,⟨⟨c⟩⟩].map .string:=Go.Ev.strs_ok k1
 subst hus
 have e1:u1=.slice (some ⟨loc.blk,loc.off+0,none⟩) 3 3:=by
  rcases hsl with⟨_,e⟩|⟨j,ad,q,_⟩
  ·exact e
  ·exact absurd q (by unfold Go.Ev.big;omega)
 subst e1
 have hblk:loc.blk<w.heap.size:=by
  have:=(Array.getElem?_eq_some_iff.1 h2).1
  exact this
 refine .inl ⟨Go.Ev.bodied_enter progOk (by kernel_rfl) _ _,?_⟩
 refine(Go.Proofs.Any.strings_Join layJ extraJ loc.blk (loc.off+0) 3 [⟨⟨a⟩⟩,⟨⟨b⟩⟩,⟨⟨c⟩⟩] ⟨⟨[]⟩⟩ w (fun j x hx=>?_) hblk (by show 3<=_;omega) (by show 3<=3;omega) ?_).mono ?_
 ·have:=k3 j (.string x) (by simp only[List.getElem?_map,hx];rfl)
  rcases Nat.eq_zero_or_pos j with rfl|h0
  ·simpa[Addr.add]using this
  ·simpa[Addr.add,Nat.ne_of_gt h0]using this
 ·show(Lib.join [a,b,c] []).length<=_
  rw[join3,List.length_append,List.length_append];omega
 rintro e w' ⟨rfl,hb⟩
 obtain⟨b1,b2⟩:=ho.below hb
 refine⟨_,rfl,.str (a++b++c),z4++[txO [a,b,c]],g,⟨rfl,rfl⟩,by show 5<=60000;omega,?_,b1,b2⟩
 show Value.string _=Value.string _
 rw[show Lib.join ([ByteArray.mk ⟨a⟩,⟨⟨b⟩⟩,⟨⟨c⟩⟩].map (·.data.toList)) (ByteArray.mk ⟨[]⟩).data.toList=a++b++c from join3 a b c]
theorem wrap32 (z:Int):IntKind.u32.wrap z=z % 4294967296:=by
 unfold IntKind.wrap
 simp[IntKind.bits,IntKind.signed]
theorem bit_range (op:BinOp)(x y:Int):0<=bitR op .u32 x y/\bitR op .u32 x y<4294967296:=by
 unfold bitR
 split
 all_goals (rw[wrap32];omega)
noncomputable abbrev rgO (r:Int):Ob:=.row [.c (.int .u32 r)] 232 0
theorem vbit_at (r:Int):CallG Tryz.prog 219 [.ptr 4 0 0 0] (z4++[rgO r]) fun v H=>v=.tup []/\H=z4++[rgO (bitF r)]:=by
 refine Ze Tryz.func219 rfl fun g w=>?_
 refine Zr0 ?_
 unfold bitF
 refine Br.o (fun h1=>?_) (fun h1=>?_)
 ·rw[if_pos (of_decide_eq_true h1)]
  exact Zv (v':=.tup []) (Hl:=z4++[rgO (bitR .xor .u32 (r.fdiv (2 ^ shf .u32 1)) 3988292384)]) (c4 [4]) ⟨rfl,rfl⟩ Zx3
 ·rw[if_neg (of_decide_eq_false h1)]
  exact Zv (v':=.tup []) (Hl:=z4++[rgO (r.fdiv (2 ^ shf .u32 1))]) (c4 [4]) ⟨rfl,rfl⟩ Zx3
theorem vseal_at (n:Int)(hn:0<=n):CallG Tryz.prog 153 [.int .u32 n] z4 fun v H=>v=.str (sealF n)/\H=z4:=by
 refine CallG.enter (X:=cxw) cxw_ok (fun _=>[]) Tryz.func153 rfl (by kernel_rfl) rfl rfl fun g w=>?_
 refine Zr0 ?_
 conv=>whnf
 have hb:∀z,0<=IntKind.u8.wrap z:=fun z=>by rw[wrapB];omega
 refine Sd.mk (fun i hi=>?_) ?_
 ·match i,hi with
  |0,_=>exact byte_ok _ (hb _)
  |1,_=>exact byte_ok _ (hb _)
  |2,_=>exact byte_ok _ (hb _)
  |3,_=>exact byte_ok _ (hb _)
 exact Zv (v':=.str (sealF n)) (Hl:=z4) (c4 []) ⟨rfl,rfl⟩ Zx2
theorem take_snoc {l:List UInt8}{k:Nat}(h:k<l.length):l.take (k+1)=l.take k++[l.getD k 0]:=by
 rw[List.take_add_one,List.getD_eq_getElem?_getD,List.getElem?_eq_getElem h];rfl
theorem vregister1_at (s:List UInt8)(hs:s.length<=100000000):CallG Tryz.prog 154 [.sl 4 0 1 1 (.k 1)] (z4++[txO [s]]) fun v H=>v=.int .u32 (regF (crcF 4294967295 (s)))/\H=z4++[txO [s]]:=by
 refine Ze Tryz.func154 rfl fun g w=>?_
 refine LoopG.rounds cx_ok 2 (by kernel_rfl) ?_
 refine Zr3 ?_
 refine LoopG.by (α:=Nat) (fun k fr ds H=>k<=s.length/\HasR [0,1,2,3,4,5] [(6,.str s),(16,.int .i64 (s.length:Int)),(17,.int .i64 (k:Int)),(9,.sl 4 0 1 1 (.k 1)),(10,.int .i64 1),(11,.int .i64 0),(3,.ptr 5 0 0 0),(4,.fn 219 [] [.ptr 5 0 0 0])] fr/\ds=[]/\allLt [0,1,2,3,4,5] (len H)=true/\Fits (ren [0,1,2,3,4,5]) H (z4++[txO [s],rgO (crcF (4294967295) (s.take k))]) 0) (fun k=>s.length-k) 0 ⟨Nat.zero_le _,hasR_cons rfl (hasR_cons rfl (hasR_cons rfl (hasR_cons rfl (hasR_cons rfl (hasR_cons rfl (hasR_cons rfl (hasR_cons rfl (hasR_nil _ _)))))))),rfl,rfl,⟨trivial,trivial,trivial,trivial,.r rfl,.r rfl,trivial⟩⟩ ?_
 rintro k fr ds H ⟨hk,hfr,rfl,hlt,hfit⟩
 refine T.ren [0,1,2,3,4,5] (vCode_ok cx_ok (by kernel_rfl) ?_) hfr hfit rfl hlt rfl rfl rfl (by kernel_rfl)
 refine Br.o (fun h1=>?_) (fun h1=>?_)
 ·have p1:(k:Int)<(s.length:Int):=of_decide_eq_true h1
  have hix:0<=(k:Int)/\(k:Int)<(s.length:Int):=⟨by omega,p1⟩
  have hb:((s.getD (k:Int).toNat 0).toNat)<256:=UInt8.toNat_lt (s.getD k 0)
  refine Zw Zl10 ?_
  refine Zr0 ?_
  refine LoopG.by (α:=Nat × Int) (fun p fr ds H=>p.1<=8/\bitsF (8-p.1) p.2=byteF (crcF (4294967295) (s.take k)) (s.getD k 0)/\HasR [0,1,2,3,4,5] [(26,.int .i64 (p.1:Int)),(6,.str s),(16,.int .i64 (s.length:Int)),(17,.int .i64 (k:Int)),(9,.sl 4 0 1 1 (.k 1)),(10,.int .i64 1),(11,.int .i64 0),(3,.ptr 5 0 0 0),(4,.fn 219 [] [.ptr 5 0 0 0])] fr/\ds=[]/\allLt [0,1,2,3,4,5] (len H)=true/\Fits (ren [0,1,2,3,4,5]) H (z4++[txO [s],rgO p.2]) 0) (fun p=>8-p.1) (0,bitR .xor .u32 (crcF (4294967295) (s.take k)) ((s.getD k 0).toNat:Int)) ⟨by show 0<=8;omega,rfl,hasR_cons rfl (hasR_cons rfl (hasR_cons rfl (hasR_cons rfl (hasR_cons rfl (hasR_cons rfl (hasR_cons rfl (hasR_cons rfl (hasR_cons rfl (hasR_nil _ _))))))))),rfl,rfl,⟨trivial,trivial,trivial,trivial,.r rfl,.r rfl,trivial⟩⟩ ?_
  rintro ⟨j,x⟩ fr ds H ⟨hj,hx,hfr,rfl,hlt,hfit⟩
  dsimp only at hj hx hfr hfit
  refine T.ren [0,1,2,3,4,5] (vCode_ok cx_ok (by kernel_rfl) ?_) hfr hfit rfl hlt rfl rfl rfl (by kernel_rfl)
  refine Br.o (fun h2=>?_) (fun h2=>?_)
  ·have p2:(j:Int)<8:=of_decide_eq_true h2
   refine Zc [0,1,2,3,5] [none,none,none,none,some (rgO (bitF x))] [] (vbit_at x) Zx3 Zx5 ?_
   refine Zr0 ?_
   exact Exists.intro (j+1,bitF x) ⟨by show 8-(j+1)<8-j;omega,by show j+1<=8;omega,by rw[<-hx,show 8-j=(8-(j+1))+1 by omega];rfl,hasR_cons rfl (hasR_cons rfl (hasR_cons rfl (hasR_cons rfl (hasR_cons rfl (hasR_cons rfl (hasR_cons rfl (hasR_cons rfl (hasR_cons rfl (hasR_nil _ _))))))))),rfl,rfl,⟨trivial,trivial,trivial,trivial,.r rfl,.r rfl,trivial⟩⟩
  ·have p2:¬(j:Int)<8:=of_decide_eq_false h2
   obtain rfl:j=8:=by omega
   have hx:x=crcF (4294967295) (s.take (k+1)):=by
    rw[take_snoc (show k<s.length by omega),crc_app]
    exact hx
   subst hx
   refine Zr0 ?_
   exact Exists.intro (k+1) ⟨by show s.length-(k+1)<s.length-k;omega,by show k+1<=s.length;omega,hasR_cons rfl (hasR_cons rfl (hasR_cons rfl (hasR_cons rfl (hasR_cons rfl (hasR_cons rfl (hasR_cons rfl (hasR_cons rfl (hasR_nil _ _)))))))),rfl,rfl,⟨trivial,trivial,trivial,trivial,.r rfl,.r rfl,trivial⟩⟩
 ·have p1:¬(k:Int)<(s.length:Int):=of_decide_eq_false h1
  obtain rfl:k=s.length:=by omega
  rw[List.take_length]
  clear hfr hfit hlt h1 p1 hk H fr
  refine Zr3 ?_
  exact Zv (v':=.int .u32 (regF (crcF 4294967295 (s)))) (Hl:=z4++[txO [s]]) (c4 [4]) ⟨rfl,rfl⟩ Zx3
theorem vregister2_at (a b:List UInt8)(ha:a.length<=100000000)(hb2:b.length<=100000000):CallG Tryz.prog 154 [.sl 4 0 1 2 (.k 2)] (z4++[txO [a,b]]) fun v H=>v=.int .u32 (regF (crcF 4294967295 (a++b)))/\H=z4++[txO [a,b]]:=by
 refine Ze Tryz.func154 rfl fun g w=>?_
 refine LoopG.rounds cx_ok 3 (by kernel_rfl) ?_
 refine Zr3 ?_
 refine LoopG.by (α:=Nat) (fun k fr ds H=>k<=a.length/\HasR [0,1,2,3,4,5] [(6,.str a),(16,.int .i64 (a.length:Int)),(17,.int .i64 (k:Int)),(9,.sl 4 0 1 2 (.k 2)),(10,.int .i64 2),(11,.int .i64 0),(3,.ptr 5 0 0 0),(4,.fn 219 [] [.ptr 5 0 0 0])] fr/\ds=[]/\allLt [0,1,2,3,4,5] (len H)=true/\Fits (ren [0,1,2,3,4,5]) H (z4++[txO [a,b],rgO (crcF (4294967295) (a.take k))]) 0) (fun k=>a.length-k) 0 ⟨Nat.zero_le _,hasR_cons rfl (hasR_cons rfl (hasR_cons rfl (hasR_cons rfl (hasR_cons rfl (hasR_cons rfl (hasR_cons rfl (hasR_cons rfl (hasR_nil _ _)))))))),rfl,rfl,⟨trivial,trivial,trivial,trivial,.r rfl,.r rfl,trivial⟩⟩ ?_
 rintro k fr ds H ⟨hk,hfr,rfl,hlt,hfit⟩
 refine T.ren [0,1,2,3,4,5] (vCode_ok cx_ok (by kernel_rfl) ?_) hfr hfit rfl hlt rfl rfl rfl (by kernel_rfl)
 refine Br.o (fun h1=>?_) (fun h1=>?_)
 ·have p1:(k:Int)<(a.length:Int):=of_decide_eq_true h1
  have hix:0<=(k:Int)/\(k:Int)<(a.length:Int):=⟨by omega,p1⟩
  have hb:((a.getD (k:Int).toNat 0).toNat)<256:=UInt8.toNat_lt (a.getD k 0)
  refine Zw Zl10 ?_
  refine Zr0 ?_
  refine LoopG.by (α:=Nat × Int) (fun p fr ds H=>p.1<=8/\bitsF (8-p.1) p.2=byteF (crcF (4294967295) (a.take k)) (a.getD k 0)/\HasR [0,1,2,3,4,5] [(26,.int .i64 (p.1:Int)),(6,.str a),(16,.int .i64 (a.length:Int)),(17,.int .i64 (k:Int)),(9,.sl 4 0 1 2 (.k 2)),(10,.int .i64 2),(11,.int .i64 0),(3,.ptr 5 0 0 0),(4,.fn 219 [] [.ptr 5 0 0 0])] fr/\ds=[]/\allLt [0,1,2,3,4,5] (len H)=true/\Fits (ren [0,1,2,3,4,5]) H (z4++[txO [a,b],rgO p.2]) 0) (fun p=>8-p.1) (0,bitR .xor .u32 (crcF (4294967295) (a.take k)) ((a.getD k 0).toNat:Int)) ⟨by show 0<=8;omega,rfl,hasR_cons rfl (hasR_cons rfl (hasR_cons rfl (hasR_cons rfl (hasR_cons rfl (hasR_cons rfl (hasR_cons rfl (hasR_cons rfl (hasR_cons rfl (hasR_nil _ _))))))))),rfl,rfl,⟨trivial,trivial,trivial,trivial,.r rfl,.r rfl,trivial⟩⟩ ?_
  rintro ⟨j,x⟩ fr ds H ⟨hj,hx,hfr,rfl,hlt,hfit⟩
  dsimp only at hj hx hfr hfit
  refine T.ren [0,1,2,3,4,5] (vCode_ok cx_ok (by kernel_rfl) ?_) hfr hfit rfl hlt rfl rfl rfl (by kernel_rfl)
  refine Br.o (fun h2=>?_) (fun h2=>?_)
  ·have p2:(j:Int)<8:=of_decide_eq_true h2
   refine Zc [0,1,2,3,5] [none,none,none,none,some (rgO (bitF x))] [] (vbit_at x) Zx3 Zx5 ?_
   refine Zr0 ?_
   exact Exists.intro (j+1,bitF x) ⟨by show 8-(j+1)<8-j;omega,by show j+1<=8;omega,by rw[<-hx,show 8-j=(8-(j+1))+1 by omega];rfl,hasR_cons rfl (hasR_cons rfl (hasR_cons rfl (hasR_cons rfl (hasR_cons rfl (hasR_cons rfl (hasR_cons rfl (hasR_cons rfl (hasR_cons rfl (hasR_nil _ _))))))))),rfl,rfl,⟨trivial,trivial,trivial,trivial,.r rfl,.r rfl,trivial⟩⟩
  ·have p2:¬(j:Int)<8:=of_decide_eq_false h2
   obtain rfl:j=8:=by omega
   have hx:x=crcF (4294967295) (a.take (k+1)):=by
    rw[take_snoc (show k<a.length by omega),crc_app]
    exact hx
   subst hx
   refine Zr0 ?_
   exact Exists.intro (k+1) ⟨by show a.length-(k+1)<a.length-k;omega,by show k+1<=a.length;omega,hasR_cons rfl (hasR_cons rfl (hasR_cons rfl (hasR_cons rfl (hasR_cons rfl (hasR_cons rfl (hasR_cons rfl (hasR_cons rfl (hasR_nil _ _)))))))),rfl,rfl,⟨trivial,trivial,trivial,trivial,.r rfl,.r rfl,trivial⟩⟩
 ·have p1:¬(k:Int)<(a.length:Int):=of_decide_eq_false h1
  obtain rfl:k=a.length:=by omega
  rw[List.take_length]
  clear hfr hfit hlt h1 p1 hk H fr
  refine Zr3 ?_
  refine LoopG.by (α:=Nat) (fun k fr ds H=>k<=b.length/\HasR [0,1,2,3,4,5] [(6,.str b),(16,.int .i64 (b.length:Int)),(17,.int .i64 (k:Int)),(9,.sl 4 0 1 2 (.k 2)),(10,.int .i64 2),(11,.int .i64 1),(3,.ptr 5 0 0 0),(4,.fn 219 [] [.ptr 5 0 0 0])] fr/\ds=[]/\allLt [0,1,2,3,4,5] (len H)=true/\Fits (ren [0,1,2,3,4,5]) H (z4++[txO [a,b],rgO (crcF (crcF (4294967295) a) (b.take k))]) 0) (fun k=>b.length-k) 0 ⟨Nat.zero_le _,hasR_cons rfl (hasR_cons rfl (hasR_cons rfl (hasR_cons rfl (hasR_cons rfl (hasR_cons rfl (hasR_cons rfl (hasR_cons rfl (hasR_nil _ _)))))))),rfl,rfl,⟨trivial,trivial,trivial,trivial,.r rfl,.r rfl,trivial⟩⟩ ?_
  rintro k fr ds H ⟨hk,hfr,rfl,hlt,hfit⟩
  refine T.ren [0,1,2,3,4,5] (vCode_ok cx_ok (by kernel_rfl) ?_) hfr hfit rfl hlt rfl rfl rfl (by kernel_rfl)
  refine Br.o (fun h1=>?_) (fun h1=>?_)
  ·have p1:(k:Int)<(b.length:Int):=of_decide_eq_true h1
   have hix:0<=(k:Int)/\(k:Int)<(b.length:Int):=⟨by omega,p1⟩
   have hb:((b.getD (k:Int).toNat 0).toNat)<256:=UInt8.toNat_lt (b.getD k 0)
   refine Zw Zl10 ?_
   refine Zr0 ?_
   refine LoopG.by (α:=Nat × Int) (fun p fr ds H=>p.1<=8/\bitsF (8-p.1) p.2=byteF (crcF (crcF (4294967295) a) (b.take k)) (b.getD k 0)/\HasR [0,1,2,3,4,5] [(26,.int .i64 (p.1:Int)),(6,.str b),(16,.int .i64 (b.length:Int)),(17,.int .i64 (k:Int)),(9,.sl 4 0 1 2 (.k 2)),(10,.int .i64 2),(11,.int .i64 1),(3,.ptr 5 0 0 0),(4,.fn 219 [] [.ptr 5 0 0 0])] fr/\ds=[]/\allLt [0,1,2,3,4,5] (len H)=true/\Fits (ren [0,1,2,3,4,5]) H (z4++[txO [a,b],rgO p.2]) 0) (fun p=>8-p.1) (0,bitR .xor .u32 (crcF (crcF (4294967295) a) (b.take k)) ((b.getD k 0).toNat:Int)) ⟨by show 0<=8;omega,rfl,hasR_cons rfl (hasR_cons rfl (hasR_cons rfl (hasR_cons rfl (hasR_cons rfl (hasR_cons rfl (hasR_cons rfl (hasR_cons rfl (hasR_cons rfl (hasR_nil _ _))))))))),rfl,rfl,⟨trivial,trivial,trivial,trivial,.r rfl,.r rfl,trivial⟩⟩ ?_
   rintro ⟨j,x⟩ fr ds H ⟨hj,hx,hfr,rfl,hlt,hfit⟩
   dsimp only at hj hx hfr hfit
   refine T.ren [0,1,2,3,4,5] (vCode_ok cx_ok (by kernel_rfl) ?_) hfr hfit rfl hlt rfl rfl rfl (by kernel_rfl)
   refine Br.o (fun h2=>?_) (fun h2=>?_)
   ·have p2:(j:Int)<8:=of_decide_eq_true h2
    refine Zc [0,1,2,3,5] [none,none,none,none,some (rgO (bitF x))] [] (vbit_at x) Zx3 Zx5 ?_
    refine Zr0 ?_
    exact Exists.intro (j+1,bitF x) ⟨by show 8-(j+1)<8-j;omega,by show j+1<=8;omega,by rw[<-hx,show 8-j=(8-(j+1))+1 by omega];rfl,hasR_cons rfl (hasR_cons rfl (hasR_cons rfl (hasR_cons rfl (hasR_cons rfl (hasR_cons rfl (hasR_cons rfl (hasR_cons rfl (hasR_cons rfl (hasR_nil _ _))))))))),rfl,rfl,⟨trivial,trivial,trivial,trivial,.r rfl,.r rfl,trivial⟩⟩
   ·have p2:¬(j:Int)<8:=of_decide_eq_false h2
    obtain rfl:j=8:=by omega
    have hx:x=crcF (crcF (4294967295) a) (b.take (k+1)):=by
     rw[take_snoc (show k<b.length by omega),crc_app]
     exact hx
    subst hx
    refine Zr0 ?_
    exact Exists.intro (k+1) ⟨by show b.length-(k+1)<b.length-k;omega,by show k+1<=b.length;omega,hasR_cons rfl (hasR_cons rfl (hasR_cons rfl (hasR_cons rfl (hasR_cons rfl (hasR_cons rfl (hasR_cons rfl (hasR_cons rfl (hasR_nil _ _)))))))),rfl,rfl,⟨trivial,trivial,trivial,trivial,.r rfl,.r rfl,trivial⟩⟩
  ·have p1:¬(k:Int)<(b.length:Int):=of_decide_eq_false h1
   obtain rfl:k=b.length:=by omega
   rw[List.take_length]
   clear hfr hfit hlt h1 p1 hk H fr
   refine Zr3 ?_
   conv=>whnf
   rw[<-crc_app]
   exact Zv (v':=.int .u32 (regF (crcF 4294967295 (a++b)))) (Hl:=z4++[txO [a,b]]) (c4 [4]) ⟨rfl,rfl⟩ Zx3
end Go.Proofs.YtgdmlkgjpcnelaaGreatDoor
namespace Go.Proofs.YtgdmlkgjpcnelaaGreatDoor
open Go Go.Vc
set_option linter.unusedVariables false
set_option maxRecDepth 100000
set_option maxHeartbeats 1000000
theorem reg_range (r:Int):0<=regF r:=(bit_range _ _ _).1
theorem vsum_at (s:List UInt8)(hs:s.length<=100000000):CallG Tryz.prog 156 [.str s] z4 fun v H=>v=.int .u32 (regF (crcF 4294967295 s))/\H=z4:=by
 refine Ze Tryz.func156 rfl fun g w=>?_
 refine Zc [0,1,2,3,4] [none,none,none,none,none] [] (vregister1_at s hs) Zx3 Zx5 ?_
 exact Zv (v':=.int .u32 (regF (crcF 4294967295 s))) (Hl:=z4) (c4 []) ⟨rfl,rfl⟩ Zx2
theorem vwrap_at (b:List UInt8)(hb:b.length<=10000000):CallG Tryz.prog 60 [.str b] z4 fun v H=>v=.tup [.str (wrapF b),.int .i64 0]/\H=z4:=by
 have hl:=putB_len b.length
 have hl2:(putB (b.length:Int).toNat).length<=10:=(putB_len b.length).2
 refine Ze Tryz.func60 rfl fun g w=>?_
 refine Zr0 ?_
 refine Zc [0,1,2,3] [none,none,none,none] [] (vput_at b.length ⟨by omega,by omega⟩) Zx2 Zx4 ?_
 refine Zr14 ?_
 refine Zc [0,1,2,3,4] [none,none,none,none,none] [] (vregister2_at (putB b.length) b (by omega) (by omega)) Zx3 Zx5 ?_
 refine Zc [0,1,2,3] [none,none,none,none] [] (vseal_at (regF (crcF 4294967295 (putB b.length++b))) (reg_range _)) Zx2 Zx4 ?_
 refine Zc [0,1,2,3,5] [none,none,none,none,none] [] (vjoin_at (putB b.length) b (sumF (putB b.length++b)) (by show _+_+4<=_;omega)) Zx3 Zx5 ?_
 exact Zv (v':=.tup [.str (wrapF b),.int .i64 0]) (Hl:=z4) (c4 []) ⟨rfl,rfl⟩ Zx2
theorem vunwrap_at (s:List UInt8)(hs:s.length<=10000000):CallG Tryz.prog 65 [.str s] z4 fun v H=>v=.tup [.str (unwrapF s).1,.int .i64 ((unwrapF s).2.1:Int),.int .i64 (unwrapF s).2.2]/\H=z4:=by
 have hc:=vget_at s
 have hbk:=getB_back s
 unfold unwrapF
 rcases hg:getB s with⟨m,size,e⟩
 rw[hg]at hc
 have hb:=hbk m size e hg
 dsimp only at hc ⊢
 refine Ze Tryz.func65 rfl fun g w=>?_
 refine Zr16 ?_
 refine Zc [0,1,2,3] [none,none,none,none] [] (hc) Zx2 Zx4 ?_
 refine Br.o (fun h1=>?_) (fun h1=>?_)
 ·have p1:e≠0:=fun q=>(of_decide_eq_true h1) (by rw[q];rfl)
  rw[if_pos p1]
  exact Zv (v':=.tup [.str ([]),.int .i64 (0),.int .i64 e]) (Hl:=z4) (c4 []) ⟨rfl,rfl⟩ Zx2
 have p1:¬e≠0:=fun q=>(of_decide_eq_false h1) (by omega)
 rw[if_neg p1]
 obtain⟨_,b1,b2,b3,b4,b5⟩:e=0/\m<18446744073709551616/\size=(putB m).length/\1<=size/\size<=s.length/\putB m=s.take size:=by
  rcases hb with h|h
  ·exact h
  ·omega
 refine Br.o (fun h2=>?_) (fun h2=>?_)
 ·have p2:16777216<m:=by have:(16777216:Int)<(m:Int):=of_decide_eq_true h2;omega
  rw[if_pos p2]
  exact Zv (v':=.tup [.str ([]),.int .i64 (0),.int .i64 20]) (Hl:=z4) (c4 []) ⟨rfl,rfl⟩ Zx2
 have p2:¬16777216<m:=by have:¬(16777216:Int)<(m:Int):=of_decide_eq_false h2;omega
 rw[if_neg p2]
 refine Zr0 ?_
 refine Br.o (fun h3=>?_) (fun h3=>?_)
 ·have p3:s.length<size+m+4:=by have:(s.length:Int)<(size:Int)+(m:Int)+4:=of_decide_eq_true h3;omega
  rw[if_pos p3]
  exact Zv (v':=.tup [.str ([]),.int .i64 ((s.length:Int)),.int .i64 8]) (Hl:=z4) (c4 []) ⟨rfl,rfl⟩ Zx2
 have p3:¬s.length<size+m+4:=by have:¬(s.length:Int)<(size:Int)+(m:Int)+4:=of_decide_eq_false h3;omega
 rw[if_neg p3]
 refine Zr0 ?_
 refine Br.o (fun h4=>?_) (fun h4=>?_)
 ·have p4:size+m+4<s.length:=by have:(size:Int)+(m:Int)+4<(s.length:Int):=of_decide_eq_true h4;omega
  rw[if_pos p4]
  refine Zr0 ?_
  exact Zv (v':=.tup [.str ([]),.int .i64 (((size+m+4:Nat):Int)),.int .i64 10]) (Hl:=z4) (c4 []) ⟨rfl,rfl⟩ Zx2
 have p4:¬size+m+4<s.length:=by have:¬(size:Int)+(m:Int)+4<(s.length:Int):=of_decide_eq_false h4;omega
 rw[if_neg p4]
 refine Zw [(3,0),(4,0),(5,0),(6,0),(7,0),(0,2),(1,2),(2,2),(8,0),(9,0)] ?_
 refine Zr0 ?_
 refine Zd [0,1,2,3] [none,none,none,none] [] (vsum_at (s.take (size+m)) (by rw[List.length_take];omega)) Zx2 Zx4 ?_
 refine Zd [0,1,2,3] [none,none,none,none] [] (vseal_at (regF (crcF 4294967295 (s.take (size+m)))) (reg_range _)) Zx2 Zx4 ?_
 refine Zr0 ?_
 refine Br.o (fun h5=>?_) (fun h5=>?_)
 ·have p5:s.drop (size+m)≠sumF (s.take (size+m)):=of_decide_eq_true h5
  rw[if_pos p5]
  exact Zv (v':=.tup [.str ([]),.int .i64 (((size+m:Nat):Int)),.int .i64 9]) (Hl:=z4) (c4 []) ⟨rfl,rfl⟩ Zx2
 have p5:¬s.drop (size+m)≠sumF (s.take (size+m)):=of_decide_eq_false h5
 rw[if_neg p5]
 refine Zr0 ?_
 exact Zv (v':=.tup [.str ((s.take (size+m)).drop size),.int .i64 (0),.int .i64 0]) (Hl:=z4) (c4 []) ⟨rfl,rfl⟩ Zx2
end Go.Proofs.YtgdmlkgjpcnelaaGreatDoor
