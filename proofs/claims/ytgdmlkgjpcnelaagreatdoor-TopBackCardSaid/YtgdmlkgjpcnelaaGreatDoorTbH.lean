import Derived.Test.YtgdmlkgjpcnelaaGreatDoorTbC
namespace Go.Proofs.YtgdmlkgjpcnelaaGreatDoor
open Go Go.Vc
set_option linter.unusedVariables false
set_option maxRecDepth 100000
set_option maxHeartbeats 1000000
theorem and_mask {n:Int}(h:0<=n/\n<4294967296):bitR .and .u64 n 4294967295=n:=by
 obtain⟨m,rfl⟩:∃m:Nat,n=m:=⟨n.toNat,by omega⟩
 have hm:m<4294967296:=by omega
 have e1:(BitVec.ofInt 64 (m:Int) &&& BitVec.ofInt 64 4294967295).toNat=m:=by
  have e2:BitVec.ofInt 64 (m:Int)=BitVec.ofNat 64 m:=by simp
  have e3:BitVec.ofInt 64 4294967295=BitVec.ofNat 64 4294967295:=by rfl
  rw[e2,e3,BitVec.toNat_and,BitVec.toNat_ofNat,BitVec.toNat_ofNat,Nat.mod_eq_of_lt (show m<2 ^ 64 by omega)]
  have:(4294967295 % 2 ^ 64:Nat)=2 ^ 32-1:=by decide
  rw[this,Nat.and_two_pow_sub_one_eq_mod]
  exact Nat.mod_eq_of_lt hm
 show IntKind.u64.wrap ((BitVec.ofInt 64 (m:Int) &&& BitVec.ofInt 64 4294967295).toNat:Int)=m
 rw[e1]
 exact wrap_in (k:=.u64) (by simp only;omega)
theorem fd_small {n:Int}(h:0<=n/\n<4294967296):n.fdiv (2 ^ shf .u64 32)=0:=by
 have e:(2:Int) ^ shf .u64 32=4294967296:=by decide
 rw[e,Int.fdiv_eq_ediv_of_nonneg _ (by decide)]
 omega
theorem vmul64_at (n:Int)(h:0<=n/\n<4294967296):CallG Tryz.prog 272 [.int .u64 1,.int .u64 n] z4 fun v H=>v=.tup [.int .u64 0,.int .u64 n]/\H=z4:=by
 have a1:bitR .and .u64 1 4294967295=1:=and_mask (by decide)
 have b1:=and_mask h
 have a2:(1:Int).fdiv (2 ^ shf .u64 32)=0:=fd_small (by decide)
 have b2:=fd_small h
 have p1:bitR .and .u64 1 4294967295*bitR .and .u64 n 4294967295=n:=by rw[a1,b1,Int.one_mul]
 have p2:(1:Int).fdiv (2 ^ shf .u64 32)*bitR .and .u64 n 4294967295=0:=by rw[a2,Int.zero_mul]
 have p3:(bitR .and .u64 1 4294967295*bitR .and .u64 n 4294967295).fdiv (2 ^ shf .u64 32)=0:=by rw[p1,b2]
 have p4:bitR .and .u64 ((1:Int).fdiv (2 ^ shf .u64 32)*bitR .and .u64 n 4294967295+(bitR .and .u64 1 4294967295*bitR .and .u64 n 4294967295).fdiv (2 ^ shf .u64 32)) 4294967295=0:=by rw[p2,p3];exact and_mask (by decide)
 have p5:((1:Int).fdiv (2 ^ shf .u64 32)*bitR .and .u64 n 4294967295+(bitR .and .u64 1 4294967295*bitR .and .u64 n 4294967295).fdiv (2 ^ shf .u64 32)).fdiv (2 ^ shf .u64 32)=0:=by rw[p2,p3];exact fd_small (by decide)
 have p6:bitR .and .u64 1 4294967295*n.fdiv (2 ^ shf .u64 32)=0:=by rw[b2,Int.mul_zero]
 have p7:(1:Int).fdiv (2 ^ shf .u64 32)*n.fdiv (2 ^ shf .u64 32)=0:=by rw[b2,Int.mul_zero]
 have p8:(bitR .and .u64 ((1:Int).fdiv (2 ^ shf .u64 32)*bitR .and .u64 n 4294967295+(bitR .and .u64 1 4294967295*bitR .and .u64 n 4294967295).fdiv (2 ^ shf .u64 32)) 4294967295+bitR .and .u64 1 4294967295*n.fdiv (2 ^ shf .u64 32)).fdiv (2 ^ shf .u64 32)=0:=by rw[p4,p6];exact fd_small (by decide)
 refine Ze Tryz.func272 rfl fun g w=>?_
 refine Zr0 ?_
 refine Lv.mk' (v':=.tup [.int .u64 0,.int .u64 n]) [0,1,2,3] ⟨rfl,rfl⟩ ?_ ⟨trivial,trivial,trivial,trivial,trivial⟩ rfl rfl rfl rfl rfl
 show SV.tup [.int .u64 0,.int .u64 n]=SV.tup [.int .u64 ((1:Int).fdiv (2 ^ shf .u64 32)*n.fdiv (2 ^ shf .u64 32)+((1:Int).fdiv (2 ^ shf .u64 32)*bitR .and .u64 n 4294967295+(bitR .and .u64 1 4294967295*bitR .and .u64 n 4294967295).fdiv (2 ^ shf .u64 32)).fdiv (2 ^ shf .u64 32)+(bitR .and .u64 ((1:Int).fdiv (2 ^ shf .u64 32)*bitR .and .u64 n 4294967295+(bitR .and .u64 1 4294967295*bitR .and .u64 n 4294967295).fdiv (2 ^ shf .u64 32)) 4294967295+bitR .and .u64 1 4294967295*n.fdiv (2 ^ shf .u64 32)).fdiv (2 ^ shf .u64 32)),.int .u64 (1*n)]
 rw[p7,p5,p8,Int.one_mul]
 rfl
theorem vmul_at (n:Int)(h:0<=n/\n<4294967296):CallG Tryz.prog 200 [.int .u64 1,.int .u64 n] z4 fun v H=>v=.tup [.int .u64 0,.int .u64 n]/\H=z4:=by
 refine Ze Tryz.func200 rfl fun g w=>?_
 refine Zr2 ?_
 refine Zc [0,1,2,3] [none,none,none,none] [] (vmul64_at n h) Zx2 Zx4 ?_
 exact Zv [0,1,2,3] ⟨rfl,rfl⟩ Zx2
noncomputable def repG (k:Nat):Nat->Nat->SV:=fun i j=>match j with|0=>.int .i64 (if i<k then -1 else 0)|_=>.int .i64 0
instance plRep (k):PlainG (repG k):=⟨fun τ i j=>by unfold repG;split<;>rfl,fun i j=>by unfold repG;split<;>rfl⟩
noncomputable abbrev oneR:Ob:=.row [.c (.int .i64 (-1)),.c (.int .i64 0)] 225 0
theorem into_eq (a k:Nat)(g h:Nat->Nat->SV)(i j:Nat):intoG a k g h i j=if a<=i/\i<a+k then h (i-a) j else g i j:=by
 unfold intoG
 by_cases q:a<=i/\i<a+k
 ·rw[if_pos q,Nat.ble_eq_true_of_le q.1,lt_iff.2 q.2];rfl
 ·rw[if_neg q]
  have:(Nat.ble a i && lt i (a+k))=false:=by
   cases hb:Nat.ble a i && lt i (a+k)with
   |false=>rfl
   |true=>
    simp only[Bool.and_eq_true]at hb
    exact absurd ⟨Nat.le_of_ble_eq_true hb.1,lt_iff.1 hb.2⟩ q
  rw[this];rfl
theorem vrepeat_at (N:Nat)(hN:1<=N/\N<=32):CallG Tryz.prog 129 [.sl 4 0 2 1 (.k 1),.int .i64 N] (z4++[oneR]) fun v H=>v=.sl 5 0 2 N (.k N)/\H=z4++[oneR,.rows N 2 (repG N) 225 0]:=by
 refine Ze Tryz.func129 rfl fun g w=>?_
 refine Zr11 ?_
 refine Zc [0,1,2,3] [none,none,none,none] [] (vmul_at (N:Int) (by omega)) Zx2 Zx4 ?_
 refine Zr4 ?_
 refine Br.f (decide_eq_false (by omega)) ?_
 refine Zr0 ?_
 refine Sd.mk ⟨by show 0+min 1 N<=N;omega,fun i j hi hj=>by
  have h0:i<min 1 N:=hi
  have h2:j<2:=hj
  have:i=0:=by omega
  subst this
  rcases j with _|_|j
  ·rfl
  ·rfl
  ·omega⟩ ?_
 refine LoopG.by (α:=Nat) (fun k fr ds H=>1<=k/\k<=N/\HasR [0,1,2,3,4,5] [(7,.sl 5 0 2 N (.k N)),(8,.int .i64 (k:Int))] fr/\ds=[]/\len H=6/\Fits (ren [0,1,2,3,4,5]) H (z4++[oneR,.rows N 2 (repG k) 225 0]) 0) (fun k=>N-k) (min 1 N) ⟨by omega,by omega,hasR_cons rfl (hasR_cons rfl (hasR_nil _ _)),rfl,rfl,⟨trivial,trivial,trivial,trivial,.r rfl,LiesAt.gp (fun i j hi hj=>?_),trivial⟩⟩ ?_
 ·show intoG 0 (min 1 N) _ _ i j=repG (min 1 N) i j
  rw[into_eq]
  have hj2:j<2:=hj
  have hj':j=0\/j=1:=by omega
  split
  ·rename_i h
   obtain rfl:i=0:=by omega
   rcases hj' with rfl|rfl
   ·show SV.int .i64 (-1)=SV.int .i64 (if 0<min 1 N then -1 else 0)
    rw[if_pos (by omega)]
   ·rfl
  ·rename_i h
   rcases hj' with rfl|rfl
   ·show SV.int .i64 0=SV.int .i64 (if i<min 1 N then -1 else 0)
    rw[if_neg (by omega)]
   ·rfl
 rintro k fr ds H ⟨hk1,hk2,hfr,rfl,hlen,hfit⟩
 refine T.ren [0,1,2,3,4,5] (vCode_ok cx_ok (by kernel_rfl) ?_) hfr hfit rfl (by rw[hlen];rfl) rfl rfl rfl (by kernel_rfl)
 refine Br.o (fun h1=>?_) (fun h1=>?_)
 rotate_left
 ·have p1:¬(k:Int)<N:=of_decide_eq_false h1
  obtain rfl:k=N:=by omega
  exact Zv (v':=.sl 5 0 2 k (.k k)) (Hl:=z4++[oneR,.rows k 2 (repG k) 225 0]) (c4 [4,5]) ⟨rfl,rfl⟩ Zx17
 have p1:(k:Int)<N:=of_decide_eq_true h1
 refine Zw [(1,0),(2,0),(3,0),(4,0),(5,0),(6,0),(7,0),(0,1),(8,0),(9,0)] ?_
 refine Zr0 ?_
 refine Br.f (beq_ne (by show ¬((k:Int).toNat=N);omega)) ?_
 refine Zr0 ?_
 refine Br.f (beq_ne (by omega)) ?_
 refine Zr0 ?_
 refine Sd.mk ⟨by show 0+(k:Int).toNat+min ((k:Int).toNat-0) (N-(k:Int).toNat)<=N;omega,fun i j hi hj=>plRep k |>.one _ _⟩ ?_
 refine Zr0 ?_
 refine Exists.intro (k+min ((k:Int).toNat-0) (N-(k:Int).toNat)) ⟨by show N-(k+min ((k:Int).toNat-0) (N-(k:Int).toNat))<N-k;omega,by omega,by omega,hasR_cons rfl (hasR_cons rfl (hasR_nil _ _)),rfl,rfl,⟨trivial,trivial,trivial,trivial,.r rfl,LiesAt.gp (fun i j hi hj=>?_),trivial⟩⟩
 show intoG (0+(k:Int).toNat) (min ((k:Int).toNat-0) (N-(k:Int).toNat)) (repG k) (repG k) i j=repG (k+min ((k:Int).toNat-0) (N-(k:Int).toNat)) i j
 rw[into_eq]
 have hj2:j<2:=hj
 have hi2:i<N:=hi
 have hj':j=0\/j=1:=by omega
 split
 ·rename_i h
  rcases hj' with rfl|rfl
  ·show SV.int .i64 (if i-(0+(k:Int).toNat)<k then -1 else 0)=SV.int .i64 (if i<k+min ((k:Int).toNat-0) (N-(k:Int).toNat)then -1 else 0)
   rw[if_pos (by omega),if_pos (by omega)]
  ·rfl
 ·rename_i h
  rcases hj' with rfl|rfl
  ·show SV.int .i64 (if i<k then -1 else 0)=SV.int .i64 (if i<k+min ((k:Int).toNat-0) (N-(k:Int).toNat)then -1 else 0)
   by_cases q:i<k
   ·rw[if_pos q,if_pos (by omega)]
   ·rw[if_neg q,if_neg (by omega)]
  ·rfl
end Go.Proofs.YtgdmlkgjpcnelaaGreatDoor
