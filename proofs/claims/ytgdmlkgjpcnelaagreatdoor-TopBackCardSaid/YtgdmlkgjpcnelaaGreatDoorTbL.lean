/-  -/
import Derived.Test.YtgdmlkgjpcnelaaGreatDoorTbH
import Derived.Test.YtgdmlkgjpcnelaaGreatDoorVarP2
namespace Go.Proofs.YtgdmlkgjpcnelaaGreatDoor
open Go Go.Vc
set_option linter.unusedVariables false
set_option maxRecDepth 100000
set_option maxHeartbeats 1000000
theorem wrapU (z:Int):IntKind.u64.wrap z=z % 18446744073709551616:=by
 unfold IntKind.wrap
 simp[IntKind.bits,IntKind.signed]
theorem ofInt_n (a:Nat)(h:a<18446744073709551616):(BitVec.ofInt 64 (a:Int)).toNat=a:=by
 rw[BitVec.ofInt_natCast,BitVec.toNat_ofNat];exact Nat.mod_eq_of_lt (by omega)
theorem xor_u64 (a b:Nat)(ha:a<18446744073709551616)(hb:b<18446744073709551616):bitR .xor .u64 (a:Int) (b:Int)=((a ^^^ b:Nat):Int):=by
 show IntKind.u64.wrap ((BitVec.ofInt 64 (a:Int) ^^^ BitVec.ofInt 64 (b:Int)).toNat:Int)=_
 rw[BitVec.toNat_xor,ofInt_n _ ha,ofInt_n _ hb,wrapU]
 have:a ^^^ b<2 ^ 64:=Nat.xor_lt_two_pow (by omega) (by omega)
 omega
theorem xorOnes (a:Nat)(h:a<18446744073709551616):a ^^^ 18446744073709551615=18446744073709551615-a:=by
 have h1:(BitVec.ofNat 64 a ^^^ BitVec.allOnes 64).toNat=a ^^^ 18446744073709551615:=by
  rw[BitVec.toNat_xor,BitVec.toNat_ofNat,BitVec.toNat_allOnes,Nat.mod_eq_of_lt (by omega)]
 rw[<-h1,BitVec.xor_allOnes,BitVec.toNat_not,BitVec.toNat_ofNat,Nat.mod_eq_of_lt (by omega)]
theorem zigV (x:Int)(h:-9223372036854775808<=x/\x<=9223372036854775807):bitR .xor .u64 (IntKind.u64.wrap (IntKind.u64.wrap x*2 ^ shf .u64 1)) (IntKind.u64.wrap (x.fdiv (2 ^ shf .i64 63)))=zigI x:=by
 have a1:(2:Int) ^ shf .u64 1=2:=by decide
 have a2:(2:Int) ^ shf .i64 63=9223372036854775808:=by decide
 rw[a1,a2,Int.fdiv_eq_ediv_of_nonneg _ (by decide),wrapU,wrapU,wrapU]
 unfold zigI
 by_cases hx:x<0
 ·rw[if_pos hx]
  have e1:(x % 18446744073709551616*2) % 18446744073709551616=(((2*x+18446744073709551616).toNat:Nat):Int):=by omega
  have e2:(x / 9223372036854775808) % 18446744073709551616=((18446744073709551615:Nat):Int):=by omega
  rw[e1,e2,xor_u64 _ _ (by omega) (by omega),xorOnes _ (by omega)]
  omega
 ·rw[if_neg hx]
  have e1:(x % 18446744073709551616*2) % 18446744073709551616=(((2*x).toNat:Nat):Int):=by omega
  have e2:(x / 9223372036854775808) % 18446744073709551616=((0:Nat):Int):=by omega
  rw[e1,e2,xor_u64 _ _ (by omega) (by omega),Nat.xor_zero]
  omega
theorem vzig_at (x:Int)(h:-9223372036854775808<=x/\x<=9223372036854775807):CallG Tryz.prog 149 [.int .i64 x] [] fun v H=>v=.int .u64 (zigI x)/\H=[]:=by
 refine CallG.enter (X:=cxw) cxw_ok (fun _=>[]) Tryz.func149 rfl (by kernel_rfl) rfl rfl fun g w=>?_
 refine Zr18 ?_
 refine Lv.mk' (v':=.int .u64 (zigI x)) [] ⟨rfl,rfl⟩ ?_ trivial rfl rfl rfl rfl rfl
 show SV.int .u64 (zigI x)=SV.int .u64 _
 rw[zigV x h]
theorem wrapI (n:Int)(h0:0<=n)(h1:n<18446744073709551616):IntKind.i64.wrap n=if n<9223372036854775808 then n else n-18446744073709551616:=by
 have e:n % 2 ^ 64=n:=by omega
 simp only[IntKind.wrap,IntKind.bits,IntKind.signed,e]
 by_cases h:n<9223372036854775808
 ·rw[if_pos h,if_neg (by simp;omega)]
 ·rw[if_neg h,if_pos (by simp;omega)];rfl
theorem and1 (n:Int)(h0:0<=n)(h1:n<18446744073709551616):bitR .and .u64 n 1=n % 2:=by
 obtain⟨m,rfl⟩:∃m:Nat,n=m:=⟨n.toNat,by omega⟩
 show IntKind.u64.wrap ((BitVec.ofInt 64 (m:Int) &&& BitVec.ofInt 64 1).toNat:Int)=_
 have e1:(BitVec.ofInt 64 1).toNat=1:=by decide
 rw[BitVec.toNat_and,ofInt_n _ (by omega),e1,Nat.and_one_is_mod,wrapU]
 omega
theorem zagV (n:Int)(h0:0<=n)(h1:n<18446744073709551616):bitR .xor .i64 (IntKind.i64.wrap (n.fdiv (2 ^ shf .u64 1))) (IntKind.i64.wrap (-IntKind.i64.wrap (bitR .and .u64 n 1)))=zagI n:=by
 have a1:(2:Int) ^ shf .u64 1=2:=by decide
 rw[a1,Int.fdiv_eq_ediv_of_nonneg _ (by decide),and1 n h0 h1,wrapI _ (by omega) (by omega),if_pos (by omega)]
 have eh:n / 2=(((n / 2).toNat:Nat):Int):=by omega
 unfold zagI
 by_cases h:n % 2=0
 ·rw[if_pos h,h]
  have e0:IntKind.i64.wrap (-IntKind.i64.wrap 0)=0:=by decide +kernel
  rw[e0,eh]
  show IntKind.i64.wrap ((BitVec.ofInt 64 _ ^^^ BitVec.ofInt 64 0).toNat:Int)=_
  rw[BitVec.toNat_xor,ofInt_n _ (by omega)]
  have e1:(BitVec.ofInt 64 0).toNat=0:=by decide
  rw[e1,Nat.xor_zero,wrapI _ (by omega) (by omega),if_pos (by omega)]
 ·rw[if_neg h,show n % 2=1 by omega]
  have e0:IntKind.i64.wrap (-IntKind.i64.wrap 1)=-1:=by decide +kernel
  rw[e0,eh]
  show IntKind.i64.wrap ((BitVec.ofInt 64 _ ^^^ BitVec.ofInt 64 (-1)).toNat:Int)=_
  rw[BitVec.toNat_xor,ofInt_n _ (by omega)]
  have e1:(BitVec.ofInt 64 (-1)).toNat=18446744073709551615:=by decide
  rw[e1,xorOnes _ (by omega),wrapI _ (by omega) (by omega),if_neg (by omega)]
  omega
theorem vzag_at (n:Int)(h:0<=n/\n<18446744073709551616):CallG Tryz.prog 277 [.int .u64 n] [] fun v H=>v=.int .i64 (zagI n)/\H=[]:=by
 refine CallG.enter (X:=cxw) cxw_ok (fun _=>[]) Tryz.func277 rfl (by kernel_rfl) rfl rfl fun g w=>?_
 refine Zr18 ?_
 refine Lv.mk' (v':=.int .i64 (zagI n)) [] ⟨rfl,rfl⟩ ?_ trivial rfl rfl rfl rfl rfl
 show SV.int .i64 (zagI n)=SV.int .i64 _
 rw[zagV n h.1 h.2]
end Go.Proofs.YtgdmlkgjpcnelaaGreatDoor
namespace Go.Proofs.YtgdmlkgjpcnelaaGreatDoor
open Go Go.Vc
set_option linter.unusedVariables false
set_option maxRecDepth 100000
set_option maxHeartbeats 1000000
theorem or128:∀a:Nat,a<256->bitR .or .u8 (a:Int) 128=((a % 128+128:Nat):Int):=by decide +kernel
theorem not128:∀a:Nat,a<256->bitR .andNot .u8 (a:Int) 128=((a % 128:Nat):Int):=by decide +kernel
theorem wrapB (z:Int):IntKind.u8.wrap z=z % 256:=by
 unfold IntKind.wrap
 simp[IntKind.bits,IntKind.signed]
theorem orV (x:Int):bitR .or .u8 (IntKind.u8.wrap x) 128=x % 128+128:=by
 have e:IntKind.u8.wrap x=((x % 256).toNat:Int):=by rw[wrapB];omega
 rw[e,or128 _ (by omega)]
 omega
noncomputable def puG (n:Int)(k:Nat):Nat->SV:=fun j=>.int .u8 (if j<k then n / 128 ^ j % 128+128 else 0)
theorem puG_next (n:Int)(k:Nat):(fun j=>bif Nat.beq j (k:Int).toNat then SV.int .u8 (n / 128 ^ k % 128+128)else puG n k j)=puG n (k+1):=by
 funext j
 show(bif Nat.beq j k then SV.int .u8 (n / 128 ^ k % 128+128)else SV.int .u8 (if j<k then n / 128 ^ j % 128+128 else 0))=SV.int .u8 (if j<k+1 then n / 128 ^ j % 128+128 else 0)
 by_cases h:j=k
 ·obtain rfl:=h
  rw[Nat.beq_refl,if_neg (Nat.lt_irrefl j),if_pos (Nat.lt_succ_self j)]
  rfl
 ·rw[beq_ne h]
  by_cases g:j<k
  ·rw[if_pos g,if_pos (by omega)];rfl
  ·rw[if_neg g,if_neg (by omega)];rfl
theorem putL_range (k:Nat):∀(n f:Nat),k+1<=f->(k=0\/0<n / 128 ^ k)->n / 128 ^ (k+1)=0 ->
  (List.range (k+1)).map (fun j=>UInt8.ofNat (if j=k then n / 128 ^ k else n / 128 ^ j % 128+128))=putL f n:=by
 induction k with
 |zero=>
  intro n f hf _ h
  obtain⟨f,rfl⟩:∃g,f=g+1:=⟨f-1,by omega⟩
  have:n<128:=by rw[show(128:Nat) ^ (0+1)=128 from rfl]at h;omega
  unfold putL
  rw[if_pos this]
  simp[List.range_succ]
 |succ k ih=>
  intro n f hf h0 h
  obtain⟨f,rfl⟩:∃g,f=g+1:=⟨f-1,by omega⟩
  have h0:0<n / 128 ^ (k+1):=by omega
  have e1:∀j,n / 128 ^ (j+1)=n / 128 / 128 ^ j:=fun j=>by rw[Nat.div_div_eq_div_mul,Nat.pow_succ,Nat.mul_comm]
  have h1:128<=n:=by
   apply Classical.byContradiction
   intro g
   have z:n / 128=0:=by omega
   rw[e1,z,Nat.zero_div]at h0
   omega
  unfold putL
  rw[if_neg (by omega),List.range_succ_eq_map,List.map_cons,List.map_map]
  congr 1
  ·simp
  ·rw[<-ih (n / 128) f (by omega) (by rw[<-e1];exact .inr h0) (by rw[<-e1];exact h)]
   apply List.map_congr_left
   intro j _
   show UInt8.ofNat (if j+1=k+1 then n / 128 ^ (k+1)else n / 128 ^ (j+1) % 128+128)=_
   rw[e1,e1]
   by_cases q:j=k
   ·rw[if_pos (by omega),if_pos q]
   ·rw[if_neg (by omega),if_neg q]
theorem put_bytes (n:Int)(k:Nat)(g:Nat->Nat->SV)(h:0<=n)(hk:k<=9)(hp:k=0\/0<n / 128 ^ k)(h0:n / 128 ^ (k+1)=0)
  (hg:∀j,j<k->g j 0=.int .u8 (n / 128 ^ j % 128+128)) (hl:g k 0=.int .u8 (n / 128 ^ k)):bytesOf (k+1) g=putB n.toNat:=by
 obtain⟨m,rfl⟩:∃m:Nat,n=m:=⟨n.toNat,by omega⟩
 have e:∀j,(m:Int) / 128 ^ j=((m / 128 ^ j:Nat):Int):=fun j=>by rw[Int.natCast_ediv,Int.natCast_pow];rfl
 rw[e]at h0 hl
 rw[Int.toNat_natCast]
 unfold putB
 rw[<-putL_range k m 10 (by omega) (by rcases hp with h|h;exact .inl h;rw[e]at h;exact .inr (by omega)) (by omega)]
 unfold bytesOf
 apply List.map_congr_left
 intro j hj
 have hj:=List.mem_range.1 hj
 by_cases q:j=k
 ·subst q
  rw[hl,if_pos rfl]
  rfl
 ·rw[hg j (by omega),if_neg q,e]
  rfl
theorem byte_ok (z:Int)(h:0<=z):isByte (.int .u8 z)=true:=by
 obtain⟨m,rfl⟩:∃m:Nat,z=m:=⟨z.toNat,by omega⟩
 rfl
theorem byte_eq {v:SV}{z:Int}(h:v=.int .u8 z)(h0:0<=z):isByte v=true:=by rw[h];exact byte_ok z h0
theorem vput_at (n:Int)(h:0<=n/\n<18446744073709551616):CallG Tryz.prog 144 [.int .u64 n] z4 fun v H=>v=.str (putB n.toNat)/\H=z4:=by
 refine CallG.enter (X:=cxw) cxw_ok (fun _=>[]) Tryz.func144 rfl (by kernel_rfl) rfl rfl fun g w=>?_
 refine LoopG.by (α:=Nat) (fun k fr ds H=>k<=9/\(k=0\/0<n / 128 ^ k)/\HasR [0,1,2,3,4] [(4,.int .i64 (k:Int)),(3,.ptr 4 0 0 0),(0,.int .u64 (n / 128 ^ k))] fr/\ds=[]/\allLt [0,1,2,3,4] (len H)=true/\Fits (ren [0,1,2,3,4]) H (z4++[Ob.row [.a 10 (puG n k)] 348 0]) 0) (fun k=>9-k) 0 ⟨by omega,.inl rfl,hasR_cons rfl (hasR_cons rfl (hasR_cons (by show some (SV.int .u64 n)=some (SV.int .u64 (n / 128 ^ 0));rw[Int.pow_zero,Int.ediv_one]) (hasR_nil _ _))),rfl,rfl,⟨trivial,trivial,trivial,trivial,.s ⟨rfl,fun i _=>rfl,trivial⟩,trivial⟩⟩ ?_
 rintro k fr ds H ⟨hk,hp,hfr,rfl,hlt,hfit⟩
 refine T.ren [0,1,2,3,4] (vCode_ok cxw_ok (by kernel_rfl) ?_) hfr hfit rfl hlt rfl rfl rfl (by kernel_rfl)
 refine Sd.mk ⟨by omega,by show(k:Int)<10;omega⟩ ?_
 refine Zr0 ?_
 have w1:IntKind.i64.wrap ((k:Int)+1)=((k+1:Nat):Int):=by rw[wrap_in (k:=.i64) (by simp only;omega)];omega
 have a1:(2:Int) ^ shf .u64 7=128:=by decide
 have f7:(n / 128 ^ k).fdiv (2 ^ shf .u64 7)=n / 128 ^ (k+1):=by
  rw[a1,Int.fdiv_eq_ediv_of_nonneg _ (by decide),Int.ediv_ediv_of_nonneg (Int.pow_nonneg (by decide)),Int.pow_succ]
 rw[w1,f7,orV,puG_next]
 refine Br.o (fun h1=>?_) (fun h1=>?_)
 ·have h2:n / 128 ^ (k+1)=0:=of_decide_eq_true h1
  have w2:IntKind.i64.wrap (((k+1:Nat):Int)-1)=(k:Int):=by rw[wrap_in (k:=.i64) (by simp only;omega)];omega
  conv=>whnf
  rw[w2]
  refine Sd.mk ⟨by omega,by show(k:Int)<10;omega⟩ ?_
  refine Zr0 ?_
  conv=>whnf
  have v1:bitR .andNot .u8 (if(k:Int).toNat<k+1 then n / 128 ^ (k:Int).toNat % 128+128 else 0) 128=n / 128 ^ k:=by
   have h5:0<=n / 128 ^ k:=Int.ediv_nonneg h.1 (Int.pow_nonneg (by decide))
   have h6:n / 128 ^ k / 128=0:=by rw[<-f7,a1,Int.fdiv_eq_ediv_of_nonneg _ (by decide)]at h2;exact h2
   have e:(if(k:Int).toNat<k+1 then n / 128 ^ (k:Int).toNat % 128+128 else 0)=(((n / 128 ^ k % 128).toNat+128:Nat):Int):=by
    rw[show(k:Int).toNat=k from rfl,if_pos (Nat.lt_succ_self k)]
    omega
   rw[e,not128 _ (by omega)]
   omega
  rw[v1]
  refine Sd.mk ⟨by omega,by show(k:Int)<10;omega⟩ ?_
  refine Zr0 ?_
  refine Sd.mk ⟨by omega,by show((k+1:Nat):Int)<=10;omega⟩ ?_
  conv=>whnf
  refine Sd.mk ⟨by decide,by show k+1<=10;omega⟩ ?_
  refine Zr3 ?_
  conv=>whnf
  have h5:0<=n / 128 ^ k:=Int.ediv_nonneg h.1 (Int.pow_nonneg (by decide))
  have hlast:(fun k_1=>bif Nat.beq k_1 (k:Int).toNat then SV.int IntKind.u8 (n / 128 ^ k)else puG n (k+1) k_1) k=.int .u8 (n / 128 ^ k):=by
   show(bif Nat.beq k k then SV.int IntKind.u8 (n / 128 ^ k)else puG n (k+1) k)=_
   rw[Nat.beq_refl];rfl
  have hrest:∀j,j<k->(fun k_1=>bif Nat.beq k_1 (k:Int).toNat then SV.int IntKind.u8 (n / 128 ^ k)else puG n (k+1) k_1) j=.int .u8 (n / 128 ^ j % 128+128):=fun j hj=>by
   show(bif Nat.beq j k then SV.int IntKind.u8 (n / 128 ^ k)else puG n (k+1) j)=_
   rw[beq_ne (by omega)]
   show SV.int .u8 (if j<k+1 then n / 128 ^ j % 128+128 else 0)=_
   rw[if_pos (by omega)]
  refine Sd.mk (fun i hi=>?_) ?_
  ·have hi:i<k+1:=hi
   by_cases q:i=k
   ·subst q
    exact byte_eq hlast h5
   ·exact byte_eq (hrest i (by omega)) (by omega)
  refine Lv.mk' (v':=.str (putB n.toNat)) (Hl:=z4) [0,1,2,3] ⟨rfl,rfl⟩ ?_ ⟨trivial,trivial,trivial,trivial,trivial⟩ rfl rfl rfl rfl rfl
  show SV.str (putB n.toNat)=SV.str (bytesOf (k+1) _)
  rw[put_bytes n k _ h.1 hk hp h2 hrest hlast]
 ·have h2:¬n / 128 ^ (k+1)=0:=of_decide_eq_false h1
  have h3:0<=n / 128 ^ (k+1):=Int.ediv_nonneg h.1 (Int.pow_nonneg (by decide))
  have h4:k+1<=9:=by
   apply Classical.byContradiction
   intro h5
   obtain rfl:k=9:=by omega
   have:(128:Int) ^ (9+1)=1180591620717411303424:=by decide
   rw[this]at h2
   omega
  refine Exists.intro (k+1) ⟨by show 9-(k+1)<9-k;omega,h4,.inr (by omega),hasR_cons rfl (hasR_cons rfl (hasR_cons rfl (hasR_nil _ _))),rfl,rfl,⟨trivial,trivial,trivial,trivial,.s ⟨rfl,fun i _=>rfl,trivial⟩,trivial⟩⟩
end Go.Proofs.YtgdmlkgjpcnelaaGreatDoor
namespace Go.Proofs.YtgdmlkgjpcnelaaGreatDoor
open Go Go.Vc
set_option linter.unusedVariables false
set_option maxRecDepth 100000
set_option maxHeartbeats 1000000
theorem and128:∀b:Nat,b<256->bitR .and .u8 (b:Int) 128=if 128<=b then 128 else 0:=by decide +kernel
theorem sh7:∀i:Nat,i<10->(2:Int) ^ shf .u64 (7*(i:Int))=((128 ^ i:Nat):Int):=by decide +kernel
theorem pow9 (i:Nat)(h:i<=9):(128:Nat) ^ i<=9223372036854775808:=by
 have:(128:Nat) ^ i<=128 ^ 9:=Nat.pow_le_pow_right (by decide) h
 have e:(128:Nat) ^ 9=9223372036854775808:=by decide
 omega
theorem pow8 (i:Nat)(h:i<=8):(128:Nat) ^ i<=72057594037927936:=by
 have:(128:Nat) ^ i<=128 ^ 8:=Nat.pow_le_pow_right (by decide) h
 have e:(128:Nat) ^ 8=72057594037927936:=by decide
 omega
theorem or_add (n c i:Nat)(h:n<128 ^ i):n ||| c*128 ^ i=n+c*128 ^ i:=by
 have e:(128:Nat) ^ i=2 ^ (7*i):=by rw[Nat.pow_mul]
 rw[e]at h ⊢
 have:=Nat.shiftLeft_add_eq_or_of_lt h c
 rw[Nat.shiftLeft_eq]at this
 rw[Nat.or_comm,<-this,Nat.add_comm]
theorem or64 (a b:Nat)(ha:a<18446744073709551616)(hb:b<18446744073709551616):bitR .or .u64 (a:Int) (b:Int)=((a ||| b:Nat):Int):=by
 show IntKind.u64.wrap ((BitVec.ofInt 64 (a:Int) ||| BitVec.ofInt 64 (b:Int)).toNat:Int)=_
 rw[BitVec.toNat_or,ofInt_n _ ha,ofInt_n _ hb,wrapU]
 have:a ||| b<2 ^ 64:=Nat.or_lt_two_pow (by omega) (by omega)
 omega
theorem get_or (n i b:Nat)(hi:i<=9)(hn:n<128 ^ i)(hb:b<256)(h9:i=9->b<=1) :
  (b % 128*128 ^ i<18446744073709551616)/\bitR .or .u64 (n:Int) ((b % 128*128 ^ i:Nat):Int)=((n+b % 128*128 ^ i:Nat):Int):=by
 have h1:b % 128*128 ^ i<18446744073709551616:=by
  by_cases q:i=9
  ·have:=h9 q
   subst q
   have e:(128:Nat) ^ 9=9223372036854775808:=by decide
   rw[e];omega
  ·have:=pow8 i (by omega)
   have:b % 128*128 ^ i<=127*128 ^ i:=Nat.mul_le_mul_right _ (by omega)
   omega
 refine⟨h1,?_⟩
 rw[or64 _ _ (by have:=pow9 i hi;omega) h1,or_add _ _ _ hn]
theorem get_lt (n i b:Nat)(hn:n<128 ^ i):n+b % 128*128 ^ i<128 ^ (i+1):=by
 rw[Nat.pow_succ]
 have:b % 128*128 ^ i<=127*128 ^ i:=Nat.mul_le_mul_right _ (by omega)
 omega
theorem drop_cons {l:List UInt8}{i:Nat}(h:i<l.length):l.drop i=l.getD i 0::l.drop (i+1):=by
 rw[List.drop_eq_getElem_cons h,List.getD_eq_getElem?_getD,List.getElem?_eq_getElem h];rfl
theorem vget_at (s:List UInt8):CallG Tryz.prog 155 [.str s] z4 fun v H=>v=.tup [.int .u64 ((getB s).1:Int),.int .i64 ((getB s).2.1:Int),.int .i64 ((getB s).2.2:Int)]/\H=z4:=by
 refine Ze Tryz.func155 rfl fun g w=>?_
 refine LoopG.by (α:=Nat × Nat) (fun p fr ds H=>p.1<=10/\p.1<=s.length/\p.2<128 ^ p.1/\getL (10-p.1) p.1 p.2 (s.drop p.1)=getB s/\HasR [0,1,2,3] [(6,.int .i64 (p.1:Int)),(2,.int .u64 (p.2:Int)),(0,.str s)] fr/\ds=[]/\allLt [0,1,2,3] (len H)=true/\Fits (ren [0,1,2,3]) H z4 0) (fun p=>10-p.1) (0,0) ⟨by show 0<=10;omega,Nat.zero_le _,by decide,rfl,hasR_cons rfl (hasR_cons rfl (hasR_cons rfl (hasR_nil _ _))),rfl,rfl,trivial,trivial,trivial,trivial,trivial⟩ ?_
 rintro ⟨i,n⟩ fr ds H ⟨hi,hs,hn,hg,hfr,rfl,hlt,hfit⟩
 dsimp only at hi hs hn hg hfr hfit
 refine T.ren [0,1,2,3] (vCode_ok cx_ok (by kernel_rfl) ?_) hfr hfit rfl hlt rfl rfl rfl (by kernel_rfl)
 refine Br.o (fun h1=>?_) (fun h1=>?_)
 rotate_left
 ·have p1:¬(i:Int)<10:=of_decide_eq_false h1
  obtain rfl:i=10:=by omega
  have hg:getB s=(0,0,20):=by rw[<-hg];rfl
  rw[hg]
  exact Zv (v':=.tup [.int .u64 0,.int .i64 0,.int .i64 20]) (Hl:=z4) (c4 []) ⟨rfl,rfl⟩ Zx2
 have p1:(i:Int)<10:=of_decide_eq_true h1
 obtain⟨f,hf⟩:∃f,10-i=f+1:=⟨9-i,by omega⟩
 have hf2:10-(i+1)=f:=by omega
 rw[hf]at hg
 refine Br.o (fun h2=>?_) (fun h2=>?_)
 ·have p2:(i:Int)=s.length:=of_decide_eq_true h2
  have hg:getB s=(0,0,8):=by rw[<-hg,List.drop_eq_nil_of_le (by omega)];rfl
  rw[hg]
  exact Zv (v':=.tup [.int .u64 0,.int .i64 0,.int .i64 8]) (Hl:=z4) (c4 []) ⟨rfl,rfl⟩ Zx2
 have p2:¬(i:Int)=s.length:=of_decide_eq_false h2
 have hil:i<s.length:=by omega
 rw[drop_cons hil]at hg
 have hb:=UInt8.toNat_lt (s.getD i 0)
 have ix:0<=(i:Int)/\(i:Int)<s.length:=⟨by omega,by omega⟩
 refine Br.o (fun h3=>?_) (fun h3=>?_)
 rotate_left
 ·have h9:i=9->(s.getD i 0).toNat<=1:=fun q=>absurd (show(i:Int)=9 by omega) (of_decide_eq_false h3)
  refine Zr3 ?_
  have e1:bitR .andNot .u8 ((s.getD (i:Int).toNat 0).toNat:Int) 128=(((s.getD i 0).toNat % 128:Nat):Int):=not128 _ (show(s.getD i 0).toNat<256 by omega)
  have e2:(((s.getD i 0).toNat % 128:Nat):Int)*2 ^ shf .u64 (7*(i:Int))=(((s.getD i 0).toNat % 128*128 ^ i:Nat):Int):=by rw[sh7 i (by omega)];exact(Int.natCast_mul _ _).symm
  obtain⟨g1,g2⟩:=get_or n i _ (by omega) hn (by omega) h9
  have e3:bitR .and .u8 ((s.getD (i:Int).toNat 0).toNat:Int) 128=if 128<=(s.getD i 0).toNat then 128 else 0:=and128 _ (show(s.getD i 0).toNat<256 by omega)
  conv=>whnf
  rw[e1]
  refine Zr0 ?_
  conv=>whnf
  rw[e2,g2,e3]
  have hg:(if i=9/\1<(s.getD i 0).toNat then(0,0,20)else if 128<=(s.getD i 0).toNat then getL f (i+1) (n+(s.getD i 0).toNat % 128*128 ^ i) (s.drop (i+1))else if 0<i/\(s.getD i 0).toNat=0 then(0,0,11)else(n+(s.getD i 0).toNat*128 ^ i,i+1,0))=getB s:=hg
  rw[if_neg (show ¬(i=9/\1<(s.getD i 0).toNat)from fun q=>by have:=h9 q.1;omega)]at hg
  refine Br.o (fun h5=>?_) (fun h5=>?_)
  ·have p5:128<=(s.getD i 0).toNat:=by
    have h5:(if 128<=(s.getD i 0).toNat then(128:Int)else 0)≠0:=of_decide_eq_true h5
    apply Classical.byContradiction
    intro q
    rw[if_neg q]at h5
    exact h5 rfl
   rw[if_pos p5]at hg
   refine Zr0 ?_
   exact Exists.intro (i+1,n+(s.getD i 0).toNat % 128*128 ^ i) ⟨by show 10-(i+1)<10-i;omega,by show i+1<=10;omega,hil,get_lt n i _ hn,by show getL (10-(i+1)) _ _ _=_;rw[hf2];exact hg,hasR_cons rfl (hasR_cons rfl (hasR_cons rfl (hasR_nil _ _))),rfl,rfl,trivial,trivial,trivial,trivial,trivial⟩
  ·have p5:¬128<=(s.getD i 0).toNat:=by
    have h5:¬(if 128<=(s.getD i 0).toNat then(128:Int)else 0)≠0:=of_decide_eq_false h5
    intro q
    rw[if_pos q]at h5
    exact h5 (by decide)
   rw[if_neg p5]at hg
   refine Br.o (fun h6=>?_) (fun h6=>?_)
   ·have p6:(0:Int)<i:=of_decide_eq_true h6
    refine Zr3 ?_
    refine Br.o (fun h7=>?_) (fun h7=>?_)
    ·have p7:(((s.getD i 0).toNat:Nat):Int)=0:=of_decide_eq_true h7
     rw[if_pos ⟨by omega,by omega⟩]at hg
     rw[<-hg]
     exact Zv (v':=.tup [.int .u64 0,.int .i64 0,.int .i64 11]) (Hl:=z4) (c4 []) ⟨rfl,rfl⟩ Zx2
    ·have p7:¬(((s.getD i 0).toNat:Nat):Int)=0:=of_decide_eq_false h7
     rw[if_neg (by omega)]at hg
     refine Zr0 ?_
     conv=>whnf
     rw[Nat.mod_eq_of_lt (show(s.getD i 0).toNat<128 by omega),<-hg]
     exact Zv (v':=.tup [.int .u64 ((n+(s.getD i 0).toNat*128 ^ i:Nat):Int),.int .i64 ((i+1:Nat):Int),.int .i64 0]) (Hl:=z4) (c4 []) ⟨rfl,rfl⟩ Zx2
   ·have p6:¬(0:Int)<i:=of_decide_eq_false h6
    rw[if_neg (by omega)]at hg
    refine Zr3 ?_
    conv=>whnf
    rw[Nat.mod_eq_of_lt (show(s.getD i 0).toNat<128 by omega),<-hg]
    exact Zv (v':=.tup [.int .u64 ((n+(s.getD i 0).toNat*128 ^ i:Nat):Int),.int .i64 ((i+1:Nat):Int),.int .i64 0]) (Hl:=z4) (c4 []) ⟨rfl,rfl⟩ Zx2
 ·have p3:(i:Int)=9:=of_decide_eq_true h3
  refine Zr3 ?_
  refine Br.o (fun h4=>?_) (fun h4=>?_)
  ·have p4:(1:Int)<((s.getD i 0).toNat:Int):=of_decide_eq_true h4
   have hg:getB s=(0,0,20):=by rw[<-hg];show(if i=9/\1<(s.getD i 0).toNat then _ else _)=_;rw[if_pos ⟨by omega,by omega⟩]
   rw[hg]
   exact Zv (v':=.tup [.int .u64 0,.int .i64 0,.int .i64 20]) (Hl:=z4) (c4 []) ⟨rfl,rfl⟩ Zx2
  ·have p4:¬(1:Int)<((s.getD i 0).toNat:Int):=of_decide_eq_false h4
   have h9:i=9->(s.getD i 0).toNat<=1:=fun q=>by omega
   refine Zr0 ?_
   have e1:bitR .andNot .u8 ((s.getD (i:Int).toNat 0).toNat:Int) 128=(((s.getD i 0).toNat % 128:Nat):Int):=not128 _ (show(s.getD i 0).toNat<256 by omega)
   have e2:(((s.getD i 0).toNat % 128:Nat):Int)*2 ^ shf .u64 (7*(i:Int))=(((s.getD i 0).toNat % 128*128 ^ i:Nat):Int):=by rw[sh7 i (by omega)];exact(Int.natCast_mul _ _).symm
   obtain⟨g1,g2⟩:=get_or n i _ (by omega) hn (by omega) h9
   have e3:bitR .and .u8 ((s.getD (i:Int).toNat 0).toNat:Int) 128=if 128<=(s.getD i 0).toNat then 128 else 0:=and128 _ (show(s.getD i 0).toNat<256 by omega)
   conv=>whnf
   rw[e1]
   refine Zr0 ?_
   conv=>whnf
   rw[e2,g2,e3]
   have hg:(if i=9/\1<(s.getD i 0).toNat then(0,0,20)else if 128<=(s.getD i 0).toNat then getL f (i+1) (n+(s.getD i 0).toNat % 128*128 ^ i) (s.drop (i+1))else if 0<i/\(s.getD i 0).toNat=0 then(0,0,11)else(n+(s.getD i 0).toNat*128 ^ i,i+1,0))=getB s:=hg
   rw[if_neg (show ¬(i=9/\1<(s.getD i 0).toNat)from fun q=>by have:=h9 q.1;omega)]at hg
   refine Br.o (fun h5=>?_) (fun h5=>?_)
   ·have p5:128<=(s.getD i 0).toNat:=by
     have h5:(if 128<=(s.getD i 0).toNat then(128:Int)else 0)≠0:=of_decide_eq_true h5
     apply Classical.byContradiction
     intro q
     rw[if_neg q]at h5
     exact h5 rfl
    rw[if_pos p5]at hg
    refine Zr0 ?_
    exact Exists.intro (i+1,n+(s.getD i 0).toNat % 128*128 ^ i) ⟨by show 10-(i+1)<10-i;omega,by show i+1<=10;omega,hil,get_lt n i _ hn,by show getL (10-(i+1)) _ _ _=_;rw[hf2];exact hg,hasR_cons rfl (hasR_cons rfl (hasR_cons rfl (hasR_nil _ _))),rfl,rfl,trivial,trivial,trivial,trivial,trivial⟩
   ·have p5:¬128<=(s.getD i 0).toNat:=by
     have h5:¬(if 128<=(s.getD i 0).toNat then(128:Int)else 0)≠0:=of_decide_eq_false h5
     intro q
     rw[if_pos q]at h5
     exact h5 (by decide)
    rw[if_neg p5]at hg
    refine Br.o (fun h6=>?_) (fun h6=>?_)
    ·have p6:(0:Int)<i:=of_decide_eq_true h6
     refine Zr3 ?_
     refine Br.o (fun h7=>?_) (fun h7=>?_)
     ·have p7:(((s.getD i 0).toNat:Nat):Int)=0:=of_decide_eq_true h7
      rw[if_pos ⟨by omega,by omega⟩]at hg
      rw[<-hg]
      exact Zv (v':=.tup [.int .u64 0,.int .i64 0,.int .i64 11]) (Hl:=z4) (c4 []) ⟨rfl,rfl⟩ Zx2
     ·have p7:¬(((s.getD i 0).toNat:Nat):Int)=0:=of_decide_eq_false h7
      rw[if_neg (by omega)]at hg
      refine Zr0 ?_
      conv=>whnf
      rw[Nat.mod_eq_of_lt (show(s.getD i 0).toNat<128 by omega),<-hg]
      exact Zv (v':=.tup [.int .u64 ((n+(s.getD i 0).toNat*128 ^ i:Nat):Int),.int .i64 ((i+1:Nat):Int),.int .i64 0]) (Hl:=z4) (c4 []) ⟨rfl,rfl⟩ Zx2
    ·have p6:¬(0:Int)<i:=of_decide_eq_false h6
     rw[if_neg (by omega)]at hg
     refine Zr3 ?_
     conv=>whnf
     rw[Nat.mod_eq_of_lt (show(s.getD i 0).toNat<128 by omega),<-hg]
     exact Zv (v':=.tup [.int .u64 ((n+(s.getD i 0).toNat*128 ^ i:Nat):Int),.int .i64 ((i+1:Nat):Int),.int .i64 0]) (Hl:=z4) (c4 []) ⟨rfl,rfl⟩ Zx2
end Go.Proofs.YtgdmlkgjpcnelaaGreatDoor
namespace Go.Proofs.YtgdmlkgjpcnelaaGreatDoor
open Go Go.Vc
set_option linter.unusedVariables false
set_option maxRecDepth 100000
set_option maxHeartbeats 1000000
theorem lt_no {i n:Nat}(h:¬i<n):lt i n=false:=by
 unfold lt
 cases q:Nat.ble (i+1) n with
 |false=>rfl
 |true=>exact absurd (Nat.le_of_ble_eq_true q) h
theorem strG_app (a b:List UInt8):addG a.length (strG a) (strG b)=strG (a++b):=by
 funext i j
 show(bif lt i a.length then byteV (a.getD i 0)else byteV (b.getD (i-a.length) 0))=byteV ((a++b).getD i 0)
 by_cases h:i<a.length
 ·rw[show lt i a.length=true from Nat.ble_eq_true_of_le h,List.getD_eq_getElem?_getD (l:=a++b),List.getElem?_append_left h,<-List.getD_eq_getElem?_getD];rfl
 ·rw[lt_no h,List.getD_eq_getElem?_getD (l:=a++b),List.getElem?_append_right (by omega),<-List.getD_eq_getElem?_getD];rfl
theorem strG_ones (n:Nat)(s:List UInt8):ones n 1 (strG s):=fun i j _ _=>rfl
instance plStr (s:List UInt8):PlainG (strG s):=⟨fun τ i j=>rfl,fun i j=>rfl⟩
noncomputable abbrev wrO (b:Nat)(n:Nat):Ob:=.row [.c (.int .i64 16777216),.c (.sl b 0 1 n (.u 0))] 237 0
noncomputable abbrev wr0:Ob:=.row [.c (.int .i64 16777216),.c .nils] 237 0
noncomputable abbrev byO (s:List UInt8):Ob:=.rows s.length 1 (strG s) 5 1
theorem vnewWriter_at:CallG Tryz.prog 56 [.int .i64 16777216] z4 fun v H=>v=.tup [.ptr 4 0 0 0,.int .i64 0]/\H=z4++[wr0]:=by
 refine Ze Tryz.func56 rfl fun g w=>?_
 refine Zr2 ?_
 exact Zv (v':=.tup [.ptr 4 0 0 0,.int .i64 0]) (Hl:=z4++[wr0]) (c4 [4]) ⟨rfl,rfl⟩ Zx3
theorem vraw0_at (s:List UInt8)(h0:s≠[])(h:s.length<1000000):CallG Tryz.prog 143 [.ptr 4 0 0 0,.str s] (z4++[wr0]) fun v H=>v=.int .i64 0/\H=z4++[wrO 5 s.length,byO s]:=by
 refine Ze Tryz.func143 rfl fun g w=>?_
 refine Zr2 ?_
 refine Zw Zl9 ?_
 refine Zr14 ?_
 refine Br.f (beq_ne (fun q=>h0 (List.eq_nil_of_length_eq_zero q))) ?_
 conv=>whnf
 refine Sd.mk ⟨h,strG_ones _ _⟩ ?_
 exact Zv (v':=.int .i64 0) (Hl:=z4++[wrO 5 s.length,byO s]) (c4 [4,5]) ⟨rfl,rfl⟩ Zx17
theorem vraw_at (b s:List UInt8)(h0:s≠[])(h:b.length+s.length<1000000):CallG Tryz.prog 143 [.ptr 4 0 0 0,.str s] (z4++[wrO 5 b.length,byO b]) fun v H=>v=.int .i64 0/\H=z4++[wrO 6 (b++s).length,.dead,byO (b++s)]:=by
 have e1:(b++s).length=b.length+s.length:=List.length_append
 refine Ze Tryz.func143 rfl fun g w=>?_
 refine Zr2 ?_
 refine Zw Zl9 ?_
 refine Zr14 ?_
 conv=>whnf
 refine Sd.mk ⟨h,strG_ones _ _⟩ ?_
 refine Br.f (beq_ne (fun q=>h0 (List.eq_nil_of_length_eq_zero q))) ?_
 refine Zr0 ?_
 conv=>whnf
 rw[show addG b.length (ovG [] (strG b)) (strG s)=strG (b++s)from strG_app b s,<-e1]
 exact Zv (v':=.int .i64 0) (Hl:=z4++[wrO 6 (b++s).length,.dead,byO (b++s)]) (c4 [4,5,6]) ⟨rfl,rfl⟩ Zx42
theorem putB_ne (n:Nat):putB n≠[]:=putL_ne 9 n
theorem vnum0_at (n:Int)(hn:0<=n/\n<18446744073709551616):CallG Tryz.prog 57 [.ptr 4 0 0 0,.int .u64 n] (z4++[wr0]) fun v H=>v=.int .i64 0/\H=z4++[wrO 5 (putB n.toNat).length,byO (putB n.toNat)]:=by
 have hl:=putB_len n.toNat
 refine Ze Tryz.func57 rfl fun g w=>?_
 refine Zc [0,1,2,3] [none,none,none,none] [] (vput_at n hn) Zx2 Zx4 ?_
 refine Zc [0,1,2,3,4] [none,none,none,none,some (wrO 5 (putB n.toNat).length)] [byO (putB n.toNat)] (vraw0_at (putB n.toNat) (putB_ne _) (by omega)) Zx3 Zx31 ?_
 exact Zv (v':=.int .i64 0) (Hl:=z4++[wrO 5 (putB n.toNat).length,byO (putB n.toNat)]) (c4 [4,5]) ⟨rfl,rfl⟩ Zx17
theorem vnum_at (b:List UInt8)(n:Int)(hn:0<=n/\n<18446744073709551616)(h:b.length<900000):CallG Tryz.prog 57 [.ptr 4 0 0 0,.int .u64 n] (z4++[wrO 5 b.length,byO b]) fun v H=>v=.int .i64 0/\H=z4++[wrO 6 (b++putB n.toNat).length,.dead,byO (b++putB n.toNat)]:=by
 have hl:=putB_len n.toNat
 refine Ze Tryz.func57 rfl fun g w=>?_
 refine Zc [0,1,2,3] [none,none,none,none] [] (vput_at n hn) Zx2 Zx4 ?_
 refine Zc [0,1,2,3,4,5] [none,none,none,none,some (wrO 6 (b++putB n.toNat).length),some .dead] [byO (b++putB n.toNat)] (vraw_at b (putB n.toNat) (putB_ne _) (by omega)) Zx17 Zx20 ?_
 exact Zv (v':=.int .i64 0) (Hl:=z4++[wrO 6 (b++putB n.toNat).length,.dead,byO (b++putB n.toNat)]) (c4 [4,5,6]) ⟨rfl,rfl⟩ Zx42
theorem bytes_str (s:List UInt8):bytesOf s.length (strG s)=s:=by
 unfold bytesOf
 apply List.ext_getElem
 ·simp
 ·intro i h1 h2
  simp[strG,byteV,List.getD_eq_getElem?_getD,List.getElem?_eq_getElem h2]
  show UInt8.ofNat ((s[i].toNat:Nat):Int).toNat=s[i]
  simp
theorem vtext_at (b:List UInt8):CallG Tryz.prog 61 [.ptr 4 0 0 0] (z4++[wrO 5 b.length,byO b]) fun v H=>v=.str b/\H=z4++[wrO 5 b.length,byO b]:=by
 refine Ze Tryz.func61 rfl fun g w=>?_
 refine Zr3 ?_
 conv=>whnf
 refine Sd.mk (fun i hi=>rfl) ?_
 refine Lv.mk' (v':=.str b) (Hl:=z4++[wrO 5 b.length,byO b]) [0,1,2,3,4,5] ⟨rfl,rfl⟩ ?_ ⟨trivial,trivial,trivial,trivial,.r rfl,.p,trivial⟩ rfl rfl rfl rfl rfl
 show SV.str b=SV.str (bytesOf b.length (strG b))
 rw[bytes_str]
end Go.Proofs.YtgdmlkgjpcnelaaGreatDoor
