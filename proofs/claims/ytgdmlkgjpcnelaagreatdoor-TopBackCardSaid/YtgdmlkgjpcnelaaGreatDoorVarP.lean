namespace Go.Proofs.YtgdmlkgjpcnelaaGreatDoor
def putL:Nat->Nat->List UInt8
 |0,_=>[]
 |f+1,n=>if n<128 then [UInt8.ofNat n]else UInt8.ofNat (n % 128+128)::putL f (n / 128)
def putB (n:Nat):List UInt8:=putL 10 n
def getL:Nat->Nat->Nat->List UInt8->Nat × Nat × Nat
 |0,_,_,_=>(0,0,20)
 |_+1,_,_,[]=>(0,0,8)
 |f+1,i,n,b::r=>
  if i=9/\1<b.toNat then(0,0,20)else
  if 128<=b.toNat then getL f (i+1) (n+b.toNat % 128*128 ^ i) r
  else if 0<i/\b.toNat=0 then(0,0,11)else(n+b.toNat*128 ^ i,i+1,0)
def getB (l:List UInt8):Nat × Nat × Nat:=getL 10 0 0 l
def zigI (x:Int):Int:=if x<0 then -2*x-1 else 2*x
def zagI (n:Int):Int:=if n % 2=0 then n / 2 else-(n / 2)-1
theorem toNat_small (n:Nat)(h:n<256):(UInt8.ofNat n).toNat=n:=by
 simp;omega
theorem putL_ne (f n:Nat):putL (f+1) n≠[]:=by
 unfold putL;split<;>simp
theorem putL_len (f n:Nat):(putL f n).length<=f:=by
 induction f generalizing n with
 |zero=>simp[putL]
 |succ f ih=>unfold putL;split<;>simp;exact ih _
theorem pow_succ' (i:Nat):128 ^ (i+1)=128*128 ^ i:=by rw[Nat.pow_succ,Nat.mul_comm]
theorem small_last (i m:Nat)(hi:9<=i)(h:m*128 ^ i<18446744073709551616):m<2:=by
 rcases Nat.lt_or_ge m 2 with h'|h'
 ·exact h'
 ·have h1:128 ^ 9<=128 ^ i:=Nat.pow_le_pow_right (by omega) hi
  have h2:2*128 ^ 9<=m*128 ^ i:=Nat.mul_le_mul h' h1
  have h3:(2*128 ^ 9:Nat)=18446744073709551616:=by decide
  omega
theorem getL_putL (f:Nat):∀(i n m:Nat) (rest:List UInt8),i+f=10->(0<m\/i=0)->m*128 ^ i<18446744073709551616->0<f ->
  getL f i n (putL f m++rest)=(n+m*128 ^ i,i+(putL f m).length,0):=by
 induction f with
 |zero=>intro i n m rest _ _ _ h;omega
 |succ f ih=>
  intro i n m rest hif hm hb _
  by_cases h:m<128
  ·have e:putL (f+1) m=[UInt8.ofNat m]:=by simp[putL,h]
   rw[e]
   have ht:=toNat_small m (by omega)
   have h9:¬(i=9/\1<m):=by
    rintro ⟨rfl,h1⟩
    have:=small_last 9 m (by omega) hb
    omega
   simp only[List.singleton_append,getL,ht,h9,if_false]
   rw[if_neg (by omega),if_neg (by omega)]
   simp
  ·have e:putL (f+1) m=UInt8.ofNat (m % 128+128)::putL f (m / 128):=by rw[putL,if_neg h]
   rw[e]
   have ht:=toNat_small (m % 128+128) (by omega)
   have hi9:i≠9:=by
    rintro rfl
    have:=small_last 9 m (by omega) hb
    omega
   have hi9':i<9:=by
    rcases Nat.lt_or_ge i 9 with h'|h'
    ·exact h'
    ·have:=small_last i m h' hb
     omega
   have hmul:m / 128*128 ^ (i+1)+m % 128*128 ^ i=m*128 ^ i:=by
    rw[pow_succ',<-Nat.mul_assoc,<-Nat.add_mul,Nat.mul_comm (m / 128) 128,Nat.div_add_mod]
   rw[List.cons_append,getL,ht,if_neg (by omega),if_pos (by omega),ih (i+1) _ (m / 128) rest (by omega) (Or.inl (by omega)) (by omega) (by omega)]
   have hmod:(m % 128+128) % 128=m % 128:=by omega
   simp only[hmod,List.length_cons]
   refine Prod.ext ?_ (Prod.ext ?_ rfl)
   ·show n+m % 128*128 ^ i+m / 128*128 ^ (i+1)=n+m*128 ^ i
    omega
   ·show i+1+(putL f (m / 128)).length=i+((putL f (m / 128)).length+1)
    omega
theorem getL_short (f:Nat):∀(i n m:Nat),i+f=10->m*128 ^ i<18446744073709551616->0<f ->
  getL f i n (putL f m).dropLast=(0,0,8):=by
 induction f with
 |zero=>intro i n m _ _ h;omega
 |succ f ih=>
  intro i n m hif hb _
  by_cases h:m<128
  ·have e:putL (f+1) m=[UInt8.ofNat m]:=by simp[putL,h]
   rw[e];simp[getL]
  ·have e:putL (f+1) m=UInt8.ofNat (m % 128+128)::putL f (m / 128):=by rw[putL,if_neg h]
   have ht:=toNat_small (m % 128+128) (by omega)
   have hi9':i<9:=by
    rcases Nat.lt_or_ge i 9 with h'|h'
    ·exact h'
    ·have:=small_last i m h' hb
     omega
   have hmul:m / 128*128 ^ (i+1)+m % 128*128 ^ i=m*128 ^ i:=by
    rw[pow_succ',<-Nat.mul_assoc,<-Nat.add_mul,Nat.mul_comm (m / 128) 128,Nat.div_add_mod]
   obtain⟨g,rfl⟩:∃g,f=g+1:=⟨f-1,by omega⟩
   rw[e,List.dropLast_cons_of_ne_nil (putL_ne _ _),getL,ht,if_neg (by omega),if_pos (by omega)]
   exact ih _ _ _ (by omega) (by omega) (by omega)
theorem getL_back (f:Nat):∀(i n:Nat) (l:List UInt8) (m size e:Nat),i+f=10->getL f i n l=(m,size,e) ->
  (e=0/\∃k,m=n+k*128 ^ i/\(0<k\/i=0)/\k*128 ^ i<18446744073709551616/\size=i+(putL f k).length/\(putL f k).length<=l.length/\0<(putL f k).length/\putL f k=l.take (putL f k).length) \/
  (m=0/\size=0/\(e=8\/e=11\/e=20)):=by
 induction f with
 |zero=>
  intro i n l m size e _ h
  simp only[getL,Prod.mk.injEq]at h
  omega
 |succ f ih=>
  intro i n l m size e hif h
  cases l with
  |nil=>simp only[getL,Prod.mk.injEq]at h;omega
  |cons b r=>
   have hb:=b.toNat_lt
   rw[getL]at h
   by_cases h9:i=9/\1<b.toNat
   ·rw[if_pos h9]at h;simp only[Prod.mk.injEq]at h;omega
   rw[if_neg h9]at h
   by_cases h128:128<=b.toNat
   ·rw[if_pos h128]at h
    rcases ih (i+1) _ r m size e (by omega) h with⟨rfl,k,h1,h2,h3,h4,h5,h6,h7⟩|h'
    ·left
     have hkpos:0<k:=by omega
     have hmul:(k*128+b.toNat % 128)*128 ^ i=k*128 ^ (i+1)+b.toNat % 128*128 ^ i:=by
      rw[pow_succ',<-Nat.mul_assoc,<-Nat.add_mul]
     have hq:(k*128+b.toNat % 128) / 128=k:=by omega
     have hr:(k*128+b.toNat % 128) % 128=b.toNat % 128:=by omega
     have hbb:UInt8.ofNat (b.toNat % 128+128)=b:=by
      apply UInt8.toNat_inj.1
      rw[toNat_small _ (by omega)];omega
     have e1:putL (f+1) (k*128+b.toNat % 128)=b::putL f k:=by
      rw[putL,if_neg (by omega),hq,hr,hbb]
     have hlt:k*128 ^ (i+1)+b.toNat % 128*128 ^ i<18446744073709551616:=by
      have hi8:i<9:=by
       have:=small_last i (k*128)
       rcases Nat.lt_or_ge i 9 with h'|h'
       ·exact h'
       ·have h10:128 ^ 10<=128 ^ (i+1):=Nat.pow_le_pow_right (by omega) (by omega)
        have h11:1*128 ^ 10<=k*128 ^ (i+1):=Nat.mul_le_mul hkpos h10
        have h12:(1*128 ^ 10:Nat)=1180591620717411303424:=by decide
        omega
      obtain⟨d,hd⟩:∃d,18446744073709551616=128 ^ (i+1)*d:=by
       refine⟨2*128 ^ (8-i),?_⟩
       have:(18446744073709551616:Nat)=2*128 ^ 9:=by decide
       rw[this,Nat.mul_left_comm,<-Nat.pow_add]
       congr 2;omega
      have hp:0<128 ^ i:=Nat.pow_pos (by omega)
      have hkd:k<d:=by
       rw[hd,Nat.mul_comm (128 ^ (i+1)) d]at h3
       exact Nat.lt_of_mul_lt_mul_right h3
      have h1':(k+1)*128 ^ (i+1)<=128 ^ (i+1)*d:=by
       rw[Nat.mul_comm (128 ^ (i+1)) d];exact Nat.mul_le_mul_right _ hkd
      have h2':b.toNat % 128*128 ^ i<128 ^ (i+1):=by
       rw[pow_succ']
       exact Nat.mul_lt_mul_of_pos_right (by omega) hp
      rw[hd]
      have:(k+1)*128 ^ (i+1)=k*128 ^ (i+1)+128 ^ (i+1):=by rw[Nat.add_mul,Nat.one_mul]
      omega
     refine⟨rfl,k*128+b.toNat % 128,?_,Or.inl (by omega),by omega,?_,?_,?_,?_⟩
     ·rw[hmul,h1];omega
     ·rw[e1,h4];simp;omega
     ·rw[e1];simp;exact h5
     ·rw[e1];simp
     ·rw[e1];simp only[List.length_cons,List.take_succ_cons];rw[<-h7]
    ·right;exact h'
   ·rw[if_neg h128]at h
    by_cases h0:0<i/\b.toNat=0
    ·rw[if_pos h0]at h;simp only[Prod.mk.injEq]at h;omega
    rw[if_neg h0]at h
    simp only[Prod.mk.injEq]at h
    obtain⟨rfl,rfl,rfl⟩:=h
    left
    have e1:putL (f+1) b.toNat=[b]:=by
     rw[putL,if_pos (by omega)]
     simp
    refine⟨rfl,b.toNat,rfl,by omega,?_,by simp[e1],by simp[e1],by simp[e1],by simp[e1]⟩
    have hi9:i<=9:=by omega
    by_cases hi:i=9
    ·subst hi
     have:b.toNat<=1:=by omega
     have h12:(128 ^ 9:Nat)=9223372036854775808:=by decide
     rw[h12];omega
    ·have h10:128 ^ i<=128 ^ 8:=Nat.pow_le_pow_right (by omega) (by omega)
     have h11:b.toNat*128 ^ i<=127*128 ^ 8:=Nat.mul_le_mul (by omega) h10
     have h12:(127*128 ^ 8:Nat)=9151314442816847872:=by decide
     omega
theorem getB_putB (m:Nat)(rest:List UInt8)(h:m<18446744073709551616):getB (putB m++rest)=(m,(putB m).length,0):=by
 have:=getL_putL 10 0 0 m rest rfl (Or.inr rfl) (by omega) (by omega)
 simpa[getB,putB]using this
theorem getB_short (m:Nat)(h:m<18446744073709551616):getB (putB m).dropLast=(0,0,8):=getL_short 10 0 0 m rfl (by omega) (by omega)
theorem getB_back (l:List UInt8)(m size e:Nat)(h:getB l=(m,size,e)) :
  (e=0/\m<18446744073709551616/\size=(putB m).length/\1<=size/\size<=l.length/\putB m=l.take size) \/
  (m=0/\size=0/\(e=8\/e=11\/e=20)):=by
 rcases getL_back 10 0 0 l m size e rfl h with⟨rfl,k,h1,_,h3,h4,h5,h6,h7⟩|h'
 ·left
  simp only[Nat.pow_zero,Nat.mul_one,Nat.zero_add]at h1 h3 h4
  subst h1
  subst h4
  exact⟨rfl,h3,rfl,h6,h5,h7⟩
 ·right;exact h'
theorem putB_len (n:Nat):1<=(putB n).length/\(putB n).length<=10:=
 ⟨by have:=putL_ne 9 n;unfold putB;exact List.length_pos_iff.2 this,putL_len 10 n⟩
end Go.Proofs.YtgdmlkgjpcnelaaGreatDoor
