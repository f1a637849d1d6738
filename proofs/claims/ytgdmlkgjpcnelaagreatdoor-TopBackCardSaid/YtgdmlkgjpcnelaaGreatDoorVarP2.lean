import Derived.Test.YtgdmlkgjpcnelaaGreatDoorVarP
namespace Go.Proofs.YtgdmlkgjpcnelaaGreatDoor
theorem zag_zig (x:Int):zagI (zigI x)=x:=by
 unfold zagI zigI
 split<;>split<;>omega
theorem zig_zag (n:Int)(h:0<=n):zigI (zagI n)=n:=by
 unfold zagI zigI
 split<;>split<;>omega
theorem zig_bd (x:Int)(h0:-9223372036854775808<=x)(h1:x<=9223372036854775807):0<=zigI x/\zigI x<18446744073709551616:=by
 unfold zigI;split<;>omega
theorem zag_bd (n:Int)(h0:0<=n)(h1:n<18446744073709551616):-9223372036854775808<=zagI n/\zagI n<=9223372036854775807:=by
 unfold zagI;split<;>omega
theorem putB_prefix (a b:Nat)(ha:a<18446744073709551616)(hb:b<18446744073709551616)(h:(putB b).take (putB a).length=putB a):a=b:=by
 have h1:=getB_putB a ((putB b).drop (putB a).length) ha
 have h2:putB a++(putB b).drop (putB a).length=putB b:=by
  conv=>lhs;lhs;rw[<-h]
  exact List.take_append_drop _ _
 rw[h2]at h1
 have h3:=getB_putB b [] hb
 rw[List.append_nil,h1]at h3
 exact(Prod.ext_iff.1 h3).1
theorem putB_inj (a b:Nat)(ha:a<18446744073709551616)(hb:b<18446744073709551616)(h:putB a=putB b):a=b:=by
 apply putB_prefix a b ha hb
 rw[h,List.take_length]
theorem putL_mono (f:Nat):∀a b:Nat,a<=b->(putL f a).length<=(putL f b).length:=by
 induction f with
 |zero=>intro a b _;simp[putL]
 |succ f ih=>
  intro a b h
  by_cases hb:b<128
  ·have:a<128:=by omega
   simp[putL,hb,this]
  ·by_cases ha:a<128
   ·rw[putL,if_pos ha,putL,if_neg hb];simp
   ·rw[putL,if_neg ha,putL,if_neg hb]
    simp only[List.length_cons]
    have:=ih (a / 128) (b / 128) (Nat.div_le_div_right h)
    omega
theorem putB_mono (a b:Nat)(h:a<=b):(putB a).length<=(putB b).length:=putL_mono 10 a b h
end Go.Proofs.YtgdmlkgjpcnelaaGreatDoor
