import Derived.Test.YtgdmlkgjpcnelaaGreatDoorTbI
import Derived.Test.YtgdmlkgjpcnelaaGreatDoorTbG
namespace Go.Proofs.YtgdmlkgjpcnelaaGreatDoor
open Go Go.Vc
set_option linter.unusedVariables false
set_option maxHeartbeats 1000000
structure Good (m:Sh)(i:Nat)(m':Sh):Prop where
 keeps:Keeps m m'
 oth:∀k,k≠i->m'.th k=m.th k
 st:(m'.th i).at_=2->0<=(m'.th i).stripe/\(m'.th i).stripe<m.ns
 rv:0<=(m'.th i).rv/\(m'.th i).rv<=1099511627776
 cm:(m'.th i).commits=(m.th i).commits\/(m'.th i).commits=(m.th i).commits+1
section
variable {m m':Sh}{i:Nat}{e:Evt}
theorem no2 {a:Int}(h:decide (a=2)=false)(q:a=2):False:=of_decide_eq_false h q
theorem Good.one {x:Th}(hk:Keeps m m')(hth:m'.th=updT m.th i x)(hst:x.at_=2->0<=x.stripe/\x.stripe<m.ns)(hrv:0<=x.rv/\x.rv<=1099511627776)(hcm:x.commits=(m.th i).commits\/x.commits=(m.th i).commits+1):Good m i m':=by
 have e1:m'.th i=x:=by rw[hth];unfold updT;rw[if_pos rfl]
 refine⟨hk,fun k h=>by rw[hth];unfold updT;rw[if_neg h],?_,?_,?_⟩
 ·rw[e1];exact hst
 ·rw[e1];exact hrv
 ·rw[e1];exact hcm
theorem updT_two (f:Nat->Th)(i:Nat)(x y:Th):updT (updT f i x) i y=updT f i y:=by
 funext k
 unfold updT
 by_cases h:k=i
 ·rw[if_pos h,if_pos h]
 ·rw[if_neg h,if_neg h,if_neg h]
theorem begin_good (hv:0<=e.v/\e.v<=1099511627776)(h:beginS m i e=some m'):Good m i m':=by
 have hk:=begin_keeps h
 unfold beginS at h
 (repeat' split at h)<;>first|(cases h;done)|skip
 all_goals
  cases h
  exact .one hk rfl (fun q=>(no2 rfl q).elim) hv (.inl rfl)
theorem look_good (hrv:0<=(m.th i).rv/\(m.th i).rv<=1099511627776)(ha:0<=e.at_/\e.at_<m.ns)(h:lookS m i e=some m'):Good m i m':=by
 have hk:=look_keeps h
 unfold lookS at h
 (repeat' split at h)<;>first|(cases h;done)|skip
 all_goals
  cases h
  exact .one hk rfl (fun _=>ha) hrv (.inl rfl)
theorem load_good (hrv:0<=(m.th i).rv/\(m.th i).rv<=1099511627776)(h:loadS m i e=some m'):Good m i m':=by
 have hk:=load_keeps h
 unfold loadS at h
 (repeat' split at h)<;>first|(cases h;done)|skip
 all_goals
  cases h
  exact .one hk rfl (fun q=>(no2 rfl q).elim) hrv (.inl rfl)
theorem lock_good (hrv:0<=(m.th i).rv/\(m.th i).rv<=1099511627776)(h:lockS m i e=some m'):Good m i m':=by
 have hk:=lock_keeps h
 unfold lockS at h
 (repeat' split at h)<;>first|(cases h;done)|skip
 all_goals
  cases h
  exact .one hk rfl (fun q=>(no2 rfl q).elim) hrv (.inl rfl)
theorem bump_good (hrv:0<=(m.th i).rv/\(m.th i).rv<=1099511627776)(h:bumpS m i e=some m'):Good m i m':=by
 have hk:=bump_keeps h
 unfold bumpS at h
 (repeat' split at h)<;>first|(cases h;done)|skip
 all_goals
  cases h
  exact .one hk rfl (fun q=>(no2 rfl q).elim) hrv (.inl rfl)
theorem checked_good (hrv:0<=(m.th i).rv/\(m.th i).rv<=1099511627776)(hst:(m.th i).at_=2->0<=(m.th i).stripe/\(m.th i).stripe<m.ns)(h:checkedS m i e=some m'):Good m i m':=by
 have hk:=checked_keeps h
 unfold checkedS at h
 (repeat' split at h)<;>first|(cases h;done)|skip
 all_goals
  cases h
  exact .one hk rfl (fun q=>hst q) hrv (.inl rfl)
theorem store_good (hrv:0<=(m.th i).rv/\(m.th i).rv<=1099511627776)(hst:(m.th i).at_=2->0<=(m.th i).stripe/\(m.th i).stripe<m.ns)(h:storeS m i e=some m'):Good m i m':=by
 have hk:=store_keeps h
 unfold storeS at h
 (repeat' split at h)<;>first|(cases h;done)|skip
 all_goals
  cases h
  exact .one hk rfl (fun q=>hst q) hrv (.inl rfl)
theorem wait_good (hrv:0<=(m.th i).rv/\(m.th i).rv<=1099511627776)(h:waitS m i e=some m'):Good m i m':=by
 have hk:=wait_keeps h
 unfold waitS at h
 (repeat' split at h)<;>first|(cases h;done)|skip
 all_goals
  cases h
  exact .one hk rfl (fun q=>(no2 rfl q).elim) hrv (.inl rfl)
theorem wake_good (hrv:0<=(m.th i).rv/\(m.th i).rv<=1099511627776)(h:wakeS m i e=some m'):Good m i m':=by
 have hk:=wake_keeps h
 unfold wakeS at h
 (repeat' split at h)<;>first|(cases h;done)|skip
 all_goals
  cases h
  exact .one hk rfl (fun q=>(no2 rfl q).elim) hrv (.inl rfl)
theorem commit_good (hrv:0<=(m.th i).rv/\(m.th i).rv<=1099511627776)(h:commitS m i e=some m'):Good m i m':=by
 have hk:=commit_keeps h
 unfold commitS at h
 (repeat' split at h)<;>first|(cases h;done)|skip
 ·cases h
  exact .one hk rfl (fun q=>(no2 rfl q).elim) hrv (.inr rfl)
 ·cases h
  exact .one hk rfl (fun q=>(no2 rfl q).elim) hrv (.inl rfl)
theorem leave_th (m:Sh)(i:Nat)(s:Int):(leaveS m i s).th=updT m.th i {m.th i with owned:=bitR .andNot .u32 (m.th i).owned (bitS s)}:=rfl
theorem leave_at (m:Sh)(i:Nat)(s:Int):(leaveS m i s).th i={m.th i with owned:=bitR .andNot .u32 (m.th i).owned (bitS s)}:=by
 rw[leave_th];unfold updT;rw[if_pos rfl]
theorem undo_good (hrv:0<=(m.th i).rv/\(m.th i).rv<=1099511627776)(h:undoS m i e=some m'):Good m i m':=by
 have hk:=undo_keeps h
 unfold undoS at h
 split at h
 ·cases h
 ·rename_i h7
  split at h
  ·cases h
  ·injection h with h
   subst h
   split at hk
   ·rename_i h1
    rw[if_pos h1]
    exact .one (x:={(leaveS m i e.at_).th i with at_:=9}) hk (by show updT (leaveS m i e.at_).th i _=_;rw[leave_th,updT_two]) (fun q=>(no2 rfl q).elim) (by rw[leave_at];exact hrv) (by rw[leave_at];exact .inl rfl)
   ·rename_i h1
    split at hk
    ·rename_i h2
     rw[if_neg h1,if_pos h2]
     exact .one (x:={(leaveS m i e.at_).th i with at_:=0}) hk (by show updT (leaveS m i e.at_).th i _=_;rw[leave_th,updT_two]) (fun q=>(no2 rfl q).elim) (by rw[leave_at];exact hrv) (by rw[leave_at];exact .inl rfl)
    ·rename_i h2
     rw[if_neg h1,if_neg h2]
     exact .one hk (leave_th m i e.at_) (fun q=>(h7 (by rw[show(m.th i).at_=2 from q];decide)).elim) hrv (.inl rfl)
theorem freed_good (hrv:0<=(m.th i).rv/\(m.th i).rv<=1099511627776)(h:freedS m i e=some m'):Good m i m':=by
 have hk:=freed_keeps h
 unfold freedS at h
 split at h
 ·cases h
 ·split at h
  ·cases h
  ·injection h with h
   subst h
   have hf:(freeS m i e).th=updT m.th i {(leaveS m i e.at_).th i with at_:=6}:=by
    show updT (leaveS m i e.at_).th i _=_
    rw[leave_th,updT_two]
   have hf1:(freeS m i e).th i={(leaveS m i e.at_).th i with at_:=6}:=by rw[hf];unfold updT;rw[if_pos rfl]
   split at hk
   ·rename_i h1
    rw[if_pos h1]
    exact .one (x:={(freeS m i e).th i with at_:=0,commits:=((freeS m i e).th i).commits+1}) hk (by show updT (freeS m i e).th i _=_;rw[hf,updT_two]) (fun q=>(no2 rfl q).elim) (by rw[hf1,leave_at];exact hrv) (by rw[hf1,leave_at];exact .inr rfl)
   ·rename_i h1
    rw[if_neg h1]
    exact .one hk hf (fun q=>(no2 rfl q).elim) (by rw[leave_at];exact hrv) (by rw[leave_at];exact .inl rfl)
theorem abort_good (hrv:0<=(m.th i).rv/\(m.th i).rv<=1099511627776)(h:abortS m i e=some m'):Good m i m':=by
 have hk:=abort_keeps h
 unfold abortS at h
 split at h
 ·injection h with h
  subst h
  refine .one hk rfl (fun q=>?_) hrv (.inl rfl)
  replace q:(if(m.th i).owned=0 then(0:Int)else 7)=2:=q
  split at q<;>cases q
 ·cases h
theorem step_good (hm:OkSh m)(hmay:MayP e m.nt m.vars m.ns)(h:stepS m e.thread.toNat e=some m'):Good m e.thread.toNat m':=by
 obtain⟨q1,q2,q3,q4,q5,q6,q7,q8,q9,q10⟩:=hmay
 have hth:e.thread.toNat<m.nt:=by omega
 have hrv:=hm.rv _ hth
 have hst:=hm.st _ hth
 have hvv:0<=e.v/\e.v<=1099511627776:=⟨by have:=q8.1;unfold leastE at this;split at this<;>omega,q8.2⟩
 obtain⟨ek,eth,tx,at_,ev,ex,why⟩:=e
 have hh:ek=1\/ek=2\/ek=3\/ek=4\/ek=5\/ek=6\/ek=7\/ek=8\/ek=9\/ek=10\/ek=11\/ek=12\/ek=13:=by have:1<=ek/\ek<=13:=q4;omega
 have ha0:0<=at_:=q9.1
 clear q4 q8
 rcases hh with rfl|rfl|rfl|rfl|rfl|rfl|rfl|rfl|rfl|rfl|rfl|rfl|rfl
 ·exact begin_good hvv h
 ·have ha2:0<=at_/\at_<(m.ns:Int):=⟨ha0,by have h9:at_<=placesE ⟨2,eth,tx,at_,ev,ex,why⟩ m.vars m.ns-1:=q9.2;have e9:placesE ⟨2,eth,tx,at_,ev,ex,why⟩ m.vars m.ns=(m.ns:Int):=(by unfold placesE;rw[if_neg (show ¬((2:Int)=3\/(2:Int)=8) by decide),if_neg (fun q=>absurd (show(2:Int)=10 from q.1) (by decide))]);rw[e9]at h9;omega⟩
  exact look_good hrv ha2 h
 ·exact load_good hrv h
 ·exact lock_good hrv h
 ·exact bump_good hrv h
 ·exact checked_good hrv hst h
 ·exact commit_good hrv h
 ·exact store_good hrv hst h
 ·exact freed_good hrv h
 ·exact abort_good hrv h
 ·exact undo_good hrv h
 ·exact wait_good (e:=⟨12,eth,tx,at_,ev,ex,why⟩) hrv h
 ·exact wake_good (e:=⟨13,eth,tx,at_,ev,ex,why⟩) hrv h
end
structure Inv (m:Sh):Prop where
 ok:OkSh m
 ce:∀i,i<m.nt->0<=(m.th i).commits/\(m.th i).commits<=m.events
theorem next_inv {m:Sh}(e:Evt)(hm:Inv m):Inv (nextS m e).2:=by
 unfold nextS
 split
 ·exact hm
 ·rename_i hlt
  split
  ·exact hm
  ·rename_i hmay
   replace hmay:MayP e m.nt m.vars m.ns:=Classical.byContradiction hmay
   split
   ·exact hm
   ·rename_i m' h
    have hg:=step_good hm.ok hmay h
    obtain⟨k1,k2,k3,k4⟩:=hg.keeps
    have hev:=hm.ok.ev
    have cm:∀k,k<m'.nt->0<=(m'.th k).commits/\(m'.th k).commits<=m'.events+1:=fun k hk=>by
     by_cases q:k=e.thread.toNat
     ·subst q
      have:=hm.ce _ (by omega:e.thread.toNat<m.nt)
      rcases hg.cm with c|c<;>omega
     ·rw[hg.oth k q]
      have:=hm.ce k (by omega)
      omega
    refine⟨⟨by show 0<m'.ns;rw[k3];exact hm.ok.h0,by show m'.ns<=32;rw[k3];exact hm.ok.hn,⟨by show 0<=m'.events+1;omega,by show m'.events+1<=1048576;omega⟩,fun k hk q=>?_,fun k hk=>?_,fun k hk=>?_⟩,cm⟩
    ·show 0<=(m'.th k).stripe/\(m'.th k).stripe<m'.ns
     rw[k3]
     by_cases p:k=e.thread.toNat
     ·subst p;exact hg.st q
     ·have q:(m'.th k).at_=2:=q
      rw[hg.oth k p]at q ⊢
      exact hm.ok.st k (by show k<m.nt;have:k<m'.nt:=hk;omega) q
    ·show 0<=(m'.th k).rv/\(m'.th k).rv<=_
     by_cases p:k=e.thread.toNat
     ·subst p;exact hg.rv
     ·rw[hg.oth k p]
      exact hm.ok.rv k (by have:k<m'.nt:=hk;omega)
    ·have:=cm k hk
     show 0<=(m'.th k).commits/\(m'.th k).commits<=1048576
     omega
theorem sh0_inv {v:Int}{nt ns:Nat}(h:NewOk nt v ns):Inv (sh0 v nt ns):=by
 obtain⟨⟨a1,a2⟩,⟨a3,a4⟩,a5,a6⟩:=h
 exact⟨⟨by show 0<ns;omega,by show ns<=32;omega,⟨Int.le_refl 0,by show(0:Int)<=_;decide⟩,fun i hi q=>(no2 rfl q).elim,fun i hi=>⟨Int.le_refl 0,by show(0:Int)<=_;decide⟩,fun i hi=>⟨Int.le_refl 0,by show(0:Int)<=_;decide⟩⟩,fun i hi=>⟨Int.le_refl 0,Int.le_refl 0⟩⟩
end Go.Proofs.YtgdmlkgjpcnelaaGreatDoor
