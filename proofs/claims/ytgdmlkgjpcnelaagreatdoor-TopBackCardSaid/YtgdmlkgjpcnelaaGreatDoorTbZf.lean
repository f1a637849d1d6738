import Derived.Test.YtgdmlkgjpcnelaaGreatDoorTbZe
import Derived.Test.YtgdmlkgjpcnelaaGreatDoorAlvC0
import Derived.Test.YtgdmlkgjpcnelaaGreatDoorAlvC1
import Derived.Test.YtgdmlkgjpcnelaaGreatDoorAlvC2
import Derived.Test.YtgdmlkgjpcnelaaGreatDoorAlvC3
import Derived.Test.YtgdmlkgjpcnelaaGreatDoorAlvM
namespace Go.Proofs.YtgdmlkgjpcnelaaGreatDoor
open Go Go.Vc Go.RowKit Go.Lib
set_option linter.unusedVariables false
set_option maxRecDepth 100000
set_option maxHeartbeats 1000000
noncomputable abbrev opsOb:Ob:=.row [.c .nilf,.c .nilf,.c .nilf,.c .nilf,.c (.fn 432 [] []),.c (.fn 433 [] []),.c (.fn 434 [] []),.c (.fn 435 [] []),.c (.fn 437 [] [])] 453 2
noncomputable abbrev kinds9:Ob:=.row [.c (.str []),.c .nils,kN 1,kS 9 2,kN 2,kS 10 2,kN 3,kS 11 2,kN 4,kS 12 1,kN 5,kS 13 1,kN 6,kS 14 1,kN 7,kS 15 1,kN 8,kS 16 2,kN 9,kS 17 1,kN 10,kS 18 2,kN 11,kS 19 1,kN 12,.c .nils,kN 13,.c .nils] 260 2
noncomputable abbrev aH:Hv:=[kinds9,opsOb,.row [.a 32 deG] 5 2,.dead,.dead,.dead,.dead,.dead,.dead,hasR [fC fTx,fC fV],hasR [fC fAt,fC fV],hasR [fC fAt,fC fX],hasR [fC fAt],hasR [fC fV],hasR [fC fAt],hasR [fC fV],hasR [fC fAt,fC fX],hasR [fC fAt],hasR [fC fWhy,fC fAt],hasR [fC fAt]]
theorem aH_mem:∀id o,(id,o)∈Al.glob->Ev.wr o=false/\∃o',mem aH id=some o'/\Ev.liveO o'=true/\∀P g l O,Ev.ObjAt P g l o' O->Ev.ObjAt P g l o O:=by
 intro id o hm
 unfold Al.glob at hm
 simp only[List.mem_cons,Prod.mk.injEq,List.not_mem_nil,or_false]at hm
 rcases hm with⟨rfl,rfl⟩|⟨rfl,rfl⟩|⟨rfl,rfl⟩|⟨rfl,rfl⟩|⟨rfl,rfl⟩|⟨rfl,rfl⟩|⟨rfl,rfl⟩|⟨rfl,rfl⟩|⟨rfl,rfl⟩|⟨rfl,rfl⟩|⟨rfl,rfl⟩|⟨rfl,rfl⟩|⟨rfl,rfl⟩|⟨rfl,rfl⟩
 ·exact⟨rfl,_,rfl,rfl,fun _ _ _ _ h=>h⟩
 ·exact⟨rfl,_,rfl,rfl,fun _ _ _ _ h=>h⟩
 ·exact⟨rfl,_,rfl,rfl,fun _ _ _ _ ⟨arr,el,fz,h1,h2,h3⟩=>⟨arr,el,fz,h1,h2,fun h=>absurd h (by decide)⟩⟩
 all_goals exact⟨rfl,_,rfl,rfl,fun _ _ _ _ h=>h⟩
theorem valive9_at:CallG Tryz.prog 7 [] aH fun v H=>v=.bool true/\H=aH:=by
 intro g w us ho hg hr
 cases(show us=[]from hr)
 have hM:=aliveM
 unfold isT at hM
 generalize hR:(Ev.puts Al.glob Ev.hp0 fun h=>(Ev.evC Tryz.prog (Ev.withG Al.glob [Al.e0,Al.e1,Al.e2,Al.e3] ownJ) 100000).call 7 [] h 64)=R at hM
 cases R with
 |no=>cases hM
 |ok v h2 n2=>
  simp only at hM
  have hv:v=.bool true:=by
   have:∀v:Value,Ev.vBool v false (fun b=>b)=true->v=.bool true:=fun v h=>by
    cases v with
    |bool b=>cases b with
     |true=>rfl
     |false=>cases h
    |_=>cases h
   exact this v hM
  subst hv
  obtain⟨hS,hR,ha⟩:=Ev.puts_inv hR Ev.on
  have hin:∀j x,hS.at j=some x->(j,x)∈Al.glob:=fun j x hx=>by
   rcases ha j x hx with hx|hx
   ·exact hx
   ·rw[Ev.hp0_at]at hx;cases hx
  have hok:Ev.Ok Tryz.prog g hS.at 64 w:=
   ⟨fun id o h1 hl=>by
    obtain⟨_,o',q1,q2,q3⟩:=aH_mem id o (hin id o h1)
    obtain⟨l,O,k1,k2,k3⟩:=ho.den id o' q1 q2
    exact⟨l,O,k1,k2,q3 _ _ _ _ k3⟩,fun id id' o o' l l' h1 _ _ hw=>(by rw[(aH_mem id o (hin id o h1)).1]at hw;cases hw),fun id hid=>ho.bnd id (by show 20<=id;omega)⟩
  rw[Ev.evC_eq]at hR
  have hJ:=Ev.withG_sound progOk ownJ_sound (gl:=Al.glob) (es:=[Al.e0,Al.e1,Al.e2,Al.e3]) (fun e he=>by
   simp only[List.mem_cons,List.not_mem_nil,or_false]at he
   rcases he with rfl|rfl|rfl|rfl
   ·exact chunk0
   ·exact chunk1
   ·exact chunk2
   ·exact chunk3)
  have fin:∀u w',Ev.ResR Tryz.prog g hS w (.bool true) h2 n2 u w'->∃(v:SV) (H':Hv) (g':Ev.Gm),(v=.bool true/\H'=aH)/\H'.length<=60000/\Ev.VR g' v.v u/\Ev.Ok Tryz.prog g' (mem H') H'.length w'/\Ev.Aft g (mem aH) w g' (mem H') w':=fun u w' ⟨g',k1,k2,k3⟩=>by
   have hb:Below w.heap.size w w':=(k3.chg.mono (S':=fun _=>False) fun k _ ⟨id,o,l,q1,q2,_⟩=>by rw[(aH_mem id o (hin id o q1)).1]at q2;cases q2).below
   obtain⟨b1,b2⟩:=ho.below hb
   exact⟨.bool true,aH,g,⟨rfl,rfl⟩,by show 20<=60000;omega,k1,b1,b2⟩
  rcases (Ev.ev_sound progOk hJ 100000).1 _ _ _ _ _ _ _ hR g w [] hok hg rfl with⟨h0,h⟩|⟨u,w',h0,h⟩
  ·refine .inl ⟨h0,h.mono ?_⟩
   rintro e w' ⟨u,rfl,k⟩
   exact⟨u,rfl,fin u w' k⟩
  ·exact .inr ⟨u,w',h0,fin u w' h⟩
noncomputable abbrev tH (l:Hv):Hv:=kindsOb::opsOb::.row [.a 32 deG] 5 2::.dead::hasR [fC fTx,fC fV]::hasR [fC fAt,fC fV]::hasR [fC fAt,fC fX]::hasR [fC fAt]::hasR [fC fV]::hasR [fC fAt]::hasR [fC fV]::hasR [fC fAt,fC fX]::hasR [fC fAt]::hasR [fC fWhy,fC fAt]::hasR [fC fAt]::l
theorem fitT {ts:List Nat}{H L:Hv}(ht:headId 15 0 ts=true)(h:Fits (ren ts) (tH H) L 15):Fits (ren ts) (tH H) (bH L) 0:=by
 have k:∀j,j<15->ren ts j=j:=fun j hj=>ren_id ht hj
 have at':∀{j:Nat} {o o':Ob},j<15->nth (tH H) j=some o->o'=o->LiesAt (nth (tH H) (ren ts j)) o':=fun {j o o'} hj h1 h2=>by rw[k j hj,h1,h2];exact .r rfl
 exact⟨at' (by decide) rfl (kdB k),trivial,at' (j:=2) (by decide) rfl rfl,trivial,at' (j:=4) (by decide) rfl rfl,at' (j:=5) (by decide) rfl rfl,at' (j:=6) (by decide) rfl rfl,at' (j:=7) (by decide) rfl rfl,at' (j:=8) (by decide) rfl rfl,at' (j:=9) (by decide) rfl rfl,at' (j:=10) (by decide) rfl rfl,at' (j:=11) (by decide) rfl rfl,at' (j:=12) (by decide) rfl rfl,at' (j:=13) (by decide) rfl rfl,at' (j:=14) (by decide) rfl rfl,h⟩
theorem keptT {ts:List Nat}{H L L' nw:Hv}{rs:List (Option Ob)}{c:Nat}(ht:headId 15 0 (0::1::2::3::4::5::6::7::8::9::10::11::12::13::14::ts)=true)(h:KeptR (ren2 (0::1::2::3::4::5::6::7::8::9::10::11::12::13::14::ts) c) (tH H) nw ts L L' rs) :
  KeptR (ren2 (0::1::2::3::4::5::6::7::8::9::10::11::12::13::14::ts) c) (tH H) nw (0::1::2::3::4::5::6::7::8::9::10::11::12::13::14::ts) (bH L) (bH L') (none::none::none::none::none::none::none::none::none::none::none::none::none::none::none::rs):=by
 refine⟨?_,.r rfl,.r rfl,.r rfl,.r rfl,.r rfl,.r rfl,.r rfl,.r rfl,.r rfl,.r rfl,.r rfl,.r rfl,h⟩
 rw[kdB fun j hj=>ren2_id ht hj]
 exact .r rfl
end Go.Proofs.YtgdmlkgjpcnelaaGreatDoor
