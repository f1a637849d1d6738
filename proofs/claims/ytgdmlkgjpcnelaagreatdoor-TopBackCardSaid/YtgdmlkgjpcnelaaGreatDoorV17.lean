/-  -/
import Derived.Test.YtgdmlkgjpcnelaaGreatDoorV10
import Derived.LoopNIn
namespace Go.Vc
open Go Go.Ev Go.RowKit
set_option linter.unusedVariables false
noncomputable section
def DetA {α:Type}(F:(α->Prop)->Prop):Prop:=∀K,F K->∃a,K a/\∀K',K' a->F K'
section
variable {α β:Type}{X:Cx}{fr:Fv}{H:Hv}
theorem det_ret (a:α):DetA fun K:α->Prop=>K a:=fun K h=>⟨a,h,fun _ k=>k⟩
theorem det_no:DetA fun K:α->Prop=>False:=fun K h=>h.elim
theorem det_bind {F:(β->Prop)->Prop}{G:β->(α->Prop)->Prop}(hF:DetA F)(hG:∀b,DetA (G b)):DetA fun K=>F fun b=>G b K:=fun K h=>by
 obtain⟨b,h1,h2⟩:=hF _ h
 obtain⟨a,h3,h4⟩:=hG b _ h1
 exact⟨a,h3,fun K' k=>h2 _ (h4 K' k)⟩
theorem det_br {b:Bool}{A B:(α->Prop)->Prop}(hA:DetA A)(hB:DetA B):DetA fun K=>Br b (A K) (B K):=fun K h=>by
 rcases h with⟨q,h⟩|⟨q,h⟩
 ·obtain⟨a,h1,h2⟩:=hA _ h
  exact⟨a,h1,fun K' k=>.t q (h2 K' k)⟩
 ·obtain⟨a,h1,h2⟩:=hB _ h
  exact⟨a,h1,fun K' k=>.f q (h2 K' k)⟩
theorem det_sd {p:Prop}{A:(α->Prop)->Prop}(hA:p->DetA A):DetA fun K=>Sd p (A K):=fun K h=>by
 obtain⟨a,h1,h2⟩:=hA h.s _ h.k
 exact⟨a,h1,fun K' k=>⟨h.s,h2 K' k⟩⟩
theorem det_if {b:Bool}{A:(α->Prop)->Prop}(hA:DetA A):DetA fun K=>bif b then A K else False:=by
 cases b with
 |true=>exact hA
 |false=>exact det_no
theorem det_un {b:Bool}{A:(α->Prop)->Prop}(hA:DetA A):DetA fun K=>bif b then False else A K:=by
 cases b with
 |true=>exact det_no
 |false=>exact hA
theorem det_get (x:Operand):DetA (vGet X.ng fr x):=by
 cases x with
 |tmp i=>
  show DetA fun K:SV->Prop=>match lkp fr i with|some v=>K v|none=>False
  cases lkp fr i with
  |none=>exact det_no
  |some v=>exact det_ret v
 |const v=>
  show DetA fun K:SV->Prop=>match ofV v with|some v=>K v|none=>False
  cases ofV v with
  |none=>exact det_no
  |some v=>exact det_ret v
 |global g=>exact det_if (det_ret (SV.ptr g 0 0 0))
 |func f=>exact det_ret (SV.fn f [] [])
theorem det_args:∀l:List Operand,DetA (vArgs X.ng fr l)
 |[]=>det_ret []
 |x::l=>det_bind (α:=List SV) (F:=vGet X.ng fr x) (G:=fun v K=>vArgs X.ng fr l fun r=>K (v::r)) (det_get x) fun v=>det_bind (F:=vArgs X.ng fr l) (G:=fun r K=>K (v::r)) (det_args l) fun r=>det_ret (v::r)
theorem det_ti {t:TypeId}{G:TI->(α->Prop)->Prop}(hG:∀ti,DetA (G ti)):DetA fun K=>vTI X t fun ti=>G ti K:=by
 unfold vTI
 cases X.tr.get t with
 |none=>exact det_no
 |some ti=>exact hG ti
theorem det_vopt (x:Option Operand):DetA (vOpt X.ng fr x):=by
 cases x with
 |none=>exact det_ret none
 |some x=>exact det_bind (α:=Option SV) (F:=vGet X.ng fr x) (G:=fun v K=>K (some v)) (det_get x) fun v=>det_ret (some v)
theorem det_int (w:Bool)(k:IntKind)(z:Int):DetA (vInt w k z):=by
 cases w with
 |true=>exact det_ret _
 |false=>cases k<;>first|exact det_sd fun _=>det_ret _|exact det_ret _
theorem det_intOp (w:Bool)(op:BinOp)(k:IntKind)(a b:Int):DetA (vIntOp w op k a b):=by
 cases op<;>first|exact det_int _ _ _|exact det_sd fun _=>det_int _ _ _|exact det_sd fun _=>det_ret _|exact det_ret _|exact det_no
theorem det_eq (ng:Bool)(ti:TI)(a b:SV):DetA (vEq ng ti a b):=by
 cases a<;>cases b<;>first|exact det_no|exact det_if (det_ret _)|exact det_ret _|skip
 rename_i l m
 show DetA fun K=>vEq ng ti (.agg l) (.agg m) K
 unfold vEq
 dsimp only
 cases ti.ik with
 |nil=>exact det_no
 |cons k ks=>
  refine det_if ?_
  cases sameI l m with
  |none=>exact det_no
  |some p=>exact det_ret _
theorem det_ov {i j:Nat}{d:SV}:∀u:List (Nat × Nat × SV),DetA (vOv i j d u)
 |[]=>det_ret d
 |(i',j',v)::u=>by
  show DetA fun K=>bif Nat.beq j j' then Br (Nat.beq i i') (K v) (vOv i j d u K)else vOv i j d u K
  cases Nat.beq j j' with
  |true=>exact det_br (det_ret v) (det_ov u)
  |false=>exact det_ov u
theorem det_ovs {i:Nat}{g:Nat->SV}{u:List (Nat × Nat × SV)}:∀n j,DetA (vOvs i g u j n)
 |0,j=>det_ret []
 |n+1,j=>det_bind (α:=List SV) (F:=vOv i j (g j) u) (G:=fun v K=>vOvs i g u (j+1) n fun r=>K (v::r)) (det_ov u) fun v=>det_bind (F:=vOvs i g u (j+1) n) (G:=fun r K=>K (v::r)) (det_ovs n (j+1)) fun r=>det_ret (v::r)
theorem det_load (ti:TI)(x:SV):DetA (vLoad ti H x):=by
 cases x with
 |ptr b i sz j=>
  show DetA fun K=>vLoad ti H (.ptr b i sz j) K
  unfold vLoad
  dsimp only
  cases nth H b with
  |none=>exact det_no
  |some o=>
   cases o with
   |dead=>exact det_no
   |mark b=>exact det_no
   |loop=>exact det_no
   |row l e m=>
    have one:∀o,DetA fun K:SV->Prop=>match cellG l o with|some v=>K v|none=>False:=fun o=>by
     cases cellG l o with
     |none=>exact det_no
     |some v=>exact det_ret v
    cases ti.agg with
    |false=>
     dsimp only
     split
     ·cases segAt l j with
      |none=>exact one _
      |some p=>exact det_sd fun _=>det_ret _
     ·exact one _
    |true=>
     dsimp only
     cases takeG l (i*sz+j) ti.size with
     |none=>exact det_no
     |some v=>exact det_ret (SV.agg v)
   |rows n sz' g e m u=>
    refine det_if ?_
    cases ti.agg with
    |false=>exact det_if (det_sd fun _=>det_ov u)
    |true=>exact det_if (det_sd fun _=>det_bind (α:=SV) (F:=vOvs i (g i) u j ti.size) (G:=fun vs K=>K (.agg vs)) (det_ovs _ _) fun vs=>det_ret (SV.agg vs))
 |_=>exact det_no
theorem det_store (ti:TI)(x v:SV):DetA (vStore ti H x v):=by
 cases x with
 |ptr b i sz j=>
  show DetA fun K=>vStore ti H (.ptr b i sz j) v K
  unfold vStore
  simp only[foS_eq,foG_eq]
  cases nth H b with
  |none=>exact det_no
  |some o=>
   cases o with
   |dead=>exact det_no
   |mark b=>exact det_no
   |loop=>exact det_no
   |row l e m=>
    have one:∀o,DetA fun K:Hv->Prop=>match setGs l o v.cells with|some l=>K (setN H b (.row l e m))|none=>False:=fun o=>by
     cases setGs l o v.cells with
     |none=>exact det_no
     |some l=>exact det_ret _
    refine det_if (det_if (det_if ?_))
    split
    ·split
     ·exact det_sd fun _=>det_ret _
     ·exact one _
    ·exact one _
   |rows n sz' g e m u=>exact det_if (det_if (det_if (det_if (det_if (det_sd fun _=>det_ret _)))))
 |_=>exact det_no
theorem det_ixA (ti:TI)(x i:SV):DetA (vIxA ti x i):=by
 cases x<;>cases i<;>first|exact det_no|exact det_if (det_sd fun _=>by split<;>exact det_ret _)|skip
 rename_i b i sz j k z
 show DetA fun K=>vIxA ti (.ptr b i sz j) (.int k z) K
 unfold vIxA
 dsimp only
 cases Nat.beq sz 0 && (Nat.beq ti.esz 1 && lt 0 ti.n)with
 |true=>exact det_sd fun _=>det_ret _
 |false=>
  cases z with
  |ofNat z=>exact det_if (det_ret _)
  |negSucc z=>exact det_no
theorem det_ix (ti:TI)(x i:SV):DetA (vIx ti x i):=by
 cases x<;>cases i<;>first|exact det_no|exact det_if (det_sd fun _=>det_ret _)|skip
 rename_i l k z
 cases z with
 |negSucc z=>exact det_no
 |ofNat z=>
  show DetA fun K=>vIx ti (.agg l) (.int k (.ofNat z)) K
  unfold vIx
  dsimp only
  refine det_if ?_
  cases ti.esz with
  |zero=>exact det_no
  |succ q=>
   cases q with
   |succ q=>exact det_no
   |zero=>
    cases nth l z with
    |none=>exact det_no
    |some v=>exact det_ret v
theorem det_cut (b l0 sz:Nat)(c:Cap)(l h:Nat):DetA (vCut b l0 sz c l h):=by
 cases c with
 |k c=>exact det_sd fun _=>det_br (det_ret _) (det_ret _)
 |u j=>exact det_ret _
theorem det_slice (ti:TI)(x:SV)(lo hi:Option SV):DetA (vSliceS ti x lo hi):=by
 cases x<;>first|exact det_no|skip
 ·refine det_if ?_
  rcases lo with _|lo<;>rcases hi with _|hi<;>(try cases lo)<;>(try cases hi)<;>first|exact det_no|exact det_sd fun _=>det_ret _
 ·refine det_if ?_
  rcases lo with _|lo<;>rcases hi with _|hi<;>(try cases lo)<;>(try cases hi)<;>first|exact det_no|exact det_sd fun _=>det_cut _ _ _ _ _ _|exact det_cut _ _ _ _ _ _
 ·refine det_if ?_
  rcases lo with _|lo<;>rcases hi with _|hi<;>(try cases lo)<;>(try cases hi)<;>first|exact det_no|exact det_sd fun _=>det_cut _ _ _ _ _ _
theorem det_src (sz:Nat)(x:SV){α:Type}{G:Nat->(Nat->Nat->SV)->(α->Prop)->Prop}(hG:∀n g,DetA (G n g)):DetA fun K=>vSrc H sz x fun n g=>G n g K:=by
 cases x<;>first|exact det_no|exact hG _ _|exact det_if (hG _ _)|skip
 rename_i b lo sz' n c
 refine det_if ?_
 cases nth H b with
 |none=>exact det_no
 |some o=>
  cases o with
  |rows N sz2 g e m u=>exact det_if (by split<;>exact det_sd fun _=>hG _ _)
  |row l e m=>
   dsimp only
   cases segAt l (lo*sz)with
   |some p=>exact det_if (det_sd fun _=>hG _ _)
   |none=>
    dsimp only
    cases takeG l (lo*sz) (n*sz)with
    |none=>exact det_no
    |some cs=>exact hG _ _
  |_=>exact det_no
theorem det_new {α:Type}(ob:Ob){G:Nat->Hv->(α->Prop)->Prop}(hG:∀n H,DetA (G n H)):DetA fun K=>vNew H ob fun n H=>G n H K:=by
 unfold vNew
 simp only[foN_eq,foO_eq,foS_eq]
 exact det_if (hG _ _)
theorem det_append (ti:TI)(s x:SV):DetA fun K:SV × Hv->Prop=>vAppend ti H s x fun v H=>K (v,H):=by
 refine det_src _ _ fun k cx=>?_
 have new:∀(H:Hv) (ob:Ob) (f:Nat->SV),DetA fun K:SV × Hv->Prop=>vNew H ob fun id H=>K (f id,H):=fun H ob f=>det_new ob fun n H=>det_ret (α:=SV × Hv) (f n,H)
 cases s<;>first|exact det_no|skip
 ·exact det_br (det_ret (α:=SV × Hv) (_,H)) (det_sd fun _=>new _ _ _)
 ·rename_i b lo sz n c
  cases c with
  |k c=>
   refine det_if (det_sd fun _=>det_br ?_ (det_sd fun _=>det_src _ _ fun n cs=>new _ _ _))
   unfold vInto
   cases nth H b with
   |none=>exact det_no
   |some o=>
    cases o with
    |rows N sz2 g e m u=>exact det_if (det_sd fun _=>det_ret (α:=SV × Hv) (_,_))
    |row l e m=>exact det_if (det_ret (α:=SV × Hv) (_,_))
    |_=>exact det_no
  |u j=>
   refine det_if (det_sd fun _=>det_br (det_ret (α:=SV × Hv) (_,H)) (det_src _ _ fun n cs=>?_))
   unfold vGone
   cases nth H b with
   |none=>exact det_no
   |some o=>
    cases o with
    |rows N sz2 g e m u=>exact det_if (new _ _ _)
    |row l e m=>exact det_if (new _ _ _)
    |_=>exact det_no
theorem det_copy (ti:TI)(s x:SV):DetA fun K:SV × Hv->Prop=>vCopy ti H s x fun v H=>K (v,H):=by
 refine det_src _ _ fun k cx=>?_
 cases s<;>first|exact det_no|exact det_ret (α:=SV × Hv) (_,H)|skip
 rename_i b lo sz n c
 refine det_if ?_
 cases nth H b with
 |none=>exact det_no
 |some o=>
  cases o with
  |rows N sz2 g e m u=>
   simp only[foS_eq]
   exact det_if (det_sd fun _=>det_ret (α:=SV × Hv) (_,_))
  |_=>exact det_no
theorem det_str (x:SV):DetA (vStr H x):=by
 have key:∀x,DetA fun K:SV->Prop=>vSrc H 1 x fun n g=>Sd (∀i,i<n->isByte (g i 0)=true) (K (SV.str (bytesOf n g))):=fun x=>det_src (G:=fun n g K=>Sd (∀i,i<n->isByte (g i 0)=true) (K (SV.str (bytesOf n g)))) _ _ fun n g=>det_sd fun _=>det_ret (SV.str (bytesOf n g))
 cases x with
 |nils=>exact key .nils
 |sl b lo sz n c=>exact key (.sl b lo sz n c)
 |_=>exact fun K h=>(by simp[vStr,vSrc]at h)
theorem det_builtin (b:Builtin)(ts:List TypeId)(args:List SV):DetA fun K:SV × Hv->Prop=>vBuiltin X b ts H args fun v H=>K (v,H):=by
 unfold vBuiltin
 split
 ·split
  ·exact det_ti fun ti=>by split<;>first|exact det_no|exact det_if (det_ret (α:=SV × Hv) (_,H))
  ·exact det_no
 ·split
  ·exact det_ti fun ti=>by split<;>first|exact det_no|exact det_if (det_sd fun _=>det_ret (α:=SV × Hv) (_,H))|exact det_if (det_ret (α:=SV × Hv) (_,H))
  ·exact det_no
 ·split
  ·exact det_ti fun ti=>det_ti fun ui=>det_un (det_if (det_append _ _ _))
  ·exact det_no
 ·split
  ·exact det_ti fun ti=>det_un (det_copy _ _ _)
  ·exact det_no
 ·exact det_if (det_ret (α:=SV × Hv) (_,H))
 ·exact det_if (det_ret (α:=SV × Hv) (_,H))
 ·exact det_no
theorem det_op0 {o:Op}(h:match o with|.call ⟨.value _,_,_⟩=>False|.call ⟨.invoke _ _,_,_⟩=>False|_=>True):DetA fun K:SV × Hv->Prop=>vOp0 X fr H o fun v H=>K (v,H):=by
 have out:∀{F:(SV->Prop)->Prop},DetA F->DetA fun K:SV × Hv->Prop=>F fun v=>K (v,H):=fun {F} hF=>det_bind (F:=F) (G:=fun v K=>K (v,H)) hF fun v=>det_ret (α:=SV × Hv) (v,H)
 have get:∀(x:Operand) {G:SV->(SV × Hv->Prop)->Prop},(∀v,DetA (G v))->DetA fun K=>vGet X.ng fr x fun v=>G v K:=fun x {G} hG=>det_bind (F:=vGet X.ng fr x) (G:=G) (det_get x) hG
 have args:∀(l:List Operand) {G:List SV->(SV × Hv->Prop)->Prop},(∀v,DetA (G v))->DetA fun K=>vArgs X.ng fr l fun v=>G v K:=fun l {G} hG=>det_bind (F:=vArgs X.ng fr l) (G:=G) (det_args l) hG
 have opt:∀(x:Option Operand) {G:Option SV->(SV × Hv->Prop)->Prop},(∀v,DetA (G v))->DetA fun K=>vOpt X.ng fr x fun v=>G v K:=fun x {G} hG=>det_bind (F:=vOpt X.ng fr x) (G:=G) (det_vopt x) hG
 have ret:∀v:SV,DetA fun K:SV × Hv->Prop=>K (v,H):=fun v=>det_ret (α:=SV × Hv) (v,H)
 have new:∀(ob:Ob) {G:Nat->Hv->(SV × Hv->Prop)->Prop},(∀n H,DetA (G n H))->DetA fun K=>vNew H ob fun n H=>G n H K:=fun ob {G} hG=>det_new ob hG
 cases o with
 |move x=>exact get x ret
 |assign x=>exact get x ret
 |pick c x y=>exact get c fun c=>get x fun x=>get y fun y=>by cases c<;>first|exact det_no|exact det_br (ret _) (ret _)
 |nilCheck x=>exact get x fun v=>by cases v<;>first|exact det_no|exact ret _
 |fieldAddr s x f=>
  exact det_ti fun ti=>get x fun v=>by
   cases v<;>first|exact det_no|skip
   cases nth ti.fs f with
   |none=>exact det_no
   |some p=>exact det_un (ret _)
 |load t x=>exact det_ti fun ti=>get x fun v=>out (det_load ti v)
 |store t x y=>exact det_ti fun ti=>get x fun x=>get y fun y=>det_bind (F:=vStore ti H x y) (G:=fun H K=>K (SV.tup [],H)) (det_store ti x y) fun H=>det_ret (α:=SV × Hv) (.tup [],H)
 |indexAddr t x y=>exact det_ti fun ti=>get x fun x=>get y fun y=>out (det_ixA ti x y)
 |index t x y=>exact det_ti fun ti=>get x fun x=>get y fun y=>out (det_ix ti x y)
 |unOp op t x=>exact get x fun x=>by cases op<;>cases x<;>first|exact det_no|exact ret _|exact out (det_int _ _ _)
 |extract x i=>
  exact get x fun x=>by
   cases x<;>first|exact det_no|skip
   rename_i l
   dsimp only
   cases nth l i with
   |none=>exact det_no
   |some v=>exact ret v
 |build t ps=>
  exact det_ti fun ti=>args _ fun vs=>det_un (by
   cases Nat.beq ti.n 0 with
   |true=>
    refine det_un (by
     cases zerosG ti.z with
     |none=>exact det_no
     |some z=>
      dsimp only
      cases buildV ti.fs (zipF ps.toList vs) z with
      |none=>exact det_no
      |some l=>exact ret _)
   |false=>
    dsimp only[cond_false]
    cases zerosG ti.z with
    |none=>exact det_no
    |some z=>
     dsimp only
     cases buildA ti.esz (zipF ps.toList vs) z with
     |none=>exact det_no
     |some l=>exact ret _)
 |field t x f=>
  exact det_ti fun ti=>get x fun v=>by
   cases v<;>first|exact det_no|skip
   rename_i l
   cases nth ti.fs f with
   |none=>exact det_no
   |some p=>
    dsimp only
    cases partV (nth ti.fa f) l p.1 p.2 with
    |none=>exact det_no
    |some v=>exact ret v
 |convert s d x=>
  exact det_ti fun ts=>det_ti fun ti=>get x fun x=>by
   split<;>first|exact det_no|exact out (det_int _ _ _)|exact det_if (ret _)|exact det_if (det_ti fun te=>det_if (out (det_str _)))
 |makeFunc fn a c=>cases fn<;>first|exact det_no|exact args _ fun a=>args _ fun c=>ret _
 |alloc e=>exact det_ti fun ti=>det_un (new _ fun n H=>det_ret (α:=SV × Hv) (_,H))
 |box e x=>exact get x fun v=>new _ fun n H=>det_ret (α:=SV × Hv) (_,H)
 |makeSlice t x y=>exact det_ti fun ti=>get x fun x=>get y fun y=>by cases x<;>cases y<;>first|exact det_no|exact det_un (det_sd fun _=>new _ fun n H=>det_ret (α:=SV × Hv) (_,H))
 |buildSlice t n ps=>
  exact det_ti fun ti=>args _ fun vs=>det_un (by
   cases zerosG ti.ez with
   |none=>exact det_no
   |some z=>
    dsimp only
    cases buildA ti.esz (zipF ps.toList vs) (repS z n)with
    |none=>exact det_no
    |some l=>exact new _ fun n H=>det_ret (α:=SV × Hv) (_,H))
 |slice t x lo hi mx=>
  cases mx with
  |some _=>exact det_no
  |none=>exact det_ti fun ti=>get x fun x=>opt lo fun lo=>opt hi fun hi=>out (det_slice ti x lo hi)
 |binOp op t x y t'=>
  exact get x fun a=>get y fun b=>by
   have eq:∀ng,DetA fun K:SV × Hv->Prop=>vTI X t fun ti=>vEq ng ti a b fun v=>K (v,H):=fun ng=>det_ti fun ti=>out (det_eq ng ti a b)
   cases op<;>cases a<;>first
    |exact det_no
    |(cases b<;>first|exact det_no|exact det_if (out (det_intOp _ _ _ _ _))|exact det_sd fun _=>out (det_int _ _ _)|exact det_sd fun _=>ret _|exact eq _)
    |exact eq _
 |call c=>
  obtain⟨callee,xs,ts⟩:=c
  cases callee with
  |value f=>exact h.elim
  |invoke=>exact h.elim
  |builtin b=>exact args _ fun a=>det_builtin b ts.toList a
 |_=>exact det_no
theorem det_op {o:Op}(h:match o with|.call ⟨.value _,_,_⟩=>False|.call ⟨.invoke _ _,_,_⟩=>False|_=>True):DetA fun K:SV × Hv->Prop=>vOp X fr H o fun v H=>K (v,H):=by
 simp only[vOp_is]
 exact det_op0 h
end
end
end Go.Vc
namespace Go.Vc
open Go Go.Ev Go.RowKit
set_option linter.unusedVariables false
noncomputable section
theorem Fr.get_eq (fr:Fr){i:Nat}(h:i<256):Fr.get fr (slot i)=fr.at i:=by
 obtain⟨g1,e1⟩:=getT_ex (β:=F1 Value) (k:=i / 16) (by omega)
 obtain⟨g2,e2⟩:=getT_ex (β:=Option Value) (k:=i % 16) (by omega)
 obtain⟨s1,e3⟩:=modT_ex (β:=F1 Value) (ρ:=RC) (k:=i / 16) (by omega)
 obtain⟨s2,e4⟩:=modT_ex (β:=Option Value) (ρ:=RC) (k:=i % 16) (by omega)
 have e:slot i=.at i g1 g2 s1 s2:=by unfold slot;rw[e1,e2,e3,e4]
 rw[e]
 show g2 (g1 fr)=_
 unfold Fr.at
 rw[getT_spec _ e1 fr]
 simp only[Option.bind_some,getT_spec _ e2,id]
def memN (i:Nat):List Nat->Bool
 |[]=>false
 |j::l=>bif Nat.beq i j then true else memN i l
def keepF (ids:List Nat):Fv->Fv
 |[]=>[]
 |(i,v)::r=>bif memN i ids then(i,v)::keepF ids r else keepF ids r
def tmpL:List Operand->List Nat
 |[]=>[]
 |.tmp i::l=>i::tmpL l
 |_::l=>tmpL l
theorem memN_iff {i:Nat}:∀{l:List Nat},memN i l=true↔i∈l
 |[]=>by simp[memN]
 |j::l=>by
  show(bif Nat.beq i j then true else memN i l)=true↔_
  by_cases e:i=j
  ·subst e;simp
  ·have:Nat.beq i j=false:=by
    cases hb:Nat.beq i j with
    |false=>rfl
    |true=>exact absurd (Nat.eq_of_beq_eq_true hb) e
   rw[this,cond_false,memN_iff]
   simp[e]
theorem tmpL_mem {i:Nat}:∀{l:List Operand},i∈tmpL l->Operand.tmp i∈l
 |[],h=>by cases h
 |x::l,h=>by
  cases x with
  |tmp j=>
   rcases List.mem_cons.1 h with rfl|h
   ·simp
   ·exact List.mem_cons_of_mem _ (tmpL_mem h)
  |_=>exact List.mem_cons_of_mem _ (tmpL_mem h)
theorem keepF_get {ids:List Nat}{i:Nat}{v:SV}:∀{fr:Fv},lkp (keepF ids fr) i=some v->i∈ids/\lkp fr i=some v
 |[],h=>by cases h
 |(j,u)::r,h=>by
  replace h:lkp (bif memN j ids then(j,u)::keepF ids r else keepF ids r) i=some v:=h
  rw[lkp_cons]
  cases hm:memN j ids with
  |true=>
   rw[hm,cond_true,lkp_cons]at h
   split at h
   ·rename_i e;subst e
    rw[if_pos rfl]
    exact⟨memN_iff.1 hm,h⟩
   ·rename_i e
    rw[if_neg e]
    exact keepF_get h
  |false=>
   rw[hm,cond_false]at h
   obtain⟨h1,h2⟩:=keepF_get h
   refine⟨h1,?_⟩
   rw[if_neg (fun e=>?_)]
   ·exact h2
   ·subst e
    rw[memN_iff.2 h1]at hm;cases hm
def isP:Op->Bool
 |.move _|.assign _|.pick ..|.nilCheck _|.fieldAddr ..|.load ..|.indexAddr ..|.index ..|.binOp ..|.unOp ..|.extract ..|.build ..|.field ..|.convert ..|.makeFunc ..|.slice ..=>true
 |.call ⟨.builtin b,_,_⟩=>(match b with|.append=>false|.copy=>false|_=>true)
 |_=>false
def isR:Op->Bool
 |.load ..=>true
 |.convert ..=>true
 |.call _=>true
 |_=>false
def isM:Op->Bool
 |.alloc _|.box ..|.makeSlice ..|.buildSlice ..=>true
 |_=>false
section
variable {X:Cx}{g:Gm}{fr:Fv}{ρ:Operand->Value}{H:Hv}{w:World}{K:SV->Hv->Prop}
theorem vOp0_p (e:Here X g fr ρ H w){o:Oper}(hp:isP o.op=true)(h:vOp0 X fr H o.op K):Outp X.P ρ o g H w K:=by
 obtain⟨dst,op,ty,pos,after,guard⟩:=o
 cases op with
 |move x=>exact move_ok e h
 |assign x=>exact assign_ok e h
 |pick c x y=>exact pick_ok e h
 |nilCheck x=>exact nilCheck_ok e h
 |fieldAddr s x f=>exact fieldAddr_ok e h
 |load t x=>exact load_ok' e h
 |indexAddr t x y=>exact indexAddr_ok e h
 |index t x y=>exact index_ok e h
 |binOp op t x y t'=>exact binOp_ok e h
 |unOp op t x=>exact unOp_ok e h
 |extract x i=>exact extract_ok e h
 |build t ps=>exact build_ok e h
 |field t x f=>exact field_ok e h
 |convert s d x=>exact convert_ok e h
 |makeFunc fn a c=>exact makeFunc_ok e h
 |slice t x lo hi mx=>exact slice_ok e h
 |call c=>
  obtain⟨callee,args,ts⟩:=c
  cases callee with
  |builtin b=>exact builtin_ok e (fun e=>by subst e;cases hp) (fun e=>by subst e;cases hp) h
  |_=>cases hp
 |_=>cases hp
theorem vOp0_noR {o:Op}(hp:isP o=true)(hr:isR o=false){H H':Hv}{S:SV->Prop}(h:vOp0 X fr H o (fun v _=>S v)):vOp0 X fr H' o (fun v _=>S v):=by
 cases o with
 |load t x=>cases hr
 |convert s d x=>cases hr
 |call c=>cases hr
 |move x=>exact h
 |assign x=>exact h
 |pick c x y=>exact h
 |nilCheck x=>exact h
 |fieldAddr s x f=>exact h
 |indexAddr t x y=>exact h
 |index t x y=>exact h
 |binOp op t x y t'=>exact h
 |unOp op t x=>exact h
 |extract x i=>exact h
 |build t ps=>exact h
 |field t x f=>exact h
 |makeFunc fn a c=>exact h
 |slice t x lo hi mx=>exact h
 |_=>cases hp
theorem vOp0_m (hX:CxOk X){o:Oper}(hm:isM o.op=true)(h:vOp0 X fr H o.op K):H.length<60000/\∃(o':Ob)(v:SV)(mk:Nat->Value),K v (snoc H o')/\v.v=mk H.length/\∀G ρ,Reads X G fr ρ->OpMakes X.P ρ o G o'.o mk:=by
 obtain⟨dst,op,ty,pos,after,guard⟩:=o
 cases op with
 |alloc el=>
  replace h:=vTI_ok hX h
  obtain⟨ti,ht,h⟩:=h
  replace h:=cnd_f h
  obtain⟨h1,h⟩:=h
  have hz:ti.z≠[]:=fun e=>by rw[e]at h1;cases h1
  obtain⟨zv,hz1,hz2⟩:=ht.z hz
  obtain⟨hlt,h⟩:=vNew_ok h
  refine⟨hlt,.row ti.z el 0,.ptr H.length 0 0 0,pt,h,rfl,fun G ρ _=>?_⟩
  have:=(hAlloc_ok (P:=X.P) (g:=G) (ob:=.row (cellsV zv) el 0) (mk:=pt) (l:=[]) hz1 rfl).exec (ρ:=ρ) (o:=⟨dst,.alloc el,ty,pos,after,guard⟩) rfl
  show OpMakes X.P ρ _ G (.row (cellsG ti.z) el 0) pt
  rw[hz2]
  exact this
 |box el x=>
  obtain⟨a,h,hK⟩:=vget_det h
  obtain⟨hlt,h⟩:=vNew_ok h
  refine⟨hlt,.row (boxG X el a) el 0,.ptr H.length 0 0 0,pt,h,rfl,fun G ρ hr=>?_⟩
  have ha:=hK G ρ hr
  obtain⟨x',e1,hd⟩:=hBox_ok (P:=X.P) (ob:=.row (cellsV a.v) el 0) (mk:=pt) (l:=[a.v]) rfl (VRL.mk1 ha)
  injection e1 with e1 _
  show OpMakes X.P ρ _ G (.row (cellsG (boxG X el a)) el 0) pt
  rw[boxG_ok]
  exact hd.exec (by rw[<-e1];rfl)
 |makeSlice t x y=>exact makeSlice_mk hX h
 |buildSlice t n ps=>exact buildSlice_mk hX h
 |_=>cases hm
theorem vOp_p (e:Here X g fr ρ H w){o:Oper}(hp:isP o.op=true)(h:vOp X fr H o.op K):Outp X.P ρ o g H w K:=vOp0_p e hp (by rw[<-vOp_is];exact h)
theorem vOp_noR {o:Op}(hp:isP o=true)(hr:isR o=false){H H':Hv}{S:SV->Prop}(h:vOp X fr H o (fun v _=>S v)):vOp X fr H' o (fun v _=>S v):=by
 rw[vOp_is]at h ⊢
 exact vOp0_noR hp hr h
theorem vOp_m (hX:CxOk X){o:Oper}(hm:isM o.op=true)(h:vOp X fr H o.op K):H.length<60000/\∃(o':Ob)(v:SV)(mk:Nat->Value),K v (snoc H o')/\v.v=mk H.length/\∀G ρ,Reads X G fr ρ->OpMakes X.P ρ o G o'.o mk:=vOp0_m hX hm (by rw[<-vOp_is];exact h)
end
end
end Go.Vc
namespace Go.Vc
open Go Go.Ev Go.RowKit
set_option linter.unusedVariables false
noncomputable section
structure CallD (P:Program)(f:FuncId)(a:List SV)(H:Hv)(K:SV->Hv->Prop):Prop where
 ex:∃v H',CallG P f a H (fun v2 H2=>v2=v/\H2=H')/\K v H'
theorem CallD.mk' {P:Program}{f:FuncId}{a:List SV}{H:Hv}{K:SV->Hv->Prop}{v:SV}{H':Hv}(h:CallG P f a H (fun v2 H2=>v2=v/\H2=H'))(k:K v H'):CallD P f a H K:=⟨v,H',h,k⟩
structure YieldD (P:Program)(l:Nat)(a:List SV)(H:Hv)(K:SV->Hv->Prop):Prop where
 ex:∃v H',YieldG P l a H (fun v2 H2=>v2=v/\H2=H')/\K v H'
theorem YieldD.mk' {P:Program}{l:Nat}{a:List SV}{H:Hv}{K:SV->Hv->Prop}{v:SV}{H':Hv}(h:YieldG P l a H (fun v2 H2=>v2=v/\H2=H'))(k:K v H'):YieldD P l a H K:=⟨v,H',h,k⟩
section
variable (X:Cx)
def vEff (fr:Fv)(H:Hv)(o:Op)(K:SV->Hv->Prop):Prop:=match o with
 |.store t x y=>vOp X fr H (.store t x y) K
 |.call ⟨.value (.func g),args,_⟩=>vArgs X.ng fr args.toList fun a=>CallD X.P g a H fun v H=>foV v fun v=>foH H fun H=>K v H
 |.call ⟨.value f,args,_⟩=>vGet X.ng fr f fun f=>vArgs X.ng fr args.toList fun a=>(match f with
  |.fn g first cap=>CallD X.P g (first++a++cap) H fun v H=>foV v fun v=>foH H fun H=>K v H
  |.yld l=>YieldD X.P l a H fun v H=>foV v fun v=>foH H fun H=>K v H
  |_=>False)
 |.call ⟨.builtin b,args,ts⟩=>(match b with|.append=>vOp X fr H (.call ⟨.builtin .append,args,ts⟩) K|.copy=>vOp X fr H (.call ⟨.builtin .copy,args,ts⟩) K|_=>False)
 |_=>False
def padH (H:Hv)(n:Nat):Hv:=app2 H (List.replicate (n-len H) .dead)
def vSame (fr:Fv)(n:Nat)(o:Op)(v:SV):Nat->List Hv->Prop
 |0,_=>True
 |_+1,[]=>True
 |m+1,Hc::t=>vOp X fr (padH Hc n) o (fun v' _=>v'=v)/\vSame fr n o v m t
def atMo (mo:Nat)(S:Nat->Prop)(A:Prop):Prop:=match mo with
 |0=>A
 |m+1=>Sd (S (m+1)) A
def vRead (fr:Fv)(n:Nat)(o:Op)(mo:Nat)(hs:List Hv)(K:SV->Prop):Prop:=match hs with
 |[]=>False
 |Hc::t=>vOp X fr (padH Hc n) o fun v _=>atMo mo (fun m=>vSame X fr n o v m t) (K v)
def vDraw (ops:List Oper)(K:Fv->Hv->Prop):List (Nat × Nat)->List Hv->Fv->Hv->Prop
 |[],_,fr,H=>K fr H
 |(i,mo)::l,hs,fr,H=>(match nth ops i with
  |none=>False
  |some o=>vWant ops fr o
   (fun fr=>bif isP o.op then vRead X (keepF (tmpL o.op.operands.toList) fr) (len H) o.op (bif isR o.op then mo else 0) hs fun v=>putK fr o.dst v fun fr=>vDraw ops K l hs fr H
    else bif isM o.op then vOp X (keepF (tmpL o.op.operands.toList) fr) H o.op fun v H'=>putK fr o.dst v fun fr=>vDraw ops K l hs fr H'
    else vEff X (keepF (tmpL o.op.operands.toList) fr) H o.op fun v H'=>bif Nat.ble (len H) (len H') && Nat.ble (len H') 60000 then putK fr o.dst v fun fr=>vDraw ops K l (H'::hs) fr H' else False)
   (fun fr=>putK fr o.dst (.tup []) fun fr=>vDraw ops K l (bif isP o.op || isM o.op then hs else H::hs) fr H))
end
def smallL:List Operand->Bool
 |[]=>true
 |.tmp i::l=>lt i 256 && smallL l
 |_::l=>smallL l
theorem smallL_ok:∀{l:List Operand},smallL l=true->∀i,Operand.tmp i∈l->i<256
 |[],_,i,h=>by cases h
 |x::l,h,i,hm=>by
  cases x with
  |tmp j=>
   simp only[smallL,Bool.and_eq_true]at h
   rcases List.mem_cons.1 hm with e|hm
   ·cases e;exact lt_iff.1 h.1
   ·exact smallL_ok h.2 i hm
  |_=>
   rcases List.mem_cons.1 hm with e|hm
   ·cases e
   ·exact smallL_ok (l:=l) h i hm
def dstS (d:Option Tmp):Bool:=match d with
 |some d=>lt d 256
 |none=>true
def clsOk (P:Program)(o:Oper):Bool:=smallL o.op.operands.toList && (dstS o.dst && (bif isP o.op || isM o.op then !isEff (comp P o.op)else isEff (comp P o.op)))
section
variable {X:Cx}{ops:Array Oper}{ih:Evl}{fr0:Fv}
structure Mt (fr0:Fv)(s:PS)(fr:Fv)(H:Hv)(hs:List Hv):Prop where
 frm:∀j,j<256->s.fr.at j=(lkp fr j).map SV.v
 out:∀j,¬j<256->s.fr.at j=none
 h:s.h.at=mem H
 n:s.n=H.length
 len:H.length<=60000
 hs:∀c hp,s.hs[c]?=some hp->∃Hc,nth hs c=some Hc/\hp.at=mem Hc/\Hc.length<=H.length
 hi:∀j,¬j<256->lkp fr j=lkp fr0 j
theorem Mt.reads {s:PS}{fr:Fv}{H:Hv}{hs:List Hv}(hX:CxOk X)(m:Mt fr0 s fr H hs){o:Oper}(ho:smallL o.op.operands.toList=true){G:Gm}{a:Act}(hg:Glob X.P G)(hin:InR G s.fr a o.op.operands.toList):Reads X G (keepF (tmpL o.op.operands.toList) fr) a.eval where
 tmp:=fun i v hv=>by
  obtain⟨h1,h2⟩:=keepF_get hv
  have h3:=tmpL_mem h1
  refine hin i h3 v.v ?_
  rw[m.frm i (smallL_ok ho i h3),h2]
  rfl
 const:=fun _=>rfl
 glob:=fun b hb=>by
  obtain⟨l,h1,h2,h3⟩:=hg b (Nat.lt_of_lt_of_le hb hX.ng)
  refine⟨l,h1,?_⟩
  show Value.pointer (some ⟨b,0,none⟩)=Value.pointer (some ⟨l.blk,l.off+0,none⟩)
  rw[h2,h3]
 func:=fun _=>rfl
theorem Mt.put {s:PS}{fr:Fv}{H:Hv}{hs:List Hv}(m:Mt fr0 s fr H hs){d:Option Tmp}(hd:dstS d=true)(v:SV) :
  ∃f1:Fr,(∀j,f1.at j=putAt s.fr d v.v j)/\(∀j,j<256->f1.at j=(lkp (putD fr d v) j).map SV.v)/\(∀j,¬j<256->f1.at j=none)/\∀j,¬j<256->lkp (putD fr d v) j=lkp fr0 j:=by
 cases d with
 |none=>exact⟨s.fr,fun _=>rfl,m.frm,m.out,m.hi⟩
 |some d=>
  have hd:d<256:=lt_iff.1 hd
  have key:∀j,(frOf fun j=>if j=d then some v.v else s.fr.at j).at j=if j=d then some v.v else s.fr.at j:=fun j=>by
   by_cases h:j<256
   ·exact frOf_at _ h
   ·rw[frOf_out _ h,if_neg (fun e=>h (by rw[e];exact hd)),m.out j h]
  refine⟨_,key,fun j hj=>?_,fun j hj=>frOf_out _ hj,fun j hj=>?_⟩
  ·rw[key]
   show _=(lkp ((d,v)::fr) j).map SV.v
   rw[lkp_cons]
   by_cases e:j=d
   ·rw[if_pos e,if_pos e];rfl
   ·rw[if_neg e,if_neg e];exact m.frm j hj
  ·show lkp ((d,v)::fr) j=_
   rw[lkp_cons,if_neg (fun e=>hj (by rw[e];exact hd))]
   exact m.hi j hj
theorem Mt.want {s:PS}{fr:Fv}{H:Hv}{hs:List Hv}(m:Mt fr0 s fr H hs){o:Oper}{run skip:Fv->Prop}(hsm:∀o∈ops.toList,dstS o.dst=true)(h:vWant ops.toList fr o run skip) :
  ∃fr' bb,Mt fr0 s fr' H hs/\(∀k:Bool->RC,wanted (guardOf ops o) s.fr k=k bb)/\((bb=true/\run fr')\/(bb=false/\skip fr')):=by
 unfold vWant at h
 split at h
 ·rename_i hg
  refine⟨fr,true,m,fun k=>?_,.inl ⟨rfl,h⟩⟩
  unfold guardOf
  rw[hg]
  rfl
 ·rename_i j b hg
  split at h
  ·rename_i o' hj
   rw[nth_eq]at hj
   split at h
   ·rename_i d hd
    have hd256:d<256:=by
     have:=hsm o' (List.mem_of_getElem? hj)
     rw[hd]at this
     exact lt_iff.1 this
    have hgo:guardOf ops o=.at d (slot d) b:=by unfold guardOf;rw[hg];simp only[hj,hd]
    have run:∀{v:SV},lkp fr d=some v->∀k:Bool->RC,wanted (guardOf ops o) s.fr k=k (wantV v.v b):=fun {v} hl k=>by
     rw[hgo]
     show @Option.rec _ (fun _=>RC) .no (fun v=>k (wantV v b)) (Fr.get s.fr (slot d))=_
     rw[Fr.get_eq _ hd256,m.frm d hd256,hl]
     rfl
    split at h
    ·rename_i t hl
     have kn:∀t',t=t'->Mt fr0 s ((d,.bool t')::fr) H hs:=fun t' e=>by
      subst e
      refine⟨fun j hj=>?_,m.out,m.h,m.n,m.len,m.hs,fun j hj=>?_⟩
      ·rw[lkp_cons]
       split
       ·rename_i e;subst e;rw[m.frm _ hj,hl]
       ·exact m.frm j hj
      ·rw[lkp_cons,if_neg (fun e=>hj (by rw[e];exact hd256))];exact m.hi j hj
     have rn:=run hl
     split at h
     ·rcases h with⟨q,h⟩|⟨q,h⟩
      ·subst q;exact⟨_,true,kn _ rfl,rn,.inl ⟨rfl,h⟩⟩
      ·subst q;exact⟨_,false,kn _ rfl,rn,.inr ⟨rfl,h⟩⟩
     ·rcases h with⟨q,h⟩|⟨q,h⟩
      ·subst q;exact⟨_,false,kn _ rfl,rn,.inr ⟨rfl,h⟩⟩
      ·subst q;exact⟨_,true,kn _ rfl,rn,.inl ⟨rfl,h⟩⟩
    ·rename_i hl
     exact⟨fr,false,m,run hl,.inr ⟨rfl,h⟩⟩
    ·exact h.elim
   ·exact h.elim
  ·exact h.elim
theorem padH_len {H:Hv}{n:Nat}(h:H.length<=n):(padH H n).length=n:=by
 unfold padH
 rw[app2_eq,len_eq]
 simp
 omega
theorem padH_ok {P:Program}{G:Gm}{H:Hv}{n:Nat}{w:World}(h:OkW P G (mem H) w)(hl:H.length<=n)(hb:∀id,n<=id->G id=none):Ok P G (mem (padH H n)) (padH H n).length w:=by
 have key:∀{id:Nat} {x:VO},mem (padH H n) id=some x->liveO x=true->mem H id=some x:=fun {id x} hx hlv=>by
  obtain⟨o,h1,rfl⟩:=mem_some hx
  unfold padH at h1
  rw[app2_eq,nth_eq]at h1
  by_cases hid:id<H.length
  ·rw[List.getElem?_append_left hid,<-nth_eq]at h1
   exact mem_get h1
  ·rw[List.getElem?_append_right (by omega),List.getElem?_replicate]at h1
   split at h1
   ·cases h1;cases hlv
   ·cases h1
 refine⟨fun id x hx hlv=>h.den id x (key hx hlv) hlv,fun a b x y la lb ha hb' hne hwx hly=>h.sep a b x y la lb (key ha (live_of_wr hwx)) (key hb' hly) hne hwx hly,?_⟩
 rw[padH_len hl]
 exact hb
end
end
end Go.Vc
namespace Go.Vc
open Go Go.Ev Go.RowKit
set_option linter.unusedVariables false
noncomputable section
section
variable {X:Cx}{ops:Array Oper}{ih:Evl}{fr0:Fv}
theorem vSame_get {fr:Fv}{n:Nat}{o:Op}{v:SV}:∀{m:Nat}{t:List Hv}{c:Nat}{Hc:Hv},vSame X fr n o v m t->c<m->nth t c=some Hc->vOp X fr (padH Hc n) o (fun v' _=>v'=v)
 |0,t,c,Hc,h,hc,hn=>by omega
 |m+1,[],c,Hc,h,hc,hn=>by cases hn
 |m+1,a::t,0,Hc,h,hc,hn=>by cases hn;exact h.1
 |m+1,a::t,c+1,Hc,h,hc,hn=>vSame_get h.2 (by omega) hn
theorem vEff_ok {fr:Fv}{H:Hv}{o:Oper}{K:SV->Hv->Prop}(h:vEff X fr H o.op K):∃v H',K v H'/\(∀c,o.op≠.defer c)/\∀G ρ w,Here X G fr ρ H w->Goes X.P ρ o G H w (fun v2 H2=>v2=v/\H2=H'):=by
 unfold vEff at h
 simp only[foV_eq,foH_eq]at h
 obtain⟨dst,op,ty,pos,after,guard⟩:=o
 cases op with
 |store t x y=>
  obtain⟨⟨v,H'⟩,h1,h2⟩:=det_op (X:=X) (fr:=fr) (H:=H) (o:=.store t x y) trivial (fun p=>K p.1 p.2) h
  exact⟨v,H',h1,fun c e=>(by cases e),fun G ρ w e=>store_ok' e (by rw[<-vOp_is];exact h2 (fun p=>p.1=v/\p.2=H') ⟨rfl,rfl⟩)⟩
 |call c=>
  obtain⟨callee,xs,ts⟩:=c
  cases callee with
  |builtin b=>
   cases b<;>first|exact h.elim|skip
   ·obtain⟨⟨v,H'⟩,h1,h2⟩:=det_op (X:=X) (fr:=fr) (H:=H) (o:=.call ⟨.builtin .append,xs,ts⟩) trivial (fun p=>K p.1 p.2) h
    exact⟨v,H',h1,fun c e=>(by cases e),fun G ρ w e=>append_ok e (by rw[<-vOp_is];exact h2 (fun p=>p.1=v/\p.2=H') ⟨rfl,rfl⟩)⟩
   ·obtain⟨⟨v,H'⟩,h1,h2⟩:=det_op (X:=X) (fr:=fr) (H:=H) (o:=.call ⟨.builtin .copy,xs,ts⟩) trivial (fun p=>K p.1 p.2) h
    exact⟨v,H',h1,fun c e=>(by cases e),fun G ρ w e=>copy_ok e (by rw[<-vOp_is];exact h2 (fun p=>p.1=v/\p.2=H') ⟨rfl,rfl⟩)⟩
  |invoke=>exact h.elim
  |value f=>
   have gen:∀{f:Operand},(vGet X.ng fr f fun f=>vArgs X.ng fr xs.toList fun a=>(match f with|.fn g first cap=>CallD X.P g (first++a++cap) H K|.yld l=>YieldD X.P l a H K|_=>False)) ->
     ∃v H',K v H'/\(∀c,Op.call ⟨.value f,xs,ts⟩≠.defer c)/\∀G ρ w,Here X G fr ρ H w->Goes X.P ρ ⟨dst,.call ⟨.value f,xs,ts⟩,ty,pos,after,guard⟩ G H w (fun v2 H2=>v2=v/\H2=H'):=fun {f} h=>by
    obtain⟨fv,h,hf⟩:=det_get f _ h
    obtain⟨va,h,hr⟩:=det_args xs.toList _ h
    cases fv with
    |fn g first cap=>
     obtain⟨v,H',hc,hk⟩:=h.ex
     exact⟨v,H',hk,fun c e=>(by cases e),fun G ρ w e=>callV_ok e (hf (fun f=>vArgs X.ng fr xs.toList fun a=>vCallV X H f a fun v2 H2=>v2=v/\H2=H') (hr (fun a=>vCallV X H (.fn g first cap) a fun v2 H2=>v2=v/\H2=H') (by unfold vCallV;simp only[foH_eq];exact⟨hc⟩)))⟩
    |yld l=>
     obtain⟨v,H',hc,hk⟩:=h.ex
     exact⟨v,H',hk,fun c e=>(by cases e),fun G ρ w e=>callV_ok e (hf (fun f=>vArgs X.ng fr xs.toList fun a=>vCallV X H f a fun v2 H2=>v2=v/\H2=H') (hr (fun a=>vCallV X H (.yld l) a fun v2 H2=>v2=v/\H2=H') (by unfold vCallV;simp only[foH_eq];exact⟨hc⟩)))⟩
    |_=>exact h.elim
   cases f with
   |func f=>
    obtain⟨va,h,hr⟩:=det_args xs.toList _ h
    obtain⟨v,H',hc,hk⟩:=h.ex
    exact⟨v,H',hk,fun c e=>(by cases e),fun G ρ w e=>callF_ok e (by simp only[foH_eq];exact hr (fun a=>CallS X.P f a H fun v2 H2=>v2=v/\H2=H') ⟨hc⟩)⟩
   |tmp i=>exact gen h
   |const c=>exact gen h
   |global b=>exact gen h
 |_=>exact h.elim
theorem Mt.step (hX:CxOk X){s:PS}{fr:Fv}{H:Hv}{hs:List Hv}(m:Mt fr0 s fr H hs){i mo:Nat}{l:List (Nat × Nat)}{o:Oper}{K:Fv->Hv->Prop}(hsm:∀o∈ops.toList,clsOk X.P o=true)(ho:nth ops.toList i=some o)(h:vDraw X ops.toList K ((i,mo)::l) hs fr H) :
  ∃s1 fr1 H1 hs1,PStep X.P ih ops o mo s s1/\Mt fr0 s1 fr1 H1 hs1/\vDraw X ops.toList K l hs1 fr1 H1:=by
 have hcl:=hsm o (by rw[nth_eq]at ho;exact List.mem_of_getElem? ho)
 have hdsts:∀o∈ops.toList,dstS o.dst=true:=fun o hm=>by
  have:=hsm o hm
  simp only[clsOk,Bool.and_eq_true]at this
  exact this.2.1
 simp only[clsOk,Bool.and_eq_true]at hcl
 obtain⟨c1,c2,c3⟩:=hcl
 unfold vDraw at h
 rw[ho]at h
 simp only[putK_eq]at h
 obtain⟨fr',bb,m',hbb,h⟩:=m.want hdsts h
 have hn:Vc.len H=H.length:=len_eq H
 rcases h with⟨rfl,h⟩|⟨rfl,h⟩
 ·cases hp:isP o.op with
  |true=>
   rw[hp]at h c3
   simp only[Bool.true_or,cond_true]at h c3
   have hE:isEff (comp X.P o.op)=false:=by simpa using c3
   have hdf:∀c,o.op≠.defer c:=fun c e=>by rw[e]at hp;cases hp
   have hnc:(match o.op with|.call ⟨.value _,_,_⟩=>False|.call ⟨.invoke _ _,_,_⟩=>False|_=>True):=by
    revert hp
    cases o.op with
    |call c=>
     obtain⟨callee,xs,ts⟩:=c
     cases callee<;>intro hp<;>first|trivial|cases hp
    |_=>intro _;trivial
   cases hs with
   |nil=>exact h.elim
   |cons Hc t=>
    unfold vRead at h
    simp only at h
    obtain⟨⟨v,Hx⟩,h1,h2⟩:=det_op (X:=X) (H:=padH Hc (Vc.len H)) hnc (fun p=>atMo (bif isR o.op then mo else 0) (fun m=>vSame X (keepF (tmpL o.op.operands.toList) fr') (Vc.len H) o.op p.1 m t) (vDraw X ops.toList K l (Hc::t) (putD fr' o.dst p.1) H)) h
    have h3:vDraw X ops.toList K l (Hc::t) (putD fr' o.dst v) H/\vSame X (keepF (tmpL o.op.operands.toList) fr') (Vc.len H) o.op v (bif isR o.op then mo else 0) t:=by
     revert h1
     generalize (bif isR o.op then mo else 0)=mo
     intro h1
     cases mo with
     |zero=>exact⟨h1,trivial⟩
     |succ q=>exact⟨h1.k,h1.s⟩
    obtain⟨f1,p1,p2,p3,p4⟩:=m'.put c2 v
    refine⟨⟨s.hs,f1,s.h,s.n⟩,_,H,Hc::t,⟨true,v.v,hbb,p1,.inr ⟨rfl,.sem hE hdf (fun c hp' hcm hcs G w a hok hb hg hin=>?_) rfl rfl rfl⟩⟩,⟨p2,p3,m'.h,m'.n,m'.len,m'.hs,p4⟩,h3.1⟩
    obtain⟨Hc',q1,q2,q3⟩:=m'.hs c hp' hcs
    have hv:vOp X (keepF (tmpL o.op.operands.toList) fr') (padH Hc' (Vc.len H)) o.op (fun v' _=>v'=v):=by
     have h0:=h2 (fun p=>p.1=v) rfl
     cases hR:isR o.op with
     |false=>exact vOp_noR hp hR h0
     |true=>
      have h4:=h3.2
      rw[hR]at h4
      cases c with
      |zero=>cases q1;exact h0
      |succ c=>exact vSame_get h4 (by show c<mo;omega) q1
    have hlen:Hc'.length<=Vc.len H:=by rw[hn];exact q3
    have e:Here X G (keepF (tmpL o.op.operands.toList) fr') a.eval (padH Hc' (Vc.len H)) w:=⟨hX,m'.reads hX c1 hg hin,padH_ok (by rw[<-q2];exact hok) hlen (fun id hid=>hb id (by rw[m'.n,<-hn];exact hid)),hg,by rw[padH_len hlen,hn];exact m'.len⟩
    obtain⟨v',u,e1,hrun,hvr⟩:=vOp_p e hp hv
    subst e1
    exact⟨u,hvr,hrun⟩
  |false=>
   rw[hp]at h c3
   simp only[Bool.false_or,cond_false]at h c3
   cases hm:isM o.op with
   |true=>
    rw[hm]at h c3
    simp only[cond_true]at h c3
    have hE:isEff (comp X.P o.op)=false:=by simpa using c3
    have hdf:∀c,o.op≠.defer c:=fun c e=>by rw[e]at hm;cases hm
    obtain⟨hlt,o',v,mk,hK,hv,hmk⟩:=vOp_m hX hm h
    obtain⟨f1,p1,p2,p3,p4⟩:=m'.put c2 v
    have hl2:(snoc H o').length=H.length+1:=by rw[snoc_eq];simp
    have hat:=hp_mem' (H:=snoc H o') (by omega)
    refine⟨⟨s.hs,f1,hpOf (mem (snoc H o')),s.n+1⟩,_,snoc H o',hs,⟨true,v.v,hbb,p1,.inr ⟨rfl,.made o'.o mk hE hdf (by rw[m'.n];exact hv) rfl (fun j=>?_) rfl (fun G a hg hin=>hmk G a.eval (m'.reads hX c1 hg hin))⟩⟩,⟨p2,p3,hat,by rw[hl2,<-m'.n],by omega,fun c hp' hcs=>?_,p4⟩,hK⟩
    ·show(hpOf (mem (snoc H o'))).at j=_
     rw[hat,mem_snoc,m'.n,m'.h]
    ·obtain⟨Hc,q1,q2,q3⟩:=m'.hs c hp' hcs
     exact⟨Hc,q1,q2,by omega⟩
   |false=>
    rw[hm]at h c3
    simp only[cond_false]at h c3
    obtain⟨v,H',hK,hdf,hgo⟩:=vEff_ok h
    replace hK:=cnd_t hK
    obtain⟨hb,hK⟩:=hK
    simp only[Bool.and_eq_true]at hb
    have hb1:=Nat.le_of_ble_eq_true hb.1
    have hb2:=Nat.le_of_ble_eq_true hb.2
    rw[len_eq,len_eq]at hb1
    rw[len_eq]at hb2
    obtain⟨f1,p1,p2,p3,p4⟩:=m'.put c2 v
    have hat:=hp_mem' (H:=H') (by omega)
    refine⟨⟨hpOf (mem H')::s.hs,f1,hpOf (mem H'),H'.length⟩,_,H',H'::hs,⟨true,v.v,hbb,p1,.inr ⟨rfl,.done c3 (by rw[m'.n];exact hb1) rfl (fun G w a ρ mm next Q hok hg hin k=>?_)⟩⟩,⟨p2,p3,hat,rfl,hb2,fun c hp' hcs=>?_,p4⟩,hK⟩
    ·have e:Here X G (keepF (tmpL o.op.operands.toList) fr') a.eval H w:=⟨hX,m'.reads hX c1 hg hin,by rw[<-m'.h,<-m'.n];exact hok,hg,m'.len⟩
     rcases hgo G a.eval w e with⟨v2,H2,⟨rfl,rfl⟩,hl,N,u,g',w',h1,h2,h3,h4,h5⟩|⟨gf,us,he,hres⟩|⟨b,fn,tmps,assign,body,he,hround⟩
     ·refine⟨fun _ _=>trivial,?_⟩
      rw[Oper.semAt_eq _ _ _ hdf,h1]
      have hr:ResR X.P G s.h w v2.v (hpOf (mem H2)) H2.length u w':=⟨g',h3,by rw[hat];exact h4,by rw[hat,m'.h];exact h5⟩
      rcases h2 with rfl|⟨rfl,rfl⟩
      ·exact k _ _ hr
      ·exact k _ _ hr
     ·refine hres.wp hdf he fun u w' hr=>?_
      obtain⟨v2,H2,g',⟨rfl,rfl⟩,hl,h3,h4,h5⟩:=hr
      exact k _ _ ⟨g',h3,by rw[hat];exact h4,by rw[hat,m'.h];exact h5⟩
     ·refine⟨fun _ _=>trivial,?_⟩
      rw[Oper.semAt_eq _ _ _ hdf,he,Oper.uponIn_round]
      refine⟨(fun e=>by cases ρ<;>cases e),(roundIn_fen hround).mono ?_⟩
      rintro e w' ⟨u,rfl,v2,H2,g',⟨rfl,rfl⟩,hl,h3,h4,h5⟩
      exact k _ _ ⟨g',h3,by rw[hat];exact h4,by rw[hat,m'.h];exact h5⟩
    ·cases c with
     |zero=>cases hcs;exact⟨H',rfl,hat,Nat.le_refl _⟩
     |succ c=>
      obtain⟨Hc,q1,q2,q3⟩:=m'.hs c hp' hcs
      exact⟨Hc,q1,q2,by omega⟩
 ·obtain⟨f1,p1,p2,p3,p4⟩:=m'.put c2 (.tup [])
  cases hk:isP o.op || isM o.op with
  |true=>
   rw[hk]at h c3
   simp only[cond_true]at h c3
   have hE:isEff (comp X.P o.op)=false:=by simpa using c3
   exact⟨⟨s.hs,f1,s.h,s.n⟩,_,H,hs,⟨false,undef,hbb,p1,.inl ⟨rfl,rfl,rfl,rfl,by rw[hE];rfl⟩⟩,⟨p2,p3,m'.h,m'.n,m'.len,m'.hs,p4⟩,h⟩
  |false=>
   rw[hk]at h c3
   simp only[cond_false]at h c3
   refine⟨⟨s.h::s.hs,f1,s.h,s.n⟩,_,H,H::hs,⟨false,undef,hbb,p1,.inl ⟨rfl,rfl,rfl,rfl,by rw[c3];rfl⟩⟩,⟨p2,p3,m'.h,m'.n,m'.len,fun c hp' hcs=>?_,p4⟩,h⟩
   cases c with
   |zero=>cases hcs;exact⟨H,rfl,m'.h,Nat.le_refl _⟩
   |succ c=>
    obtain⟨Hc,q1,q2,q3⟩:=m'.hs c hp' hcs
    exact⟨Hc,q1,q2,q3⟩
end
end
end Go.Vc
namespace Go.Vc
open Go Go.Ev Go.RowKit
set_option linter.unusedVariables false
noncomputable section
def sameIx:List PI->List (Nat × Nat)->Bool
 |[],[]=>true
 |p::r,x::l=>Nat.beq p.i x.1 && (Nat.beq p.more x.2 && sameIx r l)
 |_,_=>false
def regOk (P:Program)(ops:Array Oper)(items:List (Nat × Nat)):Bool:=(match planF P ops with|some r=>sameIx r items|none=>false) && allL (clsOk P) ops.toList
theorem sameIx_ok:∀{r:List PI}{l:List (Nat × Nat)},sameIx r l=true->r.length=l.length/\∀(p:Nat) q,r[p]?=some q->l[p]?=some (q.i,q.more)
 |[],[],_=>⟨rfl,fun p q h=>(by cases h)⟩
 |[],x::l,h=>by cases h
 |p::r,[],h=>by cases h
 |q0::r,x::l,h=>by
  simp only[sameIx,Bool.and_eq_true]at h
  obtain⟨h1,h2⟩:=sameIx_ok h.2.2
  refine⟨by simp[h1],fun p q hq=>?_⟩
  cases p with
  |zero=>
   cases hq
   rw[Nat.eq_of_beq_eq_true h.1,Nat.eq_of_beq_eq_true h.2.1]
   rfl
  |succ p=>exact h2 p q hq
section
variable {X:Cx}{ops:Array Oper}{ih:Evl}{fr0:Fv}{K:Fv->Hv->Prop}
theorem vDraw_steps (hX:CxOk X)(hsm:∀o∈ops.toList,clsOk X.P o=true):∀{items:List (Nat × Nat)}{s:PS}{fr:Fv}{H:Hv}{hs:List Hv},vDraw X ops.toList K items hs fr H->Mt fr0 s fr H hs ->
  ∃σ:Nat->PS,σ 0=s/\(∀(p:Nat) x o,items[p]?=some x->nth ops.toList x.1=some o->PStep X.P ih ops o x.2 (σ p) (σ (p+1)))/\∃fr' H' hs',Mt fr0 (σ items.length) fr' H' hs'/\K fr' H'
 |[],s,fr,H,hs,h,m=>⟨fun _=>s,rfl,fun p x o hx=>(by cases hx),fr,H,hs,m,h⟩
 |(i,mo)::l,s,fr,H,hs,h,m=>by
  cases ho:nth ops.toList i with
  |none=>
   unfold vDraw at h
   rw[ho]at h
   exact h.elim
  |some o=>
   obtain⟨s1,fr1,H1,hs1,st,m1,h1⟩:=m.step (ih:=ih) hX hsm ho h
   obtain⟨σ,e0,hst,hend⟩:=vDraw_steps hX hsm h1 m1
   refine⟨fun p=>match p with|0=>s|p+1=>σ p,rfl,fun p x o' hx ho'=>?_,hend⟩
   cases p with
   |zero=>
    cases hx
    rw[ho]at ho'
    cases ho'
    show PStep X.P ih ops o mo s (σ 0)
    rw[e0]
    exact st
   |succ p=>exact hst p x o' hx ho'
end
section
variable {X:Cx}{F:Fx}{fr:Fv}{ds:List Nat}{H:Hv}{K:Kc}
theorem DrawG.by (hX:CxOk X){id:Nat}{ops:Array Oper}(items:List (Nat × Nat))(hr:regOk X.P ops items=true)(hc:codeOk F.n (.region id ops true)=true)(hn:Nat.ble F.n 256=true)(h:vDraw X ops.toList (fun fr H=>K .normal fr ds H) items [H] fr H):DrawG X F id ops fr ds H K:=.mk fun h0 g a w ha t=>by
 have hn:=Nat.le_of_ble_eq_true hn
 unfold regOk at hr
 rw[Bool.and_eq_true,planF_eq]at hr
 obtain⟨hr1,hr2⟩:=hr
 rw[allL_eq]at hr2
 have hsm:∀o∈ops.toList,clsOk X.P o=true:=fun o ho=>List.all_eq_true.1 hr2 o ho
 cases hpl:planOf X.P ops with
 |none=>rw[hpl]at hr1;cases hr1
 |some r=>
  rw[hpl]at hr1
  obtain⟨hlen,hix⟩:=sameIx_ok hr1
  have hJ:HookSound X.P (fun _ _ _ _=>none):=fun f args hp nx v hp' nx' hj=>by cases hj
  obtain⟨N,ix,op,mo,hitems,hget,key⟩:=plan_shape (ih:=ev X.P (fun _ _ _ _=>none) 0) hpl
  have hN:N=items.length:=by rw[<-hlen,hitems];simp
  have hat:=hp_mem' (H:=H) (by have:=ha.len;omega)
  have m0:Mt fr ⟨[hpOf (mem H)],frOf (fun j=>(lkp fr j).map SV.v),hpOf (mem H),H.length⟩ fr H [H]:=⟨fun j hj=>frOf_at _ hj,fun j hj=>frOf_out _ hj,hat,rfl,ha.len,fun c hp hc=>(by
   cases c with
   |zero=>cases hc;exact⟨H,rfl,hat,Nat.le_refl _⟩
   |succ c=>cases hc),fun _ _=>rfl⟩
  obtain⟨σ,e0,hst,fr',H',hs',m1,hK⟩:=vDraw_steps (ih:=ev X.P (fun _ _ _ _=>none) 0) hX hsm h m0
  have pk:=key σ (fun p hp=>by
   have hri:r[p]?=some (piOf X.P ops (ix p) (op p) (mo p)):=by
    rw[hitems,List.getElem?_map,List.getElem?_map,List.getElem?_range hp]
    rfl
   have h1:=hix p _ hri
   exact hst p (ix p,mo p) (op p) h1 (by rw[nth_eq,Array.getElem?_toList];exact hget p hp)) ⟨[],by rw[e0]⟩
  have hd:∀(i:Nat) (o:Oper) (d:Nat),ops[i]?=some o->o.dst=some d->Nat.blt d F.n=true:=fun i o d hi hd=>by
   have:=List.all_eq_true.1 hc o (by rw[<-Array.getElem?_toList]at hi;exact List.mem_of_getElem? hi)
   rw[hd]at this
   exact this
  have hf:FrOk g F.n (frOf fun j=>(lkp fr j).map SV.v) ds a:=⟨ha.fr.size,fun i v hv=>(by
   by_cases hi:i<256
   ·rw[frOf_at _ hi]at hv
    cases hl:lkp fr i with
    |none=>rw[hl]at hv;cases hv
    |some s=>rw[hl]at hv;cases hv;exact ha.fr.fr i s hl
   ·rw[frOf_out _ hi]at hv;cases hv),ha.fr.ds⟩
  have hw:=drawn_pk (ρ:=F.ρ) (m:=9) (id:=id) (n:=F.n) pk e0 hX.po (ev_sound hX.po hJ 0).1 (yield_sound (ev_sound hX.po hJ 0).2) hd hf (by rw[hat];exact ha.ok) ha.gl
  refine wpIn_mono hw ?_
  rintro x a' w' ⟨rfl,g',k1,k2,k3⟩
  rw[hN]at k1 k2 k3
  rw[m1.h,m1.n]at k2
  rw[m1.h,hat]at k3
  refine⟨g',fr',ds,H',hK,⟨⟨k1.size,fun i v hv=>?_,k1.ds⟩,k2,ha.gl.mono k3.ext,m1.len⟩,t.trans k3⟩
  by_cases hi:i<256
  ·exact k1.fr i v.v (by rw[m1.frm i hi,hv];rfl)
  ·rw[m1.hi i hi]at hv
   have h1:=ha.fr.fr i v hv
   have s1:=ha.fr.size
   have s2:=k1.size
   have e1:a.tmps.getD i undef=undef:=by rw[Array.getD_eq_getD_getElem?,Array.getElem?_eq_none (by omega)];rfl
   have e2:a'.tmps.getD i undef=undef:=by rw[Array.getD_eq_getD_getElem?,Array.getElem?_eq_none (by omega)];rfl
   simp only[e1]at h1
   simp only[e2]
   exact VR.mono k3.ext h1
end
end
end Go.Vc
namespace Go.Vc
open Go Go.Ev Go.RowKit
set_option linter.unusedVariables false
noncomputable section
def bindV:List Tmp->List SV->Fv->Fv
 |p::ps,v::vs,fr=>bindV ps vs ((p,v)::fr)
 |_,_,fr=>fr
def smallF:Fv->Bool
 |[]=>true
 |(i,_)::l=>lt i 256 && smallF l
theorem smallF_ok:∀{fr:Fv}{i:Nat}{v:SV},smallF fr=true->lkp fr i=some v->i<256
 |[],i,v,_,h=>by cases h
 |(j,u)::l,i,v,h,hl=>by
  simp only[smallF,Bool.and_eq_true]at h
  rw[lkp_cons]at hl
  split at hl
  ·rename_i e;subst e;exact lt_iff.1 h.1
  ·exact smallF_ok h.2 hl
theorem bindV_ok {g:Gm}:∀{ps:List Tmp}{vs:List SV}{us:List Value}{fr:Fv}{tmps:Array Value},len vs=len ps->VRL g (SV.vs vs) us->FrV g fr (fun i=>tmps.getD i undef)->ps.all (fun p=>Nat.blt p tmps.size)=true ->
  FrV g (bindV ps vs fr) (fun i=>((ps.zip us).foldl (fun t (p,a)=>t.setIfInBounds p a) tmps).getD i undef)
 |[],vs,us,fr,tmps,_,hv,hf,hb=>by
  have:bindV [] vs fr=fr:=by cases vs<;>rfl
  rw[this];exact hf
 |p::ps,[],us,fr,tmps,h,hv,hf,hb=>by cases h
 |p::ps,v::vs,us,fr,tmps,h,hv,hf,hb=>by
  obtain⟨u,us',rfl,h1,h2⟩:=hv
  rw[List.all_cons,Bool.and_eq_true]at hb
  have hlt:p<tmps.size:=by simpa[Nat.blt_eq]using hb.1
  have hf':FrV g ((p,v)::fr) (fun i=>(tmps.setIfInBounds p u).getD i undef):=fun i x hx=>by
   rw[lkp_cons]at hx
   simp only[Array.getD_eq_getD_getElem?,Array.getElem?_setIfInBounds]
   by_cases e:i=p
   ·subst e
    rw[if_pos rfl]at hx
    cases hx
    simp[hlt,h1]
   ·rw[if_neg e]at hx
    rw[if_neg (fun e'=>e e'.symm)]
    have:=hf i x hx
    simp only[Array.getD_eq_getD_getElem?]at this
    exact this
  have h':len vs=len ps:=by
   have:len vs+1=len ps+1:=h
   omega
  exact bindV_ok (ps:=ps) (vs:=vs) h' h2 hf' (by simpa using hb.2)
def setL (H:Hv)(l st:Nat)(pend:Option Code)(K:Hv->Prop):Prop:=match nth H l with
 |some (.loop _ fn fr ps a b D _)=>K (setN H l (.loop st fn fr ps a b D pend))
 |_=>False
def busyL (H:Hv)(l:Nat)(K:Hv->Prop):Prop:=match nth H l with
 |some (.loop 0 fn fr ps a b D pend)=>K (setN H l (.loop 1 fn fr ps a b D pend))
 |_=>False
theorem setL_ok {P:Program}{g:Gm}{H:Hv}{l st:Nat}{pend:Option Code}{K:Hv->Prop}{w:World}{L:Ev.Loc}(h:setL H l st pend K)(ho:Ok P g (mem H) H.length w)(hg:g l=some L) :
  ∃H' r,K H'/\H'.length=H.length/\w.heap[L.blk]?=some (.loop r)/\Ok P g (mem H') H'.length (w.putObj L.blk (.loop {r with state:=stOf st,pending:=pend}))/\Aft g (mem H) w g (mem H') (w.putObj L.blk (.loop {r with state:=stOf st,pending:=pend})):=by
 unfold setL at h
 split at h
 ·rename_i fn fr ps a b D _ hb
  have hbl:=nth_lt hb
  obtain⟨r,fd,p1,p2,p3,_,_,_,_,_,_,_,_,_,o,t⟩:=ho.loop (st':=st) (pend':=pend) (H':=mem (setN H l (.loop st fn fr ps a b D pend))) (mem_get hb) hg (fun j=>mem_set hbl j)
  have hl2:∀x:Ob,(setN H l x).length=H.length:=fun x=>by rw[setN_eq];simp
  exact⟨_,r,h,hl2 _,p1,by rw[hl2];exact o,t⟩
 ·exact h.elim
theorem busyL_ok {P:Program}{g:Gm}{H:Hv}{l:Nat}{K:Hv->Prop}{w:World}{L:Ev.Loc}(h:busyL H l K)(ho:Ok P g (mem H) H.length w)(hg:g l=some L) :
  ∃H' r,K H'/\H'.length=H.length/\w.heap[L.blk]?=some (.loop r)/\r.state=.ready/\Ok P g (mem H') H'.length (w.putObj L.blk (.loop {r with state:=.busy}))/\Aft g (mem H) w g (mem H') (w.putObj L.blk (.loop {r with state:=.busy})):=by
 unfold busyL at h
 split at h
 ·rename_i fn fr ps a b D pend hb
  have hbl:=nth_lt hb
  obtain⟨r,fd,p1,p2,p3,_,_,_,_,_,_,_,_,_,o,t⟩:=ho.loop (st':=1) (pend':=pend) (H':=mem (setN H l (.loop 1 fn fr ps a b D pend))) (mem_get hb) hg (fun j=>mem_set hbl j)
  have hl2:∀x:Ob,(setN H l x).length=H.length:=fun x=>by rw[setN_eq];simp
  have e:({r with state:=.busy}:Loop)={r with state:=stOf 1,pending:=pend}:=by rw[<-p3];rfl
  rw[<-e]at o t
  exact⟨_,r,h,hl2 _,p1,p2,by rw[hl2];exact o,t⟩
 ·exact h.elim
def endK (l:Nat)(K:SV->Hv->Prop):Kc:=fun e fr ds H=>match e with
 |.normal=>setL H l 0 none fun H=>K (.bool true) H
 |.ret=>setL H l 2 (some .ret) fun H=>K (.bool false) H
 |.exit i=>setL H l 2 (some (.exit i)) fun H=>K (.bool false) H
 |_=>False
def roundK (X:Cx)(F:Fx)(l:Nat)(b:Code)(K:SV->Hv->Prop):Kc:=fun e fr ds H=>match e with
 |.normal=>busyL H l fun H=>T X F b fr ds H (endK l K)
 |_=>False
section
variable {X:Cx}
theorem YieldG.by (hX:CxOk X){l D fn:Nat}{fd:Func}(hfd:X.P.funcs[fn]?=some fd){fr:Fv}{ps:List Tmp}{a b:Code}{pend:Option Code}{H:Hv}{args:List SV}{K:SV->Hv->Prop}(hb:nth H l=some (.loop 0 fn fr ps a b D pend))(hlen:Nat.ble (len H) 60000=true)(hsm:smallF fr=true)(hps:len args=len ps)
  (h:∀ρ g w,T X ⟨fd.ntmps,ρ,fun _=>[],g,H,w⟩ a (bindV ps args fr) [] H (roundK X ⟨fd.ntmps,ρ,fun _=>[],g,H,w⟩ l b K)):YieldG X.P l args H K:=fun g w us L ho hg hr hL=>by
 have hlen:=Nat.le_of_ble_eq_true hlen
 rw[len_eq]at hlen
 obtain⟨l',O,q1,q2,q3⟩:=ho.den l _ (mem_get hb) rfl
 rw[hL]at q1;cases q1
 obtain⟨r,fd',rfl,r1,r2,r3,r4,r5,r6,r7,r8,r9,r10,r11,r12⟩:=ObjAt.loop_is q3
 rw[Array.getElem?_toList,hfd]at r6
 cases r6
 have hul:us.length=ps.length:=by have:=hr.length;rw[vs_len]at this;rw[this,<-len_eq,hps,len_eq]
 refine⟨_,_,_,_,run_yield q2 (by rw[r3];simpa using hul),?_⟩
 refine roundIn_of_wpIn trivial ?_
 have hz:(r.params.zip us.toArray).foldl (fun tmps (t,a)=>tmps.setIfInBounds t a) r.tmps=(ps.zip us).foldl (fun t (p,a)=>t.setIfInBounds p a) r.tmps:=by
  rw[r3,<-Array.foldl_toList];simp
 rw[hz,r4,r5]
 have hfr0:FrV g fr (fun i=>r.tmps.getD i undef):=fun i v hv=>r11 i v.v (by rw[frOf_at _ (smallF_ok hsm hv),hv];rfl)
 have hfr1:=bindV_ok (ps:=ps) hps hr hfr0 (by rw[r7];exact r10)
 have hass:=h (some L.blk) g w (fun id hid=>ho.bnd id hid) g {tmps:=(ps.zip us).foldl (fun t (p,a)=>t.setIfInBounds p a) r.tmps,defers:=[]} w ⟨⟨by rw[fold_size];exact r7,hfr1,rfl⟩,ho,hg,hlen⟩ (Aft.refl _ _ _)
 refine wpIn_mono (wpIn_depth (k:=8) rfl hass) ?_
 rintro x a1 w1 ⟨g1,fr1,ds1,H1,k1,hat1,t1⟩
 cases x with
 |normal=>
  have hL1:=t1.ext _ _ hL
  replace k1:busyL H1 l (fun H2=>T X ⟨fd.ntmps,some L.blk,fun _=>[],g,H,w⟩ b fr1 ds1 H2 (endK l K)):=k1
  obtain⟨H2,r',k2,hl2,p1,p2,o2,t2⟩:=busyL_ok k1 hat1.ok hL1
  refine⟨_,run_beginRound p1 p2,?_⟩
  have hbody:=k2 (fun id hid=>ho.bnd id hid) g1 a1 _ ⟨hat1.fr,o2,hat1.gl,by rw[hl2];exact hat1.len⟩ (t1.trans t2)
  refine wpIn_mono (wpIn_depth (k:=8) rfl hbody) ?_
  rintro x a2 w2 ⟨g3,fr3,ds3,H3,k3,hat3,t3⟩
  have hL3:=t3.ext _ _ hL
  cases x with
  |normal=>
   replace k3:setL H3 l 0 none (fun H=>K (.bool true) H):=k3
   obtain⟨H4,r4',k4,hl4,p4,o4,t4⟩:=setL_ok k3 hat3.ok hL3
   exact⟨_,_,run_endRound none p4,_,rfl,_,_,g3,k4,by rw[hl4];exact hat3.len,rfl,o4,t3.trans t4⟩
  |ret=>
   replace k3:setL H3 l 2 (some .ret) (fun H=>K (.bool false) H):=k3
   obtain⟨H4,r4',k4,hl4,p4,o4,t4⟩:=setL_ok k3 hat3.ok hL3
   exact⟨_,_,run_endRound (some .ret) p4,_,rfl,_,_,g3,k4,by rw[hl4];exact hat3.len,rfl,o4,t3.trans t4⟩
  |exit i=>
   replace k3:setL H3 l 2 (some (.exit i)) (fun H=>K (.bool false) H):=k3
   obtain⟨H4,r4',k4,hl4,p4,o4,t4⟩:=setL_ok k3 hat3.ok hL3
   exact⟨_,_,run_endRound (some (.exit i)) p4,_,rfl,_,_,g3,k4,by rw[hl4];exact hat3.len,rfl,o4,t3.trans t4⟩
  |_=>exact k3.elim
 |_=>exact k1.elim
def behindK (K:Kc)(fr:Fv)(ds:List Nat)(D l:Nat)(H:Hv):Prop:=match nth H l with
 |some (.loop st fn f ps a b D' pend)=>bif Nat.beq st 1 then False else(match pend with
  |none=>K .normal fr (D::ds) (setN H l (.loop 3 fn f ps a b D' pend))
  |some .ret=>K .ret fr (D::ds) (setN H l (.loop 3 fn f ps a b D' pend))
  |some (.exit i)=>K (.exit i) fr (D::ds) (setN H l (.loop 3 fn f ps a b D' pend))
  |_=>False)
 |_=>False
theorem RangeG.by (hX:CxOk X){F:Fx}{f:Operand}{ps:Array Tmp}{a b:Code}{fr:Fv}{ds:List Nat}{H:Hv}{K:Kc}(hρ:F.ρ=none)(fn:Nat){fd:Func}(hfd:X.P.funcs[fn]?=some fd)(hn:F.n=fd.ntmps)(hco:codeOk F.n (.rangeFunc f ps a b)=true)(hlen:Nat.ble (len H+2) 60000=true)
  (h:vGet X.ng fr f fun v=>match v with
   |.fn gf first cap=>Sd (bodied X.P gf=true) (CallG X.P gf (first++.yld (len H+1)::cap) (app2 H [.mark true,.loop 0 fn fr ps.toList a b (len H) none]) fun _ H3=>behindK K fr ds (len H) (len H+1) H3)
   |_=>False):RangeG X F f ps a b fr ds H K:=.mk fun h0 g ac w ha t=>by
 have hlen:=Nat.le_of_ble_eq_true hlen
 rw[len_eq]at hlen
 rw[hρ]
 replace h:=vGet_ok (ha.reads hX) h
 obtain⟨v,h,hv⟩:=h
 split at h
 ·rename_i gf first cap
  obtain⟨hbod,h⟩:=h
  obtain⟨fn',fi,ca,ev,hfn,hfi,hca⟩:=hv
  cases hfn
  have hfi:VRL g (SV.vs first) fi:=hfi
  have hca:VRL g (SV.vs cap) ca:=hca
  simp only[codeOk,Bool.and_eq_true]at hco
  obtain⟨⟨hc1,hc2⟩,hc3⟩:=hco
  have ho:=ha.ok
  rw[app2_eq,len_eq]at h
  refine wpIn_rangeFunc fun fnm _=>?_
  have e1:mem (H++[Ob.mark true])=fun j=>if j=H.length then some (.mark true)else mem H j:=by
   funext j
   have:=mem_snoc (H:=H) (o:=.mark true) j
   rw[snoc_eq]at this
   exact this
  obtain⟨o1,t1⟩:=ho.new (o:=.mark true) (H':=mem (H++[Ob.mark true])) (w':=w.alloc (.deferred (some []))) 0 0 (O:=.deferred (some [])) rfl (fun j=>by rw[e1]) chg_alloc (World.alloc_heap_new w _)
  have hf1:FrS (setG g H.length ⟨w.heap.size,0,0,0⟩) F.n fr ds ac:=ha.fr.mono t1.ext
  have hsz:(w.alloc (.deferred (some []))).heap.size=w.heap.size+1:=World.size_alloc w _
  have hext2:=ext_setG (l:=⟨w.heap.size+1,0,0,0⟩) (o1.bnd (H.length+1) (Nat.le_refl _))
  have hD2:setG (setG g H.length ⟨w.heap.size,0,0,0⟩) (H.length+1) ⟨w.heap.size+1,0,0,0⟩ H.length=some ⟨w.heap.size,0,0,0⟩:=hext2 _ _ (setG_at _ _ _)
  let H2:Hv:=H++[.mark true,.loop 0 fn fr ps.toList a b H.length none]
  have e2:∀j,mem H2 j=if j=H.length+1 then some (Ob.loop 0 fn fr ps.toList a b H.length none).o else mem (H++[Ob.mark true]) j:=fun j=>by
   have:=mem_snoc (H:=H++[Ob.mark true]) (o:=.loop 0 fn fr ps.toList a b H.length none) j
   rw[snoc_eq,List.append_assoc]at this
   simpa using this
  have hnew2:=o1.new (o:=(Ob.loop 0 fn fr ps.toList a b H.length none).o) (H':=mem H2) (w':=(w.alloc (.deferred (some []))).alloc (.loop {state:=.ready,pending:=none,fn:=fnm,tmps:=ac.tmps,params:=ps,assign:=a,body:=b,defers:=w.heap.size})) 0 0
   (O:=.loop {state:=.ready,pending:=none,fn:=fnm,tmps:=ac.tmps,params:=ps,assign:=a,body:=b,defers:=w.heap.size})
   (by
    rw[hsz]
    refine⟨ac.tmps,⟨w.heap.size,0,0,0⟩,fd,fnm,rfl,hD2,fun i v hv=>?_,by rw[Array.getElem?_toList];exact hfd,by rw[<-hn];exact hf1.size,by rw[<-hn];exact hc2,by rw[<-hn];exact hc3,by rw[<-hn];exact hc1⟩
    by_cases hi:i<256
    ·rw[frOf_at _ hi]at hv
     cases hl:lkp fr i with
     |none=>rw[hl]at hv;cases hv
     |some s=>rw[hl]at hv;cases hv;exact(hf1.fr.mono hext2) i s hl
    ·rw[frOf_out _ hi]at hv;cases hv)
   e2 chg_alloc (World.alloc_heap_new _ _)
  rw[hsz]at hnew2
  obtain⟨o2,t2⟩:=hnew2
  have hlast:setG (setG g H.length ⟨w.heap.size,0,0,0⟩) (H.length+1) ⟨w.heap.size+1,0,0,0⟩ (H.length+1)=some ⟨w.heap.size+1,0,0,0⟩:=setG_at _ _ _
  have he2:Ext g (setG (setG g H.length ⟨w.heap.size,0,0,0⟩) (H.length+1) ⟨w.heap.size+1,0,0,0⟩):=t1.ext.trans t2.ext
  have hargs:VRL (setG (setG g H.length ⟨w.heap.size,0,0,0⟩) (H.length+1) ⟨w.heap.size+1,0,0,0⟩) (SV.vs (first++.yld (H.length+1)::cap)) (fi++(.func (.yield (w.heap.size+1)) #[] #[]::ca)):=by
   rw[vs_map,List.map_append,List.map_cons,<-vs_map,<-vs_map]
   exact(hfi.mono he2).append ⟨_,_,rfl,⟨.yield (w.heap.size+1),[],[],rfl,⟨_,hlast,rfl⟩,rfl,rfl⟩,hca.mono he2⟩
  have hl2:H2.length=H.length+1+1:=by simp[H2]
  have hl2':(H++[Ob.mark true]).length=H.length+1:=by simp
  have hres:=h _ _ _ (by rw[hl2];exact o2) (ha.gl.mono he2) hargs
  refine⟨w.heap.size+1,[{target:=.collected w.heap.size,args:=#[]}],((w.alloc (.deferred (some []))).alloc (.loop {state:=.ready,pending:=none,fn:=fnm,tmps:=ac.tmps,params:=ps,assign:=a,body:=b,defers:=w.heap.size})),{target:=.fn (.func gf) ⟨ca⟩,args:=⟨fi⟩++#[.func (.yield (w.heap.size+1)) #[] #[]]},((w.alloc (.deferred (some []))).alloc (.loop {state:=.ready,pending:=none,fn:=fnm,tmps:=ac.tmps,params:=ps,assign:=a,body:=b,defers:=w.heap.size})),gf,(fi++(.func (.yield (w.heap.size+1)) #[] #[]::ca)).toArray,((w.alloc (.deferred (some []))).alloc (.loop {state:=.ready,pending:=none,fn:=fnm,tmps:=ac.tmps,params:=ps,assign:=a,body:=b,defers:=w.heap.size})),run_enterLoop_outer _ _ _ _ _,?_,fun _ _=>trivial,?_,(fun e=>by cases e),?_⟩
  ·have e7:Array.map ac.eval #[.const (.func (.yield (w.heap.size+1)) #[] #[])]=#[.func (.yield (w.heap.size+1)) #[] #[]]:=by simp[Act.eval]
   simp only[resolve,ev,Deferred.ofValue,e7]
   rfl
  ·have e6:((⟨fi⟩:Array Value)++#[.func (.yield (w.heap.size+1)) #[] #[]])++(⟨ca⟩:Array Value)=(fi++(.func (.yield (w.heap.size+1)) #[] #[]::ca)).toArray:=by apply Array.ext';simp
   simp only[invoke,e6]
   exact bodied_enter hX.po hbod _ _
  ·rcases hres with⟨_,hres⟩|⟨u,w',hres,_⟩
   ·refine callsIn_fen (hres.mono ?_)
    rintro x w3 ⟨u,rfl,v3,H3,g3,k3,hl3,_,o3,t3⟩
    have hL3:=t3.ext _ _ hlast
    have tt0:Aft F.g (mem F.H) F.w g3 (mem H3) w3:=t.trans ((t1.trans t2).trans t3)
    unfold behindK at k3
    split at k3
    ·rename_i st fn3 f3 ps3 a3 b3 D3 pend hb3
     have hbl:=nth_lt hb3
     obtain⟨r,fd3,p1,p2,p3,_,_,_,_,_,_,_,_,_,o4,t4⟩:=o3.loop (st':=3) (pend':=pend) (H':=mem (setN H3 (H.length+1) (.loop 3 fn3 f3 ps3 a3 b3 D3 pend))) (mem_get hb3) hL3 (fun j=>mem_set hbl j)
     have tt:=tt0.trans t4
     have hl4:(setN H3 (H.length+1) (.loop 3 fn3 f3 ps3 a3 b3 D3 pend)).length=H3.length:=by rw[setN_eq];simp
     have ex3:Ext g g3:=he2.trans t3.ext
     have ff:FrS g3 F.n fr (H.length::ds) {ac with defers:=[{target:=.collected w.heap.size,args:=#[]}]++ac.defers}:=⟨ha.fr.size,ha.fr.fr.mono ex3,⟨⟨w.heap.size,0,0,0⟩,ac.defers,rfl,t3.ext _ _ hD2,ha.fr.ds.mono ex3⟩⟩
     have hat4:At X.P F.n g3 fr (H.length::ds) (setN H3 (H.length+1) (.loop 3 fn3 f3 ps3 a3 b3 D3 pend)) {ac with defers:=[{target:=.collected w.heap.size,args:=#[]}]++ac.defers} _:=⟨ff,by rw[hl4];exact o4,ha.gl.mono ex3,by rw[hl4];exact hl3⟩
     cases hst:Nat.beq st 1 with
     |true=>rw[hst]at k3;exact k3.elim
     |false=>
      rw[hst]at k3
      simp only[cond_false]at k3
      have hb:stOf st≠.busy:=by
       match st,hst with
       |0,_=>simp[stOf]
       |2,_=>simp[stOf]
       |n+3,_=>simp[stOf]
      refine⟨r.pending,_,run_endLoop p1 (by rw[p2];exact hb),?_⟩
      rw[p3]
      split at k3
      ·exact⟨g3,_,_,_,k3,hat4,tt⟩
      ·exact wpIn_ret ⟨g3,_,_,_,k3,hat4,tt⟩
      ·exact wpIn_exit ⟨g3,_,_,_,k3,hat4,tt⟩
      ·exact k3.elim
    ·exact k3.elim
   ·rw[bodied_enter hX.po hbod]at hres;cases hres
 ·exact h.elim
def roundsV (X:Cx)(F:Fx)(b:Code)(K:Kc):Nat->Fv->List Nat->Hv->Prop
 |0,_,_,_=>False
 |m+1,fr,ds,H=>vCode X F b fr ds H (thenK (roundsV X F b K m) K)
theorem LoopG.rounds (hX:CxOk X){F:Fx}{b:Code}{fr:Fv}{ds:List Nat}{H:Hv}{K:Kc}(m:Nat)(hc:codeOk F.n b=true)(h:roundsV X F b K m fr ds H):LoopG X F b fr ds H K:=.mk fun h0 g a w ha t=>by
 refine wpIn_loop_rounds m ?_
 induction m generalizing fr ds H g a w with
 |zero=>exact h.elim
 |succ m ih=>
  rw[roundsIn_succ]
  refine wpIn_mono (vCode_ok hX hc h h0 g a w ha t) ?_
  rintro e a1 w1 ⟨g1,fr1,ds1,H1,k1,hat1,t1⟩
  cases e with
  |normal=>exact ih k1 g1 a1 w1 hat1 t1
  |_=>exact⟨g1,fr1,ds1,H1,k1,hat1,t1⟩
end
end
end Go.Vc
namespace Go.Vc
open Go Go.Ev Go.RowKit
set_option linter.unusedVariables false
noncomputable section
theorem LiesAt.q {τ:Nat->Nat}{n sz e m:Nat}{g:Nat->Nat->SV} [h:PlainG g]:LiesAt (some ((Ob.rows n sz g e m).mp τ)) (.rows n sz g e m):=.g (u:=[]) (u':=[]) fun i j _ _=>h.pl τ i j
def NewR (τ:Nat->Nat):Hv->Hv->Prop
 |[],[]=>True
 |o'::l',x::nw=>LiesAt (some (o'.mp τ)) x/\NewR τ l' nw
 |_,_=>False
def KeptR (τ:Nat->Nat)(H:Hv)(nw:Hv):List Nat->Hv->Hv->List (Option Ob)->Prop
 |t::ts,o::l,o'::l',r::rs=>(match o,r with
  |.dead,none=>KeptR τ H nw ts l l' rs
  |.dead,some _=>False
  |_,none=>LiesAt (nth H t) (o'.mp τ)/\KeptR τ H nw ts l l' rs
  |_,some x=>LiesAt (some (o'.mp τ)) x/\KeptR τ H nw ts l l' rs)
 |[],[],l',[]=>NewR τ l' nw
 |_,_,_,_=>False
def putR:Hv->List Nat->List (Option Ob)->Hv
 |H,t::ts,r::rs=>putR (match r with|none=>H|some x=>setN H t x) ts rs
 |H,_,_=>H
theorem NewR.ok {τ:Nat->Nat}:∀{l' nw:Hv},NewR τ l' nw->l'.length=nw.length/\∀j,(nth (mpH τ l') j).map Ob.o=(nth nw j).map Ob.o
 |[],[],_=>⟨rfl,fun j=>rfl⟩
 |o'::l',x::nw,⟨h1,h2⟩=>by
  obtain⟨k1,k2⟩:=NewR.ok h2
  refine⟨by simp[k1],fun j=>?_⟩
  cases j with
  |zero=>
   obtain⟨y,e1,e2⟩:=h1
   cases e1
   show some (o'.mp τ).o=some x.o
   rw[e2]
  |succ j=>exact k2 j
 |[],_::_,h=>h.elim
 |_::_,[],h=>h.elim
theorem mem_nth (H:Hv)(j:Nat):mem H j=(nth H j).map Ob.o:=by
 unfold mem
 rw[nth_eq]
theorem mpH_len (τ:Nat->Nat):∀l:Hv,(mpH τ l).length=l.length
 |[]=>rfl
 |o::l=>by show(mpH τ l).length+1=_;rw[mpH_len τ l];rfl
theorem KeptR.ok {τ:Nat->Nat}{Hq nw:Hv}:∀{ts:List Nat}{l l':Hv}{rs:List (Option Ob)}{Ha Hb:Hv},KeptR τ Hq nw ts l l' rs->Ha.length=Hb.length->(∀j,mem Ha j=mem Hb j)->(∀t∈ts,t<Ha.length)->ts.Nodup->(∀t∈ts,mem Hb t=mem Hq t) ->
  (backH τ Ha ts l l').length=(app2 (putR Hb ts rs) nw).length/\∀j,mem (backH τ Ha ts l l') j=mem (app2 (putR Hb ts rs) nw) j
 |[],[],l',[],Ha,Hb,h,hl,hm,ht,hn,hq=>by
  obtain⟨k1,k2⟩:=NewR.ok h
  show(app2 Ha (mpH τ l')).length=(app2 Hb nw).length/\∀j,mem (app2 Ha (mpH τ l')) j=mem (app2 Hb nw) j
  rw[app2_eq,app2_eq]
  refine⟨by simp[mpH_len,k1,hl],fun j=>?_⟩
  unfold mem
  by_cases hj:j<Ha.length
  ·rw[List.getElem?_append_left hj,List.getElem?_append_left (by omega)]
   exact hm j
  ·rw[List.getElem?_append_right (by omega),List.getElem?_append_right (by omega),<-nth_eq,<-nth_eq,hl]
   exact k2 _
 |t::ts,o::l,o'::l',r::rs,Ha,Hb,h,hl,hm,ht,hn,hq=>by
  have htl:=ht t (by simp)
  have hn':=List.nodup_cons.1 hn
  have step:∀{Ha' Hb':Hv},KeptR τ Hq nw ts l l' rs->Ha'.length=Ha.length->Hb'.length=Hb.length->(∀j,mem Ha' j=mem Hb' j)->(∀j,j≠t->mem Hb' j=mem Hb j) ->
    (backH τ Ha' ts l l').length=(app2 (putR Hb' ts rs) nw).length/\∀j,mem (backH τ Ha' ts l l') j=mem (app2 (putR Hb' ts rs) nw) j:=fun {Ha' Hb'} k e1 e2 e3 e4=>
   KeptR.ok k (by omega) e3 (fun x hx=>by rw[e1];exact ht x (by simp[hx])) hn'.2 (fun x hx=>by
    rw[e4 x (fun e=>hn'.1 (by rw[<-e];exact hx))]
    exact hq x (by simp[hx]))
  have none':(LiesAt (nth Hq t) (o'.mp τ)/\KeptR τ Hq nw ts l l' rs)->(backH τ (setN Ha t (o'.mp τ)) ts l l').length=(app2 (putR Hb ts rs) nw).length/\∀j,mem (backH τ (setN Ha t (o'.mp τ)) ts l l') j=mem (app2 (putR Hb ts rs) nw) j:=fun⟨⟨y,e1,e2⟩,k⟩=>
   step k (setN_len _ _ _) rfl (fun j=>by
    rw[mem_set htl]
    split
    ·rename_i e;subst e
     rw[hq j (by simp),mem_get e1,e2]
    ·exact hm j) (fun j _=>rfl)
  have some':∀{x:Ob},(LiesAt (some (o'.mp τ)) x/\KeptR τ Hq nw ts l l' rs)->(backH τ (setN Ha t (o'.mp τ)) ts l l').length=(app2 (putR (setN Hb t x) ts rs) nw).length/\∀j,mem (backH τ (setN Ha t (o'.mp τ)) ts l l') j=mem (app2 (putR (setN Hb t x) ts rs) nw) j:=fun {x} ⟨⟨y,e1,e2⟩,k⟩=>
   step k (setN_len _ _ _) (setN_len _ _ _) (fun j=>by
    rw[mem_set htl,mem_set (by omega)]
    split
    ·cases e1;rw[e2]
    ·exact hm j) (fun j hj=>by rw[mem_set (by omega),if_neg hj])
  cases o with
  |dead=>
   cases r with
   |none=>exact step h rfl rfl hm (fun _ _=>rfl)
   |some x=>exact h.elim
  |_=>
   cases r with
   |none=>exact none' h
   |some x=>exact some' h
 |[],_::_,_,_,_,_,h,_,_,_,_,_=>by cases h
 |[],[],_,_::_,_,_,h,_,_,_,_,_=>by cases h
 |_::_,[],_,_,_,_,h,_,_,_,_,_=>by cases h
 |_::_,_::_,[],_,_,_,h,_,_,_,_,_=>by cases h
 |_::_,_::_,_::_,[],_,_,h,_,_,_,_,_=>by cases h
theorem CallG.same {P:Program}{f:FuncId}{args:List SV}{H B B':Hv}{V:SV}{K:SV->Hv->Prop}(h:CallG P f args H fun v Hx=>v=V/\Hx=B)(hl:B.length=B'.length)(hm:∀j,mem B j=mem B' j)(k:K V B'):CallG P f args H K:=fun g w us ho hg hr=>by
 refine(h g w us ho hg hr).mono fun u w'=>?_
 rintro ⟨v,H',g',⟨rfl,rfl⟩,h1,h2,h3,h4⟩
 have e:mem H'=mem B':=funext hm
 exact⟨v,B',g',k,by omega,h2,by rw[<-e,<-hl];exact h3,by rw[<-e];exact h4⟩
theorem CallG.use {P:Program}{f:FuncId}{al args:List SV}{Hl H H0:Hv}{v0:SV}{K:SV->Hv->Prop}(ts:List Nat)(rs:List (Option Ob))(nw:Hv)(hc:CallG P f al Hl fun v H=>v=v0/\H=H0)(ha:SV.mps (ren ts) al=args)(hf:Fits (ren ts) H Hl 0)(hn:nodupN ts=true)(hlt:allLt ts (len H)=true)(hgl:∀b,b<P.globals.size->ren ts b=b)(hlen:len ts=len Hl)(hH:len H+len H0<=60000)(hk:KeptR (ren2 ts (len H)) H nw ts Hl H0 rs)
  (k:K (v0.mp (ren2 ts (len H))) (app2 (putR H ts rs) nw)):CallG P f args H K:=by
 have hle:len Hl<=len H0:=by
  have:∀(ts:List Nat) (l l':Hv) (rs:List (Option Ob)),KeptR (ren2 ts (len H)) H nw ts l l' rs->True:=fun _ _ _ _ _=>trivial
  have key:∀(τ:Nat->Nat) (ts:List Nat) (l l':Hv) (rs:List (Option Ob)),KeptR τ H nw ts l l' rs->l.length<=l'.length:=by
   intro τ ts
   induction ts with
   |nil=>intro l l' rs h;cases l<;>first|exact Nat.zero_le _|(cases h)
   |cons t ts ih=>
    intro l l' rs h
    cases l with
    |nil=>exact Nat.zero_le _
    |cons o l=>
     cases l' with
     |nil=>cases h
     |cons o' l'=>
      cases rs with
      |nil=>cases h
      |cons r rs=>
       have:KeptR τ H nw ts l l' rs:=by
        cases o<;>cases r<;>first|exact h.elim|exact h.2|exact h
       have:=ih l l' rs this
       simp;omega
  rw[len_eq,len_eq]
  exact key _ _ _ _ _ hk
 have hlt':=allLt_ok hlt
 have e:=CallG.frame (K:=fun v Hx=>v=v0.mp (ren2 ts (len H))/\Hx=backH (ren2 ts (len H)) H ts Hl H0) ts hc ha hf hn hlt hgl hlen (by omega) (by
  rintro v Hl' ⟨rfl,rfl⟩
  exact⟨hle,by omega,rfl,rfl⟩)
 obtain⟨k1,k2⟩:=hk.ok (Ha:=H) (Hb:=H) rfl (fun _=>rfl) (fun t ht=>by have:=hlt' t ht;rw[len_eq]at this;exact this) (nodupN_ok hn) (fun _ _=>rfl)
 exact e.same k1 k2 k
end
end Go.Vc
