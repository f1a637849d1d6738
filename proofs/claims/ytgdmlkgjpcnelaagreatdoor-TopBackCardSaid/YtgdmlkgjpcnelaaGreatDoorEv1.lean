import GoSem.Step
namespace Go.Ev
noncomputable section
set_option linter.unusedVariables false
open Go
def fN {β:Type}(n:Nat)(k:Nat->β):β:=@Nat.rec (fun _=>β) (k Nat.zero) (fun m _=>k (Nat.succ m)) n
def fL {α β:Type}(l:List α)(k:List α->β):β:=@List.rec α (fun _=>β) (k []) (fun a t _=>k (a::t)) l
def blt (a b:Nat):Bool:=Nat.ble (Nat.succ a) b
structure N (β:Type) where
 c0:β
 c1:β
 c2:β
 c3:β
 c4:β
 c5:β
 c6:β
 c7:β
 c8:β
 c9:β
 ca:β
 cb:β
 cc:β
 cd:β
 ce:β
 cf:β
def full {β:Type}(x:β):N β:=⟨x,x,x,x,x,x,x,x,x,x,x,x,x,x,x,x⟩
def m0 {β ρ:Type}(n:N β)(f:β->(β->ρ)->ρ)(k:N β->ρ):ρ:=@N.rec β (fun _=>ρ) (fun c0 c1 c2 c3 c4 c5 c6 c7 c8 c9 ca cb cc cd ce cf=>f c0 (fun x=>k ⟨x,c1,c2,c3,c4,c5,c6,c7,c8,c9,ca,cb,cc,cd,ce,cf⟩)) n
def m1 {β ρ:Type}(n:N β)(f:β->(β->ρ)->ρ)(k:N β->ρ):ρ:=@N.rec β (fun _=>ρ) (fun c0 c1 c2 c3 c4 c5 c6 c7 c8 c9 ca cb cc cd ce cf=>f c1 (fun x=>k ⟨c0,x,c2,c3,c4,c5,c6,c7,c8,c9,ca,cb,cc,cd,ce,cf⟩)) n
def m2 {β ρ:Type}(n:N β)(f:β->(β->ρ)->ρ)(k:N β->ρ):ρ:=@N.rec β (fun _=>ρ) (fun c0 c1 c2 c3 c4 c5 c6 c7 c8 c9 ca cb cc cd ce cf=>f c2 (fun x=>k ⟨c0,c1,x,c3,c4,c5,c6,c7,c8,c9,ca,cb,cc,cd,ce,cf⟩)) n
def m3 {β ρ:Type}(n:N β)(f:β->(β->ρ)->ρ)(k:N β->ρ):ρ:=@N.rec β (fun _=>ρ) (fun c0 c1 c2 c3 c4 c5 c6 c7 c8 c9 ca cb cc cd ce cf=>f c3 (fun x=>k ⟨c0,c1,c2,x,c4,c5,c6,c7,c8,c9,ca,cb,cc,cd,ce,cf⟩)) n
def m4 {β ρ:Type}(n:N β)(f:β->(β->ρ)->ρ)(k:N β->ρ):ρ:=@N.rec β (fun _=>ρ) (fun c0 c1 c2 c3 c4 c5 c6 c7 c8 c9 ca cb cc cd ce cf=>f c4 (fun x=>k ⟨c0,c1,c2,c3,x,c5,c6,c7,c8,c9,ca,cb,cc,cd,ce,cf⟩)) n
def m5 {β ρ:Type}(n:N β)(f:β->(β->ρ)->ρ)(k:N β->ρ):ρ:=@N.rec β (fun _=>ρ) (fun c0 c1 c2 c3 c4 c5 c6 c7 c8 c9 ca cb cc cd ce cf=>f c5 (fun x=>k ⟨c0,c1,c2,c3,c4,x,c6,c7,c8,c9,ca,cb,cc,cd,ce,cf⟩)) n
def m6 {β ρ:Type}(n:N β)(f:β->(β->ρ)->ρ)(k:N β->ρ):ρ:=@N.rec β (fun _=>ρ) (fun c0 c1 c2 c3 c4 c5 c6 c7 c8 c9 ca cb cc cd ce cf=>f c6 (fun x=>k ⟨c0,c1,c2,c3,c4,c5,x,c7,c8,c9,ca,cb,cc,cd,ce,cf⟩)) n
def m7 {β ρ:Type}(n:N β)(f:β->(β->ρ)->ρ)(k:N β->ρ):ρ:=@N.rec β (fun _=>ρ) (fun c0 c1 c2 c3 c4 c5 c6 c7 c8 c9 ca cb cc cd ce cf=>f c7 (fun x=>k ⟨c0,c1,c2,c3,c4,c5,c6,x,c8,c9,ca,cb,cc,cd,ce,cf⟩)) n
def m8 {β ρ:Type}(n:N β)(f:β->(β->ρ)->ρ)(k:N β->ρ):ρ:=@N.rec β (fun _=>ρ) (fun c0 c1 c2 c3 c4 c5 c6 c7 c8 c9 ca cb cc cd ce cf=>f c8 (fun x=>k ⟨c0,c1,c2,c3,c4,c5,c6,c7,x,c9,ca,cb,cc,cd,ce,cf⟩)) n
def m9 {β ρ:Type}(n:N β)(f:β->(β->ρ)->ρ)(k:N β->ρ):ρ:=@N.rec β (fun _=>ρ) (fun c0 c1 c2 c3 c4 c5 c6 c7 c8 c9 ca cb cc cd ce cf=>f c9 (fun x=>k ⟨c0,c1,c2,c3,c4,c5,c6,c7,c8,x,ca,cb,cc,cd,ce,cf⟩)) n
def ma {β ρ:Type}(n:N β)(f:β->(β->ρ)->ρ)(k:N β->ρ):ρ:=@N.rec β (fun _=>ρ) (fun c0 c1 c2 c3 c4 c5 c6 c7 c8 c9 ca cb cc cd ce cf=>f ca (fun x=>k ⟨c0,c1,c2,c3,c4,c5,c6,c7,c8,c9,x,cb,cc,cd,ce,cf⟩)) n
def mb {β ρ:Type}(n:N β)(f:β->(β->ρ)->ρ)(k:N β->ρ):ρ:=@N.rec β (fun _=>ρ) (fun c0 c1 c2 c3 c4 c5 c6 c7 c8 c9 ca cb cc cd ce cf=>f cb (fun x=>k ⟨c0,c1,c2,c3,c4,c5,c6,c7,c8,c9,ca,x,cc,cd,ce,cf⟩)) n
def mc {β ρ:Type}(n:N β)(f:β->(β->ρ)->ρ)(k:N β->ρ):ρ:=@N.rec β (fun _=>ρ) (fun c0 c1 c2 c3 c4 c5 c6 c7 c8 c9 ca cb cc cd ce cf=>f cc (fun x=>k ⟨c0,c1,c2,c3,c4,c5,c6,c7,c8,c9,ca,cb,x,cd,ce,cf⟩)) n
def md {β ρ:Type}(n:N β)(f:β->(β->ρ)->ρ)(k:N β->ρ):ρ:=@N.rec β (fun _=>ρ) (fun c0 c1 c2 c3 c4 c5 c6 c7 c8 c9 ca cb cc cd ce cf=>f cd (fun x=>k ⟨c0,c1,c2,c3,c4,c5,c6,c7,c8,c9,ca,cb,cc,x,ce,cf⟩)) n
def me {β ρ:Type}(n:N β)(f:β->(β->ρ)->ρ)(k:N β->ρ):ρ:=@N.rec β (fun _=>ρ) (fun c0 c1 c2 c3 c4 c5 c6 c7 c8 c9 ca cb cc cd ce cf=>f ce (fun x=>k ⟨c0,c1,c2,c3,c4,c5,c6,c7,c8,c9,ca,cb,cc,cd,x,cf⟩)) n
def mf {β ρ:Type}(n:N β)(f:β->(β->ρ)->ρ)(k:N β->ρ):ρ:=@N.rec β (fun _=>ρ) (fun c0 c1 c2 c3 c4 c5 c6 c7 c8 c9 ca cb cc cd ce cf=>f cf (fun x=>k ⟨c0,c1,c2,c3,c4,c5,c6,c7,c8,c9,ca,cb,cc,cd,ce,x⟩)) n
abbrev F1 (α:Type):=N (Option α)
abbrev F2 (α:Type):=N (F1 α)
abbrev F3 (α:Type):=N (F2 α)
abbrev F4 (α:Type):=N (F3 α)
abbrev Mod (β ρ:Type):=N β->(β->(β->ρ)->ρ)->(N β->ρ)->ρ
def getT (β:Type):List (N β->β):=[N.c0,N.c1,N.c2,N.c3,N.c4,N.c5,N.c6,N.c7,N.c8,N.c9,N.ca,N.cb,N.cc,N.cd,N.ce,N.cf]
def modT (β ρ:Type):List (Mod β ρ):=[m0,m1,m2,m3,m4,m5,m6,m7,m8,m9,ma,mb,mc,md,me,mf]
def nth {α:Type}(l:List α):Nat->Option α:=@List.rec α (fun _=>Nat->Option α) (fun _=>none) (fun a _ ih i=>@Nat.rec (fun _=>Option α) (some a) (fun j _=>ih j) i) l
def drp {α:Type}(l:List α):Nat->List α:=@List.rec α (fun _=>Nat->List α) (fun _=>[]) (fun a t ih i=>@Nat.rec (fun _=>List α) (a::t) (fun j _=>ih j) i) l
def tke {α:Type}(l:List α):Nat->Option (List α):=@List.rec α (fun _=>Nat->Option (List α)) (fun i=>@Nat.rec (fun _=>Option (List α)) (some []) (fun _ _=>none) i)
 (fun a _ ih i=>@Nat.rec (fun _=>Option (List α)) (some []) (fun j _=>(@Option.rec _ (fun _=>_) (none) (fun t=>some (a::t)) (ih j))) i) l
def app {α:Type}(l m:List α):List α:=@List.rec α (fun _=>List α) m (fun a _ ih=>fL ih fun t=>a::t) l
def over {α:Type}(n:List α):List α->Option (List α):=@List.rec α (fun _=>List α->Option (List α)) (fun m=>some m)
 (fun b _ jh m=>@List.rec α (fun _=>Option (List α)) none (fun _ m' _=>(@Option.rec _ (fun _=>_) (none) (fun r=>some (b::r)) (jh m'))) m) n
def putL {α:Type}(n:List α)(l:List α):Nat->Option (List α):=@List.rec α (fun _=>Nat->Option (List α)) (fun i=>@Nat.rec (fun _=>Option (List α)) (over n []) (fun _ _=>none) i)
 (fun a t ih i=>@Nat.rec (fun _=>Option (List α)) (over n (a::t)) (fun j _=>(@Option.rec _ (fun _=>_) (none) (fun r=>some (a::r)) (ih j))) i) l
def lenL {α:Type}(l:List α):Nat:=@List.rec α (fun _=>Nat) Nat.zero (fun _ _ ih=>Nat.succ ih) l
def eqN (l:List UInt8):List UInt8->Bool:=@List.rec UInt8 (fun _=>List UInt8->Bool) (fun m=>@List.rec UInt8 (fun _=>Bool) true (fun _ _ _=>false) m)
 (fun a _ ih m=>@List.rec UInt8 (fun _=>Bool) false (fun b m' _=>(@Bool.rec (fun _=>_) (false) (ih m') (Nat.beq a.toNat b.toNat))) m) l
def repL {α:Type}(z:List α)(n:Nat):List α:=@Nat.rec (fun _=>List α) [] (fun _ ih=>app z ih) n
def allL {α:Type}(p:α->Bool)(l:List α):Bool:=@List.rec α (fun _=>Bool) true (fun a _ ih=>(@Bool.rec (fun _=>_) (false) (ih) (p a))) l
def bytesV (l:List UInt8):List Value:=@List.rec UInt8 (fun _=>List Value) [] (fun a _ ih=>fL ih fun t=>fN a.toNat fun n=>.int .u8 (.ofNat n)::t) l
def vInt {β:Type}(v:Value)(n:β)(k:IntKind->Int->β):β:=@Value.rec (fun _=>β) (fun _=>Unit) (fun _=>Unit) (fun _=>n) k (fun _ _=>n) (fun _ _ _=>n) (fun _=>n) (fun _=>n) (fun _ _ _=>n) (fun _=>n) (fun _=>n) (fun _ _ _ _ _=>n) n (fun _ _ _=>n) n (fun _ _=>n) (fun _ _=>n) (fun _ _=>()) () (fun _ _ _ _=>()) v
def vBool {β:Type}(v:Value)(n:β)(k:Bool->β):β:=@Value.rec (fun _=>β) (fun _=>Unit) (fun _=>Unit) k (fun _ _=>n) (fun _ _=>n) (fun _ _ _=>n) (fun _=>n) (fun _=>n) (fun _ _ _=>n) (fun _=>n) (fun _=>n) (fun _ _ _ _ _=>n) n (fun _ _ _=>n) n (fun _ _=>n) (fun _ _=>n) (fun _ _=>()) () (fun _ _ _ _=>()) v
def vPtr {β:Type}(v:Value)(n:β)(k:Nat->Nat->β):β:=@Value.rec (fun _=>β) (fun _=>Unit) (fun _=>Unit) (fun _=>n) (fun _ _=>n) (fun _ _=>n) (fun _ _ _=>n) (fun _=>n) (fun a=>@Option.rec Addr (fun _=>β) n (fun a=>@Addr.rec (fun _=>β) (fun b o _=>k b o) a) a) (fun _ _ _=>n) (fun _=>n) (fun _=>n) (fun _ _ _ _ _=>n) n (fun _ _ _=>n) n (fun _ _=>n) (fun _ _=>n) (fun _ _=>()) () (fun _ _ _ _=>()) v
def vSl {β:Type}(v:Value)(n:β)(k:Option Addr->Nat->Nat->β):β:=@Value.rec (fun _=>β) (fun _=>Unit) (fun _=>Unit) (fun _=>n) (fun _ _=>n) (fun _ _=>n) (fun _ _ _=>n) (fun _=>n) (fun _=>n) k (fun _=>n) (fun _=>n) (fun _ _ _ _ _=>n) n (fun _ _ _=>n) n (fun _ _=>n) (fun _ _=>n) (fun _ _=>()) () (fun _ _ _ _=>()) v
def vStr {β:Type}(v:Value)(n:β)(k:ByteArray->β):β:=@Value.rec (fun _=>β) (fun _=>Unit) (fun _=>Unit) (fun _=>n) (fun _ _=>n) (fun _ _=>n) (fun _ _ _=>n) k (fun _=>n) (fun _ _ _=>n) (fun _=>n) (fun _=>n) (fun _ _ _ _ _=>n) n (fun _ _ _=>n) n (fun _ _=>n) (fun _ _=>n) (fun _ _=>()) () (fun _ _ _ _=>()) v
def vAgg {β:Type}(v:Value)(n:β)(k:List Value->β):β:=@Value.rec (fun _=>β) (fun _=>Unit) (fun _=>Unit) (fun _=>n) (fun _ _=>n) (fun _ _=>n) (fun _ _ _=>n) (fun _=>n) (fun _=>n) (fun _ _ _=>n) (fun _=>n) (fun _=>n) (fun _ _ _ _ _=>n) n (fun _ _ _=>n) n (fun c _=>@Array.rec Value (fun _=>β) k c) (fun _ _=>n) (fun _ _=>()) () (fun _ _ _ _=>()) v
def vTup {β:Type}(v:Value)(n:β)(k:List Value->β):β:=@Value.rec (fun _=>β) (fun _=>Unit) (fun _=>Unit) (fun _=>n) (fun _ _=>n) (fun _ _=>n) (fun _ _ _=>n) (fun _=>n) (fun _=>n) (fun _ _ _=>n) (fun _=>n) (fun _=>n) (fun _ _ _ _ _=>n) n (fun _ _ _=>n) n (fun _ _=>n) (fun c _=>@Array.rec Value (fun _=>β) k c) (fun _ _=>()) () (fun _ _ _ _=>()) v
def cellsV (v:Value):List Value:=vAgg v [v] fun l=>l
def lst {α β:Type}(l:List α)(n:β)(k:α->List α->β):β:=@List.rec α (fun _=>β) n (fun a t _=>k a t) l
def nil1 {α β:Type}(l:List α)(n:β)(k:β):β:=@List.rec α (fun _=>β) k (fun _ _ _=>n) l
def l1 {β:Type}(l:List Value)(n:β)(k:Value->β):β:=lst l n fun a t=>nil1 t n (k a)
def l2 {β:Type}(l:List Value)(n:β)(k:Value->Value->β):β:=lst l n fun a t=>lst t n fun b t=>nil1 t n (k a b)
abbrev Fr:=F2 Value
inductive VO where
 |row (cs:List Value) (e:TypeId) (m:Nat)
 |map (es:List (Value × Value × Nat)) (clock:Nat)
 |iter (m:Option Nat) (since:Nat) (seen:List Nat) (stepped:Nat)
 |loop (st:Nat) (fn:FuncId) (tmps:Fr) (ps:List Tmp) (assign body:Code) (D:Nat) (pend:Option Code)
 |mark (b:Bool)
 |dead
abbrev Hp:=F4 VO
inductive RV where
 |no
 |ok (v:Value) (h:Hp) (n:Nat)
inductive Ex where
 |normal
 |ret
 |exit (id:Nat)
inductive RC where
 |no
 |go (e:Ex) (fr:Fr) (ds:List Nat) (h:Hp) (n:Nat)
inductive Sl where
 |at (i:Nat) (g1:N (F1 Value)->F1 Value) (g2:N (Option Value)->Option Value) (s1:Mod (F1 Value) RC) (s2:Mod (Option Value) RC)
 |bad
def slot (i:Nat):Sl:=match nth (getT (F1 Value)) (i / 16),nth (getT (Option Value)) (i % 16),nth (modT (F1 Value) RC) (i / 16),nth (modT (Option Value) RC) (i % 16)with
 |some g1,some g2,some s1,some s2=>.at i g1 g2 s1 s2
 |_,_,_,_=>.bad
def Fr.get (fr:Fr)(s:Sl):Option Value:=@Sl.rec (fun _=>Option Value) (fun _ g1 g2 _ _=>g2 (g1 fr)) none s
def Fr.set (fr:Fr)(s:Sl)(v:Value)(k:Fr->RC):RC:=@Sl.rec (fun _=>RC) (fun _ _ _ s1 s2=>s1 fr (fun n k=>s2 n (fun _ k=>k (some v)) k) k) .no s
inductive Pl where
 |at (i:Nat) (g1:N (F3 VO)->F3 VO) (g2:N (F2 VO)->F2 VO) (g3:N (F1 VO)->F1 VO) (g4:N (Option VO)->Option VO) (s1:Mod (F3 VO) RV) (s2:Mod (F2 VO) RV) (s3:Mod (F1 VO) RV) (s4:Mod (Option VO) RV)
 |bad
def digit {α:Type}(l:List α)(i k:Nat):Option α:=nth l (Nat.land (Nat.shiftRight i k) 15)
def place (i:Nat):Pl:=match nth (getT (F3 VO)) (i / 4096),digit (getT (F2 VO)) i 8,digit (getT (F1 VO)) i 4,digit (getT (Option VO)) i 0,nth (modT (F3 VO) RV) (i / 4096),digit (modT (F2 VO) RV) i 8,digit (modT (F1 VO) RV) i 4,digit (modT (Option VO) RV) i 0 with
 |some g1,some g2,some g3,some g4,some s1,some s2,some s3,some s4=>.at i g1 g2 g3 g4 s1 s2 s3 s4
 |_,_,_,_,_,_,_,_=>.bad
def Hp.get (h:Hp)(i:Nat):Option VO:=@Pl.rec (fun _=>Option VO) (fun _ g1 g2 g3 g4 _ _ _ _=>g4 (g3 (g2 (g1 h)))) none (place i)
def upd (h:Hp)(i:Nat)(o:VO)(k:Hp->RV):RV:=@Pl.rec (fun _=>RV) (fun _ _ _ _ _ s1 s2 s3 s4=>s1 h (fun n k=>s2 n (fun n k=>s3 n (fun n k=>s4 n (fun _ k=>k (some o)) k) k) k) k) .no (place i)
def new (h:Hp)(n:Nat)(o:VO)(k:Nat->Hp->Nat->RV):RV:=upd h n o fun h=>fN (Nat.succ n) fun m=>k n h m
def fr0:Fr:=full (full none)
def hp0:Hp:=full (full (full (full none)))
def oRow {β:Type}(o:Option VO)(n:β)(k:List Value->TypeId->Nat->β):β:=@Option.rec VO (fun _=>β) n (fun o=>@VO.rec (fun _=>β) k (fun _ _=>n) (fun _ _ _ _=>n) (fun _ _ _ _ _ _ _ _=>n) (fun _=>n) n o) o
def big:Nat:=18446744073709551616
def aggB (P:Program)(t:TypeId):Bool:=match P.underlying t with
 |some (.struct _)=>true
 |some (.array _ _)=>true
 |_=>false
def sizeB (P:Program)(t:TypeId):Nat:=match P.info? t with|some i=>i.size|none=>0
def bytesB (P:Program)(t:TypeId):Nat:=match P.info? t with|some i=>i.bytes|none=>0
def tyOk (P:Program)(t:TypeId):Bool:=match P.underlying t with|some _=>true|none=>false
def fieldB (P:Program)(t:TypeId)(f:Nat):Option (TypeId × Nat):=match P.underlying t with
 |some (.struct fs)=>(match fs.toList[f]? with|some fd=>(@Bool.rec (fun _=>_) (none) (some (fd.type,fd.offset)) (tyOk P fd.type))|none=>none)
 |_=>none
def slB (P:Program)(t:TypeId):Option TypeId:=match P.underlying t with|some (.slice e)=>(@Bool.rec (fun _=>_) (none) (some e) (tyOk P e))|_=>none
def arB (P:Program)(t:TypeId):Option (Nat × TypeId):=match P.underlying t with|some (.array n e)=>(@Bool.rec (fun _=>_) (none) (some (n,e)) (tyOk P e))|_=>none
def ikN (k:IntKind):Nat:=(@IntKind.rec (fun _=>Nat) 0 1 2 3 4 5 6 7 k)
def ikMax (k:IntKind):Nat:=(@IntKind.rec (fun _=>Nat) 127 32767 2147483647 9223372036854775807 255 65535 4294967295 18446744073709551615 k)
def ikEq (k k':IntKind):Bool:=Nat.beq (ikN k) (ikN k')
def i2 {β:Type}(a b:Int)(n:β)(k:Nat->Nat->β):β:=@Int.rec (fun _=>β) (fun x=>@Int.rec (fun _=>β) (fun y=>k x y) (fun _=>n) b) (fun _=>n) a
def eqI (a b:Int):Bool:=@Int.rec (fun _=>Bool) (fun m=>@Int.rec (fun _=>Bool) (fun n=>Nat.beq m n) (fun _=>false) b) (fun m=>@Int.rec (fun _=>Bool) (fun _=>false) (fun n=>Nat.beq m n) b) a
def leI (a b:Int):Bool:=@Int.rec (fun _=>Bool) (fun m=>@Int.rec (fun _=>Bool) (fun n=>Nat.ble m n) (fun _=>false) b) (fun m=>@Int.rec (fun _=>Bool) (fun _=>true) (fun n=>Nat.ble n m) b) a
def natI (k:IntKind)(n:Nat):Option Value:=fN n fun n=>some (.int k (.ofNat n))
def intI (k:IntKind)(z:Int):Option Value:=match z with|.ofNat n=>natI k n|.negSucc n=>fN n fun n=>some (.int k (.negSucc n))
def tt:Option Value:=some (.bool true)
def ff:Option Value:=some (.bool false)
def flat (v:Value):Bool:=match v with
 |.bool _|.int ..|.string _|.pointer none|.map none|.nilFunc|.nilIface=>true
 |.slice none _ c=>blt c big
 |.func (.func _) a b=>a.isEmpty && b.isEmpty
 |_=>false
def flats (l:List Value):Bool:=allL flat l
def constB (v:Value):Bool:=match v with
 |.agg cs=>flats cs.toList
 |.tuple cs=>flats cs.toList
 |v=>flat v
def zeroV (P:Program)(t:TypeId):Option Value:=match P.info? t with|some i=>(match i.zero with|some v=>(@Bool.rec (fun _=>_) (none) (some v) (constB v))|none=>none)|none=>none
inductive Ar where
 |sl (p:Sl)
 |va (v:Value)
 |bad
def argOf (P:Program)(x:Operand):Ar:=match x with
 |.tmp i=>.sl (slot i)
 |.const v=>(@Bool.rec (fun _=>_) (.bad) (.va v) (constB v))
 |.global g=>(@Bool.rec (fun _=>_) (.bad) (.va (.pointer (some ⟨g,0,none⟩))) (blt g P.globals.size))
 |.func f=>.va (.func (.func f) #[] #[])
def opK {β:Type}(fr:Fr)(x:Ar)(n:β)(k:Value->β):β:=@Ar.rec (fun _=>β) (fun p=>@Option.rec Value (fun _=>β) n k (Fr.get fr p)) k n x
def valsK {β:Type}(fr:Fr)(n:β)(l:List Ar):(List Value->β)->β:=@List.rec Ar (fun _=>(List Value->β)->β) (fun k=>k []) (fun x _ ih k=>opK fr x n fun v=>ih fun t=>k (v::t)) l
def runP {α:Type}(P:Program):Sem α->Option α
 |.pure a=>some a
 |.program k=>runP P (k P)
 |_=>none
def slowI (P:Program)(op:BinOp)(k:IntKind)(a:Int)(k':IntKind)(b:Int):Option Value:=
 match runP P (binOp op 0 (.int k a) (.int k' b))with
 |some (.int k z)=>intI k z
 |some (.bool b)=>(@Bool.rec (fun _=>_) (ff) (tt) (b))
 |_=>none
abbrev IOp:=IntKind->Int->IntKind->Int->Option Value
def bothK (f:IntKind->Int->Int->Option Value):IOp:=fun k a k' b=>(@Bool.rec (fun _=>_) (none) (f k a b) (ikEq k k'))
def addI (P:Program)(k:IntKind)(a b:Int):Option Value:=i2 a b (slowI P .add k a k b) fun m n=>(@Bool.rec (fun _=>_) (slowI P .add k a k b) (natI k (Nat.add m n)) (Nat.ble (Nat.add m n) (ikMax k)))
def subI (P:Program)(k:IntKind)(a b:Int):Option Value:=i2 a b (slowI P .sub k a k b) fun m n=>(@Bool.rec (fun _=>_) (slowI P .sub k a k b) ((@Bool.rec (fun _=>_) (slowI P .sub k a k b) (natI k (Nat.sub m n)) (Nat.ble m (ikMax k)))) (Nat.ble n m))
def mulI (P:Program)(k:IntKind)(a b:Int):Option Value:=i2 a b (slowI P .mul k a k b) fun m n=>(@Bool.rec (fun _=>_) (slowI P .mul k a k b) (natI k (Nat.mul m n)) (Nat.ble (Nat.mul m n) (ikMax k)))
def quoI (P:Program)(k:IntKind)(a b:Int):Option Value:=i2 a b (slowI P .quo k a k b) fun m n=>(@Bool.rec (fun _=>_) (none) ((@Bool.rec (fun _=>_) (slowI P .quo k a k b) (natI k (Nat.div m n)) (Nat.ble m (ikMax k)))) (blt 0 n))
def remI (P:Program)(k:IntKind)(a b:Int):Option Value:=i2 a b (slowI P .rem k a k b) fun m n=>(@Bool.rec (fun _=>_) (none) (natI k (Nat.mod m n)) (blt 0 n))
def bitI (P:Program)(op:BinOp)(f:Nat->Nat->Nat)(k:IntKind)(a b:Int):Option Value:=i2 a b (slowI P op k a k b) fun m n=>(@Bool.rec (fun _=>_) (slowI P op k a k b) ((@Bool.rec (fun _=>_) (slowI P op k a k b) (natI k (f m n)) (Nat.ble n (ikMax k)))) (Nat.ble m (ikMax k)))
def shlI (P:Program):IOp:=fun k a k' b=>i2 a b (slowI P .shl k a k' b) fun m n=>(@Bool.rec (fun _=>_) (slowI P .shl k a k' b) ((@Bool.rec (fun _=>_) (slowI P .shl k a k' b) (natI k (Nat.shiftLeft m n)) (Nat.ble (Nat.shiftLeft m n) (ikMax k)))) (blt n 64))
def shrI (P:Program):IOp:=fun k a k' b=>i2 a b (slowI P .shr k a k' b) fun m n=>(@Bool.rec (fun _=>_) (slowI P .shr k a k' b) (natI k (Nat.shiftRight m n)) (Nat.ble m (ikMax k)))
def lssI (_:IntKind)(a b:Int):Option Value:=(@Bool.rec (fun _=>_) (tt) (ff) (leI b a))
def leqI (_:IntKind)(a b:Int):Option Value:=(@Bool.rec (fun _=>_) (ff) (tt) (leI a b))
def gtrI (_:IntKind)(a b:Int):Option Value:=(@Bool.rec (fun _=>_) (tt) (ff) (leI a b))
def geqI (_:IntKind)(a b:Int):Option Value:=(@Bool.rec (fun _=>_) (ff) (tt) (leI b a))
def eqlI (_:IntKind)(a b:Int):Option Value:=(@Bool.rec (fun _=>_) (ff) (tt) (eqI a b))
def neqI (_:IntKind)(a b:Int):Option Value:=(@Bool.rec (fun _=>_) (tt) (ff) (eqI a b))
def intOp (P:Program)(op:BinOp):IOp:=match op with
 |.shl=>shlI P
 |.shr=>shrI P
 |.add=>bothK (addI P)
 |.sub=>bothK (subI P)
 |.mul=>bothK (mulI P)
 |.quo=>bothK (quoI P)
 |.rem=>bothK (remI P)
 |.and=>bothK (bitI P .and Nat.land)
 |.or=>bothK (bitI P .or Nat.lor)
 |.xor=>bothK (bitI P .xor Nat.xor)
 |.lss=>bothK lssI
 |.leq=>bothK leqI
 |.gtr=>bothK gtrI
 |.geq=>bothK geqI
 |op=>fun k a k' b=>(@Bool.rec (fun _=>_) (none) (slowI P op k a k' b) (ikEq k k'))
def nilv (v:Value):Bool:=match v with
 |.pointer none|.slice none _ _|.map none|.nilFunc|.nilIface=>true
 |_=>false
def nonnil (v:Value):Bool:=match v with
 |.pointer (some _)|.slice (some _) _ _|.map (some _)|.func ..|.iface ..=>true
 |_=>false
def isC (x:Operand):Bool:=match x with
 |.const _=>true
 |_=>false
end
end Go.Ev
namespace Go.Ev
noncomputable section
set_option linter.unusedVariables false
open Go
inductive Ins where
 |pure (h:List Value->Option Value)
 |alloc (h:List Value->Option (VO × (Nat->Value)))
 |read (h:List Value->Hp->Option Value)
 |eff (h:List Value->Hp->Nat->RV)
 |call
 |bad
def hMove (l:List Value):Option Value:=l1 l none some
def hPick (l:List Value):Option Value:=lst l none fun c l=>vBool c none fun b=>l2 l none fun x y=>(@Bool.rec (fun _=>_) (some y) (some x) (b))
def hField (off:Nat)(l:List Value):Option Value:=l1 l none fun v=>vPtr v none fun b o=>fN (Nat.add o off) fun o=>some (.pointer (some ⟨b,o,none⟩))
def cField (P:Program)(s:TypeId)(f:Nat):Ins:=match fieldB P s f with
 |some (t,off)=>(@Bool.rec (fun _=>_) (.pure (hField off)) (.bad) (Nat.beq (sizeB P t) 0))
 |none=>.bad
def hNil (l:List Value):Option Value:=l1 l none fun v=>match v with
 |.pointer (some a)=>some (.pointer (some a))
 |.func fn a b=>(match fn with|.method _=>none|f=>some (.func f a b))
 |.iface t v=>some (.iface t v)
 |_=>none
def hInt (f:IOp)(l:List Value):Option Value:=l2 l none fun x y=>vInt x none fun k a=>vInt y none fun k' b=>f k a k' b
def hAdd (f:IOp)(l:List Value):Option Value:=l2 l none fun x y=>vInt x (vStr x none fun s=>vStr y none fun t=>(@Bool.rec (fun _=>_) (none) (some (.string ⟨⟨app s.data.toList t.data.toList⟩⟩)) (Nat.ble (Nat.add (lenL s.data.toList) (lenL t.data.toList)) 9223372036854775807))) fun k a=>vInt y none fun k' b=>f k a k' b
def cBin (P:Program)(op:BinOp):Ins:=match op with
 |.add=>.pure (hAdd (intOp P .add))
 |op=>.pure (hInt (intOp P op))
def hNot (l:List Value):Option Value:=l1 l none fun v=>vBool v none fun b=>(@Bool.rec (fun _=>_) (tt) (ff) (b))
def hUn (P:Program)(op:UnOp)(l:List Value):Option Value:=l1 l none fun v=>vInt v none fun k a=>(match runP P (Op.unary op (.int k a))with
  |some (.int k z)=>intI k z
  |_=>none)
def cUn (P:Program)(op:UnOp):Ins:=match op with
 |.not=>.pure hNot
 |op=>.pure (hUn P op)
def hExtract (i:Nat)(l:List Value):Option Value:=l1 l none fun v=>vTup v none fun vs=>nth vs i
def hIxA (n sz:Nat)(l:List Value):Option Value:=l2 l none fun x i=>vPtr x none fun b o=>vInt i none fun _ z=>i2 z z none fun z _=>(@Bool.rec (fun _=>_) (none) (fN (Nat.add o (Nat.mul z sz)) fun o=>some (.pointer (some ⟨b,o,none⟩))) (blt z n))
def hIxS (sz:Nat)(l:List Value):Option Value:=l2 l none fun x i=>vSl x none fun p n _=>vInt i none fun _ z=>i2 z z none fun z _=>(@Bool.rec (fun _=>_) (none) ((@Option.rec _ (fun _=>_) (none) (fun a=>fN (Nat.add a.off (Nat.mul z sz)) fun o=>some (.pointer (some ⟨a.block,o,none⟩))) (p))) (blt z n))
def cIndexAddr (P:Program)(t:TypeId):Ins:=match arB P t with
 |some (n,e)=>.pure (hIxA n (sizeB P e))
 |none=>(match slB P t with
  |some e=>.pure (hIxS (sizeB P e))
  |none=>.bad)
def partB (agg:Bool)(sz:Nat)(cs:List Value)(off:Nat):Option Value:=(@Bool.rec (fun _=>_) (nth cs off) ((@Option.rec _ (fun _=>_) (none) (fun l=>some (.agg ⟨l⟩)) (tke (drp cs off) sz))) (agg))
def hIxV (n sz:Nat)(agg:Bool)(l:List Value):Option Value:=l2 l none fun x i=>vAgg x none fun cs=>vInt i none fun _ z=>i2 z z none fun z _=>(@Bool.rec (fun _=>_) (none) (partB agg sz cs (Nat.mul z sz)) (blt z n))
def hIxT (l:List Value):Option Value:=l2 l none fun x i=>vStr x none fun s=>vInt i none fun _ z=>i2 z z none fun z _=>(@Option.rec _ (fun _=>_) (none) (fun b=>natI .u8 b.toNat) (nth s.data.toList z))
def cIndex (P:Program)(t:TypeId):Ins:=match arB P t with
 |some (n,e)=>.pure (hIxV n (sizeB P e) (aggB P e))
 |none=>(match P.underlying t with
  |some .string=>.pure hIxT
  |_=>.bad)
def hFld (agg:Bool)(sz off:Nat)(l:List Value):Option Value:=l1 l none fun v=>vAgg v none fun cs=>partB agg sz cs off
def cFld (P:Program)(t:TypeId)(f:Nat):Ins:=match fieldB P t f with
 |some (u,off)=>.pure (hFld (aggB P u) (sizeB P u) off)
 |none=>.bad
def slice3 (l h m:Nat)(p:Option Addr)(size:Nat):Option Value:=fN (Nat.sub h l) fun n=>fN (Nat.sub m l) fun c=>
 (@Bool.rec (fun _=>_) ((@Option.rec _ (fun _=>_) (none) (fun a=>fN (Nat.add a.off (Nat.mul l size)) fun o=>some (.slice (some ⟨a.block,o,none⟩) n c)) (p))) (some (.slice p n c)) (Nat.beq m l))
def ixO (flag:Bool)(d:Nat)(l:List Value)(k:Nat->List Value->Option Value):Option Value:=(@Bool.rec (fun _=>_) (k d l) (lst l none fun v l=>vInt v none fun _ z=>i2 z z none fun n _=>k n l) (flag))
def hSliceS (sz:Nat)(fl fh fm:Bool)(l:List Value):Option Value:=lst l none fun v l=>vSl v none fun p len cap=>
 (@Bool.rec (fun _=>_) ((@Bool.rec (fun _=>_) (ixO fl 0 l fun lo l=>ixO fh len l fun hi l=>nil1 l none ((@Bool.rec (fun _=>_) (none) ((@Bool.rec (fun _=>_) (none) ((@Option.rec _ (fun _=>_) (none) (fun a=>fN (Nat.sub hi lo) fun n=>fN (Nat.add cap lo) fun c=>fN (Nat.add a.off (Nat.mul lo sz)) fun o=>some (.slice (some ⟨a.block,o,none⟩) n c)) (p))) (Nat.ble hi len))) (Nat.ble lo hi)))) (ixO fl 0 l fun lo l=>ixO fh len l fun hi l=>ixO fm 0 l fun m l=>nil1 l none ((@Bool.rec (fun _=>_) (none) ((@Bool.rec (fun _=>_) (none) ((@Bool.rec (fun _=>_) (none) ((@Bool.rec (fun _=>_) (none) ((@Bool.rec (fun _=>_) (none) (slice3 lo hi m p sz) (Nat.ble m len))) (Nat.ble hi m))) (Nat.ble lo hi))) (blt len big))) (blt 0 len)))) (fm))) (ixO fl 0 l fun lo l=>ixO fh len l fun hi l=>ixO fm cap l fun m l=>nil1 l none ((@Bool.rec (fun _=>_) (none) ((@Bool.rec (fun _=>_) (none) ((@Bool.rec (fun _=>_) (none) (slice3 lo hi m p sz) (Nat.ble m cap))) (Nat.ble hi m))) (Nat.ble lo hi)))) (blt cap big))
def hSliceA (n sz:Nat)(fl fh fm:Bool)(l:List Value):Option Value:=lst l none fun v l=>vPtr v none fun b o=>
 ixO fl 0 l fun lo l=>ixO fh n l fun hi l=>ixO fm n l fun m l=>nil1 l none ((@Bool.rec (fun _=>_) (none) ((@Bool.rec (fun _=>_) (none) ((@Bool.rec (fun _=>_) (none) (slice3 lo hi m (some ⟨b,o,none⟩) sz) (Nat.ble m n))) (Nat.ble hi m))) (Nat.ble lo hi)))
def hSliceT (fl fh:Bool)(l:List Value):Option Value:=lst l none fun v l=>vStr v none fun s=>
 ixO fl 0 l fun lo l=>ixO fh (lenL s.data.toList) l fun hi l=>nil1 l none ((@Bool.rec (fun _=>_) (none) ((@Bool.rec (fun _=>_) (none) ((@Option.rec _ (fun _=>_) (none) (fun r=>some (.string ⟨⟨r⟩⟩)) (tke (drp s.data.toList lo) (Nat.sub hi lo)))) (Nat.ble hi (lenL s.data.toList)))) (Nat.ble lo hi)))
def cSlice1 (P:Program)(t:TypeId)(fl fh fm:Bool):Ins:=match slB P t with
 |some e=>.pure (hSliceS (sizeB P e) fl fh fm)
 |none=>(match arB P t with
  |some (n,e)=>(@Bool.rec (fun _=>_) (.bad) (.pure (hSliceA n (sizeB P e) fl fh fm)) (blt n big))
  |none=>(match P.underlying t with
   |some .string=>(@Bool.rec (fun _=>_) (.pure (hSliceT fl fh)) (.bad) (fm))
   |some (.pointer u)=>(match arB P u with|some (n,e)=>(@Bool.rec (fun _=>_) (.bad) (.pure (hSliceA n (sizeB P e) fl fh fm)) (blt n big))|none=>.bad)
   |_=>.bad))
def cSlice (P:Program)(t:TypeId)(fl fh fm:Bool):Ins:=(@Bool.rec (fun _=>_) (cSlice1 P t fl fh fm) ((@Bool.rec (fun _=>_) (.bad) (cSlice1 P t fl fh fm) (fh))) (fm))
def fillL (ps:List (Option (Nat × Nat))):List Value->List Value->Option (List Value):=
 @List.rec (Option (Nat × Nat)) (fun _=>List Value->List Value->Option (List Value)) (fun vs cs=>nil1 vs none (some cs))
  (fun p _ ih vs cs=>lst vs none fun v vs=>(@Option.rec _ (fun _=>_) (none) (fun pl=>(@Bool.rec (fun _=>_) (none) ((@Option.rec _ (fun _=>_) (none) (fun cs=>ih vs cs) (putL (cellsV v) cs pl.1))) (Nat.beq (lenL (cellsV v)) pl.2))) (p))) ps
def hBuild (ps:List (Option (Nat × Nat)))(z:List Value)(l:List Value):Option Value:=(@Option.rec _ (fun _=>_) (none) (fun cs=>some (.agg ⟨cs⟩)) (fillL ps l z))
def placeS (P:Program)(t:TypeId)(i:Nat):Option (Nat × Nat):=match fieldB P t i with|some (u,off)=>some (off,sizeB P u)|none=>none
def placeA (sz:Nat)(i:Nat):Option (Nat × Nat):=some (i*sz,sz)
def cBuild (P:Program)(t:TypeId)(ps:List (Nat × Operand)):Ins:=match zeroV P t with
 |some z=>(match arB P t with
  |some (_,e)=>.pure (hBuild (ps.map fun p=>placeA (sizeB P e) p.1) (cellsV z))
  |none=>(match P.underlying t with
   |some (.struct fs)=>(@Bool.rec (fun _=>_) (.bad) (.pure (hBuild (ps.map fun p=>placeS P t p.1) (cellsV z))) (allL (fun f=>tyOk P f.type) fs.toList))
   |_=>.bad))
 |none=>.bad
def hConvI (k':IntKind)(l:List Value):Option Value:=l1 l none fun v=>vInt v none fun _ z=>i2 z z (intI k' (k'.wrap z)) fun n _=>(@Bool.rec (fun _=>_) (intI k' (k'.wrap z)) (some (.int k' (.ofNat n))) (Nat.ble n (ikMax k')))
def hConvT (l:List Value):Option Value:=l1 l none fun v=>vStr v none fun b=>some (.string b)
def hIface (t:TypeId)(l:List Value):Option Value:=l1 l none fun v=>some (.iface t v)
def cIface (P:Program)(t:TypeId):Ins:=match P.underlying t with
 |some (.interface _)=>.bad
 |none=>.bad
 |some _=>.pure (hIface t)
def hFunc (fn:Fn)(n:Nat)(l:List Value):Option Value:=(@Option.rec _ (fun _=>_) (none) (fun a=>some (.func fn ⟨a⟩ ⟨drp l n⟩)) (tke l n))
def hAssert (t:TypeId)(z:Value)(ok:Bool)(l:List Value):Option Value:=l1 l none fun x=>match x with
 |.iface u v=>(@Bool.rec (fun _=>_) ((@Bool.rec (fun _=>_) (none) (some (.tuple #[z,.bool false])) (ok))) ((@Bool.rec (fun _=>_) (some v) (some (.tuple #[v,.bool true])) (ok))) (Nat.beq u t))
 |.nilIface=>(@Bool.rec (fun _=>_) (none) (some (.tuple #[z,.bool false])) (ok))
 |_=>none
def cAssert (P:Program)(t:TypeId)(ok:Bool):Ins:=match P.underlying t with
 |some (.interface _)=>.bad
 |none=>.bad
 |some _=>(match zeroV P t with|some z=>.pure (hAssert t z ok)|none=>.bad)
def hLenS (l:List Value):Option Value:=l1 l none fun v=>vSl v none fun _ n _=>some (.int .i64 (.ofNat n))
def hLenT (l:List Value):Option Value:=l1 l none fun v=>vStr v none fun s=>natI .i64 (lenL s.data.toList)
def hConst (n:Nat)(l:List Value):Option Value:=l1 l none fun _=>some (.int .i64 (.ofNat n))
def hCapS (l:List Value):Option Value:=l1 l none fun v=>vSl v none fun _ _ c=>(@Bool.rec (fun _=>_) (none) (some (.int .i64 (.ofNat c))) (blt c big))
def min2 (mx:Bool)(a b:Value):Option Value:=vInt a none fun k x=>vInt b none fun k' y=>(@Bool.rec (fun _=>_) (none) ((@Bool.rec (fun _=>_) ((@Bool.rec (fun _=>_) (some (.int k y)) (some (.int k x)) (mx))) ((@Bool.rec (fun _=>_) (some (.int k x)) (some (.int k y)) (mx))) (leI x y))) (ikEq k k'))
def hMin (mx:Bool)(l:List Value):Option Value:=lst l none fun a l=>lst l (some a) fun b l=>(@Option.rec _ (fun _=>_) (none) (fun d=>lst l (some d) fun c l=>nil1 l none (min2 mx d c)) (min2 mx a b))
def pt (id:Nat):Value:=.pointer (some ⟨id,0,none⟩)
def slV (n c id:Nat):Value:=.slice (some ⟨id,0,none⟩) n c
def mpV (id:Nat):Value:=.map (some id)
def hAlloc (z:List Value)(e:TypeId) (_:List Value):Option (VO × (Nat->Value)):=some (.row z e 0,pt)
def hBox (e:TypeId)(l:List Value):Option (VO × (Nat->Value)):=lst l none fun v l=>nil1 l none (some (.row (cellsV v) e 0,pt))
def hBuildSlice (ps:List (Option (Nat × Nat)))(z:List Value)(e:TypeId)(n:Nat)(l:List Value):Option (VO × (Nat->Value)):=(@Option.rec _ (fun _=>_) (none) (fun cs=>some (.row cs e 0,slV n n)) (fillL ps l z))
def cBuildSlice (P:Program)(t:TypeId)(n:Nat)(ps:List (Nat × Operand)):Ins:=match slB P t with
 |some e=>(match zeroV P e with
  |some z=>(@Bool.rec (fun _=>_) (.bad) ((@Bool.rec (fun _=>_) (.bad) ((@Bool.rec (fun _=>_) (.bad) (.alloc (hBuildSlice (ps.map fun p=>placeA (sizeB P e) p.1) (repL (cellsV z) n) e n)) (blt (Nat.mul n (sizeB P e)) 16777216))) (blt 0 (sizeB P e)))) (Nat.beq (lenL (cellsV z)) (sizeB P e)))
  |none=>.bad)
 |none=>.bad
def hMakeSlice (z:List Value)(e:TypeId)(l:List Value):Option (VO × (Nat->Value)):=lst l none fun x l=>lst l none fun y l=>nil1 l none (vInt x none fun _ a=>vInt y none fun _ b=>i2 a b none fun n c=>
 (@Bool.rec (fun _=>_) (none) ((@Bool.rec (fun _=>_) (none) (some (.row (repL z c) e 0,slV n c)) (blt c 100000))) (Nat.ble n c)))
def cMakeSlice (P:Program)(t:TypeId):Ins:=match slB P t with
 |some e=>(match zeroV P e with|some z=>(@Bool.rec (fun _=>_) (.bad) ((@Bool.rec (fun _=>_) (.bad) ((@Bool.rec (fun _=>_) (.bad) ((@Bool.rec (fun _=>_) (.bad) (.alloc (hMakeSlice (cellsV z) e)) (blt (bytesB P e) 1000000))) (blt (sizeB P e) 160))) (blt 0 (sizeB P e)))) (Nat.beq (lenL (cellsV z)) (sizeB P e)))|none=>.bad)
 |none=>.bad
def hMakeMap (_:List Value):Option (VO × (Nat->Value)):=some (.map [] 0,mpV)
def cellsAt (hp:Hp)(p:Option Addr)(n:Nat):Option (List Value):=(@Option.rec _ (fun _=>_) ((@Bool.rec (fun _=>_) (none) (some []) (Nat.beq n 0))) (fun a=>oRow (hp.get a.block) none fun cs _ _=>tke (drp cs a.off) n) (p))
def hLoad1 (l:List Value)(hp:Hp):Option Value:=l1 l none fun v=>vPtr v none fun b o=>oRow (hp.get b) none fun cs _ _=>nth cs o
def hLoadN (sz:Nat)(l:List Value)(hp:Hp):Option Value:=l1 l none fun v=>vPtr v none fun b o=>oRow (hp.get b) none fun cs _ _=>(@Option.rec _ (fun _=>_) (none) (fun l=>some (.agg ⟨l⟩)) (tke (drp cs o) sz))
def cLoad (P:Program)(t:TypeId):Ins:=(@Bool.rec (fun _=>_) (.bad) ((@Bool.rec (fun _=>_) (.read hLoad1) (.read (hLoadN (sizeB P t))) (aggB P t))) (tyOk P t))
def live0 (hp:Hp)(b:Nat):Bool:=oRow (hp.get b) false fun _ _ m=>blt m 2
def eqPtr (hp:Hp)(a b:Addr):Option Bool:=
 (@Bool.rec (fun _=>_) ((@Bool.rec (fun _=>_) (none) ((@Bool.rec (fun _=>_) (none) (some false) (live0 hp b.block))) (live0 hp a.block))) ((@Bool.rec (fun _=>_) (some false) (some true) (Nat.beq a.off b.off))) (Nat.beq a.block b.block))
def eqNil (d:Option TypeDesc)(c:Bool)(a b:Value):Option Bool:=match d,a,b with
 |some (.pointer _),.pointer p,.pointer q=>(match p,q with|none,none=>some true|none,some _=>some false|some _,none=>some false|some _,some _=>none)
 |some (.slice _),.slice p _ _,.slice q _ _=>(match p,q with|none,none=>some true|none,some _=>some false|some _,none=>some false|some _,some _=>none)
 |some (.map _ _),.map p,.map q=>(match p,q with|none,none=>some true|none,some _=>some false|some _,none=>some false|some _,some _=>none)
 |some (.func _ _ _),.nilFunc,.nilFunc=>some true
 |some (.func _ _ _),.nilFunc,.func _ _ _=>some false
 |some (.func _ _ _),.func _ _ _,.nilFunc=>some false
 |some (.interface _),.nilIface,.nilIface=>(@Bool.rec (fun _=>_) (none) (some true) (c))
 |some (.interface _),.nilIface,.iface _ _=>some false
 |some (.interface _),.iface _ _,.nilIface=>some false
 |_,_,_=>none
def negB (op:BinOp)(c:Bool):Bool:=match op with|.neq=>(@Bool.rec (fun _=>_) (true) (false) (c))|_=>c
def eqV (P:Program)(x y:Operand)(t:TypeId)(hp:Hp)(op:BinOp)(a b:Value):Option Bool:=match a,b with
 |.bool a,.bool b=>(match P.underlying t with|some .bool=>some ((@Bool.rec (fun _=>_) ((@Bool.rec (fun _=>_) (true) (false) (b))) (b) (a)))|_=>none)
 |.string a,.string b=>some (eqN a.data.toList b.data.toList)
 |.pointer (some p),.pointer (some q)=>(match P.underlying t with|some (.pointer e)=>(@Bool.rec (fun _=>_) (none) ((@Bool.rec (fun _=>_) (eqPtr hp p q) (none) (Nat.beq (sizeB P e) 0))) (tyOk P e))|_=>none)
 |.agg xs,.agg ys=>(@Bool.rec (fun _=>_) (none) ((match runP P (do eqGuard op t x y (.agg xs) (.agg ys);binOp op t (.agg xs) (.agg ys))with
  |some (.bool b)=>some (negB op b)
  |_=>none)) (flats xs.toList && flats ys.toList))
 |a,b=>eqNil (P.underlying t) (isC x || isC y) a b
def hEql (P:Program)(t:TypeId)(x y:Operand)(l:List Value)(hp:Hp):Option Value:=l2 l none fun a b=>
 vInt a ((@Option.rec _ (fun _=>_) (none) (fun r=>(@Bool.rec (fun _=>_) (ff) (tt) (r))) (eqV P x y t hp .eql a b))) fun k m=>vInt b none fun k' n=>(@Bool.rec (fun _=>_) (none) (eqlI k m n) (ikEq k k'))
def hNeq (P:Program)(t:TypeId)(x y:Operand)(l:List Value)(hp:Hp):Option Value:=l2 l none fun a b=>
 vInt a ((@Option.rec _ (fun _=>_) (none) (fun r=>(@Bool.rec (fun _=>_) (tt) (ff) (r))) (eqV P x y t hp .neq a b))) fun k m=>vInt b none fun k' n=>(@Bool.rec (fun _=>_) (none) (neqI k m n) (ikEq k k'))
def byte1 (v:Value):Option UInt8:=match v with
 |.int .u8 (.ofNat n)=>some (UInt8.ofNat n)
 |_=>none
def strL (l:List Value):Option (List UInt8):=@List.rec Value (fun _=>Option (List UInt8)) (some []) (fun v _ ih=>(@Option.rec _ (fun _=>_) (none) (fun t=>(@Option.rec _ (fun _=>_) (none) (fun b=>some (b::t)) (byte1 v))) (ih))) l
def hStr (l:List Value)(hp:Hp):Option Value:=l1 l none fun v=>vSl v none fun p n _=>(@Option.rec _ (fun _=>_) (none) (fun l=>(@Option.rec _ (fun _=>_) (none) (fun r=>some (.string ⟨⟨r⟩⟩)) (strL l))) (cellsAt hp p n))
def cConv (P:Program)(s d:TypeId):Ins:=match P.underlying s with
 |some (.slice e)=>(match P.underlying e,P.underlying d with
  |some (.int .u8),some .string=>.read hStr
  |_,_=>.bad)
 |none=>.bad
 |some _=>(match P.underlying d with
  |some (.int k')=>.pure (hConvI k')
  |some .string=>.pure hConvT
  |_=>.bad)
def intB (P:Program)(t:TypeId):Bool:=match P.underlying t with|some (.int _)=>true|_=>false
def keyEq (P:Program)(kt:TypeId)(k k':Value):Option Bool:=match k,k' with
 |.int a x,.int b y=>(@Bool.rec (fun _=>_) (none) (some (eqI x y)) (ikEq a b))
 |.agg xs,.agg ys=>(@Bool.rec (fun _=>_) (none) ((@Bool.rec (fun _=>_) (none) (runP P (Op.equal kt (.agg xs) (.agg ys))) (flats ys.toList))) (flats xs.toList))
 |_,_=>none
def keyChk (P:Program)(kt:TypeId)(emp:Bool)(k:Value):Bool:=match k with
 |.int _ _=>intB P kt
 |.agg xs=>(@Bool.rec (fun _=>_) (false) ((match runP P (Instr.checkKey emp 10000 kt (.agg xs))with|some _=>true|none=>false)) (flats xs.toList))
 |_=>false
def findV (eq:Value->Option Bool)(l:List (Value × Value × Nat)):Nat->Option (Option (Nat × Value)):=@List.rec (Value × Value × Nat) (fun _=>Nat->Option (Option (Nat × Value))) (fun _=>some none)
 (fun e _ ih i=>(@Option.rec _ (fun _=>_) (none) (fun b=>(@Bool.rec (fun _=>_) (ih (Nat.succ i)) (some (some (i,e.2.1))) (b))) (eq e.1))) l
def entsOf (hp:Hp)(m:Option Nat):Option (List (Value × Value × Nat)):=match m with
 |none=>some []
 |some b=>(match hp.get b with|some (.map es _)=>some es|_=>none)
def empL {α:Type}(l:List α):Bool:=match l with|[]=>true|_::_=>false
def hLookup (P:Program)(kt:TypeId)(z:Value)(ok:Bool)(l:List Value)(hp:Hp):Option Value:=l2 l none fun x k=>match x with
 |.map m=>(@Option.rec _ (fun _=>_) (none) (fun es=>(@Bool.rec (fun _=>_) (none) ((@Option.rec _ (fun _=>_) (none) (fun r=>(match r with
   |some (_,v)=>(@Bool.rec (fun _=>_) (some v) (some (.tuple #[v,.bool true])) (ok))
   |none=>(@Bool.rec (fun _=>_) (some z) (some (.tuple #[z,.bool false])) (ok)))) (findV (keyEq P kt k) es 0))) (keyChk P kt (empL es) k))) (entsOf hp m))
 |_=>none
def cLookup (P:Program)(t:TypeId)(ok:Bool):Ins:=match P.underlying t with
 |some (.map k e)=>(@Bool.rec (fun _=>_) (.bad) ((match zeroV P e with|some z=>.read (hLookup P k z ok)|none=>.bad)) (tyOk P k))
 |_=>.bad
def hEntry (l:List Value)(hp:Hp):Option Value:=l1 l none fun v=>vPtr v none fun b o=>match hp.get b with
  |some (.iter (some b) _ [s] st)=>(match hp.get b with
   |some (.map [(k,v,n)] c)=>(@Bool.rec (fun _=>_) (none) (some (.tuple #[k,v])) (Nat.beq o 0 && (Nat.beq n s && Nat.beq c st)))
   |_=>none)
  |_=>none
def hLenM (l:List Value)(hp:Hp):Option Value:=l1 l none fun v=>match v with
 |.map m=>(@Option.rec _ (fun _=>_) (none) (fun es=>natI .i64 (lenL es)) (entsOf hp m))
 |_=>none
def oneC (v:Value):Bool:=vAgg v (vTup v true fun _=>false) fun _=>false
def hStore1 (l:List Value)(hp:Hp)(nx:Nat):RV:=lst l .no fun p l=>lst l .no fun v l=>nil1 l .no (vPtr p .no fun b o=>oRow (hp.get b) .no fun cs e m=>(@Bool.rec (fun _=>_) (.no) ((@Bool.rec (fun _=>_) (.no) ((@Option.rec _ (fun _=>RV) .no (fun r=>upd hp b (.row r e m) fun hp=>.ok undef hp nx) (putL [v] cs o))) (oneC v))) (blt m 2)))
def hStoreN (sz:Nat)(l:List Value)(hp:Hp)(nx:Nat):RV:=lst l .no fun p l=>lst l .no fun v l=>nil1 l .no (vPtr p .no fun b o=>oRow (hp.get b) .no fun cs e m=>(@Bool.rec (fun _=>_) (.no) ((@Bool.rec (fun _=>_) (.no) ((@Bool.rec (fun _=>_) (.no) ((@Option.rec _ (fun _=>RV) .no (fun r=>upd hp b (.row r e m) fun hp=>.ok undef hp nx) (putL (cellsV v) cs o))) (allL oneC (cellsV v)))) (Nat.beq (lenL (cellsV v)) sz))) (blt m 2)))
def cStore (P:Program)(t:TypeId):Ins:=(@Bool.rec (fun _=>_) (.bad) ((@Bool.rec (fun _=>_) (.eff (hStoreN (sizeB P t))) ((@Bool.rec (fun _=>_) (.eff hStore1) (.eff (hStoreN (sizeB P t))) (aggB P t))) (Nat.beq (sizeB P t) 1))) (tyOk P t))
def setE (v:Value)(l:List (Value × Value × Nat)):Nat->List (Value × Value × Nat):=@List.rec (Value × Value × Nat) (fun _=>Nat->List (Value × Value × Nat)) (fun _=>[])
 (fun e l ih i=>(@Bool.rec (fun _=>_) (fL (ih (Nat.sub i 1)) fun t=>e::t) ((e.1,v,e.2.2)::l) (Nat.beq i 0))) l
def hUpdate (P:Program)(kt:TypeId)(l:List Value)(hp:Hp)(nx:Nat):RV:=lst l .no fun m l=>lst l .no fun k l=>lst l .no fun v l=>nil1 l .no (match m with
 |.map (some b)=>(match hp.get b with
  |some (.map es c)=>(@Bool.rec (fun _=>_) (.no) ((@Option.rec _ (fun _=>RV) .no (fun r=>(match r with
   |some (i,_)=>vInt k .no fun _ _=>upd hp b (.map (setE v es i) c) fun hp=>.ok undef hp nx
   |none=>fN (Nat.succ c) fun c'=>upd hp b (.map (app es [(k,v,c)]) c') fun hp=>.ok undef hp nx)) (findV (keyEq P kt k) es 0))) (keyChk P kt false k))
  |_=>.no)
 |_=>.no)
def cUpdate (P:Program)(t:TypeId):Ins:=match P.underlying t with
 |some (.map k _)=>(@Bool.rec (fun _=>_) (.bad) (.eff (hUpdate P k)) (tyOk P k))
 |_=>.bad
def hRange (l:List Value)(hp:Hp)(nx:Nat):RV:=lst l .no fun v l=>nil1 l .no (match v with
 |.map m=>(match m with
   |none=>new hp nx (.iter none 0 [] 0) fun id hp nx=>.ok (pt id) hp nx
   |some b=>(match hp.get b with
    |some (.map _ c)=>new hp nx (.iter (some b) c [] c) fun id hp nx=>.ok (pt id) hp nx
    |_=>.no))
 |_=>.no)
def cRange (P:Program)(t:TypeId):Ins:=match P.underlying t with
 |some (.map _ _)=>.eff hRange
 |_=>.bad
def overV:Value:=.tuple #[.bool false]
def hNext (l:List Value)(hp:Hp)(nx:Nat):RV:=lst l .no fun v l=>nil1 l .no (vPtr v .no fun a o=>(@Bool.rec (fun _=>_) (.no) ((match hp.get a with
  |some (.iter none _ _ _)=>.ok overV hp nx
  |some (.iter (some b) since seen st)=>(match hp.get b with
   |some (.map [] _)=>.ok overV hp nx
   |some (.map [(k,v,n)] c)=>(match seen with
    |[]=>(@Bool.rec (fun _=>_) (.no) (upd hp a (.iter (some b) since [n] c) fun hp=>.ok (.tuple #[.bool true,k,v]) hp nx) (blt n since))
    |[s]=>(@Bool.rec (fun _=>_) (.no) (.ok overV hp nx) (Nat.beq s n && blt n st))
    |_=>.no)
   |_=>.no)
  |_=>.no)) (Nat.beq o 0)))
def newsOf (hp:Hp)(sz:Nat)(most:Option Nat)(x:Value):Option (List Value × Nat):=match x with
 |.slice q n _=>fN ((@Option.rec _ (fun _=>_) (n) (fun m=>(@Bool.rec (fun _=>_) (m) (n) (Nat.ble n m))) (most))) fun k=>(@Option.rec _ (fun _=>_) (none) (fun l=>some (l,k)) (cellsAt hp q (Nat.mul k sz)))
 |.string b=>(@Bool.rec (fun _=>_) (none) (fN ((@Option.rec _ (fun _=>_) (lenL b.data.toList) (fun m=>(@Bool.rec (fun _=>_) (m) (lenL b.data.toList) (Nat.ble (lenL b.data.toList) m))) (most))) fun k=>(@Option.rec _ (fun _=>_) (none) (fun l=>some (bytesV l,k)) (tke b.data.toList k))) (Nat.beq sz 1))
 |_=>none
def gone (sz:Nat)(e:TypeId)(hp:Hp)(p:Option Addr)(cap:Nat)(k:Hp->RV):RV:=
 (@Bool.rec (fun _=>_) ((@Option.rec _ (fun _=>RV) .no (fun a=>oRow (hp.get a.block) .no fun _ e' m=>(@Bool.rec (fun _=>_) (.no) ((@Bool.rec (fun _=>_) (.no) ((@Bool.rec (fun _=>_) (.no) (upd hp a.block .dead k) (Nat.beq a.off (Nat.mul (Nat.sub cap big) sz)))) (blt m 2))) (Nat.beq e e'))) (p))) (k hp) (blt cap big))
def growTo (sz:Nat)(e:TypeId)(hp:Hp)(nx:Nat)(p:Option Addr)(cap need:Nat)(old news:List Value):RV:=
 gone sz e hp p cap fun hp=>fL (app old news) fun cs=>new hp nx (.row cs e 1) fun id hp nx=>.ok (.slice (some ⟨id,0,none⟩) need big) hp nx
def hAppend (sz:Nat)(e:TypeId)(l:List Value)(hp:Hp)(nx:Nat):RV:=lst l .no fun s l=>lst l .no fun x l=>nil1 l .no (vSl s .no fun p len cap=>(@Option.rec _ (fun _=>RV) .no (fun r=>fN (Nat.add len r.2) fun need=>
 (@Bool.rec (fun _=>_) (.no) ((@Bool.rec (fun _=>_) (.no) ((@Bool.rec (fun _=>_) ((@Bool.rec (fun _=>_) ((@Option.rec _ (fun _=>RV) .no (fun old=>growTo sz e hp nx p cap need old r.1) (cellsAt hp p (Nat.mul len sz)))) ((@Bool.rec (fun _=>_) (.ok (.slice p len cap) hp nx) (.no) (blt cap big))) (Nat.beq r.2 0))) ((@Option.rec _ (fun _=>RV) ((@Bool.rec (fun _=>_) (.no) (.ok (.slice none need cap) hp nx) (Nat.beq r.2 0))) (fun a=>oRow (hp.get a.block) .no fun cs el m=>(@Bool.rec (fun _=>_) (.no) ((@Option.rec _ (fun _=>RV) .no (fun q=>upd hp a.block (.row q el m) fun hp=>.ok (.slice (some a) need cap) hp nx) (putL r.1 cs (Nat.add a.off (Nat.mul len sz))))) (blt m 2))) (p))) ((@Bool.rec (fun _=>_) (false) (Nat.ble need cap) (blt cap big))))) (allL oneC r.1))) (blt need 1000000))) (newsOf hp sz none x)))
def cAppend (P:Program)(ats:List TypeId):Ins:=match ats with
 |t::u::_=>(match slB P t with
  |some e=>(match zeroV P e with
   |some z=>(@Bool.rec (fun _=>_) (.bad) ((@Bool.rec (fun _=>_) (.bad) ((match P.underlying u with
    |some (.slice _)=>.eff (hAppend (sizeB P e) e)
    |some .string=>.eff (hAppend (sizeB P e) e)
    |_=>.bad)) (blt (bytesB P e) 100000000))) (Nat.beq (lenL (cellsV z)) (sizeB P e)))
   |none=>.bad)
  |none=>.bad)
 |_=>.bad
def hCopy (sz:Nat)(l:List Value)(hp:Hp)(nx:Nat):RV:=lst l .no fun s l=>lst l .no fun x l=>nil1 l .no (vSl s .no fun p len _=>(@Option.rec _ (fun _=>RV) .no (fun r=>(@Bool.rec (fun _=>_) (.no) ((@Option.rec _ (fun _=>RV) ((@Bool.rec (fun _=>_) (.no) (.ok (.int .i64 (.ofNat r.2)) hp nx) (Nat.beq r.2 0))) (fun a=>oRow (hp.get a.block) .no fun cs el m=>(@Bool.rec (fun _=>_) (.no) ((@Option.rec _ (fun _=>RV) .no (fun q=>upd hp a.block (.row q el m) fun hp=>.ok (.int .i64 (.ofNat r.2)) hp nx) (putL r.1 cs a.off))) (blt m 2))) (p))) (allL oneC r.1))) (newsOf hp sz (some len) x)))
def cCopy (P:Program)(ats:List TypeId):Ins:=match ats with
 |t::_=>(match slB P t with|some e=>.eff (hCopy (sizeB P e))|none=>.bad)
 |_=>.bad
def cLen (P:Program)(ats:List TypeId):Ins:=match ats with
 |t::_=>(match P.underlying t with
  |some (.slice _)=>.pure hLenS
  |some .string=>.pure hLenT
  |some (.array n _)=>.pure (hConst n)
  |some (.pointer u)=>(match arB P u with|some (n,_)=>.pure (hConst n)|none=>.bad)
  |some (.map _ _)=>.read hLenM
  |_=>.bad)
 |_=>.bad
def cCap (P:Program)(ats:List TypeId):Ins:=match ats with
 |t::_=>(match P.underlying t with
  |some (.slice _)=>.pure hCapS
  |some (.array n _)=>.pure (hConst n)
  |_=>.bad)
 |_=>.bad
def cBuiltin (P:Program)(b:Builtin)(ats:List TypeId):Ins:=match b with
 |.len=>cLen P ats
 |.cap=>cCap P ats
 |.min=>.pure (hMin false)
 |.max=>.pure (hMin true)
 |.append=>cAppend P ats
 |.copy=>cCopy P ats
 |_=>.bad
def comp (P:Program)(op:Op):Ins:=match op with
 |.move _=>.pure hMove
 |.assign _=>.pure hMove
 |.pick ..=>.pure hPick
 |.fieldAddr s _ f=>cField P s f
 |.nilCheck _=>.pure hNil
 |.binOp op t x y _=>(match op with|.eql=>.read (hEql P t x y)|.neq=>.read (hNeq P t x y)|op=>cBin P op)
 |.unOp op _ _=>cUn P op
 |.extract _ i=>.pure (hExtract i)
 |.build t ps=>cBuild P t ps.toList
 |.indexAddr t _ _=>cIndexAddr P t
 |.index t _ _=>cIndex P t
 |.field t _ f=>cFld P t f
 |.slice t _ lo hi mx=>cSlice P t lo.isSome hi.isSome mx.isSome
 |.convert s d _=>cConv P s d
 |.makeInterface t _=>cIface P t
 |.makeFunc fn a _=>(match fn with|.yield _=>.bad|fn=>.pure (hFunc fn a.size))
 |.typeAssert _ _ t ok=>cAssert P t ok
 |.alloc e=>(match zeroV P e with|some z=>.alloc (hAlloc (cellsV z) e)|none=>.bad)
 |.box e _=>.alloc (hBox e)
 |.buildSlice t n ps=>cBuildSlice P t n ps.toList
 |.makeSlice t _ _=>cMakeSlice P t
 |.makeMap _ r=>(match r with|none=>.alloc hMakeMap|some _=>.bad)
 |.load t _=>cLoad P t
 |.lookup t _ _ ok=>cLookup P t ok
 |.entry _=>.read hEntry
 |.store t _ _=>cStore P t
 |.mapUpdate t _ _ _=>cUpdate P t
 |.insert t _ _ _=>cUpdate P t
 |.range t _=>cRange P t
 |.next _ s=>(@Bool.rec (fun _=>_) (.eff hNext) (.bad) (s))
 |.call ⟨.builtin b,_,ats⟩=>cBuiltin P b ats.toList
 |.call ⟨.value _,_,_⟩=>.call
 |.call ⟨.invoke _ _,_,_⟩=>.call
 |_=>.bad
end
end Go.Ev
namespace Go.Ev
noncomputable section
set_option linter.unusedVariables false
open Go
structure Evl where
 call:FuncId->List Value->Hp->Nat->RV
 code:Code->Bool->Nat->Fr->List Nat->Hp->Nat->RC
def Evl.none:Evl:=⟨fun _ _ _ _=>.no,fun _ _ _ _ _ _ _=>.no⟩
inductive Gd where
 |always
 |at (d:Nat) (p:Sl) (b:Bool)
 |bad
def guardOf (ops:Array Oper)(o:Oper):Gd:=match o.guard with
 |none=>.always
 |some (j,b)=>(match ops.toList[j]? with
  |some o'=>(match o'.dst with|some d=>.at d (slot d) b|none=>.bad)
  |none=>.bad)
def wantV (v:Value)(b:Bool):Bool:=vBool v false fun c=>(@Bool.rec (fun _=>_) ((@Bool.rec (fun _=>_) (true) (false) (c))) (c) (b))
def wanted (g:Gd)(fr:Fr)(k:Bool->RC):RC:=(@Gd.rec (fun _=>_) (k true) (fun _ p b=>(@Option.rec _ (fun _=>RC) .no (fun v=>k (wantV v b)) (Fr.get fr p))) (.no) (g))
def putF (fr:Fr)(d:Option Sl)(v:Value)(k:Fr->RC):RC:=(@Option.rec _ (fun _=>RC) (k fr) (fun p=>Fr.set fr p v k) (d))
def methB (P:Program)(t:TypeId)(name:String):Option FuncId:=match P.info? t with
 |some i=>(match i.methods.toList.find? (fun m=>m.name == name)with
  |some m=>(@Bool.rec (fun _=>_) (none) ((match m.func with
   |some (f,p)=>(match P.underlying t with
    |some (.pointer _)=>(@Bool.rec (fun _=>_) (none) (some f) (p))
    |some _=>(@Bool.rec (fun _=>_) (some f) (none) (p))
    |none=>none)
   |none=>none)) (m.path.isEmpty))
  |none=>none)
 |none=>none
def viaB (P:Program)(t:TypeId)(path:Array FieldStep)(ptr:Bool):Bool:=(@Bool.rec (fun _=>_) (false) ((match P.underlying t with
 |some (.pointer _)=>ptr
 |some _=>(@Bool.rec (fun _=>_) (true) (false) (ptr))
 |none=>false)) (path.isEmpty))
def calleeV (P:Program)(l:List Value)(go:FuncId->List Value->RV)(yield:Nat->List Value->RV):RV:=lst l .no fun f args=>match f with
 |.func fn first cap=>(match fn with
  |.func g=>go g (app first.toList (app args cap.toList))
  |.yield l=>(@Bool.rec (fun _=>_) (.no) (yield l args) (first.toList.isEmpty && cap.toList.isEmpty))
  |.via t path g ptr=>(@Bool.rec (fun _=>_) (.no) (lst (app first.toList args) .no fun x rest=>go g (x::rest)) (viaB P t path ptr))
  |_=>.no)
 |_=>.no
def calleeI (P:Program)(name:String)(l:List Value)(go:FuncId->List Value->RV):RV:=lst l .no fun f args=>match f with
 |.iface t x=>(@Option.rec _ (fun _=>RV) .no (fun g=>go g (x::args)) (methB P t name))
 |_=>.no
inductive Ce where
 |fn (g:FuncId)
 |val
 |inv (name:String)
 |bad
def ceOf (o:Op):Ce:=match o with
 |.call ⟨.value f,_,_⟩=>(match f with
  |.func g=>.fn g
  |_=>.val)
 |.call ⟨.invoke _ name,_,_⟩=>.inv name
 |_=>.bad
def bindF (ps:List Tmp):List Value->Fr->(Fr->RC)->RC:=@List.rec Tmp (fun _=>List Value->Fr->(Fr->RC)->RC) (fun vs fr k=>nil1 vs .no (k fr))
 (fun p _ ih vs fr k=>lst vs .no fun v vs=>Fr.set fr (slot p) v fun fr=>ih vs fr k) ps
def argF (l:List Value):Nat->Fr->(Fr->RC)->RC:=@List.rec Value (fun _=>Nat->Fr->(Fr->RC)->RC) (fun _ fr k=>k fr) (fun v _ ih i fr k=>Fr.set fr (slot i) v fun fr=>ih (Nat.succ i) fr k) l
def round (ih:Evl)(l:Nat)(args:List Value)(h:Hp)(n:Nat):RV:=match h.get l with
 |some (.loop 0 fn tm ps assign body D _)=>
  match (bindF ps args tm fun fr=>ih.code assign true fn fr [] h n)with
  |.go .normal fr [] h n=>(match h.get l with
   |some (.loop 0 fn' tm ps assign' body' D pend)=>upd h l (.loop 1 fn' tm ps assign' body' D pend) fun h=>
    (match ih.code body true fn fr [] h n with
    |.go ex _ [] h n=>(match h.get l with
     |some (.loop 1 fn tm ps assign body D _)=>(match ex with
      |.normal=>upd h l (.loop 0 fn tm ps assign body D none) fun h=>.ok (.bool true) h n
      |.ret=>upd h l (.loop 2 fn tm ps assign body D (some .ret)) fun h=>.ok (.bool false) h n
      |.exit i=>upd h l (.loop 2 fn tm ps assign body D (some (.exit i))) fun h=>.ok (.bool false) h n)
     |_=>.no)
    |_=>.no)
   |_=>.no)
  |_=>.no
 |_=>.no
structure PI where
 i:Nat
 op:Ce
 args:List Ar
 c:Ins
 dst:Option Sl
 g:Gd
 more:Nat
def piOf (P:Program)(ops:Array Oper)(i:Nat)(o:Oper)(more:Nat):PI:=⟨i,ceOf o.op,o.op.operands.toList.map (argOf P),comp P o.op,(match o.dst with|some d=>some (slot d)|none=>none),guardOf ops o,more⟩
def callI (P:Program)(ih:Evl)(op:Ce)(l:List Value)(h:Hp)(n:Nat):RV:=(@Ce.rec (fun _=>RV) (fun g=>lst l .no fun _ args=>ih.call g args h n) (calleeV P l (fun g a=>ih.call g a h n) (fun l a=>round ih l a h n)) (fun name=>calleeI P name l (fun g a=>ih.call g a h n)) (.no) (op))
def pureI (r:Option Value)(h:Hp)(n:Nat):RV:=(@Option.rec _ (fun _=>RV) .no (fun v=>.ok v h n) (r))
def allocI (r:Option (VO × (Nat->Value)))(h:Hp)(n:Nat):RV:=(@Option.rec _ (fun _=>RV) .no (fun r=>new h n r.1 fun id h n=>.ok (r.2 id) h n) (r))
def insB (P:Program)(ih:Evl)(op:Ce)(args:List Ar)(c:Ins)(fr:Fr)(h:Hp)(n:Nat):RV:=valsK fr RV.no args fun l=>(@Ins.rec (fun _=>RV) (fun f=>pureI (f l) h n) (fun f=>allocI (f l) h n) (fun f=>pureI (f l h) h n) (fun f=>f l h n) (callI P ih op l h n) (.no) (c))
def prep (P:Program)(ops:Array Oper):List PI:=ops.toList.map fun o=>piOf P ops 0 o 0
def opsB (P:Program)(ih:Evl)(ds:List Nat)(l:List PI):Fr->Hp->Nat->RC:=@List.rec PI (fun _=>Fr->Hp->Nat->RC) (fun fr h n=>.go .normal fr ds h n)
 (fun p _ rest fr h n=>@PI.rec (fun _=>RC) (fun _ op args c dst g _=>wanted g fr fun b=>(@Bool.rec (fun _=>_) (putF fr dst undef fun fr=>rest fr h n) ((@RV.rec (fun _=>RC) .no (fun v h n=>putF fr dst v fun fr=>rest fr h n) (insB P ih op args c fr h n))) (b))) p) l
def isEff (c:Ins):Bool:=match c with|.eff _|.call|.bad=>true|_=>false
def tmpsOf (ops:Array Oper)(o:Oper):List Nat:=(match guardOf ops o with|.at d _ _=>[d]|_=>[])++o.op.operands.toList.filterMap fun|.tmp u=>some u|_=>none
def ixsOf (n:Nat)(bf:List Nat):List Nat->Nat->List Nat
 |[],done=>(List.range n).filter fun i=>!done.testBit i
 |e::l,done=>((List.range n).filter fun i=>(bf.getD e 0).testBit i && !done.testBit i)++e::ixsOf n bf l (done ||| bf.getD e 0 ||| 2 ^ e)
def effsOf (P:Program)(ops:Array Oper):List Nat:=ops.toList.zipIdx.filterMap fun(o,i)=>if isEff (comp P o.op)then some i else none
def planChk (b done i:Nat)(eff:Bool)(ins:List Nat)(dst:Option Nat)(wr rd:List (Nat × Nat)):Bool:=
 b &&& done == b && !(done.testBit i) && (!eff || b == done) && ins.all (fun u=>wr.all fun w=>w.1 != u || b.testBit w.2) &&
 (match dst with|some d=>!ins.contains d && rd.all (fun r=>r.1 != d || b.testBit r.2) && wr.all (fun w=>w.1 != d)|none=>true)
def wrOf (o:Oper)(i:Nat):List (Nat × Nat):=match o.dst with|some d=>[(d,i)]|none=>[]
def planGo (P:Program)(ops:Array Oper)(bf:List Nat):List Nat->(done:Nat)->(es:List Nat)->(wr rd:List (Nat × Nat))->Option (List PI)
 |[],done,_,_,_=>if done+1 == 2 ^ ops.size then some []else none
 |i::l,done,es,wr,rd=>match ops.toList[i]? with
  |none=>none
  |some o=>if planChk (bf.getD i 0) done i (isEff (comp P o.op)) (tmpsOf ops o) o.dst wr rd then
    match planGo P ops bf l (done ||| 2 ^ i) (if isEff (comp P o.op)then i::es else es) (wrOf o i++wr) ((tmpsOf ops o).map (·,i)++rd)with
    |some r=>some (piOf P ops i o (es.takeWhile fun j=>!(bf.getD i 0).testBit j).length::r)
    |none=>none
   else none
def planOf (P:Program)(ops:Array Oper):Option (List PI):=
 let bf:=(Region.before ops).toList
 planGo P ops bf (ixsOf ops.size bf (effsOf P ops) 0) 0 [] [] []
def veqA (a b:Value):Bool:=match a,b with
 |.int k a,.int k' b=>ikEq k k' && eqI a b
 |.bool a,.bool b=>(@Bool.rec (fun _=>_) ((@Bool.rec (fun _=>_) (true) (false) (b))) (b) (a))
 |.string a,.string b=>eqN a.data.toList b.data.toList
 |.pointer a,.pointer b=>(match a,b with|none,none=>true|some p,some q=>Nat.beq p.block q.block && Nat.beq p.off q.off|_,_=>false)
 |.slice a b c,.slice x y z=>(match a,x with|none,none=>true|some p,some q=>Nat.beq p.block q.block && Nat.beq p.off q.off|_,_=>false) && Nat.beq b y && Nat.beq c z
 |.map a,.map b=>(match a,b with|none,none=>true|some p,some q=>Nat.beq p q|_,_=>false)
 |.nilIface,.nilIface|.nilFunc,.nilFunc=>true
 |_,_=>false
def veqs (l:List Value):List Value->Bool:=@List.rec Value (fun _=>List Value->Bool) (fun m=>nil1 m false true)
 (fun a _ ih m=>lst m false fun b m=>(@Bool.rec (fun _=>_) (false) (ih m) (veqA a b))) l
def veq (a b:Value):Bool:=match a,b with
 |.agg xs,.agg ys=>veqs xs.toList ys.toList
 |.tuple xs,.tuple ys=>veqs xs.toList ys.toList
 |a,b=>veqA a b
def sameAt (f:List Value->Hp->Option Value)(l:List Value)(v:Value)(n:Nat):List Hp->Bool:=@Nat.rec (fun _=>List Hp->Bool) (fun _=>true)
 (fun _ ih hs=>@List.rec Hp (fun _=>Bool) false (fun hp hs _=>(@Option.rec _ (fun _=>_) (false) (fun u=>(@Bool.rec (fun _=>_) (false) (ih hs) (veq v u))) (f l hp))) hs) n
def readD (f:List Value->Hp->Option Value)(more:Nat)(hs:List Hp)(l:List Value)(k:Value->RC):RC:=@List.rec Hp (fun _=>RC) .no (fun hp hs' _=>(@Option.rec _ (fun _=>RC) .no (fun v=>(@Bool.rec (fun _=>_) (.no) (k v) (sameAt f l v more hs'))) (f l hp))) hs
def planB (P:Program)(ih:Evl)(ds:List Nat)(l:List PI):List Hp->Fr->Hp->Nat->RC:=@List.rec PI (fun _=>List Hp->Fr->Hp->Nat->RC) (fun _ fr h n=>.go .normal fr ds h n)
 (fun p _ rest hs fr h n=>@PI.rec (fun _=>RC) (fun _ op args c dst g more=>wanted g fr fun b=>(@Bool.rec (fun _=>_) (putF fr dst undef fun fr=>rest ((@Bool.rec (fun _=>_) (hs) (h::hs) (isEff c))) fr h n) (@Ins.rec (fun _=>RC)
   (fun _=>(@RV.rec (fun _=>RC) .no (fun v h n=>putF fr dst v fun fr=>rest hs fr h n) (insB P ih op args c fr h n)))
   (fun _=>(@RV.rec (fun _=>RC) .no (fun v h n=>putF fr dst v fun fr=>rest hs fr h n) (insB P ih op args c fr h n)))
   (fun f=>valsK fr RC.no args fun l=>readD f more hs l fun v=>putF fr dst v fun fr=>rest hs fr h n)
   (fun _=>(@RV.rec (fun _=>RC) .no (fun v h' n'=>(@Bool.rec (fun _=>_) (.no) (putF fr dst v fun fr=>rest (h'::hs) fr h' n') (Nat.ble n n'))) (insB P ih op args c fr h n)))
   ((@RV.rec (fun _=>RC) .no (fun v h' n'=>(@Bool.rec (fun _=>_) (.no) (putF fr dst v fun fr=>rest (h'::hs) fr h' n') (Nat.ble n n'))) (insB P ih op args c fr h n)))
   .no c) (b))) p) l
def regionB (P:Program)(ih:Evl)(ops:Array Oper)(draw:Bool)(fr:Fr)(ds:List Nat)(h:Hp)(n:Nat):RC:=
 (@Bool.rec (fun _=>_) (opsB P ih ds (prep P ops) fr h n) ((@Option.rec _ (fun _=>RC) .no (fun l=>planB P ih ds l [h] fr h n) (planOf P ops))) (draw))
def condB (c:Ar)(fr:Fr)(a b:RC):RC:=opK fr c RC.no fun v=>vBool v RC.no fun t=>(@Bool.rec (fun _=>_) (b) (a) (t))
def seqB (r:RC)(k:Fr->List Nat->Hp->Nat->RC):RC:=@RC.rec (fun _=>RC) .no (fun e fr ds h n=>@Ex.rec (fun _=>RC) (k fr ds h n) (.go .ret fr ds h n) (fun i=>.go (.exit i) fr ds h n) e) r
def blockB (id:Nat)(r:RC):RC:=@RC.rec (fun _=>RC) .no (fun e fr ds h n=>@Ex.rec (fun _=>RC) (.go .normal fr ds h n) (.go .ret fr ds h n) (fun i=>(@Bool.rec (fun _=>_) (.go (.exit i) fr ds h n) (.go .normal fr ds h n) (Nat.beq i id))) e) r
def bodied (P:Program)(g:FuncId):Bool:=match P.funcs.toList[g]? with|some fn=>fn.body.isSome|none=>false
def behind (fr:Fr)(ds:List Nat)(D l:Nat)(r:RV):RC:=match (match r with
  |.ok _ h n=>(match h.get l with
   |some (.loop st fn tm ps a b D pend)=>(@Bool.rec (fun _=>_) (upd h l (.loop 3 fn tm ps a b D pend) fun h=>.ok .nilIface h n) (RV.no) (Nat.beq st 1))
   |_=>.no)
  |.no=>.no)with
 |.ok _ h n=>(match h.get l with
  |some (.loop _ _ _ _ _ _ _ pend)=>(@Option.rec _ (fun _=>RC) (.go .normal fr (D::ds) h n) (fun c=>(match c with
   |.ret=>.go .ret fr (D::ds) h n
   |.exit i=>.go (.exit i) fr (D::ds) h n
   |_=>.no)) (pend))
  |_=>.no)
 |.no=>.no
def enterR (ih:Evl)(g:FuncId)(first cap:List Value)(ps:Array Tmp)(assign body:Code)(fn:Nat)(fr:Fr)(h:Hp)(n:Nat):RV:=
 new h n (.mark true) fun D h n=>new h n (.loop 0 fn fr ps.toList assign body D none) fun l h n=>ih.call g (app first (.func (.yield l) #[] #[]::cap)) h n
def rangeB (P:Program)(ih:Evl)(f:Ar)(ps:Array Tmp)(assign body:Code)(rd:Bool)(fn:Nat)(fr:Fr)(ds:List Nat)(h:Hp)(n:Nat):RC:=(@Bool.rec (fun _=>_) (opK fr f RC.no fun v=>match v with
 |.func (.func g) first cap=>(@Bool.rec (fun _=>_) (RC.no) (behind fr ds n (Nat.succ n) (enterR ih g first.toList cap.toList ps assign body fn fr h n)) (bodied P g))
 |_=>RC.no) (RC.no) (rd))
def codeB (P:Program)(ih:Evl)(c:Code):Bool->Nat->Fr->List Nat->Hp->Nat->RC:=@Code.rec (fun _=>Bool->Nat->Fr->List Nat->Hp->Nat->RC)
 (fun _ _ fr ds h n=>.go .normal fr ds h n)
 (fun _ ops draw _ _ fr ds h n=>regionB P ih ops draw fr ds h n)
 (fun _ _ ia ib rd fn fr ds h n=>seqB (ia rd fn fr ds h n) (ib rd fn))
 (fun c _ _ ia ib rd fn fr ds h n=>condB (argOf P c) fr (ia rd fn fr ds h n) (ib rd fn fr ds h n))
 (fun id _ ib rd fn fr ds h n=>blockB id (ib rd fn fr ds h n))
 (fun b ib rd fn fr ds h n=>seqB (ib rd fn fr ds h n) (ih.code (.loop b) rd fn))
 (fun f ps assign body _ _ rd fn fr ds h n=>rangeB P ih (argOf P f) ps assign body rd fn fr ds h n)
 (fun id _ _ fr ds h n=>.go (.exit id) fr ds h n)
 (fun _ ib rd fn fr ds h n=>ib rd fn fr ds h n)
 (fun _ _ _ fr ds h n=>.go .normal fr ds h n)
 (fun _ _ _ _ _ _ _=>.no)
 (fun _ _ fr ds h n=>.go .ret fr ds h n)
 (fun _ _ _ _ _ _ _=>.no) c
def marksOff (k:Hp->RV)(ds:List Nat):Hp->RV:=@List.rec Nat (fun _=>Hp->RV) k (fun d _ ih h=>match h.get d with
 |some (.mark true)=>upd h d (.mark false) ih
 |_=>.no) ds
def resL (P:Program)(l:List ResultVar)(fr:Fr)(hp:Hp):Option (List Value):=@List.rec ResultVar (fun _=>Option (List Value)) (some [])
 (fun r _ ih=>@ResultVar.rec (fun _=>Option (List Value)) (fun t=>(@Option.rec _ (fun _=>_) (none) (fun v=>(@Option.rec _ (fun _=>_) (none) (fun t=>some (v::t)) (ih))) (Fr.get fr (slot t))))
  (fun a t=>(@Option.rec _ (fun _=>_) (none) (fun x=>(@Option.rec _ (fun _=>_) (none) (fun v=>(@Option.rec _ (fun _=>_) (none) (fun t=>some (v::t)) (ih))) ((@Bool.rec (fun _=>_) (none) ((@Bool.rec (fun _=>_) (hLoad1 [x] hp) (hLoadN (sizeB P t) [x] hp) (aggB P t))) (tyOk P t))))) (Fr.get fr (slot a)))) r) l
def leaveB (P:Program)(res:List ResultVar)(fr:Fr)(ds:List Nat)(h:Hp)(n:Nat):RV:=marksOff (fun h=>(@Option.rec _ (fun _=>RV) .no (fun l=>.ok (lst l (.tuple ⟨l⟩) fun v t=>nil1 t (.tuple ⟨l⟩) v) h n) (resL P res fr h))) ds h
def leave (P:Program)(res:List ResultVar)(r:RC):RV:=(@RC.rec (fun _=>RV) .no (fun e fr ds h n=>(@Ex.rec (fun _=>RV) (leaveB P res fr ds h n) (leaveB P res fr ds h n) (fun _=>.no) (e))) (r))
def codeOk (n:Nat):Code->Bool
 |.region _ ops _=>ops.toList.all fun o=>match o.dst with|some d=>Nat.blt d n|none=>true
 |.seq a b=>codeOk n a && codeOk n b
 |.cond _ a b=>codeOk n a && codeOk n b
 |.block _ b|.loop b|.scope b=>codeOk n b
 |.rangeFunc _ ps a b=>ps.toList.all (Nat.blt · n) && codeOk n a && codeOk n b
 |_=>true
def callB (P:Program)(J:FuncId->List Value->Hp->Nat->Option RV)(ih:Evl)(f:FuncId)(args:List Value)(h:Hp)(n:Nat):RV:=
 (@Option.rec _ (fun _=>RV) ((match P.funcs.toList[f]? with
  |some fn=>(@Option.rec _ (fun _=>RV) .no (fun c=>(@Bool.rec (fun _=>_) (RV.no) ((@Bool.rec (fun _=>_) (RV.no) (leave P fn.results.toList (argF args 0 fr0 fun fr=>ih.code c false f fr [] h n)) (Nat.ble (lenL args) fn.ntmps))) (codeOk fn.ntmps c))) (fn.body))
  |none=>RV.no)) (fun r=>r) (J f args h n))
def stepB (P:Program)(J:FuncId->List Value->Hp->Nat->Option RV)(ih:Evl):Evl:=⟨fun f a h n=>callB P J ih f a h n,fun c rd fn fr ds h n=>codeB P ih c rd fn fr ds h n⟩
def ev (P:Program)(J:FuncId->List Value->Hp->Nat->Option RV)(n:Nat):Evl:=@Nat.rec (fun _=>Evl) Evl.none (fun _ ih=>stepB P J ih) n
end
end Go.Ev
