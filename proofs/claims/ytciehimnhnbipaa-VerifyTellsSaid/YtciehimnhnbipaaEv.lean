/- Events, as values. (CmA and CmH have the same for themselves.) -/
import Derived.Test.YtciehimnhnbipaaGen
import Derived.Test.YtciehimnhnbipaaRetC
namespace Go.Proofs.Ytciehimnhnbipaa
open Go.RowKit Go.Lib
set_option linter.unusedVariables false
structure EvS where
  kind : Int
  thread : Int
  at_ : Int
  v : Int
  x : Int
  why : Int
def encEv (e : EvS) : Value := aggV [.int .u8 e.kind, .int .i64 e.thread, .int .i64 0, .int .i64 e.at_, .int .i64 e.v, .int .i64 e.x, .int .u8 e.why]
def encE (e : EvS) : Nat → Value := fun j => match j with | 0 => .int .u8 e.kind | 1 => .int .i64 e.thread | 2 => .int .i64 0 | 3 => .int .i64 e.at_ | 4 => .int .i64 e.v | 5 => .int .i64 e.x | _ => .int .u8 e.why
abbrev evD : EvS := ⟨0, 0, 0, 0, 0, 0⟩
section
variable {S : Nat → Prop} {w₀ : World} {L : List Res}
variable {P : Program} {ops : Array Oper} {n : Nat} {rest : List Oper} {t : Tm} {w : World} {K : Tm → World → Prop} {KQ : Tm → Prop} {d : Nat} {ty : TypeId} {pos : String} {af : Array Edge} {x y : Operand} {T T' : TypeId} {ks : List IntKind} [hT : TyEqI P T ks] (l1 l2 : List Int)
include hT
/-- Structs of whole numbers, compared. -/
theorem eqlAI_l (hS : Sat S w₀ w L) (hx : ev t x = aggV (List.zipWith (fun k a => Value.int k a) ks l1)) (hy : ev t y = aggV (List.zipWith (fun k a => Value.int k a) ks l2)) (h1 : l1.length = ks.length) (h2 : l2.length = ks.length) (hd : Nat.blt d n = true) (kk : RunL P ops n rest (upd t d (.bool (decide (l1 = l2)))) w K) :
    RunL P ops n (⟨some d, .binOp .eql T x y T', ty, pos, af, none⟩ :: rest) t w K := valL rfl rfl hd (aggI_run (ks := ks) false hx hy h1 h2) kk
theorem neqAI_l (hS : Sat S w₀ w L) (hx : ev t x = aggV (List.zipWith (fun k a => Value.int k a) ks l1)) (hy : ev t y = aggV (List.zipWith (fun k a => Value.int k a) ks l2)) (h1 : l1.length = ks.length) (h2 : l2.length = ks.length) (hd : Nat.blt d n = true) (kk : RunL P ops n rest (upd t d (.bool (decide (l1 ≠ l2)))) w K) :
    RunL P ops n (⟨some d, .binOp .neq T x y T', ty, pos, af, none⟩ :: rest) t w K := valL rfl rfl hd (aggI_run (ks := ks) true hx hy h1 h2) kk
theorem eqlAI_x (hx : ev t x = aggV (List.zipWith (fun k a => Value.int k a) ks l1)) (hy : ev t y = aggV (List.zipWith (fun k a => Value.int k a) ks l2)) (h1 : l1.length = ks.length) (h2 : l2.length = ks.length) (hd : Nat.blt d n = true) (kk : KQ (upd t d (.bool (decide (l1 = l2))))) :
    QX P ops n S w₀ L ⟨some d, .binOp .eql T x y T', ty, pos, af, none⟩ t KQ := valX rfl rfl hd (fun w hS => aggI_run (ks := ks) false hx hy h1 h2) kk
theorem neqAI_x (hx : ev t x = aggV (List.zipWith (fun k a => Value.int k a) ks l1)) (hy : ev t y = aggV (List.zipWith (fun k a => Value.int k a) ks l2)) (h1 : l1.length = ks.length) (h2 : l2.length = ks.length) (hd : Nat.blt d n = true) (kk : KQ (upd t d (.bool (decide (l1 ≠ l2))))) :
    QX P ops n S w₀ L ⟨some d, .binOp .neq T x y T', ty, pos, af, none⟩ t KQ := valX rfl rfl hd (fun w hS => aggI_run (ks := ks) true hx hy h1 h2) kk
end
section
variable {S : Nat → Prop} {w₀ : World} {L : List Res}
variable {P : Program} {ops : Array Oper} {n : Nat} {rest : List Oper} {t : Tm} {w : World} {K : Tm → World → Prop} {KQ : Tm → Prop} {d : Nat} {ty : TypeId} {pos : String} {af : Array Edge} {x y : Operand} {ats : Array TypeId} {k : IntKind} {a b : Int}
theorem minI_run (w : World) (hx : ev t x = .int k a) (hy : ev t y = .int k b) : (execOp (ev t) ⟨some d, .call ⟨.builtin .min, #[x, y], ats⟩, ty, pos, af, none⟩).run P w = .ok (.value (.int k (min a b))) w := by
  rw [BigFrame.execOp_builtin, show Array.map (ev t) #[x, y] = #[.int k a, .int k b] from by simp [hx, hy]]
  show Sem.run P (do pure (Next.value (← Builtin.min_ ats ty #[.int k a, .int k b]))) w = _
  simp only [Builtin.min_, Builtin.min2, List.foldlM_cons, List.foldlM_nil, Sem.run_bind, Sem.run_pure, Result.andThen_ok, bind_pure]
  congr 2
  congr 1
  first | (rw [Int.min_def]; split <;> split <;> omega) | (rw [Int.max_def]; split <;> split <;> omega)
theorem minI_l (hS : Sat S w₀ w L) (hx : ev t x = .int k a) (hy : ev t y = .int k b) (hd : Nat.blt d n = true) (kk : RunL P ops n rest (upd t d (.int k (min a b))) w K) : RunL P ops n (⟨some d, .call ⟨.builtin .min, #[x, y], ats⟩, ty, pos, af, none⟩ :: rest) t w K := valL rfl rfl hd (minI_run w hx hy) kk
theorem minI_x (hx : ev t x = .int k a) (hy : ev t y = .int k b) (hd : Nat.blt d n = true) (kk : KQ (upd t d (.int k (min a b)))) : QX P ops n S w₀ L ⟨some d, .call ⟨.builtin .min, #[x, y], ats⟩, ty, pos, af, none⟩ t KQ := valX rfl rfl hd (fun w _ => minI_run w hx hy) kk
theorem minI_q (hx : ev t x = .int k a) (hy : ev t y = .int k b) (hd : Nat.blt d n = true) (kk : QL P ops n S w₀ L rest (upd t d (.int k (min a b))) KQ) : QL P ops n S w₀ L (⟨some d, .call ⟨.builtin .min, #[x, y], ats⟩, ty, pos, af, none⟩ :: rest) t KQ := valQ rfl rfl hd (fun w _ => minI_run w hx hy) kk
theorem maxI_run (w : World) (hx : ev t x = .int k a) (hy : ev t y = .int k b) : (execOp (ev t) ⟨some d, .call ⟨.builtin .max, #[x, y], ats⟩, ty, pos, af, none⟩).run P w = .ok (.value (.int k (max a b))) w := by
  rw [BigFrame.execOp_builtin, show Array.map (ev t) #[x, y] = #[.int k a, .int k b] from by simp [hx, hy]]
  show Sem.run P (do pure (Next.value (← Builtin.max_ ats ty #[.int k a, .int k b]))) w = _
  simp only [Builtin.max_, Builtin.max2, List.foldlM_cons, List.foldlM_nil, Sem.run_bind, Sem.run_pure, Result.andThen_ok, bind_pure]
  congr 2
  congr 1
  first | (rw [Int.min_def]; split <;> split <;> omega) | (rw [Int.max_def]; split <;> split <;> omega)
theorem maxI_l (hS : Sat S w₀ w L) (hx : ev t x = .int k a) (hy : ev t y = .int k b) (hd : Nat.blt d n = true) (kk : RunL P ops n rest (upd t d (.int k (max a b))) w K) : RunL P ops n (⟨some d, .call ⟨.builtin .max, #[x, y], ats⟩, ty, pos, af, none⟩ :: rest) t w K := valL rfl rfl hd (maxI_run w hx hy) kk
theorem maxI_x (hx : ev t x = .int k a) (hy : ev t y = .int k b) (hd : Nat.blt d n = true) (kk : KQ (upd t d (.int k (max a b)))) : QX P ops n S w₀ L ⟨some d, .call ⟨.builtin .max, #[x, y], ats⟩, ty, pos, af, none⟩ t KQ := valX rfl rfl hd (fun w _ => maxI_run w hx hy) kk
theorem maxI_q (hx : ev t x = .int k a) (hy : ev t y = .int k b) (hd : Nat.blt d n = true) (kk : QL P ops n S w₀ L rest (upd t d (.int k (max a b))) KQ) : QL P ops n S w₀ L (⟨some d, .call ⟨.builtin .max, #[x, y], ats⟩, ty, pos, af, none⟩ :: rest) t KQ := valQ rfl rfl hd (fun w _ => maxI_run w hx hy) kk
end
end Go.Proofs.Ytciehimnhnbipaa
