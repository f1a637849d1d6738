/- Maps from whole numbers: what lies there, and what the operations do. Over any program. Maps from whole numbers: the operations, for the engine. Over any program. A range over a map: its steps. Over any program. -/
import Derived.Test.YtpiodhdbdlfnhaaGreatDoorExch
import Derived.Maps.RangeRun
import Derived.MapKept
import Derived.Test.YtpiodhdbdlfnhaaGreatDoorMore
import Derived.Test.YtpiodhdbdlfnhaaGreatDoorMid
namespace Go.Proofs.YtpiodhdbdlfnhaaGreatDoor
open Go.RowKit Go.Lib Go.MapKept
open Go.ChangeMaps (setBlock)
set_option linter.unusedVariables false
section
variable {α : Type}
section
variable {P : Program} {w : World} {T e : TypeId} {b : Nat} {enc : α → Value} {m : List (Int × α)}
end
end
end Go.Proofs.YtpiodhdbdlfnhaaGreatDoor
namespace Go.Proofs.YtpiodhdbdlfnhaaGreatDoor
open Go.RowKit Go.Lib
set_option linter.unusedVariables false
section
variable {S : Nat → Prop} {w₀ : World} {L : List Res}
variable {P : Program} {ops : Array Oper} {n f : Nat} {rest : List Oper} {t : Tm} {w : World} {K : Tm → World → Prop} {KQ : Tm → Prop} {d : Nat} {ty : TypeId} {pos : String} {af : Array Edge} {α : Type} {enc : α → Value} {m : List (Int × α)} {b : Nat} {T e : TypeId}

end
end Go.Proofs.YtpiodhdbdlfnhaaGreatDoor
namespace Go.Proofs.YtpiodhdbdlfnhaaGreatDoor
open Go.RowKit Go.Lib Go.MapKept
open Go.ChangeMaps (setBlock)
set_option linter.unusedVariables false
section
variable {α : Type}
end
/-! The walk's block, and the map's. -/
section
variable {S : Nat → Prop} {w₀ : World} {L : List Res}
variable {P : Program} {ops : Array Oper} {n : Nat} {rest : List Oper} {t : Tm} {w : World} {K : Tm → World → Prop} {d : Nat} {ty : TypeId} {pos : String} {af : Array Edge} {T e : TypeId}
end
end Go.Proofs.YtpiodhdbdlfnhaaGreatDoor
