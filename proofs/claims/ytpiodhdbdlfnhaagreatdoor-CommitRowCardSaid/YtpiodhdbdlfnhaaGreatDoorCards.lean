/-
  DERIVED. GIVEN WITH THE SEED: THE CARDS: each row of YtpiodhdbdlfnhaaGreatDoorRows.lean that lists a variable, with what it lists TIED to the program's text (the seventh form; the later family's looks); each row that meets fmt, with fmt's text TOLD by the authors' own Lean function (tested against real Go, not proved from fmt's source: count such statements apart). THE CARD IS WHAT COUNTS. Prove the row's statement (the work); the ties are given (YtpiodhdbdlfnhaaGreatDoorTie.lean); close each card by the builder's one call (the guide's Derived/Test/ToyasCard.lean, 'card_holds'). Laid BY PROGRAM, IN A SANDBOX (cutbox-door.mjs). By AI agents, Wed Nov 11 2026. No macro, syntax, notation, axiom, sorry.
-/
import Derived.Test.YtpiodhdbdlfnhaaGreatDoorRows
import GoSem.ClaimSeven
namespace Go.Proofs.YtpiodhdbdlfnhaaGreatDoor
namespace Rows

/-- THE TIED CARD OF 'seesawlaw17.CommitRow'. -/
def commitRowCard : Claim7 := { stood := { row := commitRowRow, standIns := [], harness := (true, "2075ec8bdae552215c4e105d16b392742cf905a08327056780e5bd2a0d3c99f5"), looks := false }, kinds := [], alts := [], laidByText := true, laidKinds := [.data, .funcs], laidTests := true, laidLooks := .later }
def CommitRowCardSaid : Prop := Claim7.holds Tryz.pinned (.plain (OpenSpec.ofChange commitRowSpec)) commitRowCard

/-- THE SECOND FORM's CARD OF 'seesawlaw17.CommitRow'. -/
def commitRowUptoCard : Claim7 := { stood := { row := commitRowUptoRow, standIns := [], harness := (true, "2075ec8bdae552215c4e105d16b392742cf905a08327056780e5bd2a0d3c99f5"), looks := false }, kinds := [], alts := [], laidByText := true, laidKinds := [.data, .funcs], laidTests := true, laidLooks := .later }
def CommitRowUptoCardSaid : Prop := Claim7.holds Tryz.pinned (.plain (OpenSpec.upto commitRowSpec)) commitRowUptoCard
end Rows
end Go.Proofs.YtpiodhdbdlfnhaaGreatDoor
