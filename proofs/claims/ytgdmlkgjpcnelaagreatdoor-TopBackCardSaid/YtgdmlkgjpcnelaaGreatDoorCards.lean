/-
  DERIVED. GIVEN WITH THE SEED: THE CARDS: each row of YtgdmlkgjpcnelaaGreatDoorRows.lean that lists a variable, with what it lists TIED to the program's text (the seventh form; the later family's looks); each row that meets fmt, with fmt's text TOLD by the authors' own Lean function (tested against real Go, not proved from fmt's source: count such statements apart). THE CARD IS WHAT COUNTS. Prove the row's statement (the work); the ties are given (YtgdmlkgjpcnelaaGreatDoorTie.lean); close each card by the builder's one call (the guide's Derived/Test/ToyasCard.lean, 'card_holds'). Laid BY PROGRAM, IN A SANDBOX (cutbox-door.mjs). By AI agents, Wed Nov 11 2026. No macro, syntax, notation, axiom, sorry.
-/
import Derived.Test.YtgdmlkgjpcnelaaGreatDoorRows
import GoSem.ClaimSeven
namespace Go.Proofs.YtgdmlkgjpcnelaaGreatDoor
namespace Rows

/-- THE TIED CARD OF 'seesawtop.TopSerial'. -/
def topSerialCard : Claim7 := { stood := { row := topSerialRow, standIns := [], harness := (true, "43e396dc698a21e6d0bb556c8f5102e9d89a5d93bd54246667a9ceec132ae7b0"), looks := true }, kinds := [], alts := [], laidByText := true, laidKinds := [.data, .funcs, .funcs], laidTests := true, laidLooks := .later }
def TopSerialCardSaid : Prop := Claim7.holds Tryz.pinned (.plain (OpenSpec.ofChange topSerialSpec)) topSerialCard

/-- THE TIED CARD OF 'seesawtop.TopRecorded'. -/
def topRecordedCard : Claim7 := { stood := { row := topRecordedRow, standIns := [], harness := (true, "43e396dc698a21e6d0bb556c8f5102e9d89a5d93bd54246667a9ceec132ae7b0"), looks := true }, kinds := [], alts := [], laidByText := true, laidKinds := [.data, .funcs, .funcs], laidTests := true, laidLooks := .later }
def TopRecordedCardSaid : Prop := Claim7.holds Tryz.pinned (.plain (OpenSpec.ofChange topRecordedSpec)) topRecordedCard

/-- THE TIED CARD OF 'seesawtop.TopBack'. -/
def topBackCard : Claim7 := { stood := { row := topBackRow, standIns := [], harness := (true, "43e396dc698a21e6d0bb556c8f5102e9d89a5d93bd54246667a9ceec132ae7b0"), looks := true }, kinds := [], alts := [], laidByText := true, laidKinds := [.data, .funcs, .funcs], laidTests := true, laidLooks := .later }
def TopBackCardSaid : Prop := Claim7.holds Tryz.pinned (.plain (OpenSpec.ofChange topBackSpec)) topBackCard

/-- THE SECOND FORM's CARD OF 'seesawtop.TopSerial'. -/
def topSerialUptoCard : Claim7 := { stood := { row := topSerialUptoRow, standIns := [], harness := (true, "43e396dc698a21e6d0bb556c8f5102e9d89a5d93bd54246667a9ceec132ae7b0"), looks := true }, kinds := [], alts := [], laidByText := true, laidKinds := [.data, .funcs, .funcs], laidTests := true, laidLooks := .later }
def TopSerialUptoCardSaid : Prop := Claim7.holds Tryz.pinned (.plain (OpenSpec.upto topSerialSpec)) topSerialUptoCard

/-- THE SECOND FORM's CARD OF 'seesawtop.TopRecorded'. -/
def topRecordedUptoCard : Claim7 := { stood := { row := topRecordedUptoRow, standIns := [], harness := (true, "43e396dc698a21e6d0bb556c8f5102e9d89a5d93bd54246667a9ceec132ae7b0"), looks := true }, kinds := [], alts := [], laidByText := true, laidKinds := [.data, .funcs, .funcs], laidTests := true, laidLooks := .later }
def TopRecordedUptoCardSaid : Prop := Claim7.holds Tryz.pinned (.plain (OpenSpec.upto topRecordedSpec)) topRecordedUptoCard

/-- THE SECOND FORM's CARD OF 'seesawtop.TopBack'. -/
def topBackUptoCard : Claim7 := { stood := { row := topBackUptoRow, standIns := [], harness := (true, "43e396dc698a21e6d0bb556c8f5102e9d89a5d93bd54246667a9ceec132ae7b0"), looks := true }, kinds := [], alts := [], laidByText := true, laidKinds := [.data, .funcs, .funcs], laidTests := true, laidLooks := .later }
def TopBackUptoCardSaid : Prop := Claim7.holds Tryz.pinned (.plain (OpenSpec.upto topBackSpec)) topBackUptoCard
end Rows
end Go.Proofs.YtgdmlkgjpcnelaaGreatDoor
