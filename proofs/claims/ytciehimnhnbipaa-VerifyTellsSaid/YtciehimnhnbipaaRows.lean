/-
  No cell of these rows narrows 'for every input' (looked for: loops, veiled, ifaces, maps, wideKeys, modest, calm, conditions, laid).
  DERIVED. THE GIVEN ROWS OF THIS SEAT. 6 by the template 'for every input the law returns true; each argument reads behind the call as it read before'; 0 by the template 'total and deterministic' (their statements: YtciehimnhnbipaaTotals.lean).
  GIVEN WITH THE SEED: the statements are not yours to turn. If you find one false, say at which input.
  Laid BY PROGRAM, IN A SANDBOX (cutbox-rows.mjs): the forced cells as the released guide's own fill.sh prints them over the translation 247015a51ad82378… (all of the seat's roots in one cut). By AI agents, Wed Nov 11 2026. No macro, syntax, notation, axiom, sorry.
-/
import Derived.Test.YtciehimnhnbipaaChecked
import GoSem.Claim
import GoSem.ClaimJoined
import GoSem.ClaimMapViews
import Derived.JoinedTies
import Derived.KernelRfl
namespace Go.Proofs.Ytciehimnhnbipaa
/- THE CELL 'sum', in the pinned program and in every row, IS THE sha256 OF THE DUMP (.gsa) THAT YtciehimnhnbipaaProg.lean LOADS. Nothing in Lean hashes anything: it is a label: what it is worth is what the hold of that sum in a sandbox is worth. -/
noncomputable def Try.pinned : Pinned := { name := "ytciehimnhnbipaa", sum := "247015a51ad82378f7726d3d02e15b6816c9b77899704b1da633f01b2e425e9c", checked := Try.checked }
namespace Rows
def none {H : Type} : Left H := { results := [], args := [] }

/-- 'seesawlaw27.VerifyNames': WHATEVER THE INPUT: true; the input reads as it did. -/
def verifyNamesSpec : ChangeSpec := { name := "verifyNames", fn := fun _ => fun
  | [] => { results := [.lit (.bool true)], args := [] }
  | _ => none }
def verifyNamesRow : OpenClaim := { program := "ytciehimnhnbipaa", sum := "247015a51ad82378f7726d3d02e15b6816c9b77899704b1da633f01b2e425e9c", func := "seesaw/seesawlaw27.VerifyNames", spec := "verifyNames", unfollowed := true, recurses := true, apart := false }
def VerifyNamesSaid : Prop := verifyNamesRow.holds Try.pinned (OpenSpec.ofChange verifyNamesSpec)

/-- ITS FALSE NEIGHBOUR: 'it returns false'. Refute it at one input. -/
def verifyNamesWrong : ChangeSpec := { name := "verifyNames", fn := fun _ => fun
  | [] => { results := [.lit (.bool false)], args := [] }
  | _ => none }
def VerifyNamesWrongFalsely : Prop := verifyNamesRow.holds Try.pinned (OpenSpec.ofChange verifyNamesWrong)

/-- 'seesawlaw27.VerifyTells': WHATEVER THE INPUT: true; the input reads as it did. -/
def verifyTellsSpec : ChangeSpec := { name := "verifyTells", fn := fun _ => fun
  | [d1, d2, d3] => { results := [.lit (.bool true)], args := [d1, d2, d3] }
  | _ => none }
def verifyTellsRow : OpenClaim := { program := "ytciehimnhnbipaa", sum := "247015a51ad82378f7726d3d02e15b6816c9b77899704b1da633f01b2e425e9c", func := "seesaw/seesawlaw27.VerifyTells", spec := "verifyTells", unfollowed := true, recurses := true, apart := false }
def VerifyTellsSaid : Prop := verifyTellsRow.holds Try.pinned (OpenSpec.ofChange verifyTellsSpec)

/-- ITS FALSE NEIGHBOUR: 'it returns false'. Refute it at one input. -/
def verifyTellsWrong : ChangeSpec := { name := "verifyTells", fn := fun _ => fun
  | [d1, d2, d3] => { results := [.lit (.bool false)], args := [d1, d2, d3] }
  | _ => none }
def VerifyTellsWrongFalsely : Prop := verifyTellsRow.holds Try.pinned (OpenSpec.ofChange verifyTellsWrong)

/-- 'seesawlaw27.VerifyLeast': WHATEVER THE INPUT: true; the input reads as it did. -/
def verifyLeastSpec : ChangeSpec := { name := "verifyLeast", fn := fun _ => fun
  | [d1, d2, d3] => { results := [.lit (.bool true)], args := [d1, d2, d3] }
  | _ => none }
def verifyLeastRow : OpenClaim := { program := "ytciehimnhnbipaa", sum := "247015a51ad82378f7726d3d02e15b6816c9b77899704b1da633f01b2e425e9c", func := "seesaw/seesawlaw27.VerifyLeast", spec := "verifyLeast", unfollowed := true, recurses := true, apart := false }
def VerifyLeastSaid : Prop := verifyLeastRow.holds Try.pinned (OpenSpec.ofChange verifyLeastSpec)

/-- ITS FALSE NEIGHBOUR: 'it returns false'. Refute it at one input. -/
def verifyLeastWrong : ChangeSpec := { name := "verifyLeast", fn := fun _ => fun
  | [d1, d2, d3] => { results := [.lit (.bool false)], args := [d1, d2, d3] }
  | _ => none }
def VerifyLeastWrongFalsely : Prop := verifyLeastRow.holds Try.pinned (OpenSpec.ofChange verifyLeastWrong)

/-- 'seesawlaw27.VerifyJudge': WHATEVER THE INPUT: true; the input reads as it did. -/
def verifyJudgeSpec : ChangeSpec := { name := "verifyJudge", fn := fun _ => fun
  | [d1, d2] => { results := [.lit (.bool true)], args := [d1, d2] }
  | _ => none }
def verifyJudgeRow : OpenClaim := { program := "ytciehimnhnbipaa", sum := "247015a51ad82378f7726d3d02e15b6816c9b77899704b1da633f01b2e425e9c", func := "seesaw/seesawlaw27.VerifyJudge", spec := "verifyJudge", unfollowed := true, recurses := true, apart := false }
def VerifyJudgeSaid : Prop := verifyJudgeRow.holds Try.pinned (OpenSpec.ofChange verifyJudgeSpec)

/-- ITS FALSE NEIGHBOUR: 'it returns false'. Refute it at one input. -/
def verifyJudgeWrong : ChangeSpec := { name := "verifyJudge", fn := fun _ => fun
  | [d1, d2] => { results := [.lit (.bool false)], args := [d1, d2] }
  | _ => none }
def VerifyJudgeWrongFalsely : Prop := verifyJudgeRow.holds Try.pinned (OpenSpec.ofChange verifyJudgeWrong)

/-- 'seesawlaw27.VerifyTurned': WHATEVER THE INPUT: true; the input reads as it did. -/
def verifyTurnedSpec : ChangeSpec := { name := "verifyTurned", fn := fun _ => fun
  | [d1, d2, d3] => { results := [.lit (.bool true)], args := [d1, d2, d3] }
  | _ => none }
def verifyTurnedRow : OpenClaim := { program := "ytciehimnhnbipaa", sum := "247015a51ad82378f7726d3d02e15b6816c9b77899704b1da633f01b2e425e9c", func := "seesaw/seesawlaw27.VerifyTurned", spec := "verifyTurned", unfollowed := true, recurses := true, apart := false }
def VerifyTurnedSaid : Prop := verifyTurnedRow.holds Try.pinned (OpenSpec.ofChange verifyTurnedSpec)

/-- ITS FALSE NEIGHBOUR: 'it returns false'. Refute it at one input. -/
def verifyTurnedWrong : ChangeSpec := { name := "verifyTurned", fn := fun _ => fun
  | [d1, d2, d3] => { results := [.lit (.bool false)], args := [d1, d2, d3] }
  | _ => none }
def VerifyTurnedWrongFalsely : Prop := verifyTurnedRow.holds Try.pinned (OpenSpec.ofChange verifyTurnedWrong)

/-- 'seesawlaw27.VerifyFewer': WHATEVER THE INPUT: true; the input reads as it did. -/
def verifyFewerSpec : ChangeSpec := { name := "verifyFewer", fn := fun _ => fun
  | [d1, d2, d3, d4] => { results := [.lit (.bool true)], args := [d1, d2, d3, d4] }
  | _ => none }
def verifyFewerRow : OpenClaim := { program := "ytciehimnhnbipaa", sum := "247015a51ad82378f7726d3d02e15b6816c9b77899704b1da633f01b2e425e9c", func := "seesaw/seesawlaw27.VerifyFewer", spec := "verifyFewer", unfollowed := true, recurses := true, apart := false }
def VerifyFewerSaid : Prop := verifyFewerRow.holds Try.pinned (OpenSpec.ofChange verifyFewerSpec)

/-- ITS FALSE NEIGHBOUR: 'it returns false'. Refute it at one input. -/
def verifyFewerWrong : ChangeSpec := { name := "verifyFewer", fn := fun _ => fun
  | [d1, d2, d3, d4] => { results := [.lit (.bool false)], args := [d1, d2, d3, d4] }
  | _ => none }
def VerifyFewerWrongFalsely : Prop := verifyFewerRow.holds Try.pinned (OpenSpec.ofChange verifyFewerWrong)

/- THE SECOND FORM. 'bulk': how many values and letters a reading holds, each counted each time it is reached (what is shared counts as often as it is met; a slice's spare places count too). A statement '..UptoSaid' is the law's where the arguments, and the package variables that the reading takes, are together of bulk at most 1048576: NARROWER than '..Said'. Prove '..Said' where nothing that the law and all that it calls make is longer than what came in: it says more and counts as full. Else prove '..UptoSaid'. A law counts once. -/
mutual
def uptoBulk {H : Type} : DataW H → Nat
  | .lit (.string bytes) => bytes.length + 1
  | .lit _ => 1
  | .nil => 1
  | .ptr d => uptoBulk d + 1
  | .slice elems spare => uptoBulkAll elems + uptoBulkAll spare + 1
  | .agg parts => uptoBulkAll parts + 1
  | .iface _ d => uptoBulk d + 1
  | .map entries => uptoBulkEntries entries + 1
  | .held _ => 1
def uptoBulkAll {H : Type} : List (DataW H) → Nat
  | [] => 0
  | d :: r => uptoBulk d + uptoBulkAll r
def uptoBulkEntries {H : Type} : List (Lit × DataW H) → Nat
  | [] => 0
  | x :: r => uptoBulkEntry x + uptoBulkEntries r
def uptoBulkEntry {H : Type} : Lit × DataW H → Nat
  | (.string bytes, d) => bytes.length + uptoBulk d + 1
  | (_, d) => uptoBulk d + 1
 end
def uptoSmall : (H : Type) → List (DataW H) → Bool := fun _ ds => decide (uptoBulkAll ds ≤ 1048576)
def OpenSpec.upto (s : _root_.Go.ChangeSpec) : _root_.Go.OpenSpec := { _root_.Go.OpenSpec.ofChange s with cond := some uptoSmall }

/-- 'seesawlaw27.VerifyNames', WHERE WHAT IT READS IS OF BULK AT MOST 1048576: true; the input reads as it did. -/
def verifyNamesUptoRow : OpenClaim := { program := "ytciehimnhnbipaa", sum := "247015a51ad82378f7726d3d02e15b6816c9b77899704b1da633f01b2e425e9c", func := "seesaw/seesawlaw27.VerifyNames", spec := "verifyNames", unfollowed := true, recurses := true, apart := false, narrowed := true }
def VerifyNamesUptoSaid : Prop := verifyNamesUptoRow.holds Try.pinned (OpenSpec.upto verifyNamesSpec)

/-- 'seesawlaw27.VerifyTells', WHERE WHAT IT READS IS OF BULK AT MOST 1048576: true; the input reads as it did. -/
def verifyTellsUptoRow : OpenClaim := { program := "ytciehimnhnbipaa", sum := "247015a51ad82378f7726d3d02e15b6816c9b77899704b1da633f01b2e425e9c", func := "seesaw/seesawlaw27.VerifyTells", spec := "verifyTells", unfollowed := true, recurses := true, apart := false, narrowed := true }
def VerifyTellsUptoSaid : Prop := verifyTellsUptoRow.holds Try.pinned (OpenSpec.upto verifyTellsSpec)

/-- 'seesawlaw27.VerifyLeast', WHERE WHAT IT READS IS OF BULK AT MOST 1048576: true; the input reads as it did. -/
def verifyLeastUptoRow : OpenClaim := { program := "ytciehimnhnbipaa", sum := "247015a51ad82378f7726d3d02e15b6816c9b77899704b1da633f01b2e425e9c", func := "seesaw/seesawlaw27.VerifyLeast", spec := "verifyLeast", unfollowed := true, recurses := true, apart := false, narrowed := true }
def VerifyLeastUptoSaid : Prop := verifyLeastUptoRow.holds Try.pinned (OpenSpec.upto verifyLeastSpec)

/-- 'seesawlaw27.VerifyJudge', WHERE WHAT IT READS IS OF BULK AT MOST 1048576: true; the input reads as it did. -/
def verifyJudgeUptoRow : OpenClaim := { program := "ytciehimnhnbipaa", sum := "247015a51ad82378f7726d3d02e15b6816c9b77899704b1da633f01b2e425e9c", func := "seesaw/seesawlaw27.VerifyJudge", spec := "verifyJudge", unfollowed := true, recurses := true, apart := false, narrowed := true }
def VerifyJudgeUptoSaid : Prop := verifyJudgeUptoRow.holds Try.pinned (OpenSpec.upto verifyJudgeSpec)

/-- 'seesawlaw27.VerifyTurned', WHERE WHAT IT READS IS OF BULK AT MOST 1048576: true; the input reads as it did. -/
def verifyTurnedUptoRow : OpenClaim := { program := "ytciehimnhnbipaa", sum := "247015a51ad82378f7726d3d02e15b6816c9b77899704b1da633f01b2e425e9c", func := "seesaw/seesawlaw27.VerifyTurned", spec := "verifyTurned", unfollowed := true, recurses := true, apart := false, narrowed := true }
def VerifyTurnedUptoSaid : Prop := verifyTurnedUptoRow.holds Try.pinned (OpenSpec.upto verifyTurnedSpec)

/-- 'seesawlaw27.VerifyFewer', WHERE WHAT IT READS IS OF BULK AT MOST 1048576: true; the input reads as it did. -/
def verifyFewerUptoRow : OpenClaim := { program := "ytciehimnhnbipaa", sum := "247015a51ad82378f7726d3d02e15b6816c9b77899704b1da633f01b2e425e9c", func := "seesaw/seesawlaw27.VerifyFewer", spec := "verifyFewer", unfollowed := true, recurses := true, apart := false, narrowed := true }
def VerifyFewerUptoSaid : Prop := verifyFewerUptoRow.holds Try.pinned (OpenSpec.upto verifyFewerSpec)

end Rows
end Go.Proofs.Ytciehimnhnbipaa
