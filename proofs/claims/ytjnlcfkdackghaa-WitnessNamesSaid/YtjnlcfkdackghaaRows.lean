/-
  No cell of these rows narrows 'for every input' (looked for: loops, veiled, ifaces, maps, wideKeys, modest, calm, conditions, laid).
  DERIVED. THE GIVEN ROWS OF THIS SEAT. 4 by the template 'for every input the law returns true; each argument reads behind the call as it read before'; 0 by the template 'total and deterministic' (their statements: YtjnlcfkdackghaaTotals.lean).
  GIVEN WITH THE SEED: the statements are not yours to turn. If you find one false, say at which input.
  Laid BY PROGRAM, IN A SANDBOX (cutbox-rows.mjs): the forced cells as the released guide's own fill.sh prints them over the translation 00fa712ec3098333… (all of the seat's roots in one cut). By AI agents, Wed Nov 11 2026. No macro, syntax, notation, axiom, sorry.
-/
import Derived.Test.YtjnlcfkdackghaaChecked
import GoSem.Claim
import GoSem.ClaimJoined
import GoSem.ClaimMapViews
import Derived.JoinedTies
import Derived.KernelRfl
namespace Go.Proofs.Ytjnlcfkdackghaa
/- THE CELL 'sum', in the pinned program and in every row, IS THE sha256 OF THE DUMP (.gsa) THAT YtjnlcfkdackghaaProg.lean LOADS. Nothing in Lean hashes anything: it is a label: what it is worth is what the hold of that sum in a sandbox is worth. -/
noncomputable def Try.pinned : Pinned := { name := "ytjnlcfkdackghaa", sum := "00fa712ec309833387d250d047a07127fcf63c4f65c077e594e5ff17036636c8", checked := Try.checked }
namespace Rows
def none {H : Type} : Left H := { results := [], args := [] }

/-- 'seesawlaw26.WitnessNames': WHATEVER THE INPUT: true; the input reads as it did. -/
def witnessNamesSpec : ChangeSpec := { name := "witnessNames", fn := fun _ => fun
  | [] => { results := [.lit (.bool true)], args := [] }
  | _ => none }
def witnessNamesRow : OpenClaim := { program := "ytjnlcfkdackghaa", sum := "00fa712ec309833387d250d047a07127fcf63c4f65c077e594e5ff17036636c8", func := "seesaw/seesawlaw26.WitnessNames", spec := "witnessNames", unfollowed := true, recurses := true, apart := false }
def WitnessNamesSaid : Prop := witnessNamesRow.holds Try.pinned (OpenSpec.ofChange witnessNamesSpec)

/-- ITS FALSE NEIGHBOUR: 'it returns false'. Refute it at one input. -/
def witnessNamesWrong : ChangeSpec := { name := "witnessNames", fn := fun _ => fun
  | [] => { results := [.lit (.bool false)], args := [] }
  | _ => none }
def WitnessNamesWrongFalsely : Prop := witnessNamesRow.holds Try.pinned (OpenSpec.ofChange witnessNamesWrong)

/-- 'seesawlaw26.WitnessRight': WHATEVER THE INPUT: true; the input reads as it did. -/
def witnessRightSpec : ChangeSpec := { name := "witnessRight", fn := fun _ => fun
  | [d1, d2] => { results := [.lit (.bool true)], args := [d1, d2] }
  | _ => none }
def witnessRightRow : OpenClaim := { program := "ytjnlcfkdackghaa", sum := "00fa712ec309833387d250d047a07127fcf63c4f65c077e594e5ff17036636c8", func := "seesaw/seesawlaw26.WitnessRight", spec := "witnessRight", unfollowed := true, recurses := true, apart := false }
def WitnessRightSaid : Prop := witnessRightRow.holds Try.pinned (OpenSpec.ofChange witnessRightSpec)

/-- ITS FALSE NEIGHBOUR: 'it returns false'. Refute it at one input. -/
def witnessRightWrong : ChangeSpec := { name := "witnessRight", fn := fun _ => fun
  | [d1, d2] => { results := [.lit (.bool false)], args := [d1, d2] }
  | _ => none }
def WitnessRightWrongFalsely : Prop := witnessRightRow.holds Try.pinned (OpenSpec.ofChange witnessRightWrong)

/-- 'seesawlaw26.WitnessAll': WHATEVER THE INPUT: true; the input reads as it did. -/
def witnessAllSpec : ChangeSpec := { name := "witnessAll", fn := fun _ => fun
  | [d1, d2] => { results := [.lit (.bool true)], args := [d1, d2] }
  | _ => none }
def witnessAllRow : OpenClaim := { program := "ytjnlcfkdackghaa", sum := "00fa712ec309833387d250d047a07127fcf63c4f65c077e594e5ff17036636c8", func := "seesaw/seesawlaw26.WitnessAll", spec := "witnessAll", unfollowed := true, recurses := true, apart := false }
def WitnessAllSaid : Prop := witnessAllRow.holds Try.pinned (OpenSpec.ofChange witnessAllSpec)

/-- ITS FALSE NEIGHBOUR: 'it returns false'. Refute it at one input. -/
def witnessAllWrong : ChangeSpec := { name := "witnessAll", fn := fun _ => fun
  | [d1, d2] => { results := [.lit (.bool false)], args := [d1, d2] }
  | _ => none }
def WitnessAllWrongFalsely : Prop := witnessAllRow.holds Try.pinned (OpenSpec.ofChange witnessAllWrong)

/-- 'seesawlaw26.WitnessFewer': WHATEVER THE INPUT: true; the input reads as it did. -/
def witnessFewerSpec : ChangeSpec := { name := "witnessFewer", fn := fun _ => fun
  | [d1, d2, d3, d4] => { results := [.lit (.bool true)], args := [d1, d2, d3, d4] }
  | _ => none }
def witnessFewerRow : OpenClaim := { program := "ytjnlcfkdackghaa", sum := "00fa712ec309833387d250d047a07127fcf63c4f65c077e594e5ff17036636c8", func := "seesaw/seesawlaw26.WitnessFewer", spec := "witnessFewer", unfollowed := true, recurses := true, apart := false }
def WitnessFewerSaid : Prop := witnessFewerRow.holds Try.pinned (OpenSpec.ofChange witnessFewerSpec)

/-- ITS FALSE NEIGHBOUR: 'it returns false'. Refute it at one input. -/
def witnessFewerWrong : ChangeSpec := { name := "witnessFewer", fn := fun _ => fun
  | [d1, d2, d3, d4] => { results := [.lit (.bool false)], args := [d1, d2, d3, d4] }
  | _ => none }
def WitnessFewerWrongFalsely : Prop := witnessFewerRow.holds Try.pinned (OpenSpec.ofChange witnessFewerWrong)

/- THE SECOND FORM. 'bulk': how many values and letters a reading holds, each counted each time it is reached (what is shared counts as often as it is met; a slice's spare places count too). A statement '..UptoSaid' is the law's where the arguments, and the package variables that the reading takes, are together of bulk at most 1048576: NARROWER than '..Said'. Prove '..Said' where nothing that the law and all that it calls make is longer than what came in: it says more and counts as full. Else prove '..UptoSaid'. A law counts once. -/
mutual
def uptoBulk {H : Type} : DataW H → Nat
  | .lit (.string bytes) => bytes.length + 1
  | .lit _ => 1
  | .nil => 1
  | .ptr d => uptoBulk d + 1
  | .slice elems spare => uptoBulkAll elems + uptoBulkAll spare + 1
  | .agg parts => uptoBulkAll parts + 1
  | .iface _ d => uptoBulk d + 1
  | .map entries => uptoBulkEntries entries + 1
  | .held _ => 1
def uptoBulkAll {H : Type} : List (DataW H) → Nat
  | [] => 0
  | d :: r => uptoBulk d + uptoBulkAll r
def uptoBulkEntries {H : Type} : List (Lit × DataW H) → Nat
  | [] => 0
  | x :: r => uptoBulkEntry x + uptoBulkEntries r
def uptoBulkEntry {H : Type} : Lit × DataW H → Nat
  | (.string bytes, d) => bytes.length + uptoBulk d + 1
  | (_, d) => uptoBulk d + 1
 end
def uptoSmall : (H : Type) → List (DataW H) → Bool := fun _ ds => decide (uptoBulkAll ds ≤ 1048576)
def OpenSpec.upto (s : _root_.Go.ChangeSpec) : _root_.Go.OpenSpec := { _root_.Go.OpenSpec.ofChange s with cond := some uptoSmall }

/-- 'seesawlaw26.WitnessNames', WHERE WHAT IT READS IS OF BULK AT MOST 1048576: true; the input reads as it did. -/
def witnessNamesUptoRow : OpenClaim := { program := "ytjnlcfkdackghaa", sum := "00fa712ec309833387d250d047a07127fcf63c4f65c077e594e5ff17036636c8", func := "seesaw/seesawlaw26.WitnessNames", spec := "witnessNames", unfollowed := true, recurses := true, apart := false, narrowed := true }
def WitnessNamesUptoSaid : Prop := witnessNamesUptoRow.holds Try.pinned (OpenSpec.upto witnessNamesSpec)

/-- 'seesawlaw26.WitnessRight', WHERE WHAT IT READS IS OF BULK AT MOST 1048576: true; the input reads as it did. -/
def witnessRightUptoRow : OpenClaim := { program := "ytjnlcfkdackghaa", sum := "00fa712ec309833387d250d047a07127fcf63c4f65c077e594e5ff17036636c8", func := "seesaw/seesawlaw26.WitnessRight", spec := "witnessRight", unfollowed := true, recurses := true, apart := false, narrowed := true }
def WitnessRightUptoSaid : Prop := witnessRightUptoRow.holds Try.pinned (OpenSpec.upto witnessRightSpec)

/-- 'seesawlaw26.WitnessAll', WHERE WHAT IT READS IS OF BULK AT MOST 1048576: true; the input reads as it did. -/
def witnessAllUptoRow : OpenClaim := { program := "ytjnlcfkdackghaa", sum := "00fa712ec309833387d250d047a07127fcf63c4f65c077e594e5ff17036636c8", func := "seesaw/seesawlaw26.WitnessAll", spec := "witnessAll", unfollowed := true, recurses := true, apart := false, narrowed := true }
def WitnessAllUptoSaid : Prop := witnessAllUptoRow.holds Try.pinned (OpenSpec.upto witnessAllSpec)

/-- 'seesawlaw26.WitnessFewer', WHERE WHAT IT READS IS OF BULK AT MOST 1048576: true; the input reads as it did. -/
def witnessFewerUptoRow : OpenClaim := { program := "ytjnlcfkdackghaa", sum := "00fa712ec309833387d250d047a07127fcf63c4f65c077e594e5ff17036636c8", func := "seesaw/seesawlaw26.WitnessFewer", spec := "witnessFewer", unfollowed := true, recurses := true, apart := false, narrowed := true }
def WitnessFewerUptoSaid : Prop := witnessFewerUptoRow.holds Try.pinned (OpenSpec.upto witnessFewerSpec)

end Rows
end Go.Proofs.Ytjnlcfkdackghaa
