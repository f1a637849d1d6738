/-
  No cell of these rows narrows 'for every input' (looked for: loops, veiled, ifaces, maps, wideKeys, modest, calm, conditions, laid).
  DERIVED. THE GIVEN ROWS OF THIS SEAT. 5 by the template 'for every input the law returns true; each argument reads behind the call as it read before'; 0 by the template 'total and deterministic' (their statements: YtaapgdanodkhjaaTotals.lean).
  GIVEN WITH THE SEED: the statements are not yours to turn. If you find one false, say at which input.
  Laid BY PROGRAM, IN A SANDBOX (cutbox-rows.mjs): the forced cells as the released guide's own fill.sh prints them over the translation 7c0a85dece455c3e… (all of the seat's roots in one cut). By AI agents, Wed Nov 11 2026. No macro, syntax, notation, axiom, sorry.
-/
import Derived.Test.YtaapgdanodkhjaaChecked
import GoSem.Claim
import GoSem.ClaimJoined
import GoSem.ClaimMapViews
import Derived.JoinedTies
import Derived.KernelRfl
namespace Go.Proofs.Ytaapgdanodkhjaa
/- THE CELL 'sum', in the pinned program and in every row, IS THE sha256 OF THE DUMP (.gsa) THAT YtaapgdanodkhjaaProg.lean LOADS. Nothing in Lean hashes anything: it is a label: what it is worth is what the hold of that sum in a sandbox is worth. -/
noncomputable def Try.pinned : Pinned := { name := "ytaapgdanodkhjaa", sum := "7c0a85dece455c3ed049951899ff3f4271959cc4b7682a32fe4c973ad7e4ea38", checked := Try.checked }
namespace Rows
def none {H : Type} : Left H := { results := [], args := [] }

/-- 'seesawlaw08.BufferLast': WHATEVER THE INPUT: true; the input reads as it did. -/
def bufferLastSpec : ChangeSpec := { name := "bufferLast", fn := fun _ => fun
  | [d1, d2] => { results := [.lit (.bool true)], args := [d1, d2] }
  | _ => none }
def bufferLastRow : OpenClaim := { program := "ytaapgdanodkhjaa", sum := "7c0a85dece455c3ed049951899ff3f4271959cc4b7682a32fe4c973ad7e4ea38", func := "seesaw/seesawlaw08.BufferLast", spec := "bufferLast", unfollowed := true, recurses := true, apart := false }
def BufferLastSaid : Prop := bufferLastRow.holds Try.pinned (OpenSpec.ofChange bufferLastSpec)

/-- ITS FALSE NEIGHBOUR: 'it returns false'. Refute it at one input. -/
def bufferLastWrong : ChangeSpec := { name := "bufferLast", fn := fun _ => fun
  | [d1, d2] => { results := [.lit (.bool false)], args := [d1, d2] }
  | _ => none }
def BufferLastWrongFalsely : Prop := bufferLastRow.holds Try.pinned (OpenSpec.ofChange bufferLastWrong)

/-- 'seesawlaw08.BufferAsNot': WHATEVER THE INPUT: true; the input reads as it did. -/
def bufferAsNotSpec : ChangeSpec := { name := "bufferAsNot", fn := fun _ => fun
  | [d1, d2] => { results := [.lit (.bool true)], args := [d1, d2] }
  | _ => none }
def bufferAsNotRow : OpenClaim := { program := "ytaapgdanodkhjaa", sum := "7c0a85dece455c3ed049951899ff3f4271959cc4b7682a32fe4c973ad7e4ea38", func := "seesaw/seesawlaw08.BufferAsNot", spec := "bufferAsNot", unfollowed := true, recurses := true, apart := false }
def BufferAsNotSaid : Prop := bufferAsNotRow.holds Try.pinned (OpenSpec.ofChange bufferAsNotSpec)

/-- ITS FALSE NEIGHBOUR: 'it returns false'. Refute it at one input. -/
def bufferAsNotWrong : ChangeSpec := { name := "bufferAsNot", fn := fun _ => fun
  | [d1, d2] => { results := [.lit (.bool false)], args := [d1, d2] }
  | _ => none }
def BufferAsNotWrongFalsely : Prop := bufferAsNotRow.holds Try.pinned (OpenSpec.ofChange bufferAsNotWrong)

/-- 'seesawlaw08.BufferPlays': WHATEVER THE INPUT: true; the input reads as it did. -/
def bufferPlaysSpec : ChangeSpec := { name := "bufferPlays", fn := fun _ => fun
  | [d] => { results := [.lit (.bool true)], args := [d] }
  | _ => none }
def bufferPlaysRow : OpenClaim := { program := "ytaapgdanodkhjaa", sum := "7c0a85dece455c3ed049951899ff3f4271959cc4b7682a32fe4c973ad7e4ea38", func := "seesaw/seesawlaw08.BufferPlays", spec := "bufferPlays", inPlace := ["maps.clone"], unfollowed := true, recurses := true, apart := false }
def BufferPlaysSaid : Prop := bufferPlaysRow.holds Try.pinned (OpenSpec.ofChange bufferPlaysSpec)

/-- ITS FALSE NEIGHBOUR: 'it returns false'. Refute it at one input. -/
def bufferPlaysWrong : ChangeSpec := { name := "bufferPlays", fn := fun _ => fun
  | [d] => { results := [.lit (.bool false)], args := [d] }
  | _ => none }
def BufferPlaysWrongFalsely : Prop := bufferPlaysRow.holds Try.pinned (OpenSpec.ofChange bufferPlaysWrong)

/-- 'seesawlaw08.BufferAtOnce': WHATEVER THE INPUT: true; the input reads as it did. -/
def bufferAtOnceSpec : ChangeSpec := { name := "bufferAtOnce", fn := fun _ => fun
  | [d1, d2] => { results := [.lit (.bool true)], args := [d1, d2] }
  | _ => none }
def bufferAtOnceRow : OpenClaim := { program := "ytaapgdanodkhjaa", sum := "7c0a85dece455c3ed049951899ff3f4271959cc4b7682a32fe4c973ad7e4ea38", func := "seesaw/seesawlaw08.BufferAtOnce", spec := "bufferAtOnce", inPlace := ["maps.clone"], unfollowed := true, recurses := true, apart := false }
def BufferAtOnceSaid : Prop := bufferAtOnceRow.holds Try.pinned (OpenSpec.ofChange bufferAtOnceSpec)

/-- ITS FALSE NEIGHBOUR: 'it returns false'. Refute it at one input. -/
def bufferAtOnceWrong : ChangeSpec := { name := "bufferAtOnce", fn := fun _ => fun
  | [d1, d2] => { results := [.lit (.bool false)], args := [d1, d2] }
  | _ => none }
def BufferAtOnceWrongFalsely : Prop := bufferAtOnceRow.holds Try.pinned (OpenSpec.ofChange bufferAtOnceWrong)

/-- 'seesawlaw08.BufferNames': WHATEVER THE INPUT: true; the input reads as it did. -/
def bufferNamesSpec : ChangeSpec := { name := "bufferNames", fn := fun _ => fun
  | [] => { results := [.lit (.bool true)], args := [] }
  | _ => none }
def bufferNamesRow : OpenClaim := { program := "ytaapgdanodkhjaa", sum := "7c0a85dece455c3ed049951899ff3f4271959cc4b7682a32fe4c973ad7e4ea38", func := "seesaw/seesawlaw08.BufferNames", spec := "bufferNames", inPlace := ["maps.clone"], unfollowed := true, recurses := true, apart := false }
def BufferNamesSaid : Prop := bufferNamesRow.holds Try.pinned (OpenSpec.ofChange bufferNamesSpec)

/-- ITS FALSE NEIGHBOUR: 'it returns false'. Refute it at one input. -/
def bufferNamesWrong : ChangeSpec := { name := "bufferNames", fn := fun _ => fun
  | [] => { results := [.lit (.bool false)], args := [] }
  | _ => none }
def BufferNamesWrongFalsely : Prop := bufferNamesRow.holds Try.pinned (OpenSpec.ofChange bufferNamesWrong)

/- THE SECOND FORM. 'bulk': how many values and letters a reading holds, each counted each time it is reached (what is shared counts as often as it is met; a slice's spare places count too). A statement '..UptoSaid' is the law's where the arguments, and the package variables that the reading takes, are together of bulk at most 1048576: NARROWER than '..Said'. Prove '..Said' where nothing that the law and all that it calls make is longer than what came in: it says more and counts as full. Else prove '..UptoSaid'. A law counts once. -/
mutual
def uptoBulk {H : Type} : DataW H → Nat
  | .lit (.string bytes) => bytes.length + 1
  | .lit _ => 1
  | .nil => 1
  | .ptr d => uptoBulk d + 1
  | .slice elems spare => uptoBulkAll elems + uptoBulkAll spare + 1
  | .agg parts => uptoBulkAll parts + 1
  | .iface _ d => uptoBulk d + 1
  | .map entries => uptoBulkEntries entries + 1
  | .held _ => 1
def uptoBulkAll {H : Type} : List (DataW H) → Nat
  | [] => 0
  | d :: r => uptoBulk d + uptoBulkAll r
def uptoBulkEntries {H : Type} : List (Lit × DataW H) → Nat
  | [] => 0
  | x :: r => uptoBulkEntry x + uptoBulkEntries r
def uptoBulkEntry {H : Type} : Lit × DataW H → Nat
  | (.string bytes, d) => bytes.length + uptoBulk d + 1
  | (_, d) => uptoBulk d + 1
 end
def uptoSmall : (H : Type) → List (DataW H) → Bool := fun _ ds => decide (uptoBulkAll ds ≤ 1048576)
def OpenSpec.upto (s : _root_.Go.ChangeSpec) : _root_.Go.OpenSpec := { _root_.Go.OpenSpec.ofChange s with cond := some uptoSmall }

/-- 'seesawlaw08.BufferLast', WHERE WHAT IT READS IS OF BULK AT MOST 1048576: true; the input reads as it did. -/
def bufferLastUptoRow : OpenClaim := { program := "ytaapgdanodkhjaa", sum := "7c0a85dece455c3ed049951899ff3f4271959cc4b7682a32fe4c973ad7e4ea38", func := "seesaw/seesawlaw08.BufferLast", spec := "bufferLast", unfollowed := true, recurses := true, apart := false, narrowed := true }
def BufferLastUptoSaid : Prop := bufferLastUptoRow.holds Try.pinned (OpenSpec.upto bufferLastSpec)

/-- 'seesawlaw08.BufferAsNot', WHERE WHAT IT READS IS OF BULK AT MOST 1048576: true; the input reads as it did. -/
def bufferAsNotUptoRow : OpenClaim := { program := "ytaapgdanodkhjaa", sum := "7c0a85dece455c3ed049951899ff3f4271959cc4b7682a32fe4c973ad7e4ea38", func := "seesaw/seesawlaw08.BufferAsNot", spec := "bufferAsNot", unfollowed := true, recurses := true, apart := false, narrowed := true }
def BufferAsNotUptoSaid : Prop := bufferAsNotUptoRow.holds Try.pinned (OpenSpec.upto bufferAsNotSpec)

/-- 'seesawlaw08.BufferPlays', WHERE WHAT IT READS IS OF BULK AT MOST 1048576: true; the input reads as it did. -/
def bufferPlaysUptoRow : OpenClaim := { program := "ytaapgdanodkhjaa", sum := "7c0a85dece455c3ed049951899ff3f4271959cc4b7682a32fe4c973ad7e4ea38", func := "seesaw/seesawlaw08.BufferPlays", spec := "bufferPlays", inPlace := ["maps.clone"], unfollowed := true, recurses := true, apart := false, narrowed := true }
def BufferPlaysUptoSaid : Prop := bufferPlaysUptoRow.holds Try.pinned (OpenSpec.upto bufferPlaysSpec)

/-- 'seesawlaw08.BufferAtOnce', WHERE WHAT IT READS IS OF BULK AT MOST 1048576: true; the input reads as it did. -/
def bufferAtOnceUptoRow : OpenClaim := { program := "ytaapgdanodkhjaa", sum := "7c0a85dece455c3ed049951899ff3f4271959cc4b7682a32fe4c973ad7e4ea38", func := "seesaw/seesawlaw08.BufferAtOnce", spec := "bufferAtOnce", inPlace := ["maps.clone"], unfollowed := true, recurses := true, apart := false, narrowed := true }
def BufferAtOnceUptoSaid : Prop := bufferAtOnceUptoRow.holds Try.pinned (OpenSpec.upto bufferAtOnceSpec)

/-- 'seesawlaw08.BufferNames', WHERE WHAT IT READS IS OF BULK AT MOST 1048576: true; the input reads as it did. -/
def bufferNamesUptoRow : OpenClaim := { program := "ytaapgdanodkhjaa", sum := "7c0a85dece455c3ed049951899ff3f4271959cc4b7682a32fe4c973ad7e4ea38", func := "seesaw/seesawlaw08.BufferNames", spec := "bufferNames", inPlace := ["maps.clone"], unfollowed := true, recurses := true, apart := false, narrowed := true }
def BufferNamesUptoSaid : Prop := bufferNamesUptoRow.holds Try.pinned (OpenSpec.upto bufferNamesSpec)

end Rows
end Go.Proofs.Ytaapgdanodkhjaa
