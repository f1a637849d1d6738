/-
  No cell of these rows narrows 'for every input' (looked for: loops, veiled, ifaces, maps, wideKeys, modest, calm, conditions, laid).
  DERIVED. THE GIVEN ROWS OF THIS SEAT. 6 by the template 'for every input the law returns true; each argument reads behind the call as it read before'; 0 by the template 'total and deterministic' (their statements: YtnnkegmiefpgpaaTotals.lean).
  GIVEN WITH THE SEED: the statements are not yours to turn. If you find one false, say at which input.
  Laid BY PROGRAM, IN A SANDBOX (cutbox-rows.mjs): the forced cells as the released guide's own fill.sh prints them over the translation e793cb8742ecbd25… (all of the seat's roots in one cut). By AI agents, Wed Nov 11 2026. No macro, syntax, notation, axiom, sorry.
-/
import Derived.Test.YtnnkegmiefpgpaaChecked
import GoSem.Claim
import GoSem.ClaimJoined
import GoSem.ClaimMapViews
import Derived.JoinedTies
import Derived.KernelRfl
namespace Go.Proofs.Ytnnkegmiefpgpaa
/- THE CELL 'sum', in the pinned program and in every row, IS THE sha256 OF THE DUMP (.gsa) THAT YtnnkegmiefpgpaaProg.lean LOADS. Nothing in Lean hashes anything: it is a label: what it is worth is what the hold of that sum in a sandbox is worth. -/
noncomputable def Try.pinned : Pinned := { name := "ytnnkegmiefpgpaa", sum := "e793cb8742ecbd25b2531dbbacba029188bbd248e14230cc21659db8a6064179", checked := Try.checked }
namespace Rows
def none {H : Type} : Left H := { results := [], args := [] }

/-- 'seesawlaw18.WaitsStill': WHATEVER THE INPUT: true; the input reads as it did. -/
def waitsStillSpec : ChangeSpec := { name := "waitsStill", fn := fun _ => fun
  | [d1, d2, d3, d4] => { results := [.lit (.bool true)], args := [d1, d2, d3, d4] }
  | _ => none }
def waitsStillRow : OpenClaim := { program := "ytnnkegmiefpgpaa", sum := "e793cb8742ecbd25b2531dbbacba029188bbd248e14230cc21659db8a6064179", func := "seesaw/seesawlaw18.WaitsStill", spec := "waitsStill", unfollowed := true, recurses := true, apart := false }
def WaitsStillSaid : Prop := waitsStillRow.holds Try.pinned (OpenSpec.ofChange waitsStillSpec)

/-- ITS FALSE NEIGHBOUR: 'it returns false'. Refute it at one input. -/
def waitsStillWrong : ChangeSpec := { name := "waitsStill", fn := fun _ => fun
  | [d1, d2, d3, d4] => { results := [.lit (.bool false)], args := [d1, d2, d3, d4] }
  | _ => none }
def WaitsStillWrongFalsely : Prop := waitsStillRow.holds Try.pinned (OpenSpec.ofChange waitsStillWrong)

/-- 'seesawlaw18.WaitsBoards': WHATEVER THE INPUT: true; the input reads as it did. -/
def waitsBoardsSpec : ChangeSpec := { name := "waitsBoards", fn := fun _ => fun
  | [d1, d2] => { results := [.lit (.bool true)], args := [d1, d2] }
  | _ => none }
def waitsBoardsRow : OpenClaim := { program := "ytnnkegmiefpgpaa", sum := "e793cb8742ecbd25b2531dbbacba029188bbd248e14230cc21659db8a6064179", func := "seesaw/seesawlaw18.WaitsBoards", spec := "waitsBoards", unfollowed := true, recurses := true, apart := false }
def WaitsBoardsSaid : Prop := waitsBoardsRow.holds Try.pinned (OpenSpec.ofChange waitsBoardsSpec)

/-- ITS FALSE NEIGHBOUR: 'it returns false'. Refute it at one input. -/
def waitsBoardsWrong : ChangeSpec := { name := "waitsBoards", fn := fun _ => fun
  | [d1, d2] => { results := [.lit (.bool false)], args := [d1, d2] }
  | _ => none }
def WaitsBoardsWrongFalsely : Prop := waitsBoardsRow.holds Try.pinned (OpenSpec.ofChange waitsBoardsWrong)

/-- 'seesawlaw18.WaitsThere': WHATEVER THE INPUT: true; the input reads as it did. -/
def waitsThereSpec : ChangeSpec := { name := "waitsThere", fn := fun _ => fun
  | [d1, d2, d3, d4] => { results := [.lit (.bool true)], args := [d1, d2, d3, d4] }
  | _ => none }
def waitsThereRow : OpenClaim := { program := "ytnnkegmiefpgpaa", sum := "e793cb8742ecbd25b2531dbbacba029188bbd248e14230cc21659db8a6064179", func := "seesaw/seesawlaw18.WaitsThere", spec := "waitsThere", unfollowed := true, recurses := true, apart := false }
def WaitsThereSaid : Prop := waitsThereRow.holds Try.pinned (OpenSpec.ofChange waitsThereSpec)

/-- ITS FALSE NEIGHBOUR: 'it returns false'. Refute it at one input. -/
def waitsThereWrong : ChangeSpec := { name := "waitsThere", fn := fun _ => fun
  | [d1, d2, d3, d4] => { results := [.lit (.bool false)], args := [d1, d2, d3, d4] }
  | _ => none }
def WaitsThereWrongFalsely : Prop := waitsThereRow.holds Try.pinned (OpenSpec.ofChange waitsThereWrong)

/-- 'seesawlaw18.WaitsNames': WHATEVER THE INPUT: true; the input reads as it did. -/
def waitsNamesSpec : ChangeSpec := { name := "waitsNames", fn := fun _ => fun
  | [] => { results := [.lit (.bool true)], args := [] }
  | _ => none }
def waitsNamesRow : OpenClaim := { program := "ytnnkegmiefpgpaa", sum := "e793cb8742ecbd25b2531dbbacba029188bbd248e14230cc21659db8a6064179", func := "seesaw/seesawlaw18.WaitsNames", spec := "waitsNames", unfollowed := true, recurses := true, apart := false }
def WaitsNamesSaid : Prop := waitsNamesRow.holds Try.pinned (OpenSpec.ofChange waitsNamesSpec)

/-- ITS FALSE NEIGHBOUR: 'it returns false'. Refute it at one input. -/
def waitsNamesWrong : ChangeSpec := { name := "waitsNames", fn := fun _ => fun
  | [] => { results := [.lit (.bool false)], args := [] }
  | _ => none }
def WaitsNamesWrongFalsely : Prop := waitsNamesRow.holds Try.pinned (OpenSpec.ofChange waitsNamesWrong)

/-- 'seesawlaw18.WaitsNot': WHATEVER THE INPUT: true; the input reads as it did. -/
def waitsNotSpec : ChangeSpec := { name := "waitsNot", fn := fun _ => fun
  | [d1, d2, d3, d4, d5] => { results := [.lit (.bool true)], args := [d1, d2, d3, d4, d5] }
  | _ => none }
def waitsNotRow : OpenClaim := { program := "ytnnkegmiefpgpaa", sum := "e793cb8742ecbd25b2531dbbacba029188bbd248e14230cc21659db8a6064179", func := "seesaw/seesawlaw18.WaitsNot", spec := "waitsNot", unfollowed := true, recurses := true, apart := false }
def WaitsNotSaid : Prop := waitsNotRow.holds Try.pinned (OpenSpec.ofChange waitsNotSpec)

/-- ITS FALSE NEIGHBOUR: 'it returns false'. Refute it at one input. -/
def waitsNotWrong : ChangeSpec := { name := "waitsNot", fn := fun _ => fun
  | [d1, d2, d3, d4, d5] => { results := [.lit (.bool false)], args := [d1, d2, d3, d4, d5] }
  | _ => none }
def WaitsNotWrongFalsely : Prop := waitsNotRow.holds Try.pinned (OpenSpec.ofChange waitsNotWrong)

/-- 'seesawlaw18.WaitsPlays': WHATEVER THE INPUT: true; the input reads as it did. -/
def waitsPlaysSpec : ChangeSpec := { name := "waitsPlays", fn := fun _ => fun
  | [d1, d2, d3, d4, d5] => { results := [.lit (.bool true)], args := [d1, d2, d3, d4, d5] }
  | _ => none }
def waitsPlaysRow : OpenClaim := { program := "ytnnkegmiefpgpaa", sum := "e793cb8742ecbd25b2531dbbacba029188bbd248e14230cc21659db8a6064179", func := "seesaw/seesawlaw18.WaitsPlays", spec := "waitsPlays", unfollowed := true, recurses := true, apart := false }
def WaitsPlaysSaid : Prop := waitsPlaysRow.holds Try.pinned (OpenSpec.ofChange waitsPlaysSpec)

/-- ITS FALSE NEIGHBOUR: 'it returns false'. Refute it at one input. -/
def waitsPlaysWrong : ChangeSpec := { name := "waitsPlays", fn := fun _ => fun
  | [d1, d2, d3, d4, d5] => { results := [.lit (.bool false)], args := [d1, d2, d3, d4, d5] }
  | _ => none }
def WaitsPlaysWrongFalsely : Prop := waitsPlaysRow.holds Try.pinned (OpenSpec.ofChange waitsPlaysWrong)

/- THE SECOND FORM. 'bulk': how many values and letters a reading holds, each counted each time it is reached (what is shared counts as often as it is met; a slice's spare places count too). A statement '..UptoSaid' is the law's where the arguments, and the package variables that the reading takes, are together of bulk at most 1048576: NARROWER than '..Said'. Prove '..Said' where nothing that the law and all that it calls make is longer than what came in: it says more and counts as full. Else prove '..UptoSaid'. A law counts once. -/
mutual
def uptoBulk {H : Type} : DataW H → Nat
  | .lit (.string bytes) => bytes.length + 1
  | .lit _ => 1
  | .nil => 1
  | .ptr d => uptoBulk d + 1
  | .slice elems spare => uptoBulkAll elems + uptoBulkAll spare + 1
  | .agg parts => uptoBulkAll parts + 1
  | .iface _ d => uptoBulk d + 1
  | .map entries => uptoBulkEntries entries + 1
  | .held _ => 1
def uptoBulkAll {H : Type} : List (DataW H) → Nat
  | [] => 0
  | d :: r => uptoBulk d + uptoBulkAll r
def uptoBulkEntries {H : Type} : List (Lit × DataW H) → Nat
  | [] => 0
  | x :: r => uptoBulkEntry x + uptoBulkEntries r
def uptoBulkEntry {H : Type} : Lit × DataW H → Nat
  | (.string bytes, d) => bytes.length + uptoBulk d + 1
  | (_, d) => uptoBulk d + 1
 end
def uptoSmall : (H : Type) → List (DataW H) → Bool := fun _ ds => decide (uptoBulkAll ds ≤ 1048576)
def OpenSpec.upto (s : _root_.Go.ChangeSpec) : _root_.Go.OpenSpec := { _root_.Go.OpenSpec.ofChange s with cond := some uptoSmall }

/-- 'seesawlaw18.WaitsStill', WHERE WHAT IT READS IS OF BULK AT MOST 1048576: true; the input reads as it did. -/
def waitsStillUptoRow : OpenClaim := { program := "ytnnkegmiefpgpaa", sum := "e793cb8742ecbd25b2531dbbacba029188bbd248e14230cc21659db8a6064179", func := "seesaw/seesawlaw18.WaitsStill", spec := "waitsStill", unfollowed := true, recurses := true, apart := false, narrowed := true }
def WaitsStillUptoSaid : Prop := waitsStillUptoRow.holds Try.pinned (OpenSpec.upto waitsStillSpec)

/-- 'seesawlaw18.WaitsBoards', WHERE WHAT IT READS IS OF BULK AT MOST 1048576: true; the input reads as it did. -/
def waitsBoardsUptoRow : OpenClaim := { program := "ytnnkegmiefpgpaa", sum := "e793cb8742ecbd25b2531dbbacba029188bbd248e14230cc21659db8a6064179", func := "seesaw/seesawlaw18.WaitsBoards", spec := "waitsBoards", unfollowed := true, recurses := true, apart := false, narrowed := true }
def WaitsBoardsUptoSaid : Prop := waitsBoardsUptoRow.holds Try.pinned (OpenSpec.upto waitsBoardsSpec)

/-- 'seesawlaw18.WaitsThere', WHERE WHAT IT READS IS OF BULK AT MOST 1048576: true; the input reads as it did. -/
def waitsThereUptoRow : OpenClaim := { program := "ytnnkegmiefpgpaa", sum := "e793cb8742ecbd25b2531dbbacba029188bbd248e14230cc21659db8a6064179", func := "seesaw/seesawlaw18.WaitsThere", spec := "waitsThere", unfollowed := true, recurses := true, apart := false, narrowed := true }
def WaitsThereUptoSaid : Prop := waitsThereUptoRow.holds Try.pinned (OpenSpec.upto waitsThereSpec)

/-- 'seesawlaw18.WaitsNames', WHERE WHAT IT READS IS OF BULK AT MOST 1048576: true; the input reads as it did. -/
def waitsNamesUptoRow : OpenClaim := { program := "ytnnkegmiefpgpaa", sum := "e793cb8742ecbd25b2531dbbacba029188bbd248e14230cc21659db8a6064179", func := "seesaw/seesawlaw18.WaitsNames", spec := "waitsNames", unfollowed := true, recurses := true, apart := false, narrowed := true }
def WaitsNamesUptoSaid : Prop := waitsNamesUptoRow.holds Try.pinned (OpenSpec.upto waitsNamesSpec)

/-- 'seesawlaw18.WaitsNot', WHERE WHAT IT READS IS OF BULK AT MOST 1048576: true; the input reads as it did. -/
def waitsNotUptoRow : OpenClaim := { program := "ytnnkegmiefpgpaa", sum := "e793cb8742ecbd25b2531dbbacba029188bbd248e14230cc21659db8a6064179", func := "seesaw/seesawlaw18.WaitsNot", spec := "waitsNot", unfollowed := true, recurses := true, apart := false, narrowed := true }
def WaitsNotUptoSaid : Prop := waitsNotUptoRow.holds Try.pinned (OpenSpec.upto waitsNotSpec)

/-- 'seesawlaw18.WaitsPlays', WHERE WHAT IT READS IS OF BULK AT MOST 1048576: true; the input reads as it did. -/
def waitsPlaysUptoRow : OpenClaim := { program := "ytnnkegmiefpgpaa", sum := "e793cb8742ecbd25b2531dbbacba029188bbd248e14230cc21659db8a6064179", func := "seesaw/seesawlaw18.WaitsPlays", spec := "waitsPlays", unfollowed := true, recurses := true, apart := false, narrowed := true }
def WaitsPlaysUptoSaid : Prop := waitsPlaysUptoRow.holds Try.pinned (OpenSpec.upto waitsPlaysSpec)

end Rows
end Go.Proofs.Ytnnkegmiefpgpaa
