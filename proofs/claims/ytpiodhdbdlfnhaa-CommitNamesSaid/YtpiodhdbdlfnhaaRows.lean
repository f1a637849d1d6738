/-
  No cell of these rows narrows 'for every input' (looked for: loops, veiled, ifaces, maps, wideKeys, modest, calm, conditions, laid).
  DERIVED. THE GIVEN ROWS OF THIS SEAT. 5 by the template 'for every input the law returns true; each argument reads behind the call as it read before'; 0 by the template 'total and deterministic' (their statements: YtpiodhdbdlfnhaaTotals.lean).
  GIVEN WITH THE SEED: the statements are not yours to turn. If you find one false, say at which input.
  Laid BY PROGRAM, IN A SANDBOX (cutbox-rows.mjs): the forced cells as the released guide's own fill.sh prints them over the translation 35118eeedb5dc8d1… (all of the seat's roots in one cut). By AI agents, Wed Nov 11 2026. No macro, syntax, notation, axiom, sorry.
-/
import Derived.Test.YtpiodhdbdlfnhaaChecked
import GoSem.Claim
import GoSem.ClaimJoined
import GoSem.ClaimMapViews
import Derived.JoinedTies
import Derived.KernelRfl
namespace Go.Proofs.Ytpiodhdbdlfnhaa
/- THE CELL 'sum', in the pinned program and in every row, IS THE sha256 OF THE DUMP (.gsa) THAT YtpiodhdbdlfnhaaProg.lean LOADS. Nothing in Lean hashes anything: it is a label: what it is worth is what the hold of that sum in a sandbox is worth. -/
noncomputable def Try.pinned : Pinned := { name := "ytpiodhdbdlfnhaa", sum := "35118eeedb5dc8d1f8da49b754317b26fa7fd2df9c28b06624defa7cb182ce28", checked := Try.checked }
namespace Rows
def none {H : Type} : Left H := { results := [], args := [] }

/-- 'seesawlaw17.CommitStale': WHATEVER THE INPUT: true; the input reads as it did. -/
def commitStaleSpec : ChangeSpec := { name := "commitStale", fn := fun _ => fun
  | [d1, d2, d3, d4, d5, d6, d7, d8] => { results := [.lit (.bool true)], args := [d1, d2, d3, d4, d5, d6, d7, d8] }
  | _ => none }
def commitStaleRow : OpenClaim := { program := "ytpiodhdbdlfnhaa", sum := "35118eeedb5dc8d1f8da49b754317b26fa7fd2df9c28b06624defa7cb182ce28", func := "seesaw/seesawlaw17.CommitStale", spec := "commitStale", unfollowed := true, recurses := true, apart := false }
def CommitStaleSaid : Prop := commitStaleRow.holds Try.pinned (OpenSpec.ofChange commitStaleSpec)

/-- ITS FALSE NEIGHBOUR: 'it returns false'. Refute it at one input. -/
def commitStaleWrong : ChangeSpec := { name := "commitStale", fn := fun _ => fun
  | [d1, d2, d3, d4, d5, d6, d7, d8] => { results := [.lit (.bool false)], args := [d1, d2, d3, d4, d5, d6, d7, d8] }
  | _ => none }
def CommitStaleWrongFalsely : Prop := commitStaleRow.holds Try.pinned (OpenSpec.ofChange commitStaleWrong)

/-- 'seesawlaw17.CommitOthers': WHATEVER THE INPUT: true; the input reads as it did. -/
def commitOthersSpec : ChangeSpec := { name := "commitOthers", fn := fun _ => fun
  | [d1, d2, d3, d4, d5, d6, d7, d8] => { results := [.lit (.bool true)], args := [d1, d2, d3, d4, d5, d6, d7, d8] }
  | _ => none }
def commitOthersRow : OpenClaim := { program := "ytpiodhdbdlfnhaa", sum := "35118eeedb5dc8d1f8da49b754317b26fa7fd2df9c28b06624defa7cb182ce28", func := "seesaw/seesawlaw17.CommitOthers", spec := "commitOthers", unfollowed := true, recurses := true, apart := false }
def CommitOthersSaid : Prop := commitOthersRow.holds Try.pinned (OpenSpec.ofChange commitOthersSpec)

/-- ITS FALSE NEIGHBOUR: 'it returns false'. Refute it at one input. -/
def commitOthersWrong : ChangeSpec := { name := "commitOthers", fn := fun _ => fun
  | [d1, d2, d3, d4, d5, d6, d7, d8] => { results := [.lit (.bool false)], args := [d1, d2, d3, d4, d5, d6, d7, d8] }
  | _ => none }
def CommitOthersWrongFalsely : Prop := commitOthersRow.holds Try.pinned (OpenSpec.ofChange commitOthersWrong)

/-- 'seesawlaw17.CommitAlone': WHATEVER THE INPUT: true; the input reads as it did. -/
def commitAloneSpec : ChangeSpec := { name := "commitAlone", fn := fun _ => fun
  | [d1, d2, d3, d4, d5, d6, d7] => { results := [.lit (.bool true)], args := [d1, d2, d3, d4, d5, d6, d7] }
  | _ => none }
def commitAloneRow : OpenClaim := { program := "ytpiodhdbdlfnhaa", sum := "35118eeedb5dc8d1f8da49b754317b26fa7fd2df9c28b06624defa7cb182ce28", func := "seesaw/seesawlaw17.CommitAlone", spec := "commitAlone", unfollowed := true, recurses := true, apart := false }
def CommitAloneSaid : Prop := commitAloneRow.holds Try.pinned (OpenSpec.ofChange commitAloneSpec)

/-- ITS FALSE NEIGHBOUR: 'it returns false'. Refute it at one input. -/
def commitAloneWrong : ChangeSpec := { name := "commitAlone", fn := fun _ => fun
  | [d1, d2, d3, d4, d5, d6, d7] => { results := [.lit (.bool false)], args := [d1, d2, d3, d4, d5, d6, d7] }
  | _ => none }
def CommitAloneWrongFalsely : Prop := commitAloneRow.holds Try.pinned (OpenSpec.ofChange commitAloneWrong)

/-- 'seesawlaw17.CommitNames': WHATEVER THE INPUT: true; the input reads as it did. -/
def commitNamesSpec : ChangeSpec := { name := "commitNames", fn := fun _ => fun
  | [] => { results := [.lit (.bool true)], args := [] }
  | _ => none }
def commitNamesRow : OpenClaim := { program := "ytpiodhdbdlfnhaa", sum := "35118eeedb5dc8d1f8da49b754317b26fa7fd2df9c28b06624defa7cb182ce28", func := "seesaw/seesawlaw17.CommitNames", spec := "commitNames", unfollowed := true, recurses := true, apart := false }
def CommitNamesSaid : Prop := commitNamesRow.holds Try.pinned (OpenSpec.ofChange commitNamesSpec)

/-- ITS FALSE NEIGHBOUR: 'it returns false'. Refute it at one input. -/
def commitNamesWrong : ChangeSpec := { name := "commitNames", fn := fun _ => fun
  | [] => { results := [.lit (.bool false)], args := [] }
  | _ => none }
def CommitNamesWrongFalsely : Prop := commitNamesRow.holds Try.pinned (OpenSpec.ofChange commitNamesWrong)

/-- 'seesawlaw17.CommitWhole': WHATEVER THE INPUT: true; the input reads as it did. -/
def commitWholeSpec : ChangeSpec := { name := "commitWhole", fn := fun _ => fun
  | [d1, d2, d3, d4, d5, d6, d7, d8] => { results := [.lit (.bool true)], args := [d1, d2, d3, d4, d5, d6, d7, d8] }
  | _ => none }
def commitWholeRow : OpenClaim := { program := "ytpiodhdbdlfnhaa", sum := "35118eeedb5dc8d1f8da49b754317b26fa7fd2df9c28b06624defa7cb182ce28", func := "seesaw/seesawlaw17.CommitWhole", spec := "commitWhole", unfollowed := true, recurses := true, apart := false }
def CommitWholeSaid : Prop := commitWholeRow.holds Try.pinned (OpenSpec.ofChange commitWholeSpec)

/-- ITS FALSE NEIGHBOUR: 'it returns false'. Refute it at one input. -/
def commitWholeWrong : ChangeSpec := { name := "commitWhole", fn := fun _ => fun
  | [d1, d2, d3, d4, d5, d6, d7, d8] => { results := [.lit (.bool false)], args := [d1, d2, d3, d4, d5, d6, d7, d8] }
  | _ => none }
def CommitWholeWrongFalsely : Prop := commitWholeRow.holds Try.pinned (OpenSpec.ofChange commitWholeWrong)

/- THE SECOND FORM. 'bulk': how many values and letters a reading holds, each counted each time it is reached (what is shared counts as often as it is met; a slice's spare places count too). A statement '..UptoSaid' is the law's where the arguments, and the package variables that the reading takes, are together of bulk at most 1048576: NARROWER than '..Said'. Prove '..Said' where nothing that the law and all that it calls make is longer than what came in: it says more and counts as full. Else prove '..UptoSaid'. A law counts once. -/
mutual
def uptoBulk {H : Type} : DataW H → Nat
  | .lit (.string bytes) => bytes.length + 1
  | .lit _ => 1
  | .nil => 1
  | .ptr d => uptoBulk d + 1
  | .slice elems spare => uptoBulkAll elems + uptoBulkAll spare + 1
  | .agg parts => uptoBulkAll parts + 1
  | .iface _ d => uptoBulk d + 1
  | .map entries => uptoBulkEntries entries + 1
  | .held _ => 1
def uptoBulkAll {H : Type} : List (DataW H) → Nat
  | [] => 0
  | d :: r => uptoBulk d + uptoBulkAll r
def uptoBulkEntries {H : Type} : List (Lit × DataW H) → Nat
  | [] => 0
  | x :: r => uptoBulkEntry x + uptoBulkEntries r
def uptoBulkEntry {H : Type} : Lit × DataW H → Nat
  | (.string bytes, d) => bytes.length + uptoBulk d + 1
  | (_, d) => uptoBulk d + 1
 end
def uptoSmall : (H : Type) → List (DataW H) → Bool := fun _ ds => decide (uptoBulkAll ds ≤ 1048576)
def OpenSpec.upto (s : _root_.Go.ChangeSpec) : _root_.Go.OpenSpec := { _root_.Go.OpenSpec.ofChange s with cond := some uptoSmall }

/-- 'seesawlaw17.CommitStale', WHERE WHAT IT READS IS OF BULK AT MOST 1048576: true; the input reads as it did. -/
def commitStaleUptoRow : OpenClaim := { program := "ytpiodhdbdlfnhaa", sum := "35118eeedb5dc8d1f8da49b754317b26fa7fd2df9c28b06624defa7cb182ce28", func := "seesaw/seesawlaw17.CommitStale", spec := "commitStale", unfollowed := true, recurses := true, apart := false, narrowed := true }
def CommitStaleUptoSaid : Prop := commitStaleUptoRow.holds Try.pinned (OpenSpec.upto commitStaleSpec)

/-- 'seesawlaw17.CommitOthers', WHERE WHAT IT READS IS OF BULK AT MOST 1048576: true; the input reads as it did. -/
def commitOthersUptoRow : OpenClaim := { program := "ytpiodhdbdlfnhaa", sum := "35118eeedb5dc8d1f8da49b754317b26fa7fd2df9c28b06624defa7cb182ce28", func := "seesaw/seesawlaw17.CommitOthers", spec := "commitOthers", unfollowed := true, recurses := true, apart := false, narrowed := true }
def CommitOthersUptoSaid : Prop := commitOthersUptoRow.holds Try.pinned (OpenSpec.upto commitOthersSpec)

/-- 'seesawlaw17.CommitAlone', WHERE WHAT IT READS IS OF BULK AT MOST 1048576: true; the input reads as it did. -/
def commitAloneUptoRow : OpenClaim := { program := "ytpiodhdbdlfnhaa", sum := "35118eeedb5dc8d1f8da49b754317b26fa7fd2df9c28b06624defa7cb182ce28", func := "seesaw/seesawlaw17.CommitAlone", spec := "commitAlone", unfollowed := true, recurses := true, apart := false, narrowed := true }
def CommitAloneUptoSaid : Prop := commitAloneUptoRow.holds Try.pinned (OpenSpec.upto commitAloneSpec)

/-- 'seesawlaw17.CommitNames', WHERE WHAT IT READS IS OF BULK AT MOST 1048576: true; the input reads as it did. -/
def commitNamesUptoRow : OpenClaim := { program := "ytpiodhdbdlfnhaa", sum := "35118eeedb5dc8d1f8da49b754317b26fa7fd2df9c28b06624defa7cb182ce28", func := "seesaw/seesawlaw17.CommitNames", spec := "commitNames", unfollowed := true, recurses := true, apart := false, narrowed := true }
def CommitNamesUptoSaid : Prop := commitNamesUptoRow.holds Try.pinned (OpenSpec.upto commitNamesSpec)

/-- 'seesawlaw17.CommitWhole', WHERE WHAT IT READS IS OF BULK AT MOST 1048576: true; the input reads as it did. -/
def commitWholeUptoRow : OpenClaim := { program := "ytpiodhdbdlfnhaa", sum := "35118eeedb5dc8d1f8da49b754317b26fa7fd2df9c28b06624defa7cb182ce28", func := "seesaw/seesawlaw17.CommitWhole", spec := "commitWhole", unfollowed := true, recurses := true, apart := false, narrowed := true }
def CommitWholeUptoSaid : Prop := commitWholeUptoRow.holds Try.pinned (OpenSpec.upto commitWholeSpec)

end Rows
end Go.Proofs.Ytpiodhdbdlfnhaa
