/-
  NARROWER THAN 'FOR EVERY INPUT', by the rows' own cells (each row's printed sentence says how): TopSerial: loops, laid · TopRecorded: loops, laid · TopBack: laid.
  DERIVED. THE GIVEN ROWS OF THIS SEAT. 3 by the template 'for every input the law returns true; each argument reads behind the call as it read before'; 0 by the template 'total and deterministic' (their statements: YtgdmlkgjpcnelaaGreatDoorTotals.lean).
  GIVEN WITH THE SEED: the statements are not yours to turn. If you find one false, say at which input.
  Laid BY PROGRAM, IN A SANDBOX (cutbox-rows.mjs): the forced cells as the released guide's own fill.sh prints them over the translation 25b8a887661c272c… (all of the seat's roots in one cut). By AI agents, Wed Nov 11 2026. No macro, syntax, notation, axiom, sorry.
-/
import Derived.Test.YtgdmlkgjpcnelaaGreatDoorChecked
import GoSem.Claim
import GoSem.ClaimJoined
import GoSem.ClaimMapViews
import Derived.JoinedTies
import Derived.KernelRfl
namespace Go.Proofs.YtgdmlkgjpcnelaaGreatDoor
/- THE CELL 'sum', in the pinned program and in every row, IS THE sha256 OF THE DUMP (.gsa) THAT YtgdmlkgjpcnelaaGreatDoorProg.lean LOADS. Nothing in Lean hashes anything: it is a label: what it is worth is what the hold of that sum in a sandbox is worth. -/
noncomputable def Tryz.pinned : Pinned := { name := "ytgdmlkgjpcnelaagreatdoor", sum := "25b8a887661c272c8982c0d16bda7d104f9a206920385338dc69df1005e91773", checked := Tryz.checked }
namespace Rows
def none {H : Type} : Left H := { results := [], args := [] }

/- WHAT THE LISTED PACKAGE-LEVEL VARIABLES READ AS WHEN THE CALL BEGINS. Each datum BY PROGRAM (the guide's laid-datum.mjs) off the statement by which the dump's own 'gosem.cut.vars' lays the variable. In a bare row this is a premise. The card (YtgdmlkgjpcnelaaGreatDoorCards.lean) ties it to the program's text. -/
def laid_math_bits_deBruijn32tab {H : Type} : DataW H := .agg [.lit (.int .u8 0), .lit (.int .u8 1), .lit (.int .u8 28), .lit (.int .u8 2), .lit (.int .u8 29), .lit (.int .u8 14), .lit (.int .u8 24), .lit (.int .u8 3), .lit (.int .u8 30), .lit (.int .u8 22), .lit (.int .u8 20), .lit (.int .u8 15), .lit (.int .u8 25), .lit (.int .u8 17), .lit (.int .u8 4), .lit (.int .u8 8), .lit (.int .u8 31), .lit (.int .u8 27), .lit (.int .u8 13), .lit (.int .u8 23), .lit (.int .u8 21), .lit (.int .u8 19), .lit (.int .u8 16), .lit (.int .u8 7), .lit (.int .u8 26), .lit (.int .u8 12), .lit (.int .u8 18), .lit (.int .u8 6), .lit (.int .u8 11), .lit (.int .u8 5), .lit (.int .u8 10), .lit (.int .u8 9)]
def laid_seesaw_expr_operators {H : Type} : DataW H := .iface "func table" (.agg [.nil, .nil, .nil, .nil, .iface "func" (.lit (.string [115, 101, 101, 115, 97, 119, 47, 101, 120, 112, 114, 46, 111, 112, 101, 114, 97, 116, 111, 114, 115, 36, 49])), .iface "func" (.lit (.string [115, 101, 101, 115, 97, 119, 47, 101, 120, 112, 114, 46, 111, 112, 101, 114, 97, 116, 111, 114, 115, 36, 50])), .iface "func" (.lit (.string [115, 101, 101, 115, 97, 119, 47, 101, 120, 112, 114, 46, 111, 112, 101, 114, 97, 116, 111, 114, 115, 36, 51])), .iface "func" (.lit (.string [115, 101, 101, 115, 97, 119, 47, 101, 120, 112, 114, 46, 111, 112, 101, 114, 97, 116, 111, 114, 115, 36, 52])), .iface "func" (.lit (.string [115, 101, 101, 115, 97, 119, 47, 101, 120, 112, 114, 46, 111, 112, 101, 114, 97, 116, 111, 114, 115, 36, 53]))])
def laid_seesaw_event_kinds {H : Type} : DataW H := .iface "func table" (.agg [.agg [.lit (.string []), .nil], .agg [.lit (.string [98, 101, 103, 105, 110]), .slice [.iface "func" (.lit (.string [40, 42, 115, 101, 101, 115, 97, 119, 47, 101, 118, 101, 110, 116, 46, 119, 104, 111, 108, 101, 41, 46, 116, 120])), .iface "func" (.lit (.string [40, 42, 115, 101, 101, 115, 97, 119, 47, 101, 118, 101, 110, 116, 46, 119, 104, 111, 108, 101, 41, 46, 118]))] []], .agg [.lit (.string [108, 111, 111, 107]), .slice [.iface "func" (.lit (.string [40, 42, 115, 101, 101, 115, 97, 119, 47, 101, 118, 101, 110, 116, 46, 119, 104, 111, 108, 101, 41, 46, 97, 116])), .iface "func" (.lit (.string [40, 42, 115, 101, 101, 115, 97, 119, 47, 101, 118, 101, 110, 116, 46, 119, 104, 111, 108, 101, 41, 46, 118]))] []], .agg [.lit (.string [108, 111, 97, 100]), .slice [.iface "func" (.lit (.string [40, 42, 115, 101, 101, 115, 97, 119, 47, 101, 118, 101, 110, 116, 46, 119, 104, 111, 108, 101, 41, 46, 97, 116])), .iface "func" (.lit (.string [40, 42, 115, 101, 101, 115, 97, 119, 47, 101, 118, 101, 110, 116, 46, 119, 104, 111, 108, 101, 41, 46, 120]))] []], .agg [.lit (.string [108, 111, 99, 107]), .slice [.iface "func" (.lit (.string [40, 42, 115, 101, 101, 115, 97, 119, 47, 101, 118, 101, 110, 116, 46, 119, 104, 111, 108, 101, 41, 46, 97, 116]))] []], .agg [.lit (.string [98, 117, 109, 112]), .slice [.iface "func" (.lit (.string [40, 42, 115, 101, 101, 115, 97, 119, 47, 101, 118, 101, 110, 116, 46, 119, 104, 111, 108, 101, 41, 46, 118]))] []], .agg [.lit (.string [99, 104, 101, 99, 107]), .slice [.iface "func" (.lit (.string [40, 42, 115, 101, 101, 115, 97, 119, 47, 101, 118, 101, 110, 116, 46, 119, 104, 111, 108, 101, 41, 46, 97, 116]))] []], .agg [.lit (.string [99, 111, 109, 109, 105, 116]), .slice [.iface "func" (.lit (.string [40, 42, 115, 101, 101, 115, 97, 119, 47, 101, 118, 101, 110, 116, 46, 119, 104, 111, 108, 101, 41, 46, 118]))] []], .agg [.lit (.string [115, 116, 111, 114, 101]), .slice [.iface "func" (.lit (.string [40, 42, 115, 101, 101, 115, 97, 119, 47, 101, 118, 101, 110, 116, 46, 119, 104, 111, 108, 101, 41, 46, 97, 116])), .iface "func" (.lit (.string [40, 42, 115, 101, 101, 115, 97, 119, 47, 101, 118, 101, 110, 116, 46, 119, 104, 111, 108, 101, 41, 46, 120]))] []], .agg [.lit (.string [102, 114, 101, 101]), .slice [.iface "func" (.lit (.string [40, 42, 115, 101, 101, 115, 97, 119, 47, 101, 118, 101, 110, 116, 46, 119, 104, 111, 108, 101, 41, 46, 97, 116]))] []], .agg [.lit (.string [97, 98, 111, 114, 116]), .slice [.iface "func" (.lit (.string [40, 42, 115, 101, 101, 115, 97, 119, 47, 101, 118, 101, 110, 116, 46, 119, 104, 111, 108, 101, 41, 46, 119, 104, 121])), .iface "func" (.lit (.string [40, 42, 115, 101, 101, 115, 97, 119, 47, 101, 118, 101, 110, 116, 46, 119, 104, 111, 108, 101, 41, 46, 97, 116]))] []], .agg [.lit (.string [117, 110, 100, 111]), .slice [.iface "func" (.lit (.string [40, 42, 115, 101, 101, 115, 97, 119, 47, 101, 118, 101, 110, 116, 46, 119, 104, 111, 108, 101, 41, 46, 97, 116]))] []], .agg [.lit (.string [119, 97, 105, 116]), .nil], .agg [.lit (.string [119, 97, 107, 101]), .nil]])

/-- 'seesawtop.TopSerial': WHATEVER THE INPUT: true; the input reads as it did. -/
def topSerialSpec : ChangeSpec := { name := "topSerial", fn := fun _ => fun
  | [d1, d2] => { results := [.lit (.bool true)], args := [d1, d2] }
  | _ => none }
def topSerialRow : OpenClaim := { program := "ytgdmlkgjpcnelaagreatdoor", sum := "25b8a887661c272c8982c0d16bda7d104f9a206920385338dc69df1005e91773", func := "seesaw/seesawtop.TopSerial", spec := "topSerial", inPlace := ["internal/abi.NoEscape", "internal/bytealg.MakeNoZero", "maps.clone"], unfollowed := true, recurses := true, named := ["seesaw/expr.operators", "seesaw/event.kinds", "math/bits.deBruijn32tab"], loops := true, plainKeys := false, apart := false, laid := [("math/bits.deBruijn32tab", laid_math_bits_deBruijn32tab), ("seesaw/expr.operators", laid_seesaw_expr_operators), ("seesaw/event.kinds", laid_seesaw_event_kinds)] }
def TopSerialSaid : Prop := topSerialRow.holds Tryz.pinned (OpenSpec.ofChange topSerialSpec)

/-- ITS FALSE NEIGHBOUR: 'it returns false'. Refute it at one input. -/
def topSerialWrong : ChangeSpec := { name := "topSerial", fn := fun _ => fun
  | [d1, d2] => { results := [.lit (.bool false)], args := [d1, d2] }
  | _ => none }
def TopSerialWrongFalsely : Prop := topSerialRow.holds Tryz.pinned (OpenSpec.ofChange topSerialWrong)

/-- 'seesawtop.TopRecorded': WHATEVER THE INPUT: true; the input reads as it did. -/
def topRecordedSpec : ChangeSpec := { name := "topRecorded", fn := fun _ => fun
  | [d1, d2] => { results := [.lit (.bool true)], args := [d1, d2] }
  | _ => none }
def topRecordedRow : OpenClaim := { program := "ytgdmlkgjpcnelaagreatdoor", sum := "25b8a887661c272c8982c0d16bda7d104f9a206920385338dc69df1005e91773", func := "seesaw/seesawtop.TopRecorded", spec := "topRecorded", inPlace := ["internal/abi.NoEscape", "internal/bytealg.MakeNoZero", "maps.clone"], unfollowed := true, recurses := true, named := ["seesaw/expr.operators", "seesaw/event.kinds", "math/bits.deBruijn32tab"], loops := true, plainKeys := false, apart := false, laid := [("math/bits.deBruijn32tab", laid_math_bits_deBruijn32tab), ("seesaw/expr.operators", laid_seesaw_expr_operators), ("seesaw/event.kinds", laid_seesaw_event_kinds)] }
def TopRecordedSaid : Prop := topRecordedRow.holds Tryz.pinned (OpenSpec.ofChange topRecordedSpec)

/-- ITS FALSE NEIGHBOUR: 'it returns false'. Refute it at one input. -/
def topRecordedWrong : ChangeSpec := { name := "topRecorded", fn := fun _ => fun
  | [d1, d2] => { results := [.lit (.bool false)], args := [d1, d2] }
  | _ => none }
def TopRecordedWrongFalsely : Prop := topRecordedRow.holds Tryz.pinned (OpenSpec.ofChange topRecordedWrong)

/-- 'seesawtop.TopBack': WHATEVER THE INPUT: true; the input reads as it did. -/
def topBackSpec : ChangeSpec := { name := "topBack", fn := fun _ => fun
  | [d1, d2] => { results := [.lit (.bool true)], args := [d1, d2] }
  | _ => none }
def topBackRow : OpenClaim := { program := "ytgdmlkgjpcnelaagreatdoor", sum := "25b8a887661c272c8982c0d16bda7d104f9a206920385338dc69df1005e91773", func := "seesaw/seesawtop.TopBack", spec := "topBack", inPlace := ["internal/abi.NoEscape", "internal/bytealg.MakeNoZero", "maps.clone"], unfollowed := true, recurses := true, named := ["seesaw/expr.operators", "seesaw/event.kinds", "math/bits.deBruijn32tab"], plainKeys := false, apart := false, laid := [("math/bits.deBruijn32tab", laid_math_bits_deBruijn32tab), ("seesaw/expr.operators", laid_seesaw_expr_operators), ("seesaw/event.kinds", laid_seesaw_event_kinds)] }
def TopBackSaid : Prop := topBackRow.holds Tryz.pinned (OpenSpec.ofChange topBackSpec)

/-- ITS FALSE NEIGHBOUR: 'it returns false'. Refute it at one input. -/
def topBackWrong : ChangeSpec := { name := "topBack", fn := fun _ => fun
  | [d1, d2] => { results := [.lit (.bool false)], args := [d1, d2] }
  | _ => none }
def TopBackWrongFalsely : Prop := topBackRow.holds Tryz.pinned (OpenSpec.ofChange topBackWrong)

/- THE SECOND FORM. 'bulk': how many values and letters a reading holds, each counted each time it is reached (what is shared counts as often as it is met; a slice's spare places count too). A statement '..UptoSaid' is the law's where the arguments, and the package variables that the reading takes, are together of bulk at most 1048576: NARROWER than '..Said'. Prove '..Said' where nothing that the law and all that it calls make is longer than what came in: it says more and counts as full. Else prove '..UptoSaid'. A law counts once. -/
mutual
def uptoBulk {H : Type} : DataW H → Nat
  | .lit (.string bytes) => bytes.length + 1
  | .lit _ => 1
  | .nil => 1
  | .ptr d => uptoBulk d + 1
  | .slice elems spare => uptoBulkAll elems + uptoBulkAll spare + 1
  | .agg parts => uptoBulkAll parts + 1
  | .iface _ d => uptoBulk d + 1
  | .map entries => uptoBulkEntries entries + 1
  | .held _ => 1
def uptoBulkAll {H : Type} : List (DataW H) → Nat
  | [] => 0
  | d :: r => uptoBulk d + uptoBulkAll r
def uptoBulkEntries {H : Type} : List (Lit × DataW H) → Nat
  | [] => 0
  | x :: r => uptoBulkEntry x + uptoBulkEntries r
def uptoBulkEntry {H : Type} : Lit × DataW H → Nat
  | (.string bytes, d) => bytes.length + uptoBulk d + 1
  | (_, d) => uptoBulk d + 1
 end
def uptoSmall : (H : Type) → List (DataW H) → Bool := fun _ ds => decide (uptoBulkAll ds ≤ 1048576)
def OpenSpec.upto (s : _root_.Go.ChangeSpec) : _root_.Go.OpenSpec := { _root_.Go.OpenSpec.ofChange s with cond := some uptoSmall }

/-- 'seesawtop.TopSerial', WHERE WHAT IT READS IS OF BULK AT MOST 1048576: true; the input reads as it did. -/
def topSerialUptoRow : OpenClaim := { program := "ytgdmlkgjpcnelaagreatdoor", sum := "25b8a887661c272c8982c0d16bda7d104f9a206920385338dc69df1005e91773", func := "seesaw/seesawtop.TopSerial", spec := "topSerial", inPlace := ["internal/abi.NoEscape", "internal/bytealg.MakeNoZero", "maps.clone"], unfollowed := true, recurses := true, named := ["seesaw/expr.operators", "seesaw/event.kinds", "math/bits.deBruijn32tab"], loops := true, plainKeys := false, apart := false, laid := [("math/bits.deBruijn32tab", laid_math_bits_deBruijn32tab), ("seesaw/expr.operators", laid_seesaw_expr_operators), ("seesaw/event.kinds", laid_seesaw_event_kinds)], narrowed := true }
def TopSerialUptoSaid : Prop := topSerialUptoRow.holds Tryz.pinned (OpenSpec.upto topSerialSpec)

/-- 'seesawtop.TopRecorded', WHERE WHAT IT READS IS OF BULK AT MOST 1048576: true; the input reads as it did. -/
def topRecordedUptoRow : OpenClaim := { program := "ytgdmlkgjpcnelaagreatdoor", sum := "25b8a887661c272c8982c0d16bda7d104f9a206920385338dc69df1005e91773", func := "seesaw/seesawtop.TopRecorded", spec := "topRecorded", inPlace := ["internal/abi.NoEscape", "internal/bytealg.MakeNoZero", "maps.clone"], unfollowed := true, recurses := true, named := ["seesaw/expr.operators", "seesaw/event.kinds", "math/bits.deBruijn32tab"], loops := true, plainKeys := false, apart := false, laid := [("math/bits.deBruijn32tab", laid_math_bits_deBruijn32tab), ("seesaw/expr.operators", laid_seesaw_expr_operators), ("seesaw/event.kinds", laid_seesaw_event_kinds)], narrowed := true }
def TopRecordedUptoSaid : Prop := topRecordedUptoRow.holds Tryz.pinned (OpenSpec.upto topRecordedSpec)

/-- 'seesawtop.TopBack', WHERE WHAT IT READS IS OF BULK AT MOST 1048576: true; the input reads as it did. -/
def topBackUptoRow : OpenClaim := { program := "ytgdmlkgjpcnelaagreatdoor", sum := "25b8a887661c272c8982c0d16bda7d104f9a206920385338dc69df1005e91773", func := "seesaw/seesawtop.TopBack", spec := "topBack", inPlace := ["internal/abi.NoEscape", "internal/bytealg.MakeNoZero", "maps.clone"], unfollowed := true, recurses := true, named := ["seesaw/expr.operators", "seesaw/event.kinds", "math/bits.deBruijn32tab"], plainKeys := false, apart := false, laid := [("math/bits.deBruijn32tab", laid_math_bits_deBruijn32tab), ("seesaw/expr.operators", laid_seesaw_expr_operators), ("seesaw/event.kinds", laid_seesaw_event_kinds)], narrowed := true }
def TopBackUptoSaid : Prop := topBackUptoRow.holds Tryz.pinned (OpenSpec.upto topBackSpec)

end Rows
end Go.Proofs.YtgdmlkgjpcnelaaGreatDoor
