/- What Eng's laws ask of this program's types and functions. -/
import Derived.Test.YtpiodhdbdlfnhaaProg
import Derived.Test.YtpiodhdbdlfnhaaMore
namespace Go.Proofs.Ytpiodhdbdlfnhaa
open Go.Proofs
set_option maxRecDepth 100000
instance ty_sz1 : TySz Try.prog 1 1 := ⟨Try.sizeOf1⟩
instance ty_agg1 : TyAgg Try.prog 1 false := ⟨Try.isAgg1⟩
instance ty_z1 : TyZ Try.prog 1 (.nilFunc) := ⟨Try.zeroValue1⟩
instance ty_sz2 : TySz Try.prog 2 1 := ⟨Try.sizeOf2⟩
instance ty_agg2 : TyAgg Try.prog 2 false := ⟨Try.isAgg2⟩
instance ty_z2 : TyZ Try.prog 2 (.int .i64 0) := ⟨Try.zeroValue2⟩
instance ty_int2 : TyInt Try.prog 2 .i64 := ⟨Try.underlying2⟩
instance ty_sz3 : TySz Try.prog 3 1 := ⟨Try.sizeOf3⟩
instance ty_agg3 : TyAgg Try.prog 3 false := ⟨Try.isAgg3⟩
instance ty_z3 : TyZ Try.prog 3 (.int .i64 0) := ⟨Try.zeroValue3⟩
instance ty_int3 : TyInt Try.prog 3 .i64 := ⟨Try.underlying3⟩
instance ty_sz4 : TySz Try.prog 4 1 := ⟨Try.sizeOf4⟩
instance ty_agg4 : TyAgg Try.prog 4 false := ⟨Try.isAgg4⟩
instance ty_z4 : TyZ Try.prog 4 (.bool false) := ⟨Try.zeroValue4⟩
instance ty_bool4 : TyBool Try.prog 4 := ⟨Try.underlying4⟩
instance ty_sz5 : TySz Try.prog 5 1 := ⟨Try.sizeOf5⟩
instance ty_agg5 : TyAgg Try.prog 5 false := ⟨Try.isAgg5⟩
instance ty_z5 : TyZ Try.prog 5 (.int .u8 0) := ⟨Try.zeroValue5⟩
instance ty_int5 : TyInt Try.prog 5 .u8 := ⟨Try.underlying5⟩
instance ty_sz6 : TySz Try.prog 6 1 := ⟨Try.sizeOf6⟩
instance ty_agg6 : TyAgg Try.prog 6 false := ⟨Try.isAgg6⟩
instance ty_z6 : TyZ Try.prog 6 (.int .u8 0) := ⟨Try.zeroValue6⟩
instance ty_int6 : TyInt Try.prog 6 .u8 := ⟨Try.underlying6⟩
instance ty_sz7 : TySz Try.prog 7 4 := ⟨Try.sizeOf7⟩
instance ty_agg7 : TyAgg Try.prog 7 true := ⟨Try.isAgg7⟩
instance ty_z7 : TyZ Try.prog 7 (.agg #[.int .i64 0, .int .i64 0, .bool false, .int .u8 0]) := ⟨Try.zeroValue7⟩
instance ty_str7 : TyStr Try.prog 7 [(0, 1), (1, 1), (2, 1), (3, 1)] [.int .i64 0, .int .i64 0, .bool false, .int .u8 0] := ⟨fun ps => by kernel_rfl⟩
instance ty_f7_0 : FOff Try.prog 7 0 0 := ⟨fun a w => by simp [Instr.fieldAt, Instr.sureAddr, fieldPlace, run_underlying Try.underlying7, Try.sizeOf2]⟩
instance ty_f7_1 : FOff Try.prog 7 1 1 := ⟨fun a w => by simp [Instr.fieldAt, Instr.sureAddr, fieldPlace, run_underlying Try.underlying7, Try.sizeOf3]⟩
instance ty_f7_2 : FOff Try.prog 7 2 2 := ⟨fun a w => by simp [Instr.fieldAt, Instr.sureAddr, fieldPlace, run_underlying Try.underlying7, Try.sizeOf4]⟩
instance ty_f7_3 : FOff Try.prog 7 3 3 := ⟨fun a w => by simp [Instr.fieldAt, Instr.sureAddr, fieldPlace, run_underlying Try.underlying7, Try.sizeOf6]⟩
instance ty_sz8 : TySz Try.prog 8 4 := ⟨Try.sizeOf8⟩
instance ty_agg8 : TyAgg Try.prog 8 true := ⟨Try.isAgg8⟩
instance ty_z8 : TyZ Try.prog 8 (.agg #[.int .i64 0, .int .i64 0, .bool false, .int .u8 0]) := ⟨Try.zeroValue8⟩
instance ty_str8 : TyStr Try.prog 8 [(0, 1), (1, 1), (2, 1), (3, 1)] [.int .i64 0, .int .i64 0, .bool false, .int .u8 0] := ⟨fun ps => by kernel_rfl⟩
instance ty_f8_0 : FOff Try.prog 8 0 0 := ⟨fun a w => by simp [Instr.fieldAt, Instr.sureAddr, fieldPlace, run_underlying Try.underlying8, Try.sizeOf2]⟩
instance ty_f8_1 : FOff Try.prog 8 1 1 := ⟨fun a w => by simp [Instr.fieldAt, Instr.sureAddr, fieldPlace, run_underlying Try.underlying8, Try.sizeOf3]⟩
instance ty_f8_2 : FOff Try.prog 8 2 2 := ⟨fun a w => by simp [Instr.fieldAt, Instr.sureAddr, fieldPlace, run_underlying Try.underlying8, Try.sizeOf4]⟩
instance ty_f8_3 : FOff Try.prog 8 3 3 := ⟨fun a w => by simp [Instr.fieldAt, Instr.sureAddr, fieldPlace, run_underlying Try.underlying8, Try.sizeOf6]⟩
instance ty_sz9 : TySz Try.prog 9 1 := ⟨Try.sizeOf9⟩
instance ty_agg9 : TyAgg Try.prog 9 false := ⟨Try.isAgg9⟩
instance ty_z9 : TyZ Try.prog 9 (.string ⟨#[]⟩) := ⟨Try.zeroValue9⟩
instance ty_sz10 : TySz Try.prog 10 1 := ⟨Try.sizeOf10⟩
instance ty_agg10 : TyAgg Try.prog 10 false := ⟨Try.isAgg10⟩
instance ty_z10 : TyZ Try.prog 10 (.string ⟨#[]⟩) := ⟨Try.zeroValue10⟩
instance ty_sz11 : TySz Try.prog 11 1 := ⟨Try.sizeOf11⟩
instance ty_agg11 : TyAgg Try.prog 11 false := ⟨Try.isAgg11⟩
instance ty_z11 : TyZ Try.prog 11 (.string ⟨#[]⟩) := ⟨Try.zeroValue11⟩
instance ty_sz12 : TySz Try.prog 12 1 := ⟨Try.sizeOf12⟩
instance ty_agg12 : TyAgg Try.prog 12 false := ⟨Try.isAgg12⟩
instance ty_z12 : TyZ Try.prog 12 (.int .u64 0) := ⟨Try.zeroValue12⟩
instance ty_int12 : TyInt Try.prog 12 .u64 := ⟨Try.underlying12⟩
instance ty_sz13 : TySz Try.prog 13 2 := ⟨Try.sizeOf13⟩
instance ty_agg13 : TyAgg Try.prog 13 true := ⟨Try.isAgg13⟩
instance ty_z13 : TyZ Try.prog 13 (.agg #[.string ⟨#[]⟩, .int .u64 0]) := ⟨Try.zeroValue13⟩
instance ty_str13 : TyStr Try.prog 13 [(0, 1), (1, 1)] [.string ⟨#[]⟩, .int .u64 0] := ⟨fun ps => by kernel_rfl⟩
instance ty_f13_0 : FOff Try.prog 13 0 0 := ⟨fun a w => by simp [Instr.fieldAt, Instr.sureAddr, fieldPlace, run_underlying Try.underlying13, Try.sizeOf9]⟩
instance ty_f13_1 : FOff Try.prog 13 1 1 := ⟨fun a w => by simp [Instr.fieldAt, Instr.sureAddr, fieldPlace, run_underlying Try.underlying13, Try.sizeOf12]⟩
instance ty_sz14 : TySz Try.prog 14 2 := ⟨Try.sizeOf14⟩
instance ty_agg14 : TyAgg Try.prog 14 true := ⟨Try.isAgg14⟩
instance ty_z14 : TyZ Try.prog 14 (.agg #[.string ⟨#[]⟩, .int .u64 0]) := ⟨Try.zeroValue14⟩
instance ty_str14 : TyStr Try.prog 14 [(0, 1), (1, 1)] [.string ⟨#[]⟩, .int .u64 0] := ⟨fun ps => by kernel_rfl⟩
instance ty_f14_0 : FOff Try.prog 14 0 0 := ⟨fun a w => by simp [Instr.fieldAt, Instr.sureAddr, fieldPlace, run_underlying Try.underlying14, Try.sizeOf9]⟩
instance ty_f14_1 : FOff Try.prog 14 1 1 := ⟨fun a w => by simp [Instr.fieldAt, Instr.sureAddr, fieldPlace, run_underlying Try.underlying14, Try.sizeOf12]⟩
instance ty_sz15 : TySz Try.prog 15 1 := ⟨Try.sizeOf15⟩
instance ty_agg15 : TyAgg Try.prog 15 false := ⟨Try.isAgg15⟩
instance ty_z15 : TyZ Try.prog 15 (.pointer none) := ⟨Try.zeroValue15⟩
instance ty_ptr15 : TyPtr Try.prog 15 := ⟨⟨_, Try.underlying15⟩⟩
instance ty_sz16 : TySz Try.prog 16 1 := ⟨Try.sizeOf16⟩
instance ty_agg16 : TyAgg Try.prog 16 false := ⟨Try.isAgg16⟩
instance ty_z16 : TyZ Try.prog 16 (.pointer none) := ⟨Try.zeroValue16⟩
instance ty_ptr16 : TyPtr Try.prog 16 := ⟨⟨_, Try.underlying16⟩⟩
instance ty_sz17 : TySz Try.prog 17 1 := ⟨Try.sizeOf17⟩
instance ty_agg17 : TyAgg Try.prog 17 false := ⟨Try.isAgg17⟩
instance ty_z17 : TyZ Try.prog 17 (.pointer none) := ⟨Try.zeroValue17⟩
instance ty_ptr17 : TyPtr Try.prog 17 := ⟨⟨_, Try.underlying17⟩⟩
instance ty_sz18 : TySz Try.prog 18 1 := ⟨Try.sizeOf18⟩
instance ty_agg18 : TyAgg Try.prog 18 true := ⟨Try.isAgg18⟩
instance ty_z18 : TyZ Try.prog 18 (.agg #[.pointer none]) := ⟨Try.zeroValue18⟩
instance ty_str18 : TyStr Try.prog 18 [(0, 1)] [.pointer none] := ⟨fun ps => by kernel_rfl⟩
instance ty_f18_0 : FOff Try.prog 18 0 0 := ⟨fun a w => by simp [Instr.fieldAt, Instr.sureAddr, fieldPlace, run_underlying Try.underlying18, Try.sizeOf17]⟩
instance ty_sz19 : TySz Try.prog 19 1 := ⟨Try.sizeOf19⟩
instance ty_agg19 : TyAgg Try.prog 19 true := ⟨Try.isAgg19⟩
instance ty_z19 : TyZ Try.prog 19 (.agg #[.pointer none]) := ⟨Try.zeroValue19⟩
instance ty_str19 : TyStr Try.prog 19 [(0, 1)] [.pointer none] := ⟨fun ps => by kernel_rfl⟩
instance ty_f19_0 : FOff Try.prog 19 0 0 := ⟨fun a w => by simp [Instr.fieldAt, Instr.sureAddr, fieldPlace, run_underlying Try.underlying19, Try.sizeOf17]⟩
instance ty_sz20 : TySz Try.prog 20 1 := ⟨Try.sizeOf20⟩
instance ty_agg20 : TyAgg Try.prog 20 false := ⟨Try.isAgg20⟩
instance ty_z20 : TyZ Try.prog 20 (.nilIface) := ⟨Try.zeroValue20⟩
instance ty_sz21 : TySz Try.prog 21 1 := ⟨Try.sizeOf21⟩
instance ty_agg21 : TyAgg Try.prog 21 false := ⟨Try.isAgg21⟩
instance ty_z21 : TyZ Try.prog 21 (.int .i32 0) := ⟨Try.zeroValue21⟩
instance ty_int21 : TyInt Try.prog 21 .i32 := ⟨Try.underlying21⟩
instance ty_sz22 : TySz Try.prog 22 1 := ⟨Try.sizeOf22⟩
instance ty_agg22 : TyAgg Try.prog 22 false := ⟨Try.isAgg22⟩
instance ty_z22 : TyZ Try.prog 22 (.slice none 0 0) := ⟨Try.zeroValue22⟩
instance ty_sl22 : TySl Try.prog 22 2 1 := ⟨Try.underlying22, Try.sizeOf2⟩
instance ty_el2 : TyEl Try.prog 2 1 8 := ⟨⟨_, _, rfl, rfl, rfl, rfl, rfl⟩⟩
instance ty_sz23 : TySz Try.prog 23 1 := ⟨Try.sizeOf23⟩
instance ty_agg23 : TyAgg Try.prog 23 false := ⟨Try.isAgg23⟩
instance ty_z23 : TyZ Try.prog 23 (.slice none 0 0) := ⟨Try.zeroValue23⟩
instance ty_sl23 : TySl Try.prog 23 35 4 := ⟨Try.underlying23, Try.sizeOf35⟩
instance ty_el35 : TyEl Try.prog 35 4 32 := ⟨⟨_, _, rfl, rfl, rfl, rfl, rfl⟩⟩
instance ty_sz24 : TySz Try.prog 24 1 := ⟨Try.sizeOf24⟩
instance ty_agg24 : TyAgg Try.prog 24 false := ⟨Try.isAgg24⟩
instance ty_z24 : TyZ Try.prog 24 (.slice none 0 0) := ⟨Try.zeroValue24⟩
instance ty_sl24 : TySl Try.prog 24 3 1 := ⟨Try.underlying24, Try.sizeOf3⟩
instance ty_el3 : TyEl Try.prog 3 1 8 := ⟨⟨_, _, rfl, rfl, rfl, rfl, rfl⟩⟩
instance ty_sz25 : TySz Try.prog 25 1 := ⟨Try.sizeOf25⟩
instance ty_agg25 : TyAgg Try.prog 25 false := ⟨Try.isAgg25⟩
instance ty_z25 : TyZ Try.prog 25 (.slice none 0 0) := ⟨Try.zeroValue25⟩
instance ty_sl25 : TySl Try.prog 25 49 2 := ⟨Try.underlying25, Try.sizeOf49⟩
instance ty_el49 : TyEl Try.prog 49 2 16 := ⟨⟨_, _, rfl, rfl, rfl, rfl, rfl⟩⟩
instance ty_sz26 : TySz Try.prog 26 1 := ⟨Try.sizeOf26⟩
instance ty_agg26 : TyAgg Try.prog 26 false := ⟨Try.isAgg26⟩
instance ty_z26 : TyZ Try.prog 26 (.nilFunc) := ⟨Try.zeroValue26⟩
instance ty_sz27 : TySz Try.prog 27 1 := ⟨Try.sizeOf27⟩
instance ty_agg27 : TyAgg Try.prog 27 false := ⟨Try.isAgg27⟩
instance ty_z27 : TyZ Try.prog 27 (.nilFunc) := ⟨Try.zeroValue27⟩
instance ty_sz28 : TySz Try.prog 28 1 := ⟨Try.sizeOf28⟩
instance ty_agg28 : TyAgg Try.prog 28 false := ⟨Try.isAgg28⟩
instance ty_z28 : TyZ Try.prog 28 (.pointer none) := ⟨Try.zeroValue28⟩
instance ty_ptr28 : TyPtr Try.prog 28 := ⟨⟨_, Try.underlying28⟩⟩
instance ty_sz29 : TySz Try.prog 29 1 := ⟨Try.sizeOf29⟩
instance ty_agg29 : TyAgg Try.prog 29 false := ⟨Try.isAgg29⟩
instance ty_z29 : TyZ Try.prog 29 (.int .i64 0) := ⟨Try.zeroValue29⟩
instance ty_int29 : TyInt Try.prog 29 .i64 := ⟨Try.underlying29⟩
instance ty_sz31 : TySz Try.prog 31 1 := ⟨Try.sizeOf31⟩
instance ty_agg31 : TyAgg Try.prog 31 false := ⟨Try.isAgg31⟩
instance ty_z31 : TyZ Try.prog 31 (.nilFunc) := ⟨Try.zeroValue31⟩
instance ty_sz32 : TySz Try.prog 32 1 := ⟨Try.sizeOf32⟩
instance ty_agg32 : TyAgg Try.prog 32 false := ⟨Try.isAgg32⟩
instance ty_z32 : TyZ Try.prog 32 (.pointer none) := ⟨Try.zeroValue32⟩
instance ty_ptr32 : TyPtr Try.prog 32 := ⟨⟨_, Try.underlying32⟩⟩
instance ty_sz33 : TySz Try.prog 33 1 := ⟨Try.sizeOf33⟩
instance ty_agg33 : TyAgg Try.prog 33 false := ⟨Try.isAgg33⟩
instance ty_z33 : TyZ Try.prog 33 (.nilFunc) := ⟨Try.zeroValue33⟩
instance ty_sz34 : TySz Try.prog 34 4 := ⟨Try.sizeOf34⟩
instance ty_agg34 : TyAgg Try.prog 34 true := ⟨Try.isAgg34⟩
instance ty_z34 : TyZ Try.prog 34 (.agg #[.int .u8 0, .int .i64 0, .int .i64 0, .int .i64 0]) := ⟨Try.zeroValue34⟩
instance ty_eqi34 : TyEqI Try.prog 34 [.u8, .i64, .i64, .i64] := ⟨by kernel_rfl, by kernel_rfl, by kernel_rfl, by kernel_rfl⟩
instance ty_str34 : TyStr Try.prog 34 [(0, 1), (1, 1), (2, 1), (3, 1)] [.int .u8 0, .int .i64 0, .int .i64 0, .int .i64 0] := ⟨fun ps => by kernel_rfl⟩
instance ty_f34_0 : FOff Try.prog 34 0 0 := ⟨fun a w => by simp [Instr.fieldAt, Instr.sureAddr, fieldPlace, run_underlying Try.underlying34, Try.sizeOf5]⟩
instance ty_f34_1 : FOff Try.prog 34 1 1 := ⟨fun a w => by simp [Instr.fieldAt, Instr.sureAddr, fieldPlace, run_underlying Try.underlying34, Try.sizeOf3]⟩
instance ty_f34_2 : FOff Try.prog 34 2 2 := ⟨fun a w => by simp [Instr.fieldAt, Instr.sureAddr, fieldPlace, run_underlying Try.underlying34, Try.sizeOf3]⟩
instance ty_f34_3 : FOff Try.prog 34 3 3 := ⟨fun a w => by simp [Instr.fieldAt, Instr.sureAddr, fieldPlace, run_underlying Try.underlying34, Try.sizeOf2]⟩
instance ty_sz35 : TySz Try.prog 35 4 := ⟨Try.sizeOf35⟩
instance ty_agg35 : TyAgg Try.prog 35 true := ⟨Try.isAgg35⟩
instance ty_z35 : TyZ Try.prog 35 (.agg #[.int .u8 0, .int .i64 0, .int .i64 0, .int .i64 0]) := ⟨Try.zeroValue35⟩
instance ty_eqi35 : TyEqI Try.prog 35 [.u8, .i64, .i64, .i64] := ⟨by kernel_rfl, by kernel_rfl, by kernel_rfl, by kernel_rfl⟩
instance ty_str35 : TyStr Try.prog 35 [(0, 1), (1, 1), (2, 1), (3, 1)] [.int .u8 0, .int .i64 0, .int .i64 0, .int .i64 0] := ⟨fun ps => by kernel_rfl⟩
instance ty_f35_0 : FOff Try.prog 35 0 0 := ⟨fun a w => by simp [Instr.fieldAt, Instr.sureAddr, fieldPlace, run_underlying Try.underlying35, Try.sizeOf5]⟩
instance ty_f35_1 : FOff Try.prog 35 1 1 := ⟨fun a w => by simp [Instr.fieldAt, Instr.sureAddr, fieldPlace, run_underlying Try.underlying35, Try.sizeOf3]⟩
instance ty_f35_2 : FOff Try.prog 35 2 2 := ⟨fun a w => by simp [Instr.fieldAt, Instr.sureAddr, fieldPlace, run_underlying Try.underlying35, Try.sizeOf3]⟩
instance ty_f35_3 : FOff Try.prog 35 3 3 := ⟨fun a w => by simp [Instr.fieldAt, Instr.sureAddr, fieldPlace, run_underlying Try.underlying35, Try.sizeOf2]⟩
instance ty_sz36 : TySz Try.prog 36 1 := ⟨Try.sizeOf36⟩
instance ty_agg36 : TyAgg Try.prog 36 false := ⟨Try.isAgg36⟩
instance ty_z36 : TyZ Try.prog 36 (.nilFunc) := ⟨Try.zeroValue36⟩
instance ty_sz37 : TySz Try.prog 37 1 := ⟨Try.sizeOf37⟩
instance ty_agg37 : TyAgg Try.prog 37 false := ⟨Try.isAgg37⟩
instance ty_z37 : TyZ Try.prog 37 (.nilFunc) := ⟨Try.zeroValue37⟩
instance ty_sz38 : TySz Try.prog 38 1 := ⟨Try.sizeOf38⟩
instance ty_agg38 : TyAgg Try.prog 38 false := ⟨Try.isAgg38⟩
instance ty_z38 : TyZ Try.prog 38 (.nilFunc) := ⟨Try.zeroValue38⟩
instance ty_sz39 : TySz Try.prog 39 1 := ⟨Try.sizeOf39⟩
instance ty_agg39 : TyAgg Try.prog 39 false := ⟨Try.isAgg39⟩
instance ty_z39 : TyZ Try.prog 39 (.slice none 0 0) := ⟨Try.zeroValue39⟩
instance ty_sl39 : TySl Try.prog 39 44 7 := ⟨Try.underlying39, Try.sizeOf44⟩
instance ty_el44 : TyEl Try.prog 44 7 56 := ⟨⟨_, _, rfl, rfl, rfl, rfl, rfl⟩⟩
instance ty_sz41 : TySz Try.prog 41 1 := ⟨Try.sizeOf41⟩
instance ty_agg41 : TyAgg Try.prog 41 false := ⟨Try.isAgg41⟩
instance ty_z41 : TyZ Try.prog 41 (.nilFunc) := ⟨Try.zeroValue41⟩
instance ty_sz42 : TySz Try.prog 42 1 := ⟨Try.sizeOf42⟩
instance ty_agg42 : TyAgg Try.prog 42 false := ⟨Try.isAgg42⟩
instance ty_z42 : TyZ Try.prog 42 (.nilFunc) := ⟨Try.zeroValue42⟩
instance ty_sz43 : TySz Try.prog 43 7 := ⟨Try.sizeOf43⟩
instance ty_agg43 : TyAgg Try.prog 43 true := ⟨Try.isAgg43⟩
instance ty_z43 : TyZ Try.prog 43 (.agg #[.int .u8 0, .int .i64 0, .int .i64 0, .int .i64 0, .int .i64 0, .int .i64 0, .int .u8 0]) := ⟨Try.zeroValue43⟩
instance ty_eqi43 : TyEqI Try.prog 43 [.u8, .i64, .i64, .i64, .i64, .i64, .u8] := ⟨by kernel_rfl, by kernel_rfl, by kernel_rfl, by kernel_rfl⟩
instance ty_str43 : TyStr Try.prog 43 [(0, 1), (1, 1), (2, 1), (3, 1), (4, 1), (5, 1), (6, 1)] [.int .u8 0, .int .i64 0, .int .i64 0, .int .i64 0, .int .i64 0, .int .i64 0, .int .u8 0] := ⟨fun ps => by kernel_rfl⟩
instance ty_f43_0 : FOff Try.prog 43 0 0 := ⟨fun a w => by simp [Instr.fieldAt, Instr.sureAddr, fieldPlace, run_underlying Try.underlying43, Try.sizeOf5]⟩
instance ty_f43_1 : FOff Try.prog 43 1 1 := ⟨fun a w => by simp [Instr.fieldAt, Instr.sureAddr, fieldPlace, run_underlying Try.underlying43, Try.sizeOf3]⟩
instance ty_f43_2 : FOff Try.prog 43 2 2 := ⟨fun a w => by simp [Instr.fieldAt, Instr.sureAddr, fieldPlace, run_underlying Try.underlying43, Try.sizeOf3]⟩
instance ty_f43_3 : FOff Try.prog 43 3 3 := ⟨fun a w => by simp [Instr.fieldAt, Instr.sureAddr, fieldPlace, run_underlying Try.underlying43, Try.sizeOf3]⟩
instance ty_f43_4 : FOff Try.prog 43 4 4 := ⟨fun a w => by simp [Instr.fieldAt, Instr.sureAddr, fieldPlace, run_underlying Try.underlying43, Try.sizeOf3]⟩
instance ty_f43_5 : FOff Try.prog 43 5 5 := ⟨fun a w => by simp [Instr.fieldAt, Instr.sureAddr, fieldPlace, run_underlying Try.underlying43, Try.sizeOf2]⟩
instance ty_f43_6 : FOff Try.prog 43 6 6 := ⟨fun a w => by simp [Instr.fieldAt, Instr.sureAddr, fieldPlace, run_underlying Try.underlying43, Try.sizeOf5]⟩
instance ty_sz44 : TySz Try.prog 44 7 := ⟨Try.sizeOf44⟩
instance ty_agg44 : TyAgg Try.prog 44 true := ⟨Try.isAgg44⟩
instance ty_z44 : TyZ Try.prog 44 (.agg #[.int .u8 0, .int .i64 0, .int .i64 0, .int .i64 0, .int .i64 0, .int .i64 0, .int .u8 0]) := ⟨Try.zeroValue44⟩
instance ty_eqi44 : TyEqI Try.prog 44 [.u8, .i64, .i64, .i64, .i64, .i64, .u8] := ⟨by kernel_rfl, by kernel_rfl, by kernel_rfl, by kernel_rfl⟩
instance ty_str44 : TyStr Try.prog 44 [(0, 1), (1, 1), (2, 1), (3, 1), (4, 1), (5, 1), (6, 1)] [.int .u8 0, .int .i64 0, .int .i64 0, .int .i64 0, .int .i64 0, .int .i64 0, .int .u8 0] := ⟨fun ps => by kernel_rfl⟩
instance ty_f44_0 : FOff Try.prog 44 0 0 := ⟨fun a w => by simp [Instr.fieldAt, Instr.sureAddr, fieldPlace, run_underlying Try.underlying44, Try.sizeOf5]⟩
instance ty_f44_1 : FOff Try.prog 44 1 1 := ⟨fun a w => by simp [Instr.fieldAt, Instr.sureAddr, fieldPlace, run_underlying Try.underlying44, Try.sizeOf3]⟩
instance ty_f44_2 : FOff Try.prog 44 2 2 := ⟨fun a w => by simp [Instr.fieldAt, Instr.sureAddr, fieldPlace, run_underlying Try.underlying44, Try.sizeOf3]⟩
instance ty_f44_3 : FOff Try.prog 44 3 3 := ⟨fun a w => by simp [Instr.fieldAt, Instr.sureAddr, fieldPlace, run_underlying Try.underlying44, Try.sizeOf3]⟩
instance ty_f44_4 : FOff Try.prog 44 4 4 := ⟨fun a w => by simp [Instr.fieldAt, Instr.sureAddr, fieldPlace, run_underlying Try.underlying44, Try.sizeOf3]⟩
instance ty_f44_5 : FOff Try.prog 44 5 5 := ⟨fun a w => by simp [Instr.fieldAt, Instr.sureAddr, fieldPlace, run_underlying Try.underlying44, Try.sizeOf2]⟩
instance ty_f44_6 : FOff Try.prog 44 6 6 := ⟨fun a w => by simp [Instr.fieldAt, Instr.sureAddr, fieldPlace, run_underlying Try.underlying44, Try.sizeOf5]⟩
instance ty_sz46 : TySz Try.prog 46 1 := ⟨Try.sizeOf46⟩
instance ty_agg46 : TyAgg Try.prog 46 false := ⟨Try.isAgg46⟩
instance ty_z46 : TyZ Try.prog 46 (.nilFunc) := ⟨Try.zeroValue46⟩
instance ty_sz47 : TySz Try.prog 47 1 := ⟨Try.sizeOf47⟩
instance ty_agg47 : TyAgg Try.prog 47 false := ⟨Try.isAgg47⟩
instance ty_z47 : TyZ Try.prog 47 (.nilFunc) := ⟨Try.zeroValue47⟩
instance ty_sz48 : TySz Try.prog 48 2 := ⟨Try.sizeOf48⟩
instance ty_agg48 : TyAgg Try.prog 48 true := ⟨Try.isAgg48⟩
instance ty_z48 : TyZ Try.prog 48 (.agg #[.int .i64 0, .int .i64 0]) := ⟨Try.zeroValue48⟩
instance ty_eqi48 : TyEqI Try.prog 48 [.i64, .i64] := ⟨by kernel_rfl, by kernel_rfl, by kernel_rfl, by kernel_rfl⟩
instance ty_str48 : TyStr Try.prog 48 [(0, 1), (1, 1)] [.int .i64 0, .int .i64 0] := ⟨fun ps => by kernel_rfl⟩
instance ty_f48_0 : FOff Try.prog 48 0 0 := ⟨fun a w => by simp [Instr.fieldAt, Instr.sureAddr, fieldPlace, run_underlying Try.underlying48, Try.sizeOf3]⟩
instance ty_f48_1 : FOff Try.prog 48 1 1 := ⟨fun a w => by simp [Instr.fieldAt, Instr.sureAddr, fieldPlace, run_underlying Try.underlying48, Try.sizeOf2]⟩
instance ty_sz49 : TySz Try.prog 49 2 := ⟨Try.sizeOf49⟩
instance ty_agg49 : TyAgg Try.prog 49 true := ⟨Try.isAgg49⟩
instance ty_z49 : TyZ Try.prog 49 (.agg #[.int .i64 0, .int .i64 0]) := ⟨Try.zeroValue49⟩
instance ty_eqi49 : TyEqI Try.prog 49 [.i64, .i64] := ⟨by kernel_rfl, by kernel_rfl, by kernel_rfl, by kernel_rfl⟩
instance ty_str49 : TyStr Try.prog 49 [(0, 1), (1, 1)] [.int .i64 0, .int .i64 0] := ⟨fun ps => by kernel_rfl⟩
instance ty_f49_0 : FOff Try.prog 49 0 0 := ⟨fun a w => by simp [Instr.fieldAt, Instr.sureAddr, fieldPlace, run_underlying Try.underlying49, Try.sizeOf3]⟩
instance ty_f49_1 : FOff Try.prog 49 1 1 := ⟨fun a w => by simp [Instr.fieldAt, Instr.sureAddr, fieldPlace, run_underlying Try.underlying49, Try.sizeOf2]⟩
instance ty_sz50 : TySz Try.prog 50 1 := ⟨Try.sizeOf50⟩
instance ty_agg50 : TyAgg Try.prog 50 false := ⟨Try.isAgg50⟩
instance ty_z50 : TyZ Try.prog 50 (.nilFunc) := ⟨Try.zeroValue50⟩
instance ty_sz51 : TySz Try.prog 51 1 := ⟨Try.sizeOf51⟩
instance ty_agg51 : TyAgg Try.prog 51 false := ⟨Try.isAgg51⟩
instance ty_z51 : TyZ Try.prog 51 (.nilFunc) := ⟨Try.zeroValue51⟩
instance ty_sz52 : TySz Try.prog 52 1 := ⟨Try.sizeOf52⟩
instance ty_agg52 : TyAgg Try.prog 52 false := ⟨Try.isAgg52⟩
instance ty_z52 : TyZ Try.prog 52 (.int .u64 0) := ⟨Try.zeroValue52⟩
instance ty_int52 : TyInt Try.prog 52 .u64 := ⟨Try.underlying52⟩
instance ty_sz54 : TySz Try.prog 54 1 := ⟨Try.sizeOf54⟩
instance ty_agg54 : TyAgg Try.prog 54 false := ⟨Try.isAgg54⟩
instance ty_z54 : TyZ Try.prog 54 (.nilFunc) := ⟨Try.zeroValue54⟩
instance ty_sz55 : TySz Try.prog 55 1 := ⟨Try.sizeOf55⟩
instance ty_agg55 : TyAgg Try.prog 55 false := ⟨Try.isAgg55⟩
instance ty_z55 : TyZ Try.prog 55 (.nilFunc) := ⟨Try.zeroValue55⟩
instance ty_sz56 : TySz Try.prog 56 1 := ⟨Try.sizeOf56⟩
instance ty_agg56 : TyAgg Try.prog 56 false := ⟨Try.isAgg56⟩
instance ty_z56 : TyZ Try.prog 56 (.nilFunc) := ⟨Try.zeroValue56⟩
instance ty_sz57 : TySz Try.prog 57 1 := ⟨Try.sizeOf57⟩
instance ty_agg57 : TyAgg Try.prog 57 false := ⟨Try.isAgg57⟩
instance ty_z57 : TyZ Try.prog 57 (.nilFunc) := ⟨Try.zeroValue57⟩
instance ty_sz58 : TySz Try.prog 58 1 := ⟨Try.sizeOf58⟩
instance ty_agg58 : TyAgg Try.prog 58 false := ⟨Try.isAgg58⟩
instance ty_z58 : TyZ Try.prog 58 (.nilFunc) := ⟨Try.zeroValue58⟩
instance ty_sz59 : TySz Try.prog 59 1 := ⟨Try.sizeOf59⟩
instance ty_agg59 : TyAgg Try.prog 59 false := ⟨Try.isAgg59⟩
instance ty_z59 : TyZ Try.prog 59 (.nilFunc) := ⟨Try.zeroValue59⟩
instance ty_sz60 : TySz Try.prog 60 1 := ⟨Try.sizeOf60⟩
instance ty_agg60 : TyAgg Try.prog 60 false := ⟨Try.isAgg60⟩
instance ty_z60 : TyZ Try.prog 60 (.nilFunc) := ⟨Try.zeroValue60⟩
instance ty_sz61 : TySz Try.prog 61 1 := ⟨Try.sizeOf61⟩
instance ty_agg61 : TyAgg Try.prog 61 false := ⟨Try.isAgg61⟩
instance ty_z61 : TyZ Try.prog 61 (.pointer none) := ⟨Try.zeroValue61⟩
instance ty_ptr61 : TyPtr Try.prog 61 := ⟨⟨_, Try.underlying61⟩⟩
instance ty_sz63 : TySz Try.prog 63 1 := ⟨Try.sizeOf63⟩
instance ty_agg63 : TyAgg Try.prog 63 false := ⟨Try.isAgg63⟩
instance ty_z63 : TyZ Try.prog 63 (.nilFunc) := ⟨Try.zeroValue63⟩
instance ty_sz65 : TySz Try.prog 65 1 := ⟨Try.sizeOf65⟩
instance ty_agg65 : TyAgg Try.prog 65 false := ⟨Try.isAgg65⟩
instance ty_z65 : TyZ Try.prog 65 (.nilFunc) := ⟨Try.zeroValue65⟩
instance ty_sz66 : TySz Try.prog 66 1 := ⟨Try.sizeOf66⟩
instance ty_agg66 : TyAgg Try.prog 66 false := ⟨Try.isAgg66⟩
instance ty_z66 : TyZ Try.prog 66 (.nilFunc) := ⟨Try.zeroValue66⟩
instance ty_sz67 : TySz Try.prog 67 1 := ⟨Try.sizeOf67⟩
instance ty_agg67 : TyAgg Try.prog 67 false := ⟨Try.isAgg67⟩
instance ty_z67 : TyZ Try.prog 67 (.nilFunc) := ⟨Try.zeroValue67⟩
instance ty_sz68 : TySz Try.prog 68 1 := ⟨Try.sizeOf68⟩
instance ty_agg68 : TyAgg Try.prog 68 false := ⟨Try.isAgg68⟩
instance ty_z68 : TyZ Try.prog 68 (.nilFunc) := ⟨Try.zeroValue68⟩
instance ty_sz69 : TySz Try.prog 69 1 := ⟨Try.sizeOf69⟩
instance ty_agg69 : TyAgg Try.prog 69 false := ⟨Try.isAgg69⟩
instance ty_z69 : TyZ Try.prog 69 (.nilFunc) := ⟨Try.zeroValue69⟩
instance ty_sz70 : TySz Try.prog 70 1 := ⟨Try.sizeOf70⟩
instance ty_agg70 : TyAgg Try.prog 70 false := ⟨Try.isAgg70⟩
instance ty_z70 : TyZ Try.prog 70 (.nilFunc) := ⟨Try.zeroValue70⟩
instance ty_sz71 : TySz Try.prog 71 1 := ⟨Try.sizeOf71⟩
instance ty_agg71 : TyAgg Try.prog 71 false := ⟨Try.isAgg71⟩
instance ty_z71 : TyZ Try.prog 71 (.nilFunc) := ⟨Try.zeroValue71⟩
instance ty_sz72 : TySz Try.prog 72 1 := ⟨Try.sizeOf72⟩
instance ty_agg72 : TyAgg Try.prog 72 false := ⟨Try.isAgg72⟩
instance ty_z72 : TyZ Try.prog 72 (.nilFunc) := ⟨Try.zeroValue72⟩
instance ty_sz73 : TySz Try.prog 73 1 := ⟨Try.sizeOf73⟩
instance ty_agg73 : TyAgg Try.prog 73 false := ⟨Try.isAgg73⟩
instance ty_z73 : TyZ Try.prog 73 (.slice none 0 0) := ⟨Try.zeroValue73⟩
instance ty_sl73 : TySl Try.prog 73 76 2 := ⟨Try.underlying73, Try.sizeOf76⟩
instance ty_el76 : TyEl Try.prog 76 2 16 := ⟨⟨_, _, rfl, rfl, rfl, rfl, rfl⟩⟩
instance ty_sz74 : TySz Try.prog 74 1 := ⟨Try.sizeOf74⟩
instance ty_agg74 : TyAgg Try.prog 74 false := ⟨Try.isAgg74⟩
instance ty_z74 : TyZ Try.prog 74 (.nilFunc) := ⟨Try.zeroValue74⟩
instance ty_sz75 : TySz Try.prog 75 2 := ⟨Try.sizeOf75⟩
instance ty_agg75 : TyAgg Try.prog 75 true := ⟨Try.isAgg75⟩
instance ty_z75 : TyZ Try.prog 75 (.agg #[.int .i64 0, .int .i64 0]) := ⟨Try.zeroValue75⟩
instance ty_eqi75 : TyEqI Try.prog 75 [.i64, .i64] := ⟨by kernel_rfl, by kernel_rfl, by kernel_rfl, by kernel_rfl⟩
instance ty_str75 : TyStr Try.prog 75 [(0, 1), (1, 1)] [.int .i64 0, .int .i64 0] := ⟨fun ps => by kernel_rfl⟩
instance ty_f75_0 : FOff Try.prog 75 0 0 := ⟨fun a w => by simp [Instr.fieldAt, Instr.sureAddr, fieldPlace, run_underlying Try.underlying75, Try.sizeOf3]⟩
instance ty_f75_1 : FOff Try.prog 75 1 1 := ⟨fun a w => by simp [Instr.fieldAt, Instr.sureAddr, fieldPlace, run_underlying Try.underlying75, Try.sizeOf3]⟩
instance ty_sz76 : TySz Try.prog 76 2 := ⟨Try.sizeOf76⟩
instance ty_agg76 : TyAgg Try.prog 76 true := ⟨Try.isAgg76⟩
instance ty_z76 : TyZ Try.prog 76 (.agg #[.int .i64 0, .int .i64 0]) := ⟨Try.zeroValue76⟩
instance ty_eqi76 : TyEqI Try.prog 76 [.i64, .i64] := ⟨by kernel_rfl, by kernel_rfl, by kernel_rfl, by kernel_rfl⟩
instance ty_str76 : TyStr Try.prog 76 [(0, 1), (1, 1)] [.int .i64 0, .int .i64 0] := ⟨fun ps => by kernel_rfl⟩
instance ty_f76_0 : FOff Try.prog 76 0 0 := ⟨fun a w => by simp [Instr.fieldAt, Instr.sureAddr, fieldPlace, run_underlying Try.underlying76, Try.sizeOf3]⟩
instance ty_f76_1 : FOff Try.prog 76 1 1 := ⟨fun a w => by simp [Instr.fieldAt, Instr.sureAddr, fieldPlace, run_underlying Try.underlying76, Try.sizeOf3]⟩
instance ty_sz77 : TySz Try.prog 77 3 := ⟨Try.sizeOf77⟩
instance ty_agg77 : TyAgg Try.prog 77 true := ⟨Try.isAgg77⟩
instance ty_z77 : TyZ Try.prog 77 (.agg #[.slice none 0 0, .int .i64 0, .int .i64 0]) := ⟨Try.zeroValue77⟩
instance ty_str77 : TyStr Try.prog 77 [(0, 1), (1, 1), (2, 1)] [.slice none 0 0, .int .i64 0, .int .i64 0] := ⟨fun ps => by kernel_rfl⟩
instance ty_f77_0 : FOff Try.prog 77 0 0 := ⟨fun a w => by simp [Instr.fieldAt, Instr.sureAddr, fieldPlace, run_underlying Try.underlying77, Try.sizeOf73]⟩
instance ty_f77_1 : FOff Try.prog 77 1 1 := ⟨fun a w => by simp [Instr.fieldAt, Instr.sureAddr, fieldPlace, run_underlying Try.underlying77, Try.sizeOf3]⟩
instance ty_f77_2 : FOff Try.prog 77 2 2 := ⟨fun a w => by simp [Instr.fieldAt, Instr.sureAddr, fieldPlace, run_underlying Try.underlying77, Try.sizeOf3]⟩
instance ty_sz78 : TySz Try.prog 78 3 := ⟨Try.sizeOf78⟩
instance ty_agg78 : TyAgg Try.prog 78 true := ⟨Try.isAgg78⟩
instance ty_z78 : TyZ Try.prog 78 (.agg #[.slice none 0 0, .int .i64 0, .int .i64 0]) := ⟨Try.zeroValue78⟩
instance ty_str78 : TyStr Try.prog 78 [(0, 1), (1, 1), (2, 1)] [.slice none 0 0, .int .i64 0, .int .i64 0] := ⟨fun ps => by kernel_rfl⟩
instance ty_f78_0 : FOff Try.prog 78 0 0 := ⟨fun a w => by simp [Instr.fieldAt, Instr.sureAddr, fieldPlace, run_underlying Try.underlying78, Try.sizeOf73]⟩
instance ty_f78_1 : FOff Try.prog 78 1 1 := ⟨fun a w => by simp [Instr.fieldAt, Instr.sureAddr, fieldPlace, run_underlying Try.underlying78, Try.sizeOf3]⟩
instance ty_f78_2 : FOff Try.prog 78 2 2 := ⟨fun a w => by simp [Instr.fieldAt, Instr.sureAddr, fieldPlace, run_underlying Try.underlying78, Try.sizeOf3]⟩
instance ty_sz79 : TySz Try.prog 79 1 := ⟨Try.sizeOf79⟩
instance ty_agg79 : TyAgg Try.prog 79 false := ⟨Try.isAgg79⟩
instance ty_z79 : TyZ Try.prog 79 (.nilFunc) := ⟨Try.zeroValue79⟩
instance ty_sz80 : TySz Try.prog 80 4 := ⟨Try.sizeOf80⟩
instance ty_agg80 : TyAgg Try.prog 80 true := ⟨Try.isAgg80⟩
instance ty_z80 : TyZ Try.prog 80 (.agg #[.slice none 0 0, .int .i64 0, .int .i64 0, .slice none 0 0]) := ⟨Try.zeroValue80⟩
instance ty_str80 : TyStr Try.prog 80 [(0, 3), (3, 1)] [.slice none 0 0, .int .i64 0, .int .i64 0, .slice none 0 0] := ⟨fun ps => by kernel_rfl⟩
instance ty_f80_0 : FOff Try.prog 80 0 0 := ⟨fun a w => by simp [Instr.fieldAt, Instr.sureAddr, fieldPlace, run_underlying Try.underlying80, Try.sizeOf78]⟩
instance ty_f80_1 : FOff Try.prog 80 1 3 := ⟨fun a w => by simp [Instr.fieldAt, Instr.sureAddr, fieldPlace, run_underlying Try.underlying80, Try.sizeOf22]⟩
instance ty_sz81 : TySz Try.prog 81 4 := ⟨Try.sizeOf81⟩
instance ty_agg81 : TyAgg Try.prog 81 true := ⟨Try.isAgg81⟩
instance ty_z81 : TyZ Try.prog 81 (.agg #[.slice none 0 0, .int .i64 0, .int .i64 0, .slice none 0 0]) := ⟨Try.zeroValue81⟩
instance ty_str81 : TyStr Try.prog 81 [(0, 3), (3, 1)] [.slice none 0 0, .int .i64 0, .int .i64 0, .slice none 0 0] := ⟨fun ps => by kernel_rfl⟩
instance ty_f81_0 : FOff Try.prog 81 0 0 := ⟨fun a w => by simp [Instr.fieldAt, Instr.sureAddr, fieldPlace, run_underlying Try.underlying81, Try.sizeOf78]⟩
instance ty_f81_1 : FOff Try.prog 81 1 3 := ⟨fun a w => by simp [Instr.fieldAt, Instr.sureAddr, fieldPlace, run_underlying Try.underlying81, Try.sizeOf22]⟩
instance ty_sz82 : TySz Try.prog 82 1 := ⟨Try.sizeOf82⟩
instance ty_agg82 : TyAgg Try.prog 82 false := ⟨Try.isAgg82⟩
instance ty_z82 : TyZ Try.prog 82 (.nilFunc) := ⟨Try.zeroValue82⟩
instance ty_sz83 : TySz Try.prog 83 1 := ⟨Try.sizeOf83⟩
instance ty_agg83 : TyAgg Try.prog 83 false := ⟨Try.isAgg83⟩
instance ty_z83 : TyZ Try.prog 83 (.nilFunc) := ⟨Try.zeroValue83⟩
instance ty_sz84 : TySz Try.prog 84 1 := ⟨Try.sizeOf84⟩
instance ty_agg84 : TyAgg Try.prog 84 false := ⟨Try.isAgg84⟩
instance ty_z84 : TyZ Try.prog 84 (.nilFunc) := ⟨Try.zeroValue84⟩
instance ty_sz85 : TySz Try.prog 85 1 := ⟨Try.sizeOf85⟩
instance ty_agg85 : TyAgg Try.prog 85 false := ⟨Try.isAgg85⟩
instance ty_z85 : TyZ Try.prog 85 (.pointer none) := ⟨Try.zeroValue85⟩
instance ty_ptr85 : TyPtr Try.prog 85 := ⟨⟨_, Try.underlying85⟩⟩
instance ty_sz86 : TySz Try.prog 86 1 := ⟨Try.sizeOf86⟩
instance ty_agg86 : TyAgg Try.prog 86 false := ⟨Try.isAgg86⟩
instance ty_z86 : TyZ Try.prog 86 (.nilFunc) := ⟨Try.zeroValue86⟩
instance ty_sz87 : TySz Try.prog 87 9 := ⟨Try.sizeOf87⟩
instance ty_agg87 : TyAgg Try.prog 87 true := ⟨Try.isAgg87⟩
instance ty_z87 : TyZ Try.prog 87 (.agg #[.int .i64 0, .int .u8 0, .pointer none, .slice none 0 0, .slice none 0 0, .int .i64 0, .int .i64 0, .bool false, .bool false]) := ⟨Try.zeroValue87⟩
instance ty_str87 : TyStr Try.prog 87 [(0, 1), (1, 1), (2, 1), (3, 1), (4, 1), (5, 1), (6, 1), (7, 1), (8, 1)] [.int .i64 0, .int .u8 0, .pointer none, .slice none 0 0, .slice none 0 0, .int .i64 0, .int .i64 0, .bool false, .bool false] := ⟨fun ps => by kernel_rfl⟩
instance ty_f87_0 : FOff Try.prog 87 0 0 := ⟨fun a w => by simp [Instr.fieldAt, Instr.sureAddr, fieldPlace, run_underlying Try.underlying87, Try.sizeOf3]⟩
instance ty_f87_1 : FOff Try.prog 87 1 1 := ⟨fun a w => by simp [Instr.fieldAt, Instr.sureAddr, fieldPlace, run_underlying Try.underlying87, Try.sizeOf5]⟩
instance ty_f87_2 : FOff Try.prog 87 2 2 := ⟨fun a w => by simp [Instr.fieldAt, Instr.sureAddr, fieldPlace, run_underlying Try.underlying87, Try.sizeOf61]⟩
instance ty_f87_3 : FOff Try.prog 87 3 3 := ⟨fun a w => by simp [Instr.fieldAt, Instr.sureAddr, fieldPlace, run_underlying Try.underlying87, Try.sizeOf25]⟩
instance ty_f87_4 : FOff Try.prog 87 4 4 := ⟨fun a w => by simp [Instr.fieldAt, Instr.sureAddr, fieldPlace, run_underlying Try.underlying87, Try.sizeOf24]⟩
instance ty_f87_5 : FOff Try.prog 87 5 5 := ⟨fun a w => by simp [Instr.fieldAt, Instr.sureAddr, fieldPlace, run_underlying Try.underlying87, Try.sizeOf3]⟩
instance ty_f87_6 : FOff Try.prog 87 6 6 := ⟨fun a w => by simp [Instr.fieldAt, Instr.sureAddr, fieldPlace, run_underlying Try.underlying87, Try.sizeOf3]⟩
instance ty_f87_7 : FOff Try.prog 87 7 7 := ⟨fun a w => by simp [Instr.fieldAt, Instr.sureAddr, fieldPlace, run_underlying Try.underlying87, Try.sizeOf4]⟩
instance ty_f87_8 : FOff Try.prog 87 8 8 := ⟨fun a w => by simp [Instr.fieldAt, Instr.sureAddr, fieldPlace, run_underlying Try.underlying87, Try.sizeOf4]⟩
instance ty_sz88 : TySz Try.prog 88 9 := ⟨Try.sizeOf88⟩
instance ty_agg88 : TyAgg Try.prog 88 true := ⟨Try.isAgg88⟩
instance ty_z88 : TyZ Try.prog 88 (.agg #[.int .i64 0, .int .u8 0, .pointer none, .slice none 0 0, .slice none 0 0, .int .i64 0, .int .i64 0, .bool false, .bool false]) := ⟨Try.zeroValue88⟩
instance ty_str88 : TyStr Try.prog 88 [(0, 1), (1, 1), (2, 1), (3, 1), (4, 1), (5, 1), (6, 1), (7, 1), (8, 1)] [.int .i64 0, .int .u8 0, .pointer none, .slice none 0 0, .slice none 0 0, .int .i64 0, .int .i64 0, .bool false, .bool false] := ⟨fun ps => by kernel_rfl⟩
instance ty_f88_0 : FOff Try.prog 88 0 0 := ⟨fun a w => by simp [Instr.fieldAt, Instr.sureAddr, fieldPlace, run_underlying Try.underlying88, Try.sizeOf3]⟩
instance ty_f88_1 : FOff Try.prog 88 1 1 := ⟨fun a w => by simp [Instr.fieldAt, Instr.sureAddr, fieldPlace, run_underlying Try.underlying88, Try.sizeOf5]⟩
instance ty_f88_2 : FOff Try.prog 88 2 2 := ⟨fun a w => by simp [Instr.fieldAt, Instr.sureAddr, fieldPlace, run_underlying Try.underlying88, Try.sizeOf61]⟩
instance ty_f88_3 : FOff Try.prog 88 3 3 := ⟨fun a w => by simp [Instr.fieldAt, Instr.sureAddr, fieldPlace, run_underlying Try.underlying88, Try.sizeOf25]⟩
instance ty_f88_4 : FOff Try.prog 88 4 4 := ⟨fun a w => by simp [Instr.fieldAt, Instr.sureAddr, fieldPlace, run_underlying Try.underlying88, Try.sizeOf24]⟩
instance ty_f88_5 : FOff Try.prog 88 5 5 := ⟨fun a w => by simp [Instr.fieldAt, Instr.sureAddr, fieldPlace, run_underlying Try.underlying88, Try.sizeOf3]⟩
instance ty_f88_6 : FOff Try.prog 88 6 6 := ⟨fun a w => by simp [Instr.fieldAt, Instr.sureAddr, fieldPlace, run_underlying Try.underlying88, Try.sizeOf3]⟩
instance ty_f88_7 : FOff Try.prog 88 7 7 := ⟨fun a w => by simp [Instr.fieldAt, Instr.sureAddr, fieldPlace, run_underlying Try.underlying88, Try.sizeOf4]⟩
instance ty_f88_8 : FOff Try.prog 88 8 8 := ⟨fun a w => by simp [Instr.fieldAt, Instr.sureAddr, fieldPlace, run_underlying Try.underlying88, Try.sizeOf4]⟩
instance ty_sz89 : TySz Try.prog 89 1 := ⟨Try.sizeOf89⟩
instance ty_agg89 : TyAgg Try.prog 89 false := ⟨Try.isAgg89⟩
instance ty_z89 : TyZ Try.prog 89 (.nilFunc) := ⟨Try.zeroValue89⟩
instance ty_sz90 : TySz Try.prog 90 1 := ⟨Try.sizeOf90⟩
instance ty_agg90 : TyAgg Try.prog 90 false := ⟨Try.isAgg90⟩
instance ty_z90 : TyZ Try.prog 90 (.nilFunc) := ⟨Try.zeroValue90⟩
instance ty_sz91 : TySz Try.prog 91 1 := ⟨Try.sizeOf91⟩
instance ty_agg91 : TyAgg Try.prog 91 false := ⟨Try.isAgg91⟩
instance ty_z91 : TyZ Try.prog 91 (.nilFunc) := ⟨Try.zeroValue91⟩
instance ty_sz92 : TySz Try.prog 92 8 := ⟨Try.sizeOf92⟩
instance ty_agg92 : TyAgg Try.prog 92 true := ⟨Try.isAgg92⟩
instance ty_z92 : TyZ Try.prog 92 (.agg #[.nilFunc, .nilFunc, .nilFunc, .nilFunc, .nilFunc, .nilFunc, .nilFunc, .nilFunc]) := ⟨Try.zeroValue92⟩
instance ty_ar92 : TyAr Try.prog 92 90 1 8 := ⟨Try.underlying92, Try.sizeOf90⟩
instance ty_sz93 : TySz Try.prog 93 1 := ⟨Try.sizeOf93⟩
instance ty_agg93 : TyAgg Try.prog 93 false := ⟨Try.isAgg93⟩
instance ty_z93 : TyZ Try.prog 93 (.nilFunc) := ⟨Try.zeroValue93⟩
instance ty_sz94 : TySz Try.prog 94 1 := ⟨Try.sizeOf94⟩
instance ty_agg94 : TyAgg Try.prog 94 false := ⟨Try.isAgg94⟩
instance ty_z94 : TyZ Try.prog 94 (.slice none 0 0) := ⟨Try.zeroValue94⟩
instance ty_sl94 : TySl Try.prog 94 5 1 := ⟨Try.underlying94, Try.sizeOf5⟩
instance ty_el5 : TyEl Try.prog 5 1 1 := ⟨⟨_, _, rfl, rfl, rfl, rfl, rfl⟩⟩
instance ty_sz95 : TySz Try.prog 95 1 := ⟨Try.sizeOf95⟩
instance ty_agg95 : TyAgg Try.prog 95 false := ⟨Try.isAgg95⟩
instance ty_z95 : TyZ Try.prog 95 (.nilFunc) := ⟨Try.zeroValue95⟩
instance ty_sz96 : TySz Try.prog 96 1 := ⟨Try.sizeOf96⟩
instance ty_agg96 : TyAgg Try.prog 96 false := ⟨Try.isAgg96⟩
instance ty_z96 : TyZ Try.prog 96 (.nilFunc) := ⟨Try.zeroValue96⟩
instance ty_sz97 : TySz Try.prog 97 32 := ⟨Try.sizeOf97⟩
instance ty_agg97 : TyAgg Try.prog 97 true := ⟨Try.isAgg97⟩
instance ty_z97 : TyZ Try.prog 97 (.agg #[.bool false, .bool false, .bool false, .bool false, .bool false, .bool false, .bool false, .bool false, .bool false, .bool false, .bool false, .bool false, .bool false, .bool false, .bool false, .bool false, .bool false, .bool false, .bool false, .bool false, .bool false, .bool false, .bool false, .bool false, .bool false, .bool false, .bool false, .bool false, .bool false, .bool false, .bool false, .bool false]) := ⟨Try.zeroValue97⟩
instance ty_ar97 : TyAr Try.prog 97 4 1 32 := ⟨Try.underlying97, Try.sizeOf4⟩
instance ty_sz98 : TySz Try.prog 98 34 := ⟨Try.sizeOf98⟩
instance ty_agg98 : TyAgg Try.prog 98 true := ⟨Try.isAgg98⟩
instance ty_z98 : TyZ Try.prog 98 (.agg #[.int .i64 0, .int .i64 0, .bool false, .bool false, .bool false, .bool false, .bool false, .bool false, .bool false, .bool false, .bool false, .bool false, .bool false, .bool false, .bool false, .bool false, .bool false, .bool false, .bool false, .bool false, .bool false, .bool false, .bool false, .bool false, .bool false, .bool false, .bool false, .bool false, .bool false, .bool false, .bool false, .bool false, .bool false, .bool false]) := ⟨Try.zeroValue98⟩
instance ty_str98 : TyStr Try.prog 98 [(0, 1), (1, 1), (2, 32)] [.int .i64 0, .int .i64 0, .bool false, .bool false, .bool false, .bool false, .bool false, .bool false, .bool false, .bool false, .bool false, .bool false, .bool false, .bool false, .bool false, .bool false, .bool false, .bool false, .bool false, .bool false, .bool false, .bool false, .bool false, .bool false, .bool false, .bool false, .bool false, .bool false, .bool false, .bool false, .bool false, .bool false, .bool false, .bool false] := ⟨fun ps => by kernel_rfl⟩
instance ty_f98_0 : FOff Try.prog 98 0 0 := ⟨fun a w => by simp [Instr.fieldAt, Instr.sureAddr, fieldPlace, run_underlying Try.underlying98, Try.sizeOf3]⟩
instance ty_f98_1 : FOff Try.prog 98 1 1 := ⟨fun a w => by simp [Instr.fieldAt, Instr.sureAddr, fieldPlace, run_underlying Try.underlying98, Try.sizeOf3]⟩
instance ty_f98_2 : FOff Try.prog 98 2 2 := ⟨fun a w => by simp [Instr.fieldAt, Instr.sureAddr, fieldPlace, run_underlying Try.underlying98, Try.sizeOf97]⟩
instance ty_sz99 : TySz Try.prog 99 34 := ⟨Try.sizeOf99⟩
instance ty_agg99 : TyAgg Try.prog 99 true := ⟨Try.isAgg99⟩
instance ty_z99 : TyZ Try.prog 99 (.agg #[.int .i64 0, .int .i64 0, .bool false, .bool false, .bool false, .bool false, .bool false, .bool false, .bool false, .bool false, .bool false, .bool false, .bool false, .bool false, .bool false, .bool false, .bool false, .bool false, .bool false, .bool false, .bool false, .bool false, .bool false, .bool false, .bool false, .bool false, .bool false, .bool false, .bool false, .bool false, .bool false, .bool false, .bool false, .bool false]) := ⟨Try.zeroValue99⟩
instance ty_str99 : TyStr Try.prog 99 [(0, 1), (1, 1), (2, 32)] [.int .i64 0, .int .i64 0, .bool false, .bool false, .bool false, .bool false, .bool false, .bool false, .bool false, .bool false, .bool false, .bool false, .bool false, .bool false, .bool false, .bool false, .bool false, .bool false, .bool false, .bool false, .bool false, .bool false, .bool false, .bool false, .bool false, .bool false, .bool false, .bool false, .bool false, .bool false, .bool false, .bool false, .bool false, .bool false] := ⟨fun ps => by kernel_rfl⟩
instance ty_f99_0 : FOff Try.prog 99 0 0 := ⟨fun a w => by simp [Instr.fieldAt, Instr.sureAddr, fieldPlace, run_underlying Try.underlying99, Try.sizeOf3]⟩
instance ty_f99_1 : FOff Try.prog 99 1 1 := ⟨fun a w => by simp [Instr.fieldAt, Instr.sureAddr, fieldPlace, run_underlying Try.underlying99, Try.sizeOf3]⟩
instance ty_f99_2 : FOff Try.prog 99 2 2 := ⟨fun a w => by simp [Instr.fieldAt, Instr.sureAddr, fieldPlace, run_underlying Try.underlying99, Try.sizeOf97]⟩
instance ty_sz101 : TySz Try.prog 101 1 := ⟨Try.sizeOf101⟩
instance ty_agg101 : TyAgg Try.prog 101 false := ⟨Try.isAgg101⟩
instance ty_z101 : TyZ Try.prog 101 (.nilFunc) := ⟨Try.zeroValue101⟩
instance ty_sz102 : TySz Try.prog 102 1 := ⟨Try.sizeOf102⟩
instance ty_agg102 : TyAgg Try.prog 102 false := ⟨Try.isAgg102⟩
instance ty_z102 : TyZ Try.prog 102 (.nilFunc) := ⟨Try.zeroValue102⟩
instance ty_sz103 : TySz Try.prog 103 1 := ⟨Try.sizeOf103⟩
instance ty_agg103 : TyAgg Try.prog 103 false := ⟨Try.isAgg103⟩
instance ty_z103 : TyZ Try.prog 103 (.nilFunc) := ⟨Try.zeroValue103⟩
instance ty_sz104 : TySz Try.prog 104 1 := ⟨Try.sizeOf104⟩
instance ty_agg104 : TyAgg Try.prog 104 false := ⟨Try.isAgg104⟩
instance ty_z104 : TyZ Try.prog 104 (.nilFunc) := ⟨Try.zeroValue104⟩
instance ty_sz106 : TySz Try.prog 106 1 := ⟨Try.sizeOf106⟩
instance ty_agg106 : TyAgg Try.prog 106 false := ⟨Try.isAgg106⟩
instance ty_z106 : TyZ Try.prog 106 (.nilFunc) := ⟨Try.zeroValue106⟩
instance ty_sz107 : TySz Try.prog 107 1 := ⟨Try.sizeOf107⟩
instance ty_agg107 : TyAgg Try.prog 107 false := ⟨Try.isAgg107⟩
instance ty_z107 : TyZ Try.prog 107 (.nilFunc) := ⟨Try.zeroValue107⟩
instance ty_sz108 : TySz Try.prog 108 1 := ⟨Try.sizeOf108⟩
instance ty_agg108 : TyAgg Try.prog 108 false := ⟨Try.isAgg108⟩
instance ty_z108 : TyZ Try.prog 108 (.nilFunc) := ⟨Try.zeroValue108⟩
instance ty_sz109 : TySz Try.prog 109 1 := ⟨Try.sizeOf109⟩
instance ty_agg109 : TyAgg Try.prog 109 false := ⟨Try.isAgg109⟩
instance ty_z109 : TyZ Try.prog 109 (.nilFunc) := ⟨Try.zeroValue109⟩
instance ty_sz110 : TySz Try.prog 110 1 := ⟨Try.sizeOf110⟩
instance ty_agg110 : TyAgg Try.prog 110 false := ⟨Try.isAgg110⟩
instance ty_z110 : TyZ Try.prog 110 (.nilFunc) := ⟨Try.zeroValue110⟩
instance ty_sz111 : TySz Try.prog 111 1 := ⟨Try.sizeOf111⟩
instance ty_agg111 : TyAgg Try.prog 111 false := ⟨Try.isAgg111⟩
instance ty_z111 : TyZ Try.prog 111 (.nilFunc) := ⟨Try.zeroValue111⟩
instance ty_sz112 : TySz Try.prog 112 1 := ⟨Try.sizeOf112⟩
instance ty_agg112 : TyAgg Try.prog 112 false := ⟨Try.isAgg112⟩
instance ty_z112 : TyZ Try.prog 112 (.pointer none) := ⟨Try.zeroValue112⟩
instance ty_ptr112 : TyPtr Try.prog 112 := ⟨⟨_, Try.underlying112⟩⟩
instance ty_sz113 : TySz Try.prog 113 1 := ⟨Try.sizeOf113⟩
instance ty_agg113 : TyAgg Try.prog 113 false := ⟨Try.isAgg113⟩
instance ty_z113 : TyZ Try.prog 113 (.int .u32 0) := ⟨Try.zeroValue113⟩
instance ty_int113 : TyInt Try.prog 113 .u32 := ⟨Try.underlying113⟩
instance ty_sz115 : TySz Try.prog 115 1 := ⟨Try.sizeOf115⟩
instance ty_agg115 : TyAgg Try.prog 115 false := ⟨Try.isAgg115⟩
instance ty_z115 : TyZ Try.prog 115 (.nilFunc) := ⟨Try.zeroValue115⟩
instance ty_sz116 : TySz Try.prog 116 1 := ⟨Try.sizeOf116⟩
instance ty_agg116 : TyAgg Try.prog 116 false := ⟨Try.isAgg116⟩
instance ty_z116 : TyZ Try.prog 116 (.int .u64 0) := ⟨Try.zeroValue116⟩
instance ty_int116 : TyInt Try.prog 116 .u64 := ⟨Try.underlying116⟩
instance ty_sz118 : TySz Try.prog 118 1 := ⟨Try.sizeOf118⟩
instance ty_agg118 : TyAgg Try.prog 118 false := ⟨Try.isAgg118⟩
instance ty_z118 : TyZ Try.prog 118 (.nilFunc) := ⟨Try.zeroValue118⟩
instance ty_sz119 : TySz Try.prog 119 1 := ⟨Try.sizeOf119⟩
instance ty_agg119 : TyAgg Try.prog 119 false := ⟨Try.isAgg119⟩
instance ty_z119 : TyZ Try.prog 119 (.nilFunc) := ⟨Try.zeroValue119⟩
instance ty_sz120 : TySz Try.prog 120 1 := ⟨Try.sizeOf120⟩
instance ty_agg120 : TyAgg Try.prog 120 false := ⟨Try.isAgg120⟩
instance ty_z120 : TyZ Try.prog 120 (.nilFunc) := ⟨Try.zeroValue120⟩
instance ty_sz121 : TySz Try.prog 121 1 := ⟨Try.sizeOf121⟩
instance ty_agg121 : TyAgg Try.prog 121 false := ⟨Try.isAgg121⟩
instance ty_z121 : TyZ Try.prog 121 (.nilFunc) := ⟨Try.zeroValue121⟩
instance ty_sz122 : TySz Try.prog 122 1 := ⟨Try.sizeOf122⟩
instance ty_agg122 : TyAgg Try.prog 122 false := ⟨Try.isAgg122⟩
instance ty_z122 : TyZ Try.prog 122 (.nilFunc) := ⟨Try.zeroValue122⟩
instance ty_sz123 : TySz Try.prog 123 1 := ⟨Try.sizeOf123⟩
instance ty_agg123 : TyAgg Try.prog 123 false := ⟨Try.isAgg123⟩
instance ty_z123 : TyZ Try.prog 123 (.nilFunc) := ⟨Try.zeroValue123⟩
instance ty_sz124 : TySz Try.prog 124 1 := ⟨Try.sizeOf124⟩
instance ty_agg124 : TyAgg Try.prog 124 false := ⟨Try.isAgg124⟩
instance ty_z124 : TyZ Try.prog 124 (.nilFunc) := ⟨Try.zeroValue124⟩
instance ty_sz125 : TySz Try.prog 125 1 := ⟨Try.sizeOf125⟩
instance ty_agg125 : TyAgg Try.prog 125 false := ⟨Try.isAgg125⟩
instance ty_z125 : TyZ Try.prog 125 (.nilFunc) := ⟨Try.zeroValue125⟩
instance ty_sz126 : TySz Try.prog 126 1 := ⟨Try.sizeOf126⟩
instance ty_agg126 : TyAgg Try.prog 126 false := ⟨Try.isAgg126⟩
instance ty_z126 : TyZ Try.prog 126 (.nilFunc) := ⟨Try.zeroValue126⟩
instance ty_sz127 : TySz Try.prog 127 1 := ⟨Try.sizeOf127⟩
instance ty_agg127 : TyAgg Try.prog 127 false := ⟨Try.isAgg127⟩
instance ty_z127 : TyZ Try.prog 127 (.nilFunc) := ⟨Try.zeroValue127⟩
instance ty_sz128 : TySz Try.prog 128 1 := ⟨Try.sizeOf128⟩
instance ty_agg128 : TyAgg Try.prog 128 false := ⟨Try.isAgg128⟩
instance ty_z128 : TyZ Try.prog 128 (.nilFunc) := ⟨Try.zeroValue128⟩
instance ty_sz129 : TySz Try.prog 129 1 := ⟨Try.sizeOf129⟩
instance ty_agg129 : TyAgg Try.prog 129 false := ⟨Try.isAgg129⟩
instance ty_z129 : TyZ Try.prog 129 (.int .i64 0) := ⟨Try.zeroValue129⟩
instance ty_int129 : TyInt Try.prog 129 .i64 := ⟨Try.underlying129⟩
instance ty_sz131 : TySz Try.prog 131 1 := ⟨Try.sizeOf131⟩
instance ty_agg131 : TyAgg Try.prog 131 false := ⟨Try.isAgg131⟩
instance ty_z131 : TyZ Try.prog 131 (.nilFunc) := ⟨Try.zeroValue131⟩
instance ty_sz132 : TySz Try.prog 132 1 := ⟨Try.sizeOf132⟩
instance ty_agg132 : TyAgg Try.prog 132 false := ⟨Try.isAgg132⟩
instance ty_z132 : TyZ Try.prog 132 (.nilFunc) := ⟨Try.zeroValue132⟩
instance ty_sz133 : TySz Try.prog 133 1 := ⟨Try.sizeOf133⟩
instance ty_agg133 : TyAgg Try.prog 133 false := ⟨Try.isAgg133⟩
instance ty_z133 : TyZ Try.prog 133 (.nilFunc) := ⟨Try.zeroValue133⟩
instance ty_sz134 : TySz Try.prog 134 1 := ⟨Try.sizeOf134⟩
instance ty_agg134 : TyAgg Try.prog 134 false := ⟨Try.isAgg134⟩
instance ty_z134 : TyZ Try.prog 134 (.nilFunc) := ⟨Try.zeroValue134⟩
instance ty_sz136 : TySz Try.prog 136 1 := ⟨Try.sizeOf136⟩
instance ty_agg136 : TyAgg Try.prog 136 false := ⟨Try.isAgg136⟩
instance ty_z136 : TyZ Try.prog 136 (.nilFunc) := ⟨Try.zeroValue136⟩
instance ty_sz137 : TySz Try.prog 137 1 := ⟨Try.sizeOf137⟩
instance ty_agg137 : TyAgg Try.prog 137 false := ⟨Try.isAgg137⟩
instance ty_z137 : TyZ Try.prog 137 (.nilFunc) := ⟨Try.zeroValue137⟩
instance ty_sz138 : TySz Try.prog 138 1 := ⟨Try.sizeOf138⟩
instance ty_agg138 : TyAgg Try.prog 138 false := ⟨Try.isAgg138⟩
instance ty_z138 : TyZ Try.prog 138 (.nilFunc) := ⟨Try.zeroValue138⟩
instance ty_sz139 : TySz Try.prog 139 1 := ⟨Try.sizeOf139⟩
instance ty_agg139 : TyAgg Try.prog 139 false := ⟨Try.isAgg139⟩
instance ty_z139 : TyZ Try.prog 139 (.int .u64 0) := ⟨Try.zeroValue139⟩
instance ty_int139 : TyInt Try.prog 139 .u64 := ⟨Try.underlying139⟩
instance ty_sz140 : TySz Try.prog 140 1 := ⟨Try.sizeOf140⟩
instance ty_agg140 : TyAgg Try.prog 140 false := ⟨Try.isAgg140⟩
instance ty_z140 : TyZ Try.prog 140 (.nilFunc) := ⟨Try.zeroValue140⟩
instance ty_sz141 : TySz Try.prog 141 1 := ⟨Try.sizeOf141⟩
instance ty_agg141 : TyAgg Try.prog 141 false := ⟨Try.isAgg141⟩
instance ty_z141 : TyZ Try.prog 141 (.nilFunc) := ⟨Try.zeroValue141⟩
instance ty_sz142 : TySz Try.prog 142 1 := ⟨Try.sizeOf142⟩
instance ty_agg142 : TyAgg Try.prog 142 false := ⟨Try.isAgg142⟩
instance ty_z142 : TyZ Try.prog 142 (.nilFunc) := ⟨Try.zeroValue142⟩
instance ty_sz143 : TySz Try.prog 143 1 := ⟨Try.sizeOf143⟩
instance ty_agg143 : TyAgg Try.prog 143 false := ⟨Try.isAgg143⟩
instance ty_z143 : TyZ Try.prog 143 (.pointer none) := ⟨Try.zeroValue143⟩
instance ty_ptr143 : TyPtr Try.prog 143 := ⟨⟨_, Try.underlying143⟩⟩
instance ty_sz144 : TySz Try.prog 144 1 := ⟨Try.sizeOf144⟩
instance ty_agg144 : TyAgg Try.prog 144 false := ⟨Try.isAgg144⟩
instance ty_z144 : TyZ Try.prog 144 (.nilFunc) := ⟨Try.zeroValue144⟩
instance ty_sz145 : TySz Try.prog 145 1 := ⟨Try.sizeOf145⟩
instance ty_agg145 : TyAgg Try.prog 145 false := ⟨Try.isAgg145⟩
instance ty_z145 : TyZ Try.prog 145 (.pointer none) := ⟨Try.zeroValue145⟩
instance ty_ptr145 : TyPtr Try.prog 145 := ⟨⟨_, Try.underlying145⟩⟩
instance ty_sz147 : TySz Try.prog 147 1 := ⟨Try.sizeOf147⟩
instance ty_agg147 : TyAgg Try.prog 147 false := ⟨Try.isAgg147⟩
instance ty_z147 : TyZ Try.prog 147 (.nilFunc) := ⟨Try.zeroValue147⟩
instance ty_sz148 : TySz Try.prog 148 1 := ⟨Try.sizeOf148⟩
instance ty_agg148 : TyAgg Try.prog 148 false := ⟨Try.isAgg148⟩
instance ty_z148 : TyZ Try.prog 148 (.nilFunc) := ⟨Try.zeroValue148⟩
instance ty_sz149 : TySz Try.prog 149 4 := ⟨Try.sizeOf149⟩
instance ty_agg149 : TyAgg Try.prog 149 true := ⟨Try.isAgg149⟩
instance ty_z149 : TyZ Try.prog 149 (.agg #[.pointer none, .pointer none, .pointer none, .string ⟨#[]⟩]) := ⟨Try.zeroValue149⟩
instance ty_str149 : TyStr Try.prog 149 [(0, 1), (1, 1), (2, 1), (3, 1)] [.pointer none, .pointer none, .pointer none, .string ⟨#[]⟩] := ⟨fun ps => by kernel_rfl⟩
instance ty_f149_0 : FOff Try.prog 149 0 0 := ⟨fun a w => by simp [Instr.fieldAt, Instr.sureAddr, fieldPlace, run_underlying Try.underlying149, Try.sizeOf17]⟩
instance ty_f149_1 : FOff Try.prog 149 1 1 := ⟨fun a w => by simp [Instr.fieldAt, Instr.sureAddr, fieldPlace, run_underlying Try.underlying149, Try.sizeOf17]⟩
instance ty_f149_2 : FOff Try.prog 149 2 2 := ⟨fun a w => by simp [Instr.fieldAt, Instr.sureAddr, fieldPlace, run_underlying Try.underlying149, Try.sizeOf17]⟩
instance ty_f149_3 : FOff Try.prog 149 3 3 := ⟨fun a w => by simp [Instr.fieldAt, Instr.sureAddr, fieldPlace, run_underlying Try.underlying149, Try.sizeOf9]⟩
instance ty_sz150 : TySz Try.prog 150 4 := ⟨Try.sizeOf150⟩
instance ty_agg150 : TyAgg Try.prog 150 true := ⟨Try.isAgg150⟩
instance ty_z150 : TyZ Try.prog 150 (.agg #[.pointer none, .pointer none, .pointer none, .string ⟨#[]⟩]) := ⟨Try.zeroValue150⟩
instance ty_str150 : TyStr Try.prog 150 [(0, 1), (1, 1), (2, 1), (3, 1)] [.pointer none, .pointer none, .pointer none, .string ⟨#[]⟩] := ⟨fun ps => by kernel_rfl⟩
instance ty_f150_0 : FOff Try.prog 150 0 0 := ⟨fun a w => by simp [Instr.fieldAt, Instr.sureAddr, fieldPlace, run_underlying Try.underlying150, Try.sizeOf17]⟩
instance ty_f150_1 : FOff Try.prog 150 1 1 := ⟨fun a w => by simp [Instr.fieldAt, Instr.sureAddr, fieldPlace, run_underlying Try.underlying150, Try.sizeOf17]⟩
instance ty_f150_2 : FOff Try.prog 150 2 2 := ⟨fun a w => by simp [Instr.fieldAt, Instr.sureAddr, fieldPlace, run_underlying Try.underlying150, Try.sizeOf17]⟩
instance ty_f150_3 : FOff Try.prog 150 3 3 := ⟨fun a w => by simp [Instr.fieldAt, Instr.sureAddr, fieldPlace, run_underlying Try.underlying150, Try.sizeOf9]⟩
instance ty_sz151 : TySz Try.prog 151 0 := ⟨Try.sizeOf151⟩
instance ty_agg151 : TyAgg Try.prog 151 true := ⟨Try.isAgg151⟩
instance ty_z151 : TyZ Try.prog 151 (.agg #[]) := ⟨Try.zeroValue151⟩
instance ty_ar151 : TyAr Try.prog 151 16 1 0 := ⟨Try.underlying151, Try.sizeOf16⟩
instance ty_sz152 : TySz Try.prog 152 0 := ⟨Try.sizeOf152⟩
instance ty_agg152 : TyAgg Try.prog 152 true := ⟨Try.isAgg152⟩
instance ty_z152 : TyZ Try.prog 152 (.agg #[]) := ⟨Try.zeroValue152⟩
instance ty_sz153 : TySz Try.prog 153 0 := ⟨Try.sizeOf153⟩
instance ty_agg153 : TyAgg Try.prog 153 true := ⟨Try.isAgg153⟩
instance ty_z153 : TyZ Try.prog 153 (.agg #[]) := ⟨Try.zeroValue153⟩
instance ty_sz154 : TySz Try.prog 154 1 := ⟨Try.sizeOf154⟩
instance ty_agg154 : TyAgg Try.prog 154 false := ⟨Try.isAgg154⟩
instance ty_z154 : TyZ Try.prog 154 (.int .u8 0) := ⟨Try.zeroValue154⟩
instance ty_int154 : TyInt Try.prog 154 .u8 := ⟨Try.underlying154⟩
instance ty_sz155 : TySz Try.prog 155 1 := ⟨Try.sizeOf155⟩
instance ty_agg155 : TyAgg Try.prog 155 false := ⟨Try.isAgg155⟩
instance ty_z155 : TyZ Try.prog 155 (.int .u8 0) := ⟨Try.zeroValue155⟩
instance ty_int155 : TyInt Try.prog 155 .u8 := ⟨Try.underlying155⟩
instance ty_sz156 : TySz Try.prog 156 1 := ⟨Try.sizeOf156⟩
instance ty_agg156 : TyAgg Try.prog 156 false := ⟨Try.isAgg156⟩
instance ty_z156 : TyZ Try.prog 156 (.nilFunc) := ⟨Try.zeroValue156⟩
instance ty_sz157 : TySz Try.prog 157 1 := ⟨Try.sizeOf157⟩
instance ty_agg157 : TyAgg Try.prog 157 false := ⟨Try.isAgg157⟩
instance ty_z157 : TyZ Try.prog 157 (.pointer none) := ⟨Try.zeroValue157⟩
instance ty_ptr157 : TyPtr Try.prog 157 := ⟨⟨_, Try.underlying157⟩⟩
instance ty_sz158 : TySz Try.prog 158 1 := ⟨Try.sizeOf158⟩
instance ty_agg158 : TyAgg Try.prog 158 false := ⟨Try.isAgg158⟩
instance ty_z158 : TyZ Try.prog 158 (.int .i32 0) := ⟨Try.zeroValue158⟩
instance ty_int158 : TyInt Try.prog 158 .i32 := ⟨Try.underlying158⟩
instance ty_sz159 : TySz Try.prog 159 1 := ⟨Try.sizeOf159⟩
instance ty_agg159 : TyAgg Try.prog 159 false := ⟨Try.isAgg159⟩
instance ty_z159 : TyZ Try.prog 159 (.int .i32 0) := ⟨Try.zeroValue159⟩
instance ty_int159 : TyInt Try.prog 159 .i32 := ⟨Try.underlying159⟩
instance ty_sz160 : TySz Try.prog 160 11 := ⟨Try.sizeOf160⟩
instance ty_agg160 : TyAgg Try.prog 160 true := ⟨Try.isAgg160⟩
instance ty_z160 : TyZ Try.prog 160 (.agg #[.int .u64 0, .int .u64 0, .int .u32 0, .int .u8 0, .int .u8 0, .int .u8 0, .int .u8 0, .nilFunc, .pointer none, .int .i32 0, .int .i32 0]) := ⟨Try.zeroValue160⟩
instance ty_str160 : TyStr Try.prog 160 [(0, 1), (1, 1), (2, 1), (3, 1), (4, 1), (5, 1), (6, 1), (7, 1), (8, 1), (9, 1), (10, 1)] [.int .u64 0, .int .u64 0, .int .u32 0, .int .u8 0, .int .u8 0, .int .u8 0, .int .u8 0, .nilFunc, .pointer none, .int .i32 0, .int .i32 0] := ⟨fun ps => by kernel_rfl⟩
instance ty_f160_0 : FOff Try.prog 160 0 0 := ⟨fun a w => by simp [Instr.fieldAt, Instr.sureAddr, fieldPlace, run_underlying Try.underlying160, Try.sizeOf12]⟩
instance ty_f160_1 : FOff Try.prog 160 1 1 := ⟨fun a w => by simp [Instr.fieldAt, Instr.sureAddr, fieldPlace, run_underlying Try.underlying160, Try.sizeOf12]⟩
instance ty_f160_2 : FOff Try.prog 160 2 2 := ⟨fun a w => by simp [Instr.fieldAt, Instr.sureAddr, fieldPlace, run_underlying Try.underlying160, Try.sizeOf113]⟩
instance ty_f160_3 : FOff Try.prog 160 3 3 := ⟨fun a w => by simp [Instr.fieldAt, Instr.sureAddr, fieldPlace, run_underlying Try.underlying160, Try.sizeOf154]⟩
instance ty_f160_4 : FOff Try.prog 160 4 4 := ⟨fun a w => by simp [Instr.fieldAt, Instr.sureAddr, fieldPlace, run_underlying Try.underlying160, Try.sizeOf5]⟩
instance ty_f160_5 : FOff Try.prog 160 5 5 := ⟨fun a w => by simp [Instr.fieldAt, Instr.sureAddr, fieldPlace, run_underlying Try.underlying160, Try.sizeOf5]⟩
instance ty_f160_6 : FOff Try.prog 160 6 6 := ⟨fun a w => by simp [Instr.fieldAt, Instr.sureAddr, fieldPlace, run_underlying Try.underlying160, Try.sizeOf155]⟩
instance ty_f160_7 : FOff Try.prog 160 7 7 := ⟨fun a w => by simp [Instr.fieldAt, Instr.sureAddr, fieldPlace, run_underlying Try.underlying160, Try.sizeOf156]⟩
instance ty_f160_8 : FOff Try.prog 160 8 8 := ⟨fun a w => by simp [Instr.fieldAt, Instr.sureAddr, fieldPlace, run_underlying Try.underlying160, Try.sizeOf157]⟩
instance ty_f160_9 : FOff Try.prog 160 9 9 := ⟨fun a w => by simp [Instr.fieldAt, Instr.sureAddr, fieldPlace, run_underlying Try.underlying160, Try.sizeOf158]⟩
instance ty_f160_10 : FOff Try.prog 160 10 10 := ⟨fun a w => by simp [Instr.fieldAt, Instr.sureAddr, fieldPlace, run_underlying Try.underlying160, Try.sizeOf159]⟩
instance ty_sz161 : TySz Try.prog 161 11 := ⟨Try.sizeOf161⟩
instance ty_agg161 : TyAgg Try.prog 161 true := ⟨Try.isAgg161⟩
instance ty_z161 : TyZ Try.prog 161 (.agg #[.int .u64 0, .int .u64 0, .int .u32 0, .int .u8 0, .int .u8 0, .int .u8 0, .int .u8 0, .nilFunc, .pointer none, .int .i32 0, .int .i32 0]) := ⟨Try.zeroValue161⟩
instance ty_str161 : TyStr Try.prog 161 [(0, 1), (1, 1), (2, 1), (3, 1), (4, 1), (5, 1), (6, 1), (7, 1), (8, 1), (9, 1), (10, 1)] [.int .u64 0, .int .u64 0, .int .u32 0, .int .u8 0, .int .u8 0, .int .u8 0, .int .u8 0, .nilFunc, .pointer none, .int .i32 0, .int .i32 0] := ⟨fun ps => by kernel_rfl⟩
instance ty_f161_0 : FOff Try.prog 161 0 0 := ⟨fun a w => by simp [Instr.fieldAt, Instr.sureAddr, fieldPlace, run_underlying Try.underlying161, Try.sizeOf12]⟩
instance ty_f161_1 : FOff Try.prog 161 1 1 := ⟨fun a w => by simp [Instr.fieldAt, Instr.sureAddr, fieldPlace, run_underlying Try.underlying161, Try.sizeOf12]⟩
instance ty_f161_2 : FOff Try.prog 161 2 2 := ⟨fun a w => by simp [Instr.fieldAt, Instr.sureAddr, fieldPlace, run_underlying Try.underlying161, Try.sizeOf113]⟩
instance ty_f161_3 : FOff Try.prog 161 3 3 := ⟨fun a w => by simp [Instr.fieldAt, Instr.sureAddr, fieldPlace, run_underlying Try.underlying161, Try.sizeOf154]⟩
instance ty_f161_4 : FOff Try.prog 161 4 4 := ⟨fun a w => by simp [Instr.fieldAt, Instr.sureAddr, fieldPlace, run_underlying Try.underlying161, Try.sizeOf5]⟩
instance ty_f161_5 : FOff Try.prog 161 5 5 := ⟨fun a w => by simp [Instr.fieldAt, Instr.sureAddr, fieldPlace, run_underlying Try.underlying161, Try.sizeOf5]⟩
instance ty_f161_6 : FOff Try.prog 161 6 6 := ⟨fun a w => by simp [Instr.fieldAt, Instr.sureAddr, fieldPlace, run_underlying Try.underlying161, Try.sizeOf155]⟩
instance ty_f161_7 : FOff Try.prog 161 7 7 := ⟨fun a w => by simp [Instr.fieldAt, Instr.sureAddr, fieldPlace, run_underlying Try.underlying161, Try.sizeOf156]⟩
instance ty_f161_8 : FOff Try.prog 161 8 8 := ⟨fun a w => by simp [Instr.fieldAt, Instr.sureAddr, fieldPlace, run_underlying Try.underlying161, Try.sizeOf157]⟩
instance ty_f161_9 : FOff Try.prog 161 9 9 := ⟨fun a w => by simp [Instr.fieldAt, Instr.sureAddr, fieldPlace, run_underlying Try.underlying161, Try.sizeOf158]⟩
instance ty_f161_10 : FOff Try.prog 161 10 10 := ⟨fun a w => by simp [Instr.fieldAt, Instr.sureAddr, fieldPlace, run_underlying Try.underlying161, Try.sizeOf159]⟩
instance ty_sz162 : TySz Try.prog 162 1 := ⟨Try.sizeOf162⟩
instance ty_agg162 : TyAgg Try.prog 162 false := ⟨Try.isAgg162⟩
instance ty_z162 : TyZ Try.prog 162 (.pointer none) := ⟨Try.zeroValue162⟩
instance fn_ok2 : FnOk Try.prog 2 := ⟨Try.call2⟩
instance fn_ok3 : FnOk Try.prog 3 := ⟨Try.call3⟩
instance fn_ok4 : FnOk Try.prog 4 := ⟨Try.call4⟩
instance fn_ok5 : FnOk Try.prog 5 := ⟨Try.call5⟩
instance fn_ok6 : FnOk Try.prog 6 := ⟨Try.call6⟩
instance fn_ok7 : FnOk Try.prog 7 := ⟨Try.call7⟩
instance fn_ok8 : FnOk Try.prog 8 := ⟨Try.call8⟩
instance fn_ok9 : FnOk Try.prog 9 := ⟨Try.call9⟩
instance fn_ok10 : FnOk Try.prog 10 := ⟨Try.call10⟩
instance fn_ok11 : FnOk Try.prog 11 := ⟨Try.call11⟩
instance fn_ok12 : FnOk Try.prog 12 := ⟨Try.call12⟩
instance fn_ok13 : FnOk Try.prog 13 := ⟨Try.call13⟩
instance fn_ok14 : FnOk Try.prog 14 := ⟨Try.call14⟩
instance fn_ok15 : FnOk Try.prog 15 := ⟨Try.call15⟩
instance fn_ok16 : FnOk Try.prog 16 := ⟨Try.call16⟩
instance fn_ok17 : FnOk Try.prog 17 := ⟨Try.call17⟩
instance fn_ok18 : FnOk Try.prog 18 := ⟨Try.call18⟩
instance fn_ok19 : FnOk Try.prog 19 := ⟨Try.call19⟩
instance fn_ok20 : FnOk Try.prog 20 := ⟨Try.call20⟩
instance fn_ok21 : FnOk Try.prog 21 := ⟨Try.call21⟩
instance fn_ok22 : FnOk Try.prog 22 := ⟨Try.call22⟩
instance fn_ok23 : FnOk Try.prog 23 := ⟨Try.call23⟩
instance fn_ok24 : FnOk Try.prog 24 := ⟨Try.call24⟩
instance fn_ok25 : FnOk Try.prog 25 := ⟨Try.call25⟩
instance fn_ok26 : FnOk Try.prog 26 := ⟨Try.call26⟩
instance fn_ok27 : FnOk Try.prog 27 := ⟨Try.call27⟩
instance fn_ok28 : FnOk Try.prog 28 := ⟨Try.call28⟩
instance fn_ok29 : FnOk Try.prog 29 := ⟨Try.call29⟩
instance fn_ok30 : FnOk Try.prog 30 := ⟨Try.call30⟩
instance fn_ok31 : FnOk Try.prog 31 := ⟨Try.call31⟩
instance fn_ok32 : FnOk Try.prog 32 := ⟨Try.call32⟩
instance fn_ok33 : FnOk Try.prog 33 := ⟨Try.call33⟩
instance fn_ok34 : FnOk Try.prog 34 := ⟨Try.call34⟩
instance fn_ok35 : FnOk Try.prog 35 := ⟨Try.call35⟩
instance fn_ok36 : FnOk Try.prog 36 := ⟨Try.call36⟩
instance fn_ok37 : FnOk Try.prog 37 := ⟨Try.call37⟩
instance fn_ok38 : FnOk Try.prog 38 := ⟨Try.call38⟩
instance fn_ok39 : FnOk Try.prog 39 := ⟨Try.call39⟩
instance fn_ok40 : FnOk Try.prog 40 := ⟨Try.call40⟩
instance fn_ok41 : FnOk Try.prog 41 := ⟨Try.call41⟩
instance fn_ok42 : FnOk Try.prog 42 := ⟨Try.call42⟩
instance fn_ok43 : FnOk Try.prog 43 := ⟨Try.call43⟩
instance fn_ok44 : FnOk Try.prog 44 := ⟨Try.call44⟩
instance fn_ok45 : FnOk Try.prog 45 := ⟨Try.call45⟩
instance fn_ok46 : FnOk Try.prog 46 := ⟨Try.call46⟩
instance fn_ok47 : FnOk Try.prog 47 := ⟨Try.call47⟩
instance fn_ok48 : FnOk Try.prog 48 := ⟨Try.call48⟩
instance fn_ok49 : FnOk Try.prog 49 := ⟨Try.call49⟩
instance fn_ok50 : FnOk Try.prog 50 := ⟨Try.call50⟩
instance fn_ok51 : FnOk Try.prog 51 := ⟨Try.call51⟩
instance fn_ok52 : FnOk Try.prog 52 := ⟨Try.call52⟩
instance fn_ok53 : FnOk Try.prog 53 := ⟨Try.call53⟩
instance fn_ok54 : FnOk Try.prog 54 := ⟨Try.call54⟩
instance fn_ok55 : FnOk Try.prog 55 := ⟨Try.call55⟩
instance fn_ok56 : FnOk Try.prog 56 := ⟨Try.call56⟩
instance fn_ok57 : FnOk Try.prog 57 := ⟨Try.call57⟩
instance fn_ok58 : FnOk Try.prog 58 := ⟨Try.call58⟩
instance fn_ok59 : FnOk Try.prog 59 := ⟨Try.call59⟩
instance fn_ok60 : FnOk Try.prog 60 := ⟨Try.call60⟩
instance fn_ok61 : FnOk Try.prog 61 := ⟨Try.call61⟩
instance fn_ok62 : FnOk Try.prog 62 := ⟨Try.call62⟩
instance fn_ok63 : FnOk Try.prog 63 := ⟨Try.call63⟩
instance fn_ok64 : FnOk Try.prog 64 := ⟨Try.call64⟩
instance fn_ok65 : FnOk Try.prog 65 := ⟨Try.call65⟩
instance fn_ok66 : FnOk Try.prog 66 := ⟨Try.call66⟩
instance fn_ok67 : FnOk Try.prog 67 := ⟨Try.call67⟩
instance fn_ok68 : FnOk Try.prog 68 := ⟨Try.call68⟩
instance fn_ok69 : FnOk Try.prog 69 := ⟨Try.call69⟩
instance fn_ok70 : FnOk Try.prog 70 := ⟨Try.call70⟩
instance fn_ok71 : FnOk Try.prog 71 := ⟨Try.call71⟩
instance fn_ok72 : FnOk Try.prog 72 := ⟨Try.call72⟩
instance fn_ok73 : FnOk Try.prog 73 := ⟨Try.call73⟩
instance fn_ok74 : FnOk Try.prog 74 := ⟨Try.call74⟩
instance fn_ok75 : FnOk Try.prog 75 := ⟨Try.call75⟩
instance fn_ok76 : FnOk Try.prog 76 := ⟨Try.call76⟩
instance fn_ok77 : FnOk Try.prog 77 := ⟨Try.call77⟩
instance fn_ok78 : FnOk Try.prog 78 := ⟨Try.call78⟩
instance fn_ok79 : FnOk Try.prog 79 := ⟨Try.call79⟩
instance fn_ok80 : FnOk Try.prog 80 := ⟨Try.call80⟩
instance fn_ok81 : FnOk Try.prog 81 := ⟨Try.call81⟩
instance fn_ok82 : FnOk Try.prog 82 := ⟨Try.call82⟩
instance fn_ok83 : FnOk Try.prog 83 := ⟨Try.call83⟩
instance fn_ok84 : FnOk Try.prog 84 := ⟨Try.call84⟩
instance fn_ok85 : FnOk Try.prog 85 := ⟨Try.call85⟩
instance fn_ok86 : FnOk Try.prog 86 := ⟨Try.call86⟩
instance fn_ok87 : FnOk Try.prog 87 := ⟨Try.call87⟩
instance fn_ok88 : FnOk Try.prog 88 := ⟨Try.call88⟩
instance fn_ok89 : FnOk Try.prog 89 := ⟨Try.call89⟩
instance fn_ok90 : FnOk Try.prog 90 := ⟨Try.call90⟩
instance fn_ok91 : FnOk Try.prog 91 := ⟨Try.call91⟩
instance fn_ok92 : FnOk Try.prog 92 := ⟨Try.call92⟩
instance fn_ok93 : FnOk Try.prog 93 := ⟨Try.call93⟩
instance fn_ok94 : FnOk Try.prog 94 := ⟨Try.call94⟩
instance fn_ok95 : FnOk Try.prog 95 := ⟨Try.call95⟩
instance fn_ok96 : FnOk Try.prog 96 := ⟨Try.call96⟩
instance fn_ok97 : FnOk Try.prog 97 := ⟨Try.call97⟩
instance fn_ok98 : FnOk Try.prog 98 := ⟨Try.call98⟩
instance fn_ok99 : FnOk Try.prog 99 := ⟨Try.call99⟩
instance fn_ok100 : FnOk Try.prog 100 := ⟨Try.call100⟩
instance fn_ok101 : FnOk Try.prog 101 := ⟨Try.call101⟩
instance fn_ok102 : FnOk Try.prog 102 := ⟨Try.call102⟩
instance fn_ok103 : FnOk Try.prog 103 := ⟨Try.call103⟩
instance fn_ok104 : FnOk Try.prog 104 := ⟨Try.call104⟩
instance fn_ok105 : FnOk Try.prog 105 := ⟨Try.call105⟩
theorem mixed : Try.prog.follows .mixedOrders = true := by kernel_rfl
end Go.Proofs.Ytpiodhdbdlfnhaa
