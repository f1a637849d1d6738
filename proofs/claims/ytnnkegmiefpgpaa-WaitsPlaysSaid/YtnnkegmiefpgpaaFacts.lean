/- What Eng's laws ask of this program's types and functions. -/
import Derived.Test.YtnnkegmiefpgpaaProg
import Derived.Test.YtnnkegmiefpgpaaMore
namespace Go.Proofs.Ytnnkegmiefpgpaa
open Go.Proofs
set_option maxRecDepth 100000
instance ty_sz1 : TySz Try.prog 1 1 := ⟨Try.sizeOf1⟩
instance ty_agg1 : TyAgg Try.prog 1 false := ⟨Try.isAgg1⟩
instance ty_z1 : TyZ Try.prog 1 (.nilFunc) := ⟨Try.zeroValue1⟩
instance ty_sz2 : TySz Try.prog 2 1 := ⟨Try.sizeOf2⟩
instance ty_agg2 : TyAgg Try.prog 2 false := ⟨Try.isAgg2⟩
instance ty_z2 : TyZ Try.prog 2 (.int .i64 0) := ⟨Try.zeroValue2⟩
instance ty_int2 : TyInt Try.prog 2 .i64 := ⟨Try.underlying2⟩
instance ty_sz3 : TySz Try.prog 3 1 := ⟨Try.sizeOf3⟩
instance ty_agg3 : TyAgg Try.prog 3 false := ⟨Try.isAgg3⟩
instance ty_z3 : TyZ Try.prog 3 (.int .i64 0) := ⟨Try.zeroValue3⟩
instance ty_int3 : TyInt Try.prog 3 .i64 := ⟨Try.underlying3⟩
instance ty_sz4 : TySz Try.prog 4 1 := ⟨Try.sizeOf4⟩
instance ty_agg4 : TyAgg Try.prog 4 false := ⟨Try.isAgg4⟩
instance ty_z4 : TyZ Try.prog 4 (.bool false) := ⟨Try.zeroValue4⟩
instance ty_bool4 : TyBool Try.prog 4 := ⟨Try.underlying4⟩
instance ty_sz5 : TySz Try.prog 5 1 := ⟨Try.sizeOf5⟩
instance ty_agg5 : TyAgg Try.prog 5 false := ⟨Try.isAgg5⟩
instance ty_z5 : TyZ Try.prog 5 (.int .u8 0) := ⟨Try.zeroValue5⟩
instance ty_int5 : TyInt Try.prog 5 .u8 := ⟨Try.underlying5⟩
instance ty_sz6 : TySz Try.prog 6 1 := ⟨Try.sizeOf6⟩
instance ty_agg6 : TyAgg Try.prog 6 false := ⟨Try.isAgg6⟩
instance ty_z6 : TyZ Try.prog 6 (.int .u8 0) := ⟨Try.zeroValue6⟩
instance ty_int6 : TyInt Try.prog 6 .u8 := ⟨Try.underlying6⟩
instance ty_sz7 : TySz Try.prog 7 4 := ⟨Try.sizeOf7⟩
instance ty_agg7 : TyAgg Try.prog 7 true := ⟨Try.isAgg7⟩
instance ty_z7 : TyZ Try.prog 7 (.agg #[.int .i64 0, .int .i64 0, .bool false, .int .u8 0]) := ⟨Try.zeroValue7⟩
instance ty_str7 : TyStr Try.prog 7 [(0, 1), (1, 1), (2, 1), (3, 1)] [.int .i64 0, .int .i64 0, .bool false, .int .u8 0] := ⟨fun ps => by kernel_rfl⟩
instance ty_f7_0 : FOff Try.prog 7 0 0 := ⟨fun a w => by simp [Instr.fieldAt, Instr.sureAddr, fieldPlace, run_underlying Try.underlying7, Try.sizeOf2]⟩
instance ty_f7_1 : FOff Try.prog 7 1 1 := ⟨fun a w => by simp [Instr.fieldAt, Instr.sureAddr, fieldPlace, run_underlying Try.underlying7, Try.sizeOf3]⟩
instance ty_f7_2 : FOff Try.prog 7 2 2 := ⟨fun a w => by simp [Instr.fieldAt, Instr.sureAddr, fieldPlace, run_underlying Try.underlying7, Try.sizeOf4]⟩
instance ty_f7_3 : FOff Try.prog 7 3 3 := ⟨fun a w => by simp [Instr.fieldAt, Instr.sureAddr, fieldPlace, run_underlying Try.underlying7, Try.sizeOf6]⟩
instance ty_sz8 : TySz Try.prog 8 4 := ⟨Try.sizeOf8⟩
instance ty_agg8 : TyAgg Try.prog 8 true := ⟨Try.isAgg8⟩
instance ty_z8 : TyZ Try.prog 8 (.agg #[.int .i64 0, .int .i64 0, .bool false, .int .u8 0]) := ⟨Try.zeroValue8⟩
instance ty_str8 : TyStr Try.prog 8 [(0, 1), (1, 1), (2, 1), (3, 1)] [.int .i64 0, .int .i64 0, .bool false, .int .u8 0] := ⟨fun ps => by kernel_rfl⟩
instance ty_f8_0 : FOff Try.prog 8 0 0 := ⟨fun a w => by simp [Instr.fieldAt, Instr.sureAddr, fieldPlace, run_underlying Try.underlying8, Try.sizeOf2]⟩
instance ty_f8_1 : FOff Try.prog 8 1 1 := ⟨fun a w => by simp [Instr.fieldAt, Instr.sureAddr, fieldPlace, run_underlying Try.underlying8, Try.sizeOf3]⟩
instance ty_f8_2 : FOff Try.prog 8 2 2 := ⟨fun a w => by simp [Instr.fieldAt, Instr.sureAddr, fieldPlace, run_underlying Try.underlying8, Try.sizeOf4]⟩
instance ty_f8_3 : FOff Try.prog 8 3 3 := ⟨fun a w => by simp [Instr.fieldAt, Instr.sureAddr, fieldPlace, run_underlying Try.underlying8, Try.sizeOf6]⟩
instance ty_sz9 : TySz Try.prog 9 1 := ⟨Try.sizeOf9⟩
instance ty_agg9 : TyAgg Try.prog 9 false := ⟨Try.isAgg9⟩
instance ty_z9 : TyZ Try.prog 9 (.string ⟨#[]⟩) := ⟨Try.zeroValue9⟩
instance ty_sz10 : TySz Try.prog 10 1 := ⟨Try.sizeOf10⟩
instance ty_agg10 : TyAgg Try.prog 10 false := ⟨Try.isAgg10⟩
instance ty_z10 : TyZ Try.prog 10 (.string ⟨#[]⟩) := ⟨Try.zeroValue10⟩
instance ty_sz11 : TySz Try.prog 11 1 := ⟨Try.sizeOf11⟩
instance ty_agg11 : TyAgg Try.prog 11 false := ⟨Try.isAgg11⟩
instance ty_z11 : TyZ Try.prog 11 (.string ⟨#[]⟩) := ⟨Try.zeroValue11⟩
instance ty_sz12 : TySz Try.prog 12 1 := ⟨Try.sizeOf12⟩
instance ty_agg12 : TyAgg Try.prog 12 false := ⟨Try.isAgg12⟩
instance ty_z12 : TyZ Try.prog 12 (.int .u64 0) := ⟨Try.zeroValue12⟩
instance ty_int12 : TyInt Try.prog 12 .u64 := ⟨Try.underlying12⟩
instance ty_sz13 : TySz Try.prog 13 2 := ⟨Try.sizeOf13⟩
instance ty_agg13 : TyAgg Try.prog 13 true := ⟨Try.isAgg13⟩
instance ty_z13 : TyZ Try.prog 13 (.agg #[.string ⟨#[]⟩, .int .u64 0]) := ⟨Try.zeroValue13⟩
instance ty_str13 : TyStr Try.prog 13 [(0, 1), (1, 1)] [.string ⟨#[]⟩, .int .u64 0] := ⟨fun ps => by kernel_rfl⟩
instance ty_f13_0 : FOff Try.prog 13 0 0 := ⟨fun a w => by simp [Instr.fieldAt, Instr.sureAddr, fieldPlace, run_underlying Try.underlying13, Try.sizeOf9]⟩
instance ty_f13_1 : FOff Try.prog 13 1 1 := ⟨fun a w => by simp [Instr.fieldAt, Instr.sureAddr, fieldPlace, run_underlying Try.underlying13, Try.sizeOf12]⟩
instance ty_sz14 : TySz Try.prog 14 2 := ⟨Try.sizeOf14⟩
instance ty_agg14 : TyAgg Try.prog 14 true := ⟨Try.isAgg14⟩
instance ty_z14 : TyZ Try.prog 14 (.agg #[.string ⟨#[]⟩, .int .u64 0]) := ⟨Try.zeroValue14⟩
instance ty_str14 : TyStr Try.prog 14 [(0, 1), (1, 1)] [.string ⟨#[]⟩, .int .u64 0] := ⟨fun ps => by kernel_rfl⟩
instance ty_f14_0 : FOff Try.prog 14 0 0 := ⟨fun a w => by simp [Instr.fieldAt, Instr.sureAddr, fieldPlace, run_underlying Try.underlying14, Try.sizeOf9]⟩
instance ty_f14_1 : FOff Try.prog 14 1 1 := ⟨fun a w => by simp [Instr.fieldAt, Instr.sureAddr, fieldPlace, run_underlying Try.underlying14, Try.sizeOf12]⟩
instance ty_sz15 : TySz Try.prog 15 1 := ⟨Try.sizeOf15⟩
instance ty_agg15 : TyAgg Try.prog 15 false := ⟨Try.isAgg15⟩
instance ty_z15 : TyZ Try.prog 15 (.pointer none) := ⟨Try.zeroValue15⟩
instance ty_ptr15 : TyPtr Try.prog 15 := ⟨⟨_, Try.underlying15⟩⟩
instance ty_sz16 : TySz Try.prog 16 1 := ⟨Try.sizeOf16⟩
instance ty_agg16 : TyAgg Try.prog 16 false := ⟨Try.isAgg16⟩
instance ty_z16 : TyZ Try.prog 16 (.pointer none) := ⟨Try.zeroValue16⟩
instance ty_ptr16 : TyPtr Try.prog 16 := ⟨⟨_, Try.underlying16⟩⟩
instance ty_sz17 : TySz Try.prog 17 1 := ⟨Try.sizeOf17⟩
instance ty_agg17 : TyAgg Try.prog 17 false := ⟨Try.isAgg17⟩
instance ty_z17 : TyZ Try.prog 17 (.pointer none) := ⟨Try.zeroValue17⟩
instance ty_ptr17 : TyPtr Try.prog 17 := ⟨⟨_, Try.underlying17⟩⟩
instance ty_sz18 : TySz Try.prog 18 1 := ⟨Try.sizeOf18⟩
instance ty_agg18 : TyAgg Try.prog 18 true := ⟨Try.isAgg18⟩
instance ty_z18 : TyZ Try.prog 18 (.agg #[.pointer none]) := ⟨Try.zeroValue18⟩
instance ty_str18 : TyStr Try.prog 18 [(0, 1)] [.pointer none] := ⟨fun ps => by kernel_rfl⟩
instance ty_f18_0 : FOff Try.prog 18 0 0 := ⟨fun a w => by simp [Instr.fieldAt, Instr.sureAddr, fieldPlace, run_underlying Try.underlying18, Try.sizeOf17]⟩
instance ty_sz19 : TySz Try.prog 19 1 := ⟨Try.sizeOf19⟩
instance ty_agg19 : TyAgg Try.prog 19 true := ⟨Try.isAgg19⟩
instance ty_z19 : TyZ Try.prog 19 (.agg #[.pointer none]) := ⟨Try.zeroValue19⟩
instance ty_str19 : TyStr Try.prog 19 [(0, 1)] [.pointer none] := ⟨fun ps => by kernel_rfl⟩
instance ty_f19_0 : FOff Try.prog 19 0 0 := ⟨fun a w => by simp [Instr.fieldAt, Instr.sureAddr, fieldPlace, run_underlying Try.underlying19, Try.sizeOf17]⟩
instance ty_sz20 : TySz Try.prog 20 1 := ⟨Try.sizeOf20⟩
instance ty_agg20 : TyAgg Try.prog 20 false := ⟨Try.isAgg20⟩
instance ty_z20 : TyZ Try.prog 20 (.nilIface) := ⟨Try.zeroValue20⟩
instance ty_sz21 : TySz Try.prog 21 1 := ⟨Try.sizeOf21⟩
instance ty_agg21 : TyAgg Try.prog 21 false := ⟨Try.isAgg21⟩
instance ty_z21 : TyZ Try.prog 21 (.int .i32 0) := ⟨Try.zeroValue21⟩
instance ty_int21 : TyInt Try.prog 21 .i32 := ⟨Try.underlying21⟩
instance ty_sz22 : TySz Try.prog 22 1 := ⟨Try.sizeOf22⟩
instance ty_agg22 : TyAgg Try.prog 22 false := ⟨Try.isAgg22⟩
instance ty_z22 : TyZ Try.prog 22 (.slice none 0 0) := ⟨Try.zeroValue22⟩
instance ty_sl22 : TySl Try.prog 22 3 1 := ⟨Try.underlying22, Try.sizeOf3⟩
instance ty_el3 : TyEl Try.prog 3 1 8 := ⟨⟨_, _, rfl, rfl, rfl, rfl, rfl⟩⟩
instance ty_sz23 : TySz Try.prog 23 1 := ⟨Try.sizeOf23⟩
instance ty_agg23 : TyAgg Try.prog 23 false := ⟨Try.isAgg23⟩
instance ty_z23 : TyZ Try.prog 23 (.nilFunc) := ⟨Try.zeroValue23⟩
instance ty_sz24 : TySz Try.prog 24 1 := ⟨Try.sizeOf24⟩
instance ty_agg24 : TyAgg Try.prog 24 false := ⟨Try.isAgg24⟩
instance ty_z24 : TyZ Try.prog 24 (.int .u64 0) := ⟨Try.zeroValue24⟩
instance ty_int24 : TyInt Try.prog 24 .u64 := ⟨Try.underlying24⟩
instance ty_sz25 : TySz Try.prog 25 1 := ⟨Try.sizeOf25⟩
instance ty_agg25 : TyAgg Try.prog 25 false := ⟨Try.isAgg25⟩
instance ty_z25 : TyZ Try.prog 25 (.pointer none) := ⟨Try.zeroValue25⟩
instance ty_ptr25 : TyPtr Try.prog 25 := ⟨⟨_, Try.underlying25⟩⟩
instance ty_sz26 : TySz Try.prog 26 1 := ⟨Try.sizeOf26⟩
instance ty_agg26 : TyAgg Try.prog 26 false := ⟨Try.isAgg26⟩
instance ty_z26 : TyZ Try.prog 26 (.pointer none) := ⟨Try.zeroValue26⟩
instance ty_ptr26 : TyPtr Try.prog 26 := ⟨⟨_, Try.underlying26⟩⟩
instance ty_sz28 : TySz Try.prog 28 1 := ⟨Try.sizeOf28⟩
instance ty_agg28 : TyAgg Try.prog 28 false := ⟨Try.isAgg28⟩
instance ty_z28 : TyZ Try.prog 28 (.nilFunc) := ⟨Try.zeroValue28⟩
instance ty_sz29 : TySz Try.prog 29 7 := ⟨Try.sizeOf29⟩
instance ty_agg29 : TyAgg Try.prog 29 true := ⟨Try.isAgg29⟩
instance ty_z29 : TyZ Try.prog 29 (.agg #[.int .u8 0, .int .i64 0, .int .i64 0, .int .i64 0, .int .i64 0, .int .i64 0, .int .u8 0]) := ⟨Try.zeroValue29⟩
instance ty_eqi29 : TyEqI Try.prog 29 [.u8, .i64, .i64, .i64, .i64, .i64, .u8] := ⟨by kernel_rfl, by kernel_rfl, by kernel_rfl, by kernel_rfl⟩
instance ty_str29 : TyStr Try.prog 29 [(0, 1), (1, 1), (2, 1), (3, 1), (4, 1), (5, 1), (6, 1)] [.int .u8 0, .int .i64 0, .int .i64 0, .int .i64 0, .int .i64 0, .int .i64 0, .int .u8 0] := ⟨fun ps => by kernel_rfl⟩
instance ty_f29_0 : FOff Try.prog 29 0 0 := ⟨fun a w => by simp [Instr.fieldAt, Instr.sureAddr, fieldPlace, run_underlying Try.underlying29, Try.sizeOf5]⟩
instance ty_f29_1 : FOff Try.prog 29 1 1 := ⟨fun a w => by simp [Instr.fieldAt, Instr.sureAddr, fieldPlace, run_underlying Try.underlying29, Try.sizeOf3]⟩
instance ty_f29_2 : FOff Try.prog 29 2 2 := ⟨fun a w => by simp [Instr.fieldAt, Instr.sureAddr, fieldPlace, run_underlying Try.underlying29, Try.sizeOf3]⟩
instance ty_f29_3 : FOff Try.prog 29 3 3 := ⟨fun a w => by simp [Instr.fieldAt, Instr.sureAddr, fieldPlace, run_underlying Try.underlying29, Try.sizeOf3]⟩
instance ty_f29_4 : FOff Try.prog 29 4 4 := ⟨fun a w => by simp [Instr.fieldAt, Instr.sureAddr, fieldPlace, run_underlying Try.underlying29, Try.sizeOf3]⟩
instance ty_f29_5 : FOff Try.prog 29 5 5 := ⟨fun a w => by simp [Instr.fieldAt, Instr.sureAddr, fieldPlace, run_underlying Try.underlying29, Try.sizeOf2]⟩
instance ty_f29_6 : FOff Try.prog 29 6 6 := ⟨fun a w => by simp [Instr.fieldAt, Instr.sureAddr, fieldPlace, run_underlying Try.underlying29, Try.sizeOf5]⟩
instance ty_sz30 : TySz Try.prog 30 7 := ⟨Try.sizeOf30⟩
instance ty_agg30 : TyAgg Try.prog 30 true := ⟨Try.isAgg30⟩
instance ty_z30 : TyZ Try.prog 30 (.agg #[.int .u8 0, .int .i64 0, .int .i64 0, .int .i64 0, .int .i64 0, .int .i64 0, .int .u8 0]) := ⟨Try.zeroValue30⟩
instance ty_eqi30 : TyEqI Try.prog 30 [.u8, .i64, .i64, .i64, .i64, .i64, .u8] := ⟨by kernel_rfl, by kernel_rfl, by kernel_rfl, by kernel_rfl⟩
instance ty_str30 : TyStr Try.prog 30 [(0, 1), (1, 1), (2, 1), (3, 1), (4, 1), (5, 1), (6, 1)] [.int .u8 0, .int .i64 0, .int .i64 0, .int .i64 0, .int .i64 0, .int .i64 0, .int .u8 0] := ⟨fun ps => by kernel_rfl⟩
instance ty_f30_0 : FOff Try.prog 30 0 0 := ⟨fun a w => by simp [Instr.fieldAt, Instr.sureAddr, fieldPlace, run_underlying Try.underlying30, Try.sizeOf5]⟩
instance ty_f30_1 : FOff Try.prog 30 1 1 := ⟨fun a w => by simp [Instr.fieldAt, Instr.sureAddr, fieldPlace, run_underlying Try.underlying30, Try.sizeOf3]⟩
instance ty_f30_2 : FOff Try.prog 30 2 2 := ⟨fun a w => by simp [Instr.fieldAt, Instr.sureAddr, fieldPlace, run_underlying Try.underlying30, Try.sizeOf3]⟩
instance ty_f30_3 : FOff Try.prog 30 3 3 := ⟨fun a w => by simp [Instr.fieldAt, Instr.sureAddr, fieldPlace, run_underlying Try.underlying30, Try.sizeOf3]⟩
instance ty_f30_4 : FOff Try.prog 30 4 4 := ⟨fun a w => by simp [Instr.fieldAt, Instr.sureAddr, fieldPlace, run_underlying Try.underlying30, Try.sizeOf3]⟩
instance ty_f30_5 : FOff Try.prog 30 5 5 := ⟨fun a w => by simp [Instr.fieldAt, Instr.sureAddr, fieldPlace, run_underlying Try.underlying30, Try.sizeOf2]⟩
instance ty_f30_6 : FOff Try.prog 30 6 6 := ⟨fun a w => by simp [Instr.fieldAt, Instr.sureAddr, fieldPlace, run_underlying Try.underlying30, Try.sizeOf5]⟩
instance ty_sz31 : TySz Try.prog 31 1 := ⟨Try.sizeOf31⟩
instance ty_agg31 : TyAgg Try.prog 31 false := ⟨Try.isAgg31⟩
instance ty_z31 : TyZ Try.prog 31 (.int .i64 0) := ⟨Try.zeroValue31⟩
instance ty_int31 : TyInt Try.prog 31 .i64 := ⟨Try.underlying31⟩
instance ty_sz33 : TySz Try.prog 33 1 := ⟨Try.sizeOf33⟩
instance ty_agg33 : TyAgg Try.prog 33 false := ⟨Try.isAgg33⟩
instance ty_z33 : TyZ Try.prog 33 (.nilFunc) := ⟨Try.zeroValue33⟩
instance ty_sz34 : TySz Try.prog 34 1 := ⟨Try.sizeOf34⟩
instance ty_agg34 : TyAgg Try.prog 34 false := ⟨Try.isAgg34⟩
instance ty_z34 : TyZ Try.prog 34 (.nilFunc) := ⟨Try.zeroValue34⟩
instance ty_sz36 : TySz Try.prog 36 1 := ⟨Try.sizeOf36⟩
instance ty_agg36 : TyAgg Try.prog 36 false := ⟨Try.isAgg36⟩
instance ty_z36 : TyZ Try.prog 36 (.nilFunc) := ⟨Try.zeroValue36⟩
instance ty_sz37 : TySz Try.prog 37 1 := ⟨Try.sizeOf37⟩
instance ty_agg37 : TyAgg Try.prog 37 false := ⟨Try.isAgg37⟩
instance ty_z37 : TyZ Try.prog 37 (.nilFunc) := ⟨Try.zeroValue37⟩
instance ty_sz38 : TySz Try.prog 38 1 := ⟨Try.sizeOf38⟩
instance ty_agg38 : TyAgg Try.prog 38 false := ⟨Try.isAgg38⟩
instance ty_z38 : TyZ Try.prog 38 (.nilFunc) := ⟨Try.zeroValue38⟩
instance ty_sz39 : TySz Try.prog 39 1 := ⟨Try.sizeOf39⟩
instance ty_agg39 : TyAgg Try.prog 39 false := ⟨Try.isAgg39⟩
instance ty_z39 : TyZ Try.prog 39 (.nilFunc) := ⟨Try.zeroValue39⟩
instance ty_sz40 : TySz Try.prog 40 1 := ⟨Try.sizeOf40⟩
instance ty_agg40 : TyAgg Try.prog 40 false := ⟨Try.isAgg40⟩
instance ty_z40 : TyZ Try.prog 40 (.nilFunc) := ⟨Try.zeroValue40⟩
instance ty_sz41 : TySz Try.prog 41 1 := ⟨Try.sizeOf41⟩
instance ty_agg41 : TyAgg Try.prog 41 false := ⟨Try.isAgg41⟩
instance ty_z41 : TyZ Try.prog 41 (.slice none 0 0) := ⟨Try.zeroValue41⟩
instance ty_sl41 : TySl Try.prog 41 50 3 := ⟨Try.underlying41, Try.sizeOf50⟩
instance ty_el50 : TyEl Try.prog 50 3 40 := ⟨⟨_, _, rfl, rfl, rfl, rfl, rfl⟩⟩
instance ty_sz42 : TySz Try.prog 42 1 := ⟨Try.sizeOf42⟩
instance ty_agg42 : TyAgg Try.prog 42 false := ⟨Try.isAgg42⟩
instance ty_z42 : TyZ Try.prog 42 (.pointer none) := ⟨Try.zeroValue42⟩
instance ty_ptr42 : TyPtr Try.prog 42 := ⟨⟨_, Try.underlying42⟩⟩
instance ty_sz43 : TySz Try.prog 43 1 := ⟨Try.sizeOf43⟩
instance ty_agg43 : TyAgg Try.prog 43 false := ⟨Try.isAgg43⟩
instance ty_z43 : TyZ Try.prog 43 (.nilFunc) := ⟨Try.zeroValue43⟩
instance ty_sz44 : TySz Try.prog 44 1 := ⟨Try.sizeOf44⟩
instance ty_agg44 : TyAgg Try.prog 44 false := ⟨Try.isAgg44⟩
instance ty_z44 : TyZ Try.prog 44 (.pointer none) := ⟨Try.zeroValue44⟩
instance ty_ptr44 : TyPtr Try.prog 44 := ⟨⟨_, Try.underlying44⟩⟩
instance ty_sz45 : TySz Try.prog 45 6 := ⟨Try.sizeOf45⟩
instance ty_agg45 : TyAgg Try.prog 45 true := ⟨Try.isAgg45⟩
instance ty_z45 : TyZ Try.prog 45 (.agg #[.bool false, .bool false, .bool false, .bool false, .bool false, .bool false]) := ⟨Try.zeroValue45⟩
instance ty_ar45 : TyAr Try.prog 45 4 1 6 := ⟨Try.underlying45, Try.sizeOf4⟩
instance ty_sz46 : TySz Try.prog 46 6 := ⟨Try.sizeOf46⟩
instance ty_agg46 : TyAgg Try.prog 46 true := ⟨Try.isAgg46⟩
instance ty_z46 : TyZ Try.prog 46 (.agg #[.slice none 0 0, .slice none 0 0, .slice none 0 0, .slice none 0 0, .slice none 0 0, .slice none 0 0]) := ⟨Try.zeroValue46⟩
instance ty_ar46 : TyAr Try.prog 46 22 1 6 := ⟨Try.underlying46, Try.sizeOf22⟩
instance ty_sz47 : TySz Try.prog 47 12 := ⟨Try.sizeOf47⟩
instance ty_agg47 : TyAgg Try.prog 47 true := ⟨Try.isAgg47⟩
instance ty_z47 : TyZ Try.prog 47 (.agg #[.bool false, .bool false, .bool false, .bool false, .bool false, .bool false, .slice none 0 0, .slice none 0 0, .slice none 0 0, .slice none 0 0, .slice none 0 0, .slice none 0 0]) := ⟨Try.zeroValue47⟩
instance ty_str47 : TyStr Try.prog 47 [(0, 6), (6, 6)] [.bool false, .bool false, .bool false, .bool false, .bool false, .bool false, .slice none 0 0, .slice none 0 0, .slice none 0 0, .slice none 0 0, .slice none 0 0, .slice none 0 0] := ⟨fun ps => by kernel_rfl⟩
instance ty_f47_0 : FOff Try.prog 47 0 0 := ⟨fun a w => by simp [Instr.fieldAt, Instr.sureAddr, fieldPlace, run_underlying Try.underlying47, Try.sizeOf45]⟩
instance ty_f47_1 : FOff Try.prog 47 1 6 := ⟨fun a w => by simp [Instr.fieldAt, Instr.sureAddr, fieldPlace, run_underlying Try.underlying47, Try.sizeOf46]⟩
instance ty_sz48 : TySz Try.prog 48 12 := ⟨Try.sizeOf48⟩
instance ty_agg48 : TyAgg Try.prog 48 true := ⟨Try.isAgg48⟩
instance ty_z48 : TyZ Try.prog 48 (.agg #[.bool false, .bool false, .bool false, .bool false, .bool false, .bool false, .slice none 0 0, .slice none 0 0, .slice none 0 0, .slice none 0 0, .slice none 0 0, .slice none 0 0]) := ⟨Try.zeroValue48⟩
instance ty_str48 : TyStr Try.prog 48 [(0, 6), (6, 6)] [.bool false, .bool false, .bool false, .bool false, .bool false, .bool false, .slice none 0 0, .slice none 0 0, .slice none 0 0, .slice none 0 0, .slice none 0 0, .slice none 0 0] := ⟨fun ps => by kernel_rfl⟩
instance ty_f48_0 : FOff Try.prog 48 0 0 := ⟨fun a w => by simp [Instr.fieldAt, Instr.sureAddr, fieldPlace, run_underlying Try.underlying48, Try.sizeOf45]⟩
instance ty_f48_1 : FOff Try.prog 48 1 6 := ⟨fun a w => by simp [Instr.fieldAt, Instr.sureAddr, fieldPlace, run_underlying Try.underlying48, Try.sizeOf46]⟩
instance ty_sz49 : TySz Try.prog 49 3 := ⟨Try.sizeOf49⟩
instance ty_agg49 : TyAgg Try.prog 49 true := ⟨Try.isAgg49⟩
instance ty_z49 : TyZ Try.prog 49 (.agg #[.int .u8 0, .int .i64 0, .slice none 0 0]) := ⟨Try.zeroValue49⟩
instance ty_str49 : TyStr Try.prog 49 [(0, 1), (1, 1), (2, 1)] [.int .u8 0, .int .i64 0, .slice none 0 0] := ⟨fun ps => by kernel_rfl⟩
instance ty_f49_0 : FOff Try.prog 49 0 0 := ⟨fun a w => by simp [Instr.fieldAt, Instr.sureAddr, fieldPlace, run_underlying Try.underlying49, Try.sizeOf5]⟩
instance ty_f49_1 : FOff Try.prog 49 1 1 := ⟨fun a w => by simp [Instr.fieldAt, Instr.sureAddr, fieldPlace, run_underlying Try.underlying49, Try.sizeOf3]⟩
instance ty_f49_2 : FOff Try.prog 49 2 2 := ⟨fun a w => by simp [Instr.fieldAt, Instr.sureAddr, fieldPlace, run_underlying Try.underlying49, Try.sizeOf22]⟩
instance ty_sz50 : TySz Try.prog 50 3 := ⟨Try.sizeOf50⟩
instance ty_agg50 : TyAgg Try.prog 50 true := ⟨Try.isAgg50⟩
instance ty_z50 : TyZ Try.prog 50 (.agg #[.int .u8 0, .int .i64 0, .slice none 0 0]) := ⟨Try.zeroValue50⟩
instance ty_str50 : TyStr Try.prog 50 [(0, 1), (1, 1), (2, 1)] [.int .u8 0, .int .i64 0, .slice none 0 0] := ⟨fun ps => by kernel_rfl⟩
instance ty_f50_0 : FOff Try.prog 50 0 0 := ⟨fun a w => by simp [Instr.fieldAt, Instr.sureAddr, fieldPlace, run_underlying Try.underlying50, Try.sizeOf5]⟩
instance ty_f50_1 : FOff Try.prog 50 1 1 := ⟨fun a w => by simp [Instr.fieldAt, Instr.sureAddr, fieldPlace, run_underlying Try.underlying50, Try.sizeOf3]⟩
instance ty_f50_2 : FOff Try.prog 50 2 2 := ⟨fun a w => by simp [Instr.fieldAt, Instr.sureAddr, fieldPlace, run_underlying Try.underlying50, Try.sizeOf22]⟩
instance ty_sz51 : TySz Try.prog 51 1 := ⟨Try.sizeOf51⟩
instance ty_agg51 : TyAgg Try.prog 51 false := ⟨Try.isAgg51⟩
instance ty_z51 : TyZ Try.prog 51 (.nilFunc) := ⟨Try.zeroValue51⟩
instance ty_sz52 : TySz Try.prog 52 1 := ⟨Try.sizeOf52⟩
instance ty_agg52 : TyAgg Try.prog 52 false := ⟨Try.isAgg52⟩
instance ty_z52 : TyZ Try.prog 52 (.nilFunc) := ⟨Try.zeroValue52⟩
instance ty_sz53 : TySz Try.prog 53 1 := ⟨Try.sizeOf53⟩
instance ty_agg53 : TyAgg Try.prog 53 false := ⟨Try.isAgg53⟩
instance ty_z53 : TyZ Try.prog 53 (.nilFunc) := ⟨Try.zeroValue53⟩
instance ty_sz54 : TySz Try.prog 54 1 := ⟨Try.sizeOf54⟩
instance ty_agg54 : TyAgg Try.prog 54 false := ⟨Try.isAgg54⟩
instance ty_z54 : TyZ Try.prog 54 (.nilFunc) := ⟨Try.zeroValue54⟩
instance ty_sz55 : TySz Try.prog 55 1 := ⟨Try.sizeOf55⟩
instance ty_agg55 : TyAgg Try.prog 55 false := ⟨Try.isAgg55⟩
instance ty_z55 : TyZ Try.prog 55 (.nilFunc) := ⟨Try.zeroValue55⟩
instance ty_sz56 : TySz Try.prog 56 1 := ⟨Try.sizeOf56⟩
instance ty_agg56 : TyAgg Try.prog 56 false := ⟨Try.isAgg56⟩
instance ty_z56 : TyZ Try.prog 56 (.nilFunc) := ⟨Try.zeroValue56⟩
instance ty_sz57 : TySz Try.prog 57 1 := ⟨Try.sizeOf57⟩
instance ty_agg57 : TyAgg Try.prog 57 false := ⟨Try.isAgg57⟩
instance ty_z57 : TyZ Try.prog 57 (.nilFunc) := ⟨Try.zeroValue57⟩
instance ty_sz59 : TySz Try.prog 59 1 := ⟨Try.sizeOf59⟩
instance ty_agg59 : TyAgg Try.prog 59 false := ⟨Try.isAgg59⟩
instance ty_z59 : TyZ Try.prog 59 (.nilFunc) := ⟨Try.zeroValue59⟩
instance ty_sz60 : TySz Try.prog 60 1 := ⟨Try.sizeOf60⟩
instance ty_agg60 : TyAgg Try.prog 60 false := ⟨Try.isAgg60⟩
instance ty_z60 : TyZ Try.prog 60 (.slice none 0 0) := ⟨Try.zeroValue60⟩
instance ty_sl60 : TySl Try.prog 60 2 1 := ⟨Try.underlying60, Try.sizeOf2⟩
instance ty_el2 : TyEl Try.prog 2 1 8 := ⟨⟨_, _, rfl, rfl, rfl, rfl, rfl⟩⟩
instance ty_sz61 : TySz Try.prog 61 1 := ⟨Try.sizeOf61⟩
instance ty_agg61 : TyAgg Try.prog 61 false := ⟨Try.isAgg61⟩
instance ty_z61 : TyZ Try.prog 61 (.nilFunc) := ⟨Try.zeroValue61⟩
instance ty_sz62 : TySz Try.prog 62 1 := ⟨Try.sizeOf62⟩
instance ty_agg62 : TyAgg Try.prog 62 false := ⟨Try.isAgg62⟩
instance ty_z62 : TyZ Try.prog 62 (.nilFunc) := ⟨Try.zeroValue62⟩
instance ty_sz63 : TySz Try.prog 63 1 := ⟨Try.sizeOf63⟩
instance ty_agg63 : TyAgg Try.prog 63 false := ⟨Try.isAgg63⟩
instance ty_z63 : TyZ Try.prog 63 (.pointer none) := ⟨Try.zeroValue63⟩
instance ty_ptr63 : TyPtr Try.prog 63 := ⟨⟨_, Try.underlying63⟩⟩
instance ty_sz65 : TySz Try.prog 65 1 := ⟨Try.sizeOf65⟩
instance ty_agg65 : TyAgg Try.prog 65 false := ⟨Try.isAgg65⟩
instance ty_z65 : TyZ Try.prog 65 (.nilFunc) := ⟨Try.zeroValue65⟩
instance ty_sz67 : TySz Try.prog 67 1 := ⟨Try.sizeOf67⟩
instance ty_agg67 : TyAgg Try.prog 67 false := ⟨Try.isAgg67⟩
instance ty_z67 : TyZ Try.prog 67 (.nilFunc) := ⟨Try.zeroValue67⟩
instance ty_sz68 : TySz Try.prog 68 1 := ⟨Try.sizeOf68⟩
instance ty_agg68 : TyAgg Try.prog 68 false := ⟨Try.isAgg68⟩
instance ty_z68 : TyZ Try.prog 68 (.slice none 0 0) := ⟨Try.zeroValue68⟩
instance ty_sl68 : TySl Try.prog 68 70 3 := ⟨Try.underlying68, Try.sizeOf70⟩
instance ty_el70 : TyEl Try.prog 70 3 24 := ⟨⟨_, _, rfl, rfl, rfl, rfl, rfl⟩⟩
instance ty_sz69 : TySz Try.prog 69 3 := ⟨Try.sizeOf69⟩
instance ty_agg69 : TyAgg Try.prog 69 true := ⟨Try.isAgg69⟩
instance ty_z69 : TyZ Try.prog 69 (.agg #[.int .u8 0, .int .i64 0, .int .i64 0]) := ⟨Try.zeroValue69⟩
instance ty_eqi69 : TyEqI Try.prog 69 [.u8, .i64, .i64] := ⟨by kernel_rfl, by kernel_rfl, by kernel_rfl, by kernel_rfl⟩
instance ty_str69 : TyStr Try.prog 69 [(0, 1), (1, 1), (2, 1)] [.int .u8 0, .int .i64 0, .int .i64 0] := ⟨fun ps => by kernel_rfl⟩
instance ty_f69_0 : FOff Try.prog 69 0 0 := ⟨fun a w => by simp [Instr.fieldAt, Instr.sureAddr, fieldPlace, run_underlying Try.underlying69, Try.sizeOf5]⟩
instance ty_f69_1 : FOff Try.prog 69 1 1 := ⟨fun a w => by simp [Instr.fieldAt, Instr.sureAddr, fieldPlace, run_underlying Try.underlying69, Try.sizeOf3]⟩
instance ty_f69_2 : FOff Try.prog 69 2 2 := ⟨fun a w => by simp [Instr.fieldAt, Instr.sureAddr, fieldPlace, run_underlying Try.underlying69, Try.sizeOf3]⟩
instance ty_sz70 : TySz Try.prog 70 3 := ⟨Try.sizeOf70⟩
instance ty_agg70 : TyAgg Try.prog 70 true := ⟨Try.isAgg70⟩
instance ty_z70 : TyZ Try.prog 70 (.agg #[.int .u8 0, .int .i64 0, .int .i64 0]) := ⟨Try.zeroValue70⟩
instance ty_eqi70 : TyEqI Try.prog 70 [.u8, .i64, .i64] := ⟨by kernel_rfl, by kernel_rfl, by kernel_rfl, by kernel_rfl⟩
instance ty_str70 : TyStr Try.prog 70 [(0, 1), (1, 1), (2, 1)] [.int .u8 0, .int .i64 0, .int .i64 0] := ⟨fun ps => by kernel_rfl⟩
instance ty_f70_0 : FOff Try.prog 70 0 0 := ⟨fun a w => by simp [Instr.fieldAt, Instr.sureAddr, fieldPlace, run_underlying Try.underlying70, Try.sizeOf5]⟩
instance ty_f70_1 : FOff Try.prog 70 1 1 := ⟨fun a w => by simp [Instr.fieldAt, Instr.sureAddr, fieldPlace, run_underlying Try.underlying70, Try.sizeOf3]⟩
instance ty_f70_2 : FOff Try.prog 70 2 2 := ⟨fun a w => by simp [Instr.fieldAt, Instr.sureAddr, fieldPlace, run_underlying Try.underlying70, Try.sizeOf3]⟩
instance ty_sz71 : TySz Try.prog 71 1 := ⟨Try.sizeOf71⟩
instance ty_agg71 : TyAgg Try.prog 71 false := ⟨Try.isAgg71⟩
instance ty_z71 : TyZ Try.prog 71 (.nilFunc) := ⟨Try.zeroValue71⟩
instance ty_sz72 : TySz Try.prog 72 1 := ⟨Try.sizeOf72⟩
instance ty_agg72 : TyAgg Try.prog 72 false := ⟨Try.isAgg72⟩
instance ty_z72 : TyZ Try.prog 72 (.nilFunc) := ⟨Try.zeroValue72⟩
instance ty_sz73 : TySz Try.prog 73 1 := ⟨Try.sizeOf73⟩
instance ty_agg73 : TyAgg Try.prog 73 false := ⟨Try.isAgg73⟩
instance ty_z73 : TyZ Try.prog 73 (.nilFunc) := ⟨Try.zeroValue73⟩
instance ty_sz74 : TySz Try.prog 74 1 := ⟨Try.sizeOf74⟩
instance ty_agg74 : TyAgg Try.prog 74 false := ⟨Try.isAgg74⟩
instance ty_z74 : TyZ Try.prog 74 (.pointer none) := ⟨Try.zeroValue74⟩
instance ty_ptr74 : TyPtr Try.prog 74 := ⟨⟨_, Try.underlying74⟩⟩
instance ty_sz76 : TySz Try.prog 76 1 := ⟨Try.sizeOf76⟩
instance ty_agg76 : TyAgg Try.prog 76 false := ⟨Try.isAgg76⟩
instance ty_z76 : TyZ Try.prog 76 (.nilFunc) := ⟨Try.zeroValue76⟩
instance ty_sz77 : TySz Try.prog 77 1 := ⟨Try.sizeOf77⟩
instance ty_agg77 : TyAgg Try.prog 77 false := ⟨Try.isAgg77⟩
instance ty_z77 : TyZ Try.prog 77 (.pointer none) := ⟨Try.zeroValue77⟩
instance ty_ptr77 : TyPtr Try.prog 77 := ⟨⟨_, Try.underlying77⟩⟩
instance ty_sz79 : TySz Try.prog 79 1 := ⟨Try.sizeOf79⟩
instance ty_agg79 : TyAgg Try.prog 79 false := ⟨Try.isAgg79⟩
instance ty_z79 : TyZ Try.prog 79 (.nilFunc) := ⟨Try.zeroValue79⟩
instance ty_sz80 : TySz Try.prog 80 1 := ⟨Try.sizeOf80⟩
instance ty_agg80 : TyAgg Try.prog 80 false := ⟨Try.isAgg80⟩
instance ty_z80 : TyZ Try.prog 80 (.pointer none) := ⟨Try.zeroValue80⟩
instance ty_ptr80 : TyPtr Try.prog 80 := ⟨⟨_, Try.underlying80⟩⟩
instance ty_sz82 : TySz Try.prog 82 1 := ⟨Try.sizeOf82⟩
instance ty_agg82 : TyAgg Try.prog 82 false := ⟨Try.isAgg82⟩
instance ty_z82 : TyZ Try.prog 82 (.nilFunc) := ⟨Try.zeroValue82⟩
instance ty_sz83 : TySz Try.prog 83 1 := ⟨Try.sizeOf83⟩
instance ty_agg83 : TyAgg Try.prog 83 false := ⟨Try.isAgg83⟩
instance ty_z83 : TyZ Try.prog 83 (.nilFunc) := ⟨Try.zeroValue83⟩
instance ty_sz84 : TySz Try.prog 84 1 := ⟨Try.sizeOf84⟩
instance ty_agg84 : TyAgg Try.prog 84 false := ⟨Try.isAgg84⟩
instance ty_z84 : TyZ Try.prog 84 (.nilFunc) := ⟨Try.zeroValue84⟩
instance ty_sz85 : TySz Try.prog 85 1 := ⟨Try.sizeOf85⟩
instance ty_agg85 : TyAgg Try.prog 85 false := ⟨Try.isAgg85⟩
instance ty_z85 : TyZ Try.prog 85 (.nilFunc) := ⟨Try.zeroValue85⟩
instance ty_sz86 : TySz Try.prog 86 3 := ⟨Try.sizeOf86⟩
instance ty_agg86 : TyAgg Try.prog 86 true := ⟨Try.isAgg86⟩
instance ty_z86 : TyZ Try.prog 86 (.agg #[.int .i64 0, .int .i64 0, .slice none 0 0]) := ⟨Try.zeroValue86⟩
instance ty_str86 : TyStr Try.prog 86 [(0, 1), (1, 1), (2, 1)] [.int .i64 0, .int .i64 0, .slice none 0 0] := ⟨fun ps => by kernel_rfl⟩
instance ty_f86_0 : FOff Try.prog 86 0 0 := ⟨fun a w => by simp [Instr.fieldAt, Instr.sureAddr, fieldPlace, run_underlying Try.underlying86, Try.sizeOf3]⟩
instance ty_f86_1 : FOff Try.prog 86 1 1 := ⟨fun a w => by simp [Instr.fieldAt, Instr.sureAddr, fieldPlace, run_underlying Try.underlying86, Try.sizeOf3]⟩
instance ty_f86_2 : FOff Try.prog 86 2 2 := ⟨fun a w => by simp [Instr.fieldAt, Instr.sureAddr, fieldPlace, run_underlying Try.underlying86, Try.sizeOf22]⟩
instance ty_sz87 : TySz Try.prog 87 3 := ⟨Try.sizeOf87⟩
instance ty_agg87 : TyAgg Try.prog 87 true := ⟨Try.isAgg87⟩
instance ty_z87 : TyZ Try.prog 87 (.agg #[.int .i64 0, .int .i64 0, .slice none 0 0]) := ⟨Try.zeroValue87⟩
instance ty_str87 : TyStr Try.prog 87 [(0, 1), (1, 1), (2, 1)] [.int .i64 0, .int .i64 0, .slice none 0 0] := ⟨fun ps => by kernel_rfl⟩
instance ty_f87_0 : FOff Try.prog 87 0 0 := ⟨fun a w => by simp [Instr.fieldAt, Instr.sureAddr, fieldPlace, run_underlying Try.underlying87, Try.sizeOf3]⟩
instance ty_f87_1 : FOff Try.prog 87 1 1 := ⟨fun a w => by simp [Instr.fieldAt, Instr.sureAddr, fieldPlace, run_underlying Try.underlying87, Try.sizeOf3]⟩
instance ty_f87_2 : FOff Try.prog 87 2 2 := ⟨fun a w => by simp [Instr.fieldAt, Instr.sureAddr, fieldPlace, run_underlying Try.underlying87, Try.sizeOf22]⟩
instance ty_sz88 : TySz Try.prog 88 3 := ⟨Try.sizeOf88⟩
instance ty_agg88 : TyAgg Try.prog 88 true := ⟨Try.isAgg88⟩
instance ty_z88 : TyZ Try.prog 88 (.agg #[.int .i64 0, .int .u8 0, .pointer none]) := ⟨Try.zeroValue88⟩
instance ty_str88 : TyStr Try.prog 88 [(0, 1), (1, 1), (2, 1)] [.int .i64 0, .int .u8 0, .pointer none] := ⟨fun ps => by kernel_rfl⟩
instance ty_f88_0 : FOff Try.prog 88 0 0 := ⟨fun a w => by simp [Instr.fieldAt, Instr.sureAddr, fieldPlace, run_underlying Try.underlying88, Try.sizeOf3]⟩
instance ty_f88_1 : FOff Try.prog 88 1 1 := ⟨fun a w => by simp [Instr.fieldAt, Instr.sureAddr, fieldPlace, run_underlying Try.underlying88, Try.sizeOf5]⟩
instance ty_f88_2 : FOff Try.prog 88 2 2 := ⟨fun a w => by simp [Instr.fieldAt, Instr.sureAddr, fieldPlace, run_underlying Try.underlying88, Try.sizeOf74]⟩
instance ty_sz89 : TySz Try.prog 89 3 := ⟨Try.sizeOf89⟩
instance ty_agg89 : TyAgg Try.prog 89 true := ⟨Try.isAgg89⟩
instance ty_z89 : TyZ Try.prog 89 (.agg #[.int .i64 0, .int .u8 0, .pointer none]) := ⟨Try.zeroValue89⟩
instance ty_str89 : TyStr Try.prog 89 [(0, 1), (1, 1), (2, 1)] [.int .i64 0, .int .u8 0, .pointer none] := ⟨fun ps => by kernel_rfl⟩
instance ty_f89_0 : FOff Try.prog 89 0 0 := ⟨fun a w => by simp [Instr.fieldAt, Instr.sureAddr, fieldPlace, run_underlying Try.underlying89, Try.sizeOf3]⟩
instance ty_f89_1 : FOff Try.prog 89 1 1 := ⟨fun a w => by simp [Instr.fieldAt, Instr.sureAddr, fieldPlace, run_underlying Try.underlying89, Try.sizeOf5]⟩
instance ty_f89_2 : FOff Try.prog 89 2 2 := ⟨fun a w => by simp [Instr.fieldAt, Instr.sureAddr, fieldPlace, run_underlying Try.underlying89, Try.sizeOf74]⟩
instance ty_sz90 : TySz Try.prog 90 1 := ⟨Try.sizeOf90⟩
instance ty_agg90 : TyAgg Try.prog 90 false := ⟨Try.isAgg90⟩
instance ty_z90 : TyZ Try.prog 90 (.nilFunc) := ⟨Try.zeroValue90⟩
instance ty_sz91 : TySz Try.prog 91 1 := ⟨Try.sizeOf91⟩
instance ty_agg91 : TyAgg Try.prog 91 false := ⟨Try.isAgg91⟩
instance ty_z91 : TyZ Try.prog 91 (.nilFunc) := ⟨Try.zeroValue91⟩
instance ty_sz92 : TySz Try.prog 92 3 := ⟨Try.sizeOf92⟩
instance ty_agg92 : TyAgg Try.prog 92 true := ⟨Try.isAgg92⟩
instance ty_z92 : TyZ Try.prog 92 (.agg #[.int .u8 0, .int .u8 0, .int .u8 0]) := ⟨Try.zeroValue92⟩
instance ty_ar92 : TyAr Try.prog 92 5 1 3 := ⟨Try.underlying92, Try.sizeOf5⟩
instance ty_sz93 : TySz Try.prog 93 3 := ⟨Try.sizeOf93⟩
instance ty_agg93 : TyAgg Try.prog 93 true := ⟨Try.isAgg93⟩
instance ty_z93 : TyZ Try.prog 93 (.agg #[.int .i64 0, .int .u8 0, .pointer none]) := ⟨Try.zeroValue93⟩
instance ty_str93 : TyStr Try.prog 93 [(0, 1), (1, 1), (2, 1)] [.int .i64 0, .int .u8 0, .pointer none] := ⟨fun ps => by kernel_rfl⟩
instance ty_f93_0 : FOff Try.prog 93 0 0 := ⟨fun a w => by simp [Instr.fieldAt, Instr.sureAddr, fieldPlace, run_underlying Try.underlying93, Try.sizeOf3]⟩
instance ty_f93_1 : FOff Try.prog 93 1 1 := ⟨fun a w => by simp [Instr.fieldAt, Instr.sureAddr, fieldPlace, run_underlying Try.underlying93, Try.sizeOf5]⟩
instance ty_f93_2 : FOff Try.prog 93 2 2 := ⟨fun a w => by simp [Instr.fieldAt, Instr.sureAddr, fieldPlace, run_underlying Try.underlying93, Try.sizeOf63]⟩
instance ty_sz94 : TySz Try.prog 94 3 := ⟨Try.sizeOf94⟩
instance ty_agg94 : TyAgg Try.prog 94 true := ⟨Try.isAgg94⟩
instance ty_z94 : TyZ Try.prog 94 (.agg #[.int .i64 0, .int .u8 0, .pointer none]) := ⟨Try.zeroValue94⟩
instance ty_str94 : TyStr Try.prog 94 [(0, 1), (1, 1), (2, 1)] [.int .i64 0, .int .u8 0, .pointer none] := ⟨fun ps => by kernel_rfl⟩
instance ty_f94_0 : FOff Try.prog 94 0 0 := ⟨fun a w => by simp [Instr.fieldAt, Instr.sureAddr, fieldPlace, run_underlying Try.underlying94, Try.sizeOf3]⟩
instance ty_f94_1 : FOff Try.prog 94 1 1 := ⟨fun a w => by simp [Instr.fieldAt, Instr.sureAddr, fieldPlace, run_underlying Try.underlying94, Try.sizeOf5]⟩
instance ty_f94_2 : FOff Try.prog 94 2 2 := ⟨fun a w => by simp [Instr.fieldAt, Instr.sureAddr, fieldPlace, run_underlying Try.underlying94, Try.sizeOf63]⟩
instance ty_sz95 : TySz Try.prog 95 1 := ⟨Try.sizeOf95⟩
instance ty_agg95 : TyAgg Try.prog 95 false := ⟨Try.isAgg95⟩
instance ty_z95 : TyZ Try.prog 95 (.pointer none) := ⟨Try.zeroValue95⟩
instance ty_ptr95 : TyPtr Try.prog 95 := ⟨⟨_, Try.underlying95⟩⟩
instance ty_sz96 : TySz Try.prog 96 1 := ⟨Try.sizeOf96⟩
instance ty_agg96 : TyAgg Try.prog 96 false := ⟨Try.isAgg96⟩
instance ty_z96 : TyZ Try.prog 96 (.nilFunc) := ⟨Try.zeroValue96⟩
instance ty_sz97 : TySz Try.prog 97 1 := ⟨Try.sizeOf97⟩
instance ty_agg97 : TyAgg Try.prog 97 false := ⟨Try.isAgg97⟩
instance ty_z97 : TyZ Try.prog 97 (.nilFunc) := ⟨Try.zeroValue97⟩
instance ty_sz98 : TySz Try.prog 98 2 := ⟨Try.sizeOf98⟩
instance ty_agg98 : TyAgg Try.prog 98 true := ⟨Try.isAgg98⟩
instance ty_z98 : TyZ Try.prog 98 (.agg #[.int .i64 0, .int .i64 0]) := ⟨Try.zeroValue98⟩
instance ty_eqi98 : TyEqI Try.prog 98 [.i64, .i64] := ⟨by kernel_rfl, by kernel_rfl, by kernel_rfl, by kernel_rfl⟩
instance ty_str98 : TyStr Try.prog 98 [(0, 1), (1, 1)] [.int .i64 0, .int .i64 0] := ⟨fun ps => by kernel_rfl⟩
instance ty_f98_0 : FOff Try.prog 98 0 0 := ⟨fun a w => by simp [Instr.fieldAt, Instr.sureAddr, fieldPlace, run_underlying Try.underlying98, Try.sizeOf3]⟩
instance ty_f98_1 : FOff Try.prog 98 1 1 := ⟨fun a w => by simp [Instr.fieldAt, Instr.sureAddr, fieldPlace, run_underlying Try.underlying98, Try.sizeOf3]⟩
instance ty_sz99 : TySz Try.prog 99 2 := ⟨Try.sizeOf99⟩
instance ty_agg99 : TyAgg Try.prog 99 true := ⟨Try.isAgg99⟩
instance ty_z99 : TyZ Try.prog 99 (.agg #[.int .i64 0, .int .i64 0]) := ⟨Try.zeroValue99⟩
instance ty_eqi99 : TyEqI Try.prog 99 [.i64, .i64] := ⟨by kernel_rfl, by kernel_rfl, by kernel_rfl, by kernel_rfl⟩
instance ty_str99 : TyStr Try.prog 99 [(0, 1), (1, 1)] [.int .i64 0, .int .i64 0] := ⟨fun ps => by kernel_rfl⟩
instance ty_f99_0 : FOff Try.prog 99 0 0 := ⟨fun a w => by simp [Instr.fieldAt, Instr.sureAddr, fieldPlace, run_underlying Try.underlying99, Try.sizeOf3]⟩
instance ty_f99_1 : FOff Try.prog 99 1 1 := ⟨fun a w => by simp [Instr.fieldAt, Instr.sureAddr, fieldPlace, run_underlying Try.underlying99, Try.sizeOf3]⟩
instance ty_sz100 : TySz Try.prog 100 1 := ⟨Try.sizeOf100⟩
instance ty_agg100 : TyAgg Try.prog 100 false := ⟨Try.isAgg100⟩
instance ty_z100 : TyZ Try.prog 100 (.slice none 0 0) := ⟨Try.zeroValue100⟩
instance ty_sl100 : TySl Try.prog 100 99 2 := ⟨Try.underlying100, Try.sizeOf99⟩
instance ty_el99 : TyEl Try.prog 99 2 16 := ⟨⟨_, _, rfl, rfl, rfl, rfl, rfl⟩⟩
instance ty_sz101 : TySz Try.prog 101 3 := ⟨Try.sizeOf101⟩
instance ty_agg101 : TyAgg Try.prog 101 true := ⟨Try.isAgg101⟩
instance ty_z101 : TyZ Try.prog 101 (.agg #[.slice none 0 0, .int .i64 0, .int .i64 0]) := ⟨Try.zeroValue101⟩
instance ty_str101 : TyStr Try.prog 101 [(0, 1), (1, 1), (2, 1)] [.slice none 0 0, .int .i64 0, .int .i64 0] := ⟨fun ps => by kernel_rfl⟩
instance ty_f101_0 : FOff Try.prog 101 0 0 := ⟨fun a w => by simp [Instr.fieldAt, Instr.sureAddr, fieldPlace, run_underlying Try.underlying101, Try.sizeOf100]⟩
instance ty_f101_1 : FOff Try.prog 101 1 1 := ⟨fun a w => by simp [Instr.fieldAt, Instr.sureAddr, fieldPlace, run_underlying Try.underlying101, Try.sizeOf3]⟩
instance ty_f101_2 : FOff Try.prog 101 2 2 := ⟨fun a w => by simp [Instr.fieldAt, Instr.sureAddr, fieldPlace, run_underlying Try.underlying101, Try.sizeOf3]⟩
instance ty_sz102 : TySz Try.prog 102 3 := ⟨Try.sizeOf102⟩
instance ty_agg102 : TyAgg Try.prog 102 true := ⟨Try.isAgg102⟩
instance ty_z102 : TyZ Try.prog 102 (.agg #[.slice none 0 0, .int .i64 0, .int .i64 0]) := ⟨Try.zeroValue102⟩
instance ty_str102 : TyStr Try.prog 102 [(0, 1), (1, 1), (2, 1)] [.slice none 0 0, .int .i64 0, .int .i64 0] := ⟨fun ps => by kernel_rfl⟩
instance ty_f102_0 : FOff Try.prog 102 0 0 := ⟨fun a w => by simp [Instr.fieldAt, Instr.sureAddr, fieldPlace, run_underlying Try.underlying102, Try.sizeOf100]⟩
instance ty_f102_1 : FOff Try.prog 102 1 1 := ⟨fun a w => by simp [Instr.fieldAt, Instr.sureAddr, fieldPlace, run_underlying Try.underlying102, Try.sizeOf3]⟩
instance ty_f102_2 : FOff Try.prog 102 2 2 := ⟨fun a w => by simp [Instr.fieldAt, Instr.sureAddr, fieldPlace, run_underlying Try.underlying102, Try.sizeOf3]⟩
instance ty_sz103 : TySz Try.prog 103 4 := ⟨Try.sizeOf103⟩
instance ty_agg103 : TyAgg Try.prog 103 true := ⟨Try.isAgg103⟩
instance ty_z103 : TyZ Try.prog 103 (.agg #[.slice none 0 0, .int .i64 0, .int .i64 0, .slice none 0 0]) := ⟨Try.zeroValue103⟩
instance ty_str103 : TyStr Try.prog 103 [(0, 3), (3, 1)] [.slice none 0 0, .int .i64 0, .int .i64 0, .slice none 0 0] := ⟨fun ps => by kernel_rfl⟩
instance ty_f103_0 : FOff Try.prog 103 0 0 := ⟨fun a w => by simp [Instr.fieldAt, Instr.sureAddr, fieldPlace, run_underlying Try.underlying103, Try.sizeOf102]⟩
instance ty_f103_1 : FOff Try.prog 103 1 3 := ⟨fun a w => by simp [Instr.fieldAt, Instr.sureAddr, fieldPlace, run_underlying Try.underlying103, Try.sizeOf60]⟩
instance ty_sz104 : TySz Try.prog 104 4 := ⟨Try.sizeOf104⟩
instance ty_agg104 : TyAgg Try.prog 104 true := ⟨Try.isAgg104⟩
instance ty_z104 : TyZ Try.prog 104 (.agg #[.slice none 0 0, .int .i64 0, .int .i64 0, .slice none 0 0]) := ⟨Try.zeroValue104⟩
instance ty_str104 : TyStr Try.prog 104 [(0, 3), (3, 1)] [.slice none 0 0, .int .i64 0, .int .i64 0, .slice none 0 0] := ⟨fun ps => by kernel_rfl⟩
instance ty_f104_0 : FOff Try.prog 104 0 0 := ⟨fun a w => by simp [Instr.fieldAt, Instr.sureAddr, fieldPlace, run_underlying Try.underlying104, Try.sizeOf102]⟩
instance ty_f104_1 : FOff Try.prog 104 1 3 := ⟨fun a w => by simp [Instr.fieldAt, Instr.sureAddr, fieldPlace, run_underlying Try.underlying104, Try.sizeOf60]⟩
instance ty_sz106 : TySz Try.prog 106 1 := ⟨Try.sizeOf106⟩
instance ty_agg106 : TyAgg Try.prog 106 false := ⟨Try.isAgg106⟩
instance ty_z106 : TyZ Try.prog 106 (.nilFunc) := ⟨Try.zeroValue106⟩
instance ty_sz107 : TySz Try.prog 107 1 := ⟨Try.sizeOf107⟩
instance ty_agg107 : TyAgg Try.prog 107 false := ⟨Try.isAgg107⟩
instance ty_z107 : TyZ Try.prog 107 (.map none) := ⟨Try.zeroValue107⟩
instance ty_map107 : TyMapI Try.prog 107 112 := ⟨⟨3, Try.underlying107, Try.underlying3⟩⟩
instance ty_sz108 : TySz Try.prog 108 1 := ⟨Try.sizeOf108⟩
instance ty_agg108 : TyAgg Try.prog 108 true := ⟨Try.isAgg108⟩
instance ty_z108 : TyZ Try.prog 108 (.agg #[.map none]) := ⟨Try.zeroValue108⟩
instance ty_str108 : TyStr Try.prog 108 [(0, 1)] [.map none] := ⟨fun ps => by kernel_rfl⟩
instance ty_f108_0 : FOff Try.prog 108 0 0 := ⟨fun a w => by simp [Instr.fieldAt, Instr.sureAddr, fieldPlace, run_underlying Try.underlying108, Try.sizeOf107]⟩
instance ty_sz109 : TySz Try.prog 109 1 := ⟨Try.sizeOf109⟩
instance ty_agg109 : TyAgg Try.prog 109 true := ⟨Try.isAgg109⟩
instance ty_z109 : TyZ Try.prog 109 (.agg #[.map none]) := ⟨Try.zeroValue109⟩
instance ty_str109 : TyStr Try.prog 109 [(0, 1)] [.map none] := ⟨fun ps => by kernel_rfl⟩
instance ty_f109_0 : FOff Try.prog 109 0 0 := ⟨fun a w => by simp [Instr.fieldAt, Instr.sureAddr, fieldPlace, run_underlying Try.underlying109, Try.sizeOf107]⟩
instance ty_sz110 : TySz Try.prog 110 1 := ⟨Try.sizeOf110⟩
instance ty_agg110 : TyAgg Try.prog 110 false := ⟨Try.isAgg110⟩
instance ty_z110 : TyZ Try.prog 110 (.nilFunc) := ⟨Try.zeroValue110⟩
instance ty_sz111 : TySz Try.prog 111 1 := ⟨Try.sizeOf111⟩
instance ty_agg111 : TyAgg Try.prog 111 false := ⟨Try.isAgg111⟩
instance ty_z111 : TyZ Try.prog 111 (.nilFunc) := ⟨Try.zeroValue111⟩
instance ty_sz112 : TySz Try.prog 112 1 := ⟨Try.sizeOf112⟩
instance ty_agg112 : TyAgg Try.prog 112 false := ⟨Try.isAgg112⟩
instance ty_z112 : TyZ Try.prog 112 (.map none) := ⟨Try.zeroValue112⟩
instance ty_map112 : TyMapI Try.prog 112 4 := ⟨⟨3, Try.underlying112, Try.underlying3⟩⟩
instance ty_sz113 : TySz Try.prog 113 1 := ⟨Try.sizeOf113⟩
instance ty_agg113 : TyAgg Try.prog 113 false := ⟨Try.isAgg113⟩
instance ty_z113 : TyZ Try.prog 113 (.nilFunc) := ⟨Try.zeroValue113⟩
instance ty_sz114 : TySz Try.prog 114 1 := ⟨Try.sizeOf114⟩
instance ty_agg114 : TyAgg Try.prog 114 false := ⟨Try.isAgg114⟩
instance ty_z114 : TyZ Try.prog 114 (.nilFunc) := ⟨Try.zeroValue114⟩
instance ty_sz115 : TySz Try.prog 115 1 := ⟨Try.sizeOf115⟩
instance ty_agg115 : TyAgg Try.prog 115 false := ⟨Try.isAgg115⟩
instance ty_z115 : TyZ Try.prog 115 (.nilFunc) := ⟨Try.zeroValue115⟩
instance ty_sz116 : TySz Try.prog 116 1 := ⟨Try.sizeOf116⟩
instance ty_agg116 : TyAgg Try.prog 116 false := ⟨Try.isAgg116⟩
instance ty_z116 : TyZ Try.prog 116 (.nilFunc) := ⟨Try.zeroValue116⟩
instance ty_sz117 : TySz Try.prog 117 1 := ⟨Try.sizeOf117⟩
instance ty_agg117 : TyAgg Try.prog 117 false := ⟨Try.isAgg117⟩
instance ty_z117 : TyZ Try.prog 117 (.nilFunc) := ⟨Try.zeroValue117⟩
instance ty_sz118 : TySz Try.prog 118 1 := ⟨Try.sizeOf118⟩
instance ty_agg118 : TyAgg Try.prog 118 false := ⟨Try.isAgg118⟩
instance ty_z118 : TyZ Try.prog 118 (.nilFunc) := ⟨Try.zeroValue118⟩
instance ty_sz119 : TySz Try.prog 119 1 := ⟨Try.sizeOf119⟩
instance ty_agg119 : TyAgg Try.prog 119 false := ⟨Try.isAgg119⟩
instance ty_z119 : TyZ Try.prog 119 (.nilFunc) := ⟨Try.zeroValue119⟩
instance ty_sz120 : TySz Try.prog 120 1 := ⟨Try.sizeOf120⟩
instance ty_agg120 : TyAgg Try.prog 120 false := ⟨Try.isAgg120⟩
instance ty_z120 : TyZ Try.prog 120 (.nilFunc) := ⟨Try.zeroValue120⟩
instance ty_sz121 : TySz Try.prog 121 32 := ⟨Try.sizeOf121⟩
instance ty_agg121 : TyAgg Try.prog 121 true := ⟨Try.isAgg121⟩
instance ty_z121 : TyZ Try.prog 121 (.agg #[.bool false, .bool false, .bool false, .bool false, .bool false, .bool false, .bool false, .bool false, .bool false, .bool false, .bool false, .bool false, .bool false, .bool false, .bool false, .bool false, .bool false, .bool false, .bool false, .bool false, .bool false, .bool false, .bool false, .bool false, .bool false, .bool false, .bool false, .bool false, .bool false, .bool false, .bool false, .bool false]) := ⟨Try.zeroValue121⟩
instance ty_ar121 : TyAr Try.prog 121 4 1 32 := ⟨Try.underlying121, Try.sizeOf4⟩
instance ty_sz122 : TySz Try.prog 122 34 := ⟨Try.sizeOf122⟩
instance ty_agg122 : TyAgg Try.prog 122 true := ⟨Try.isAgg122⟩
instance ty_z122 : TyZ Try.prog 122 (.agg #[.int .i64 0, .int .i64 0, .bool false, .bool false, .bool false, .bool false, .bool false, .bool false, .bool false, .bool false, .bool false, .bool false, .bool false, .bool false, .bool false, .bool false, .bool false, .bool false, .bool false, .bool false, .bool false, .bool false, .bool false, .bool false, .bool false, .bool false, .bool false, .bool false, .bool false, .bool false, .bool false, .bool false, .bool false, .bool false]) := ⟨Try.zeroValue122⟩
instance ty_str122 : TyStr Try.prog 122 [(0, 1), (1, 1), (2, 32)] [.int .i64 0, .int .i64 0, .bool false, .bool false, .bool false, .bool false, .bool false, .bool false, .bool false, .bool false, .bool false, .bool false, .bool false, .bool false, .bool false, .bool false, .bool false, .bool false, .bool false, .bool false, .bool false, .bool false, .bool false, .bool false, .bool false, .bool false, .bool false, .bool false, .bool false, .bool false, .bool false, .bool false, .bool false, .bool false] := ⟨fun ps => by kernel_rfl⟩
instance ty_f122_0 : FOff Try.prog 122 0 0 := ⟨fun a w => by simp [Instr.fieldAt, Instr.sureAddr, fieldPlace, run_underlying Try.underlying122, Try.sizeOf3]⟩
instance ty_f122_1 : FOff Try.prog 122 1 1 := ⟨fun a w => by simp [Instr.fieldAt, Instr.sureAddr, fieldPlace, run_underlying Try.underlying122, Try.sizeOf3]⟩
instance ty_f122_2 : FOff Try.prog 122 2 2 := ⟨fun a w => by simp [Instr.fieldAt, Instr.sureAddr, fieldPlace, run_underlying Try.underlying122, Try.sizeOf121]⟩
instance ty_sz123 : TySz Try.prog 123 34 := ⟨Try.sizeOf123⟩
instance ty_agg123 : TyAgg Try.prog 123 true := ⟨Try.isAgg123⟩
instance ty_z123 : TyZ Try.prog 123 (.agg #[.int .i64 0, .int .i64 0, .bool false, .bool false, .bool false, .bool false, .bool false, .bool false, .bool false, .bool false, .bool false, .bool false, .bool false, .bool false, .bool false, .bool false, .bool false, .bool false, .bool false, .bool false, .bool false, .bool false, .bool false, .bool false, .bool false, .bool false, .bool false, .bool false, .bool false, .bool false, .bool false, .bool false, .bool false, .bool false]) := ⟨Try.zeroValue123⟩
instance ty_str123 : TyStr Try.prog 123 [(0, 1), (1, 1), (2, 32)] [.int .i64 0, .int .i64 0, .bool false, .bool false, .bool false, .bool false, .bool false, .bool false, .bool false, .bool false, .bool false, .bool false, .bool false, .bool false, .bool false, .bool false, .bool false, .bool false, .bool false, .bool false, .bool false, .bool false, .bool false, .bool false, .bool false, .bool false, .bool false, .bool false, .bool false, .bool false, .bool false, .bool false, .bool false, .bool false] := ⟨fun ps => by kernel_rfl⟩
instance ty_f123_0 : FOff Try.prog 123 0 0 := ⟨fun a w => by simp [Instr.fieldAt, Instr.sureAddr, fieldPlace, run_underlying Try.underlying123, Try.sizeOf3]⟩
instance ty_f123_1 : FOff Try.prog 123 1 1 := ⟨fun a w => by simp [Instr.fieldAt, Instr.sureAddr, fieldPlace, run_underlying Try.underlying123, Try.sizeOf3]⟩
instance ty_f123_2 : FOff Try.prog 123 2 2 := ⟨fun a w => by simp [Instr.fieldAt, Instr.sureAddr, fieldPlace, run_underlying Try.underlying123, Try.sizeOf121]⟩
instance ty_sz124 : TySz Try.prog 124 1 := ⟨Try.sizeOf124⟩
instance ty_agg124 : TyAgg Try.prog 124 false := ⟨Try.isAgg124⟩
instance ty_z124 : TyZ Try.prog 124 (.nilFunc) := ⟨Try.zeroValue124⟩
instance ty_sz125 : TySz Try.prog 125 5 := ⟨Try.sizeOf125⟩
instance ty_agg125 : TyAgg Try.prog 125 true := ⟨Try.isAgg125⟩
instance ty_z125 : TyZ Try.prog 125 (.agg #[.slice none 0 0, .slice none 0 0, .slice none 0 0, .int .i64 0, .int .i64 0]) := ⟨Try.zeroValue125⟩
instance ty_str125 : TyStr Try.prog 125 [(0, 1), (1, 1), (2, 1), (3, 1), (4, 1)] [.slice none 0 0, .slice none 0 0, .slice none 0 0, .int .i64 0, .int .i64 0] := ⟨fun ps => by kernel_rfl⟩
instance ty_f125_0 : FOff Try.prog 125 0 0 := ⟨fun a w => by simp [Instr.fieldAt, Instr.sureAddr, fieldPlace, run_underlying Try.underlying125, Try.sizeOf60]⟩
instance ty_f125_1 : FOff Try.prog 125 1 1 := ⟨fun a w => by simp [Instr.fieldAt, Instr.sureAddr, fieldPlace, run_underlying Try.underlying125, Try.sizeOf22]⟩
instance ty_f125_2 : FOff Try.prog 125 2 2 := ⟨fun a w => by simp [Instr.fieldAt, Instr.sureAddr, fieldPlace, run_underlying Try.underlying125, Try.sizeOf22]⟩
instance ty_f125_3 : FOff Try.prog 125 3 3 := ⟨fun a w => by simp [Instr.fieldAt, Instr.sureAddr, fieldPlace, run_underlying Try.underlying125, Try.sizeOf3]⟩
instance ty_f125_4 : FOff Try.prog 125 4 4 := ⟨fun a w => by simp [Instr.fieldAt, Instr.sureAddr, fieldPlace, run_underlying Try.underlying125, Try.sizeOf3]⟩
instance ty_sz126 : TySz Try.prog 126 5 := ⟨Try.sizeOf126⟩
instance ty_agg126 : TyAgg Try.prog 126 true := ⟨Try.isAgg126⟩
instance ty_z126 : TyZ Try.prog 126 (.agg #[.slice none 0 0, .slice none 0 0, .slice none 0 0, .int .i64 0, .int .i64 0]) := ⟨Try.zeroValue126⟩
instance ty_str126 : TyStr Try.prog 126 [(0, 1), (1, 1), (2, 1), (3, 1), (4, 1)] [.slice none 0 0, .slice none 0 0, .slice none 0 0, .int .i64 0, .int .i64 0] := ⟨fun ps => by kernel_rfl⟩
instance ty_f126_0 : FOff Try.prog 126 0 0 := ⟨fun a w => by simp [Instr.fieldAt, Instr.sureAddr, fieldPlace, run_underlying Try.underlying126, Try.sizeOf60]⟩
instance ty_f126_1 : FOff Try.prog 126 1 1 := ⟨fun a w => by simp [Instr.fieldAt, Instr.sureAddr, fieldPlace, run_underlying Try.underlying126, Try.sizeOf22]⟩
instance ty_f126_2 : FOff Try.prog 126 2 2 := ⟨fun a w => by simp [Instr.fieldAt, Instr.sureAddr, fieldPlace, run_underlying Try.underlying126, Try.sizeOf22]⟩
instance ty_f126_3 : FOff Try.prog 126 3 3 := ⟨fun a w => by simp [Instr.fieldAt, Instr.sureAddr, fieldPlace, run_underlying Try.underlying126, Try.sizeOf3]⟩
instance ty_f126_4 : FOff Try.prog 126 4 4 := ⟨fun a w => by simp [Instr.fieldAt, Instr.sureAddr, fieldPlace, run_underlying Try.underlying126, Try.sizeOf3]⟩
instance ty_sz127 : TySz Try.prog 127 1 := ⟨Try.sizeOf127⟩
instance ty_agg127 : TyAgg Try.prog 127 false := ⟨Try.isAgg127⟩
instance ty_z127 : TyZ Try.prog 127 (.nilFunc) := ⟨Try.zeroValue127⟩
instance ty_sz128 : TySz Try.prog 128 1 := ⟨Try.sizeOf128⟩
instance ty_agg128 : TyAgg Try.prog 128 false := ⟨Try.isAgg128⟩
instance ty_z128 : TyZ Try.prog 128 (.nilFunc) := ⟨Try.zeroValue128⟩
instance ty_sz129 : TySz Try.prog 129 1 := ⟨Try.sizeOf129⟩
instance ty_agg129 : TyAgg Try.prog 129 false := ⟨Try.isAgg129⟩
instance ty_z129 : TyZ Try.prog 129 (.nilFunc) := ⟨Try.zeroValue129⟩
instance ty_sz130 : TySz Try.prog 130 1 := ⟨Try.sizeOf130⟩
instance ty_agg130 : TyAgg Try.prog 130 false := ⟨Try.isAgg130⟩
instance ty_z130 : TyZ Try.prog 130 (.pointer none) := ⟨Try.zeroValue130⟩
instance ty_ptr130 : TyPtr Try.prog 130 := ⟨⟨_, Try.underlying130⟩⟩
instance ty_sz131 : TySz Try.prog 131 1 := ⟨Try.sizeOf131⟩
instance ty_agg131 : TyAgg Try.prog 131 false := ⟨Try.isAgg131⟩
instance ty_z131 : TyZ Try.prog 131 (.nilFunc) := ⟨Try.zeroValue131⟩
instance ty_sz132 : TySz Try.prog 132 1 := ⟨Try.sizeOf132⟩
instance ty_agg132 : TyAgg Try.prog 132 false := ⟨Try.isAgg132⟩
instance ty_z132 : TyZ Try.prog 132 (.nilFunc) := ⟨Try.zeroValue132⟩
instance ty_sz133 : TySz Try.prog 133 1 := ⟨Try.sizeOf133⟩
instance ty_agg133 : TyAgg Try.prog 133 false := ⟨Try.isAgg133⟩
instance ty_z133 : TyZ Try.prog 133 (.nilFunc) := ⟨Try.zeroValue133⟩
instance ty_sz134 : TySz Try.prog 134 1 := ⟨Try.sizeOf134⟩
instance ty_agg134 : TyAgg Try.prog 134 false := ⟨Try.isAgg134⟩
instance ty_z134 : TyZ Try.prog 134 (.nilFunc) := ⟨Try.zeroValue134⟩
instance ty_sz135 : TySz Try.prog 135 1 := ⟨Try.sizeOf135⟩
instance ty_agg135 : TyAgg Try.prog 135 false := ⟨Try.isAgg135⟩
instance ty_z135 : TyZ Try.prog 135 (.nilFunc) := ⟨Try.zeroValue135⟩
instance ty_sz136 : TySz Try.prog 136 1 := ⟨Try.sizeOf136⟩
instance ty_agg136 : TyAgg Try.prog 136 false := ⟨Try.isAgg136⟩
instance ty_z136 : TyZ Try.prog 136 (.nilFunc) := ⟨Try.zeroValue136⟩
instance ty_sz138 : TySz Try.prog 138 1 := ⟨Try.sizeOf138⟩
instance ty_agg138 : TyAgg Try.prog 138 false := ⟨Try.isAgg138⟩
instance ty_z138 : TyZ Try.prog 138 (.nilFunc) := ⟨Try.zeroValue138⟩
instance ty_sz139 : TySz Try.prog 139 1 := ⟨Try.sizeOf139⟩
instance ty_agg139 : TyAgg Try.prog 139 false := ⟨Try.isAgg139⟩
instance ty_z139 : TyZ Try.prog 139 (.nilFunc) := ⟨Try.zeroValue139⟩
instance ty_sz140 : TySz Try.prog 140 1 := ⟨Try.sizeOf140⟩
instance ty_agg140 : TyAgg Try.prog 140 false := ⟨Try.isAgg140⟩
instance ty_z140 : TyZ Try.prog 140 (.nilFunc) := ⟨Try.zeroValue140⟩
instance ty_sz141 : TySz Try.prog 141 1 := ⟨Try.sizeOf141⟩
instance ty_agg141 : TyAgg Try.prog 141 false := ⟨Try.isAgg141⟩
instance ty_z141 : TyZ Try.prog 141 (.nilFunc) := ⟨Try.zeroValue141⟩
instance ty_sz142 : TySz Try.prog 142 1 := ⟨Try.sizeOf142⟩
instance ty_agg142 : TyAgg Try.prog 142 false := ⟨Try.isAgg142⟩
instance ty_z142 : TyZ Try.prog 142 (.nilFunc) := ⟨Try.zeroValue142⟩
instance ty_sz143 : TySz Try.prog 143 1 := ⟨Try.sizeOf143⟩
instance ty_agg143 : TyAgg Try.prog 143 false := ⟨Try.isAgg143⟩
instance ty_z143 : TyZ Try.prog 143 (.int .u32 0) := ⟨Try.zeroValue143⟩
instance ty_int143 : TyInt Try.prog 143 .u32 := ⟨Try.underlying143⟩
instance ty_sz145 : TySz Try.prog 145 1 := ⟨Try.sizeOf145⟩
instance ty_agg145 : TyAgg Try.prog 145 false := ⟨Try.isAgg145⟩
instance ty_z145 : TyZ Try.prog 145 (.nilFunc) := ⟨Try.zeroValue145⟩
instance ty_sz146 : TySz Try.prog 146 1 := ⟨Try.sizeOf146⟩
instance ty_agg146 : TyAgg Try.prog 146 false := ⟨Try.isAgg146⟩
instance ty_z146 : TyZ Try.prog 146 (.int .u64 0) := ⟨Try.zeroValue146⟩
instance ty_int146 : TyInt Try.prog 146 .u64 := ⟨Try.underlying146⟩
instance ty_sz148 : TySz Try.prog 148 1 := ⟨Try.sizeOf148⟩
instance ty_agg148 : TyAgg Try.prog 148 false := ⟨Try.isAgg148⟩
instance ty_z148 : TyZ Try.prog 148 (.nilFunc) := ⟨Try.zeroValue148⟩
instance ty_sz149 : TySz Try.prog 149 1 := ⟨Try.sizeOf149⟩
instance ty_agg149 : TyAgg Try.prog 149 false := ⟨Try.isAgg149⟩
instance ty_z149 : TyZ Try.prog 149 (.nilFunc) := ⟨Try.zeroValue149⟩
instance ty_sz150 : TySz Try.prog 150 1 := ⟨Try.sizeOf150⟩
instance ty_agg150 : TyAgg Try.prog 150 false := ⟨Try.isAgg150⟩
instance ty_z150 : TyZ Try.prog 150 (.int .i64 0) := ⟨Try.zeroValue150⟩
instance ty_int150 : TyInt Try.prog 150 .i64 := ⟨Try.underlying150⟩
instance ty_sz152 : TySz Try.prog 152 1 := ⟨Try.sizeOf152⟩
instance ty_agg152 : TyAgg Try.prog 152 false := ⟨Try.isAgg152⟩
instance ty_z152 : TyZ Try.prog 152 (.nilFunc) := ⟨Try.zeroValue152⟩
instance ty_sz153 : TySz Try.prog 153 1 := ⟨Try.sizeOf153⟩
instance ty_agg153 : TyAgg Try.prog 153 false := ⟨Try.isAgg153⟩
instance ty_z153 : TyZ Try.prog 153 (.nilFunc) := ⟨Try.zeroValue153⟩
instance ty_sz154 : TySz Try.prog 154 1 := ⟨Try.sizeOf154⟩
instance ty_agg154 : TyAgg Try.prog 154 false := ⟨Try.isAgg154⟩
instance ty_z154 : TyZ Try.prog 154 (.nilFunc) := ⟨Try.zeroValue154⟩
instance ty_sz155 : TySz Try.prog 155 1 := ⟨Try.sizeOf155⟩
instance ty_agg155 : TyAgg Try.prog 155 false := ⟨Try.isAgg155⟩
instance ty_z155 : TyZ Try.prog 155 (.nilFunc) := ⟨Try.zeroValue155⟩
instance ty_sz157 : TySz Try.prog 157 1 := ⟨Try.sizeOf157⟩
instance ty_agg157 : TyAgg Try.prog 157 false := ⟨Try.isAgg157⟩
instance ty_z157 : TyZ Try.prog 157 (.nilFunc) := ⟨Try.zeroValue157⟩
instance ty_sz158 : TySz Try.prog 158 1 := ⟨Try.sizeOf158⟩
instance ty_agg158 : TyAgg Try.prog 158 false := ⟨Try.isAgg158⟩
instance ty_z158 : TyZ Try.prog 158 (.nilFunc) := ⟨Try.zeroValue158⟩
instance ty_sz159 : TySz Try.prog 159 1 := ⟨Try.sizeOf159⟩
instance ty_agg159 : TyAgg Try.prog 159 false := ⟨Try.isAgg159⟩
instance ty_z159 : TyZ Try.prog 159 (.nilFunc) := ⟨Try.zeroValue159⟩
instance ty_sz160 : TySz Try.prog 160 1 := ⟨Try.sizeOf160⟩
instance ty_agg160 : TyAgg Try.prog 160 false := ⟨Try.isAgg160⟩
instance ty_z160 : TyZ Try.prog 160 (.int .u64 0) := ⟨Try.zeroValue160⟩
instance ty_int160 : TyInt Try.prog 160 .u64 := ⟨Try.underlying160⟩
instance ty_sz161 : TySz Try.prog 161 1 := ⟨Try.sizeOf161⟩
instance ty_agg161 : TyAgg Try.prog 161 false := ⟨Try.isAgg161⟩
instance ty_z161 : TyZ Try.prog 161 (.nilFunc) := ⟨Try.zeroValue161⟩
instance ty_sz162 : TySz Try.prog 162 1 := ⟨Try.sizeOf162⟩
instance ty_agg162 : TyAgg Try.prog 162 false := ⟨Try.isAgg162⟩
instance ty_z162 : TyZ Try.prog 162 (.nilFunc) := ⟨Try.zeroValue162⟩
instance ty_sz163 : TySz Try.prog 163 1 := ⟨Try.sizeOf163⟩
instance ty_agg163 : TyAgg Try.prog 163 false := ⟨Try.isAgg163⟩
instance ty_z163 : TyZ Try.prog 163 (.nilFunc) := ⟨Try.zeroValue163⟩
instance ty_sz164 : TySz Try.prog 164 1 := ⟨Try.sizeOf164⟩
instance ty_agg164 : TyAgg Try.prog 164 false := ⟨Try.isAgg164⟩
instance ty_z164 : TyZ Try.prog 164 (.pointer none) := ⟨Try.zeroValue164⟩
instance ty_ptr164 : TyPtr Try.prog 164 := ⟨⟨_, Try.underlying164⟩⟩
instance ty_sz165 : TySz Try.prog 165 1 := ⟨Try.sizeOf165⟩
instance ty_agg165 : TyAgg Try.prog 165 false := ⟨Try.isAgg165⟩
instance ty_z165 : TyZ Try.prog 165 (.nilFunc) := ⟨Try.zeroValue165⟩
instance ty_sz166 : TySz Try.prog 166 1 := ⟨Try.sizeOf166⟩
instance ty_agg166 : TyAgg Try.prog 166 false := ⟨Try.isAgg166⟩
instance ty_z166 : TyZ Try.prog 166 (.pointer none) := ⟨Try.zeroValue166⟩
instance ty_ptr166 : TyPtr Try.prog 166 := ⟨⟨_, Try.underlying166⟩⟩
instance ty_sz168 : TySz Try.prog 168 1 := ⟨Try.sizeOf168⟩
instance ty_agg168 : TyAgg Try.prog 168 false := ⟨Try.isAgg168⟩
instance ty_z168 : TyZ Try.prog 168 (.nilFunc) := ⟨Try.zeroValue168⟩
instance ty_sz169 : TySz Try.prog 169 1 := ⟨Try.sizeOf169⟩
instance ty_agg169 : TyAgg Try.prog 169 false := ⟨Try.isAgg169⟩
instance ty_z169 : TyZ Try.prog 169 (.nilFunc) := ⟨Try.zeroValue169⟩
instance ty_sz170 : TySz Try.prog 170 4 := ⟨Try.sizeOf170⟩
instance ty_agg170 : TyAgg Try.prog 170 true := ⟨Try.isAgg170⟩
instance ty_z170 : TyZ Try.prog 170 (.agg #[.pointer none, .pointer none, .pointer none, .string ⟨#[]⟩]) := ⟨Try.zeroValue170⟩
instance ty_str170 : TyStr Try.prog 170 [(0, 1), (1, 1), (2, 1), (3, 1)] [.pointer none, .pointer none, .pointer none, .string ⟨#[]⟩] := ⟨fun ps => by kernel_rfl⟩
instance ty_f170_0 : FOff Try.prog 170 0 0 := ⟨fun a w => by simp [Instr.fieldAt, Instr.sureAddr, fieldPlace, run_underlying Try.underlying170, Try.sizeOf17]⟩
instance ty_f170_1 : FOff Try.prog 170 1 1 := ⟨fun a w => by simp [Instr.fieldAt, Instr.sureAddr, fieldPlace, run_underlying Try.underlying170, Try.sizeOf17]⟩
instance ty_f170_2 : FOff Try.prog 170 2 2 := ⟨fun a w => by simp [Instr.fieldAt, Instr.sureAddr, fieldPlace, run_underlying Try.underlying170, Try.sizeOf17]⟩
instance ty_f170_3 : FOff Try.prog 170 3 3 := ⟨fun a w => by simp [Instr.fieldAt, Instr.sureAddr, fieldPlace, run_underlying Try.underlying170, Try.sizeOf9]⟩
instance ty_sz171 : TySz Try.prog 171 4 := ⟨Try.sizeOf171⟩
instance ty_agg171 : TyAgg Try.prog 171 true := ⟨Try.isAgg171⟩
instance ty_z171 : TyZ Try.prog 171 (.agg #[.pointer none, .pointer none, .pointer none, .string ⟨#[]⟩]) := ⟨Try.zeroValue171⟩
instance ty_str171 : TyStr Try.prog 171 [(0, 1), (1, 1), (2, 1), (3, 1)] [.pointer none, .pointer none, .pointer none, .string ⟨#[]⟩] := ⟨fun ps => by kernel_rfl⟩
instance ty_f171_0 : FOff Try.prog 171 0 0 := ⟨fun a w => by simp [Instr.fieldAt, Instr.sureAddr, fieldPlace, run_underlying Try.underlying171, Try.sizeOf17]⟩
instance ty_f171_1 : FOff Try.prog 171 1 1 := ⟨fun a w => by simp [Instr.fieldAt, Instr.sureAddr, fieldPlace, run_underlying Try.underlying171, Try.sizeOf17]⟩
instance ty_f171_2 : FOff Try.prog 171 2 2 := ⟨fun a w => by simp [Instr.fieldAt, Instr.sureAddr, fieldPlace, run_underlying Try.underlying171, Try.sizeOf17]⟩
instance ty_f171_3 : FOff Try.prog 171 3 3 := ⟨fun a w => by simp [Instr.fieldAt, Instr.sureAddr, fieldPlace, run_underlying Try.underlying171, Try.sizeOf9]⟩
instance ty_sz172 : TySz Try.prog 172 0 := ⟨Try.sizeOf172⟩
instance ty_agg172 : TyAgg Try.prog 172 true := ⟨Try.isAgg172⟩
instance ty_z172 : TyZ Try.prog 172 (.agg #[]) := ⟨Try.zeroValue172⟩
instance ty_ar172 : TyAr Try.prog 172 16 1 0 := ⟨Try.underlying172, Try.sizeOf16⟩
instance ty_sz173 : TySz Try.prog 173 0 := ⟨Try.sizeOf173⟩
instance ty_agg173 : TyAgg Try.prog 173 true := ⟨Try.isAgg173⟩
instance ty_z173 : TyZ Try.prog 173 (.agg #[]) := ⟨Try.zeroValue173⟩
instance ty_sz174 : TySz Try.prog 174 0 := ⟨Try.sizeOf174⟩
instance ty_agg174 : TyAgg Try.prog 174 true := ⟨Try.isAgg174⟩
instance ty_z174 : TyZ Try.prog 174 (.agg #[]) := ⟨Try.zeroValue174⟩
instance ty_sz175 : TySz Try.prog 175 1 := ⟨Try.sizeOf175⟩
instance ty_agg175 : TyAgg Try.prog 175 false := ⟨Try.isAgg175⟩
instance ty_z175 : TyZ Try.prog 175 (.int .u8 0) := ⟨Try.zeroValue175⟩
instance ty_int175 : TyInt Try.prog 175 .u8 := ⟨Try.underlying175⟩
instance ty_sz176 : TySz Try.prog 176 1 := ⟨Try.sizeOf176⟩
instance ty_agg176 : TyAgg Try.prog 176 false := ⟨Try.isAgg176⟩
instance ty_z176 : TyZ Try.prog 176 (.int .u8 0) := ⟨Try.zeroValue176⟩
instance ty_int176 : TyInt Try.prog 176 .u8 := ⟨Try.underlying176⟩
instance ty_sz177 : TySz Try.prog 177 1 := ⟨Try.sizeOf177⟩
instance ty_agg177 : TyAgg Try.prog 177 false := ⟨Try.isAgg177⟩
instance ty_z177 : TyZ Try.prog 177 (.nilFunc) := ⟨Try.zeroValue177⟩
instance ty_sz178 : TySz Try.prog 178 1 := ⟨Try.sizeOf178⟩
instance ty_agg178 : TyAgg Try.prog 178 false := ⟨Try.isAgg178⟩
instance ty_z178 : TyZ Try.prog 178 (.pointer none) := ⟨Try.zeroValue178⟩
instance ty_ptr178 : TyPtr Try.prog 178 := ⟨⟨_, Try.underlying178⟩⟩
instance ty_sz179 : TySz Try.prog 179 1 := ⟨Try.sizeOf179⟩
instance ty_agg179 : TyAgg Try.prog 179 false := ⟨Try.isAgg179⟩
instance ty_z179 : TyZ Try.prog 179 (.int .i32 0) := ⟨Try.zeroValue179⟩
instance ty_int179 : TyInt Try.prog 179 .i32 := ⟨Try.underlying179⟩
instance ty_sz180 : TySz Try.prog 180 1 := ⟨Try.sizeOf180⟩
instance ty_agg180 : TyAgg Try.prog 180 false := ⟨Try.isAgg180⟩
instance ty_z180 : TyZ Try.prog 180 (.int .i32 0) := ⟨Try.zeroValue180⟩
instance ty_int180 : TyInt Try.prog 180 .i32 := ⟨Try.underlying180⟩
instance ty_sz181 : TySz Try.prog 181 11 := ⟨Try.sizeOf181⟩
instance ty_agg181 : TyAgg Try.prog 181 true := ⟨Try.isAgg181⟩
instance ty_z181 : TyZ Try.prog 181 (.agg #[.int .u64 0, .int .u64 0, .int .u32 0, .int .u8 0, .int .u8 0, .int .u8 0, .int .u8 0, .nilFunc, .pointer none, .int .i32 0, .int .i32 0]) := ⟨Try.zeroValue181⟩
instance ty_str181 : TyStr Try.prog 181 [(0, 1), (1, 1), (2, 1), (3, 1), (4, 1), (5, 1), (6, 1), (7, 1), (8, 1), (9, 1), (10, 1)] [.int .u64 0, .int .u64 0, .int .u32 0, .int .u8 0, .int .u8 0, .int .u8 0, .int .u8 0, .nilFunc, .pointer none, .int .i32 0, .int .i32 0] := ⟨fun ps => by kernel_rfl⟩
instance ty_f181_0 : FOff Try.prog 181 0 0 := ⟨fun a w => by simp [Instr.fieldAt, Instr.sureAddr, fieldPlace, run_underlying Try.underlying181, Try.sizeOf12]⟩
instance ty_f181_1 : FOff Try.prog 181 1 1 := ⟨fun a w => by simp [Instr.fieldAt, Instr.sureAddr, fieldPlace, run_underlying Try.underlying181, Try.sizeOf12]⟩
instance ty_f181_2 : FOff Try.prog 181 2 2 := ⟨fun a w => by simp [Instr.fieldAt, Instr.sureAddr, fieldPlace, run_underlying Try.underlying181, Try.sizeOf143]⟩
instance ty_f181_3 : FOff Try.prog 181 3 3 := ⟨fun a w => by simp [Instr.fieldAt, Instr.sureAddr, fieldPlace, run_underlying Try.underlying181, Try.sizeOf175]⟩
instance ty_f181_4 : FOff Try.prog 181 4 4 := ⟨fun a w => by simp [Instr.fieldAt, Instr.sureAddr, fieldPlace, run_underlying Try.underlying181, Try.sizeOf5]⟩
instance ty_f181_5 : FOff Try.prog 181 5 5 := ⟨fun a w => by simp [Instr.fieldAt, Instr.sureAddr, fieldPlace, run_underlying Try.underlying181, Try.sizeOf5]⟩
instance ty_f181_6 : FOff Try.prog 181 6 6 := ⟨fun a w => by simp [Instr.fieldAt, Instr.sureAddr, fieldPlace, run_underlying Try.underlying181, Try.sizeOf176]⟩
instance ty_f181_7 : FOff Try.prog 181 7 7 := ⟨fun a w => by simp [Instr.fieldAt, Instr.sureAddr, fieldPlace, run_underlying Try.underlying181, Try.sizeOf177]⟩
instance ty_f181_8 : FOff Try.prog 181 8 8 := ⟨fun a w => by simp [Instr.fieldAt, Instr.sureAddr, fieldPlace, run_underlying Try.underlying181, Try.sizeOf178]⟩
instance ty_f181_9 : FOff Try.prog 181 9 9 := ⟨fun a w => by simp [Instr.fieldAt, Instr.sureAddr, fieldPlace, run_underlying Try.underlying181, Try.sizeOf179]⟩
instance ty_f181_10 : FOff Try.prog 181 10 10 := ⟨fun a w => by simp [Instr.fieldAt, Instr.sureAddr, fieldPlace, run_underlying Try.underlying181, Try.sizeOf180]⟩
instance ty_sz182 : TySz Try.prog 182 11 := ⟨Try.sizeOf182⟩
instance ty_agg182 : TyAgg Try.prog 182 true := ⟨Try.isAgg182⟩
instance ty_z182 : TyZ Try.prog 182 (.agg #[.int .u64 0, .int .u64 0, .int .u32 0, .int .u8 0, .int .u8 0, .int .u8 0, .int .u8 0, .nilFunc, .pointer none, .int .i32 0, .int .i32 0]) := ⟨Try.zeroValue182⟩
instance ty_str182 : TyStr Try.prog 182 [(0, 1), (1, 1), (2, 1), (3, 1), (4, 1), (5, 1), (6, 1), (7, 1), (8, 1), (9, 1), (10, 1)] [.int .u64 0, .int .u64 0, .int .u32 0, .int .u8 0, .int .u8 0, .int .u8 0, .int .u8 0, .nilFunc, .pointer none, .int .i32 0, .int .i32 0] := ⟨fun ps => by kernel_rfl⟩
instance ty_f182_0 : FOff Try.prog 182 0 0 := ⟨fun a w => by simp [Instr.fieldAt, Instr.sureAddr, fieldPlace, run_underlying Try.underlying182, Try.sizeOf12]⟩
instance ty_f182_1 : FOff Try.prog 182 1 1 := ⟨fun a w => by simp [Instr.fieldAt, Instr.sureAddr, fieldPlace, run_underlying Try.underlying182, Try.sizeOf12]⟩
instance ty_f182_2 : FOff Try.prog 182 2 2 := ⟨fun a w => by simp [Instr.fieldAt, Instr.sureAddr, fieldPlace, run_underlying Try.underlying182, Try.sizeOf143]⟩
instance ty_f182_3 : FOff Try.prog 182 3 3 := ⟨fun a w => by simp [Instr.fieldAt, Instr.sureAddr, fieldPlace, run_underlying Try.underlying182, Try.sizeOf175]⟩
instance ty_f182_4 : FOff Try.prog 182 4 4 := ⟨fun a w => by simp [Instr.fieldAt, Instr.sureAddr, fieldPlace, run_underlying Try.underlying182, Try.sizeOf5]⟩
instance ty_f182_5 : FOff Try.prog 182 5 5 := ⟨fun a w => by simp [Instr.fieldAt, Instr.sureAddr, fieldPlace, run_underlying Try.underlying182, Try.sizeOf5]⟩
instance ty_f182_6 : FOff Try.prog 182 6 6 := ⟨fun a w => by simp [Instr.fieldAt, Instr.sureAddr, fieldPlace, run_underlying Try.underlying182, Try.sizeOf176]⟩
instance ty_f182_7 : FOff Try.prog 182 7 7 := ⟨fun a w => by simp [Instr.fieldAt, Instr.sureAddr, fieldPlace, run_underlying Try.underlying182, Try.sizeOf177]⟩
instance ty_f182_8 : FOff Try.prog 182 8 8 := ⟨fun a w => by simp [Instr.fieldAt, Instr.sureAddr, fieldPlace, run_underlying Try.underlying182, Try.sizeOf178]⟩
instance ty_f182_9 : FOff Try.prog 182 9 9 := ⟨fun a w => by simp [Instr.fieldAt, Instr.sureAddr, fieldPlace, run_underlying Try.underlying182, Try.sizeOf179]⟩
instance ty_f182_10 : FOff Try.prog 182 10 10 := ⟨fun a w => by simp [Instr.fieldAt, Instr.sureAddr, fieldPlace, run_underlying Try.underlying182, Try.sizeOf180]⟩
instance ty_sz183 : TySz Try.prog 183 1 := ⟨Try.sizeOf183⟩
instance ty_agg183 : TyAgg Try.prog 183 false := ⟨Try.isAgg183⟩
instance ty_z183 : TyZ Try.prog 183 (.nilFunc) := ⟨Try.zeroValue183⟩
instance ty_sz184 : TySz Try.prog 184 1 := ⟨Try.sizeOf184⟩
instance ty_agg184 : TyAgg Try.prog 184 false := ⟨Try.isAgg184⟩
instance ty_z184 : TyZ Try.prog 184 (.pointer none) := ⟨Try.zeroValue184⟩
instance fn_ok2 : FnOk Try.prog 2 := ⟨Try.call2⟩
instance fn_ok3 : FnOk Try.prog 3 := ⟨Try.call3⟩
instance fn_ok4 : FnOk Try.prog 4 := ⟨Try.call4⟩
instance fn_ok5 : FnOk Try.prog 5 := ⟨Try.call5⟩
instance fn_ok6 : FnOk Try.prog 6 := ⟨Try.call6⟩
instance fn_ok7 : FnOk Try.prog 7 := ⟨Try.call7⟩
instance fn_ok8 : FnOk Try.prog 8 := ⟨Try.call8⟩
instance fn_ok9 : FnOk Try.prog 9 := ⟨Try.call9⟩
instance fn_ok10 : FnOk Try.prog 10 := ⟨Try.call10⟩
instance fn_ok11 : FnOk Try.prog 11 := ⟨Try.call11⟩
instance fn_ok12 : FnOk Try.prog 12 := ⟨Try.call12⟩
instance fn_ok13 : FnOk Try.prog 13 := ⟨Try.call13⟩
instance fn_ok14 : FnOk Try.prog 14 := ⟨Try.call14⟩
instance fn_ok15 : FnOk Try.prog 15 := ⟨Try.call15⟩
instance fn_ok16 : FnOk Try.prog 16 := ⟨Try.call16⟩
instance fn_ok17 : FnOk Try.prog 17 := ⟨Try.call17⟩
instance fn_ok18 : FnOk Try.prog 18 := ⟨Try.call18⟩
instance fn_ok19 : FnOk Try.prog 19 := ⟨Try.call19⟩
instance fn_ok20 : FnOk Try.prog 20 := ⟨Try.call20⟩
instance fn_ok21 : FnOk Try.prog 21 := ⟨Try.call21⟩
instance fn_ok22 : FnOk Try.prog 22 := ⟨Try.call22⟩
instance fn_ok23 : FnOk Try.prog 23 := ⟨Try.call23⟩
instance fn_ok24 : FnOk Try.prog 24 := ⟨Try.call24⟩
instance fn_ok25 : FnOk Try.prog 25 := ⟨Try.call25⟩
instance fn_ok26 : FnOk Try.prog 26 := ⟨Try.call26⟩
instance fn_ok27 : FnOk Try.prog 27 := ⟨Try.call27⟩
instance fn_ok28 : FnOk Try.prog 28 := ⟨Try.call28⟩
instance fn_ok29 : FnOk Try.prog 29 := ⟨Try.call29⟩
instance fn_ok30 : FnOk Try.prog 30 := ⟨Try.call30⟩
instance fn_ok31 : FnOk Try.prog 31 := ⟨Try.call31⟩
instance fn_ok32 : FnOk Try.prog 32 := ⟨Try.call32⟩
instance fn_ok33 : FnOk Try.prog 33 := ⟨Try.call33⟩
instance fn_ok34 : FnOk Try.prog 34 := ⟨Try.call34⟩
instance fn_ok35 : FnOk Try.prog 35 := ⟨Try.call35⟩
instance fn_ok36 : FnOk Try.prog 36 := ⟨Try.call36⟩
instance fn_ok37 : FnOk Try.prog 37 := ⟨Try.call37⟩
instance fn_ok38 : FnOk Try.prog 38 := ⟨Try.call38⟩
instance fn_ok39 : FnOk Try.prog 39 := ⟨Try.call39⟩
instance fn_ok40 : FnOk Try.prog 40 := ⟨Try.call40⟩
instance fn_ok41 : FnOk Try.prog 41 := ⟨Try.call41⟩
instance fn_ok42 : FnOk Try.prog 42 := ⟨Try.call42⟩
instance fn_ok43 : FnOk Try.prog 43 := ⟨Try.call43⟩
instance fn_ok44 : FnOk Try.prog 44 := ⟨Try.call44⟩
instance fn_ok45 : FnOk Try.prog 45 := ⟨Try.call45⟩
instance fn_ok46 : FnOk Try.prog 46 := ⟨Try.call46⟩
instance fn_ok47 : FnOk Try.prog 47 := ⟨Try.call47⟩
instance fn_ok48 : FnOk Try.prog 48 := ⟨Try.call48⟩
instance fn_ok49 : FnOk Try.prog 49 := ⟨Try.call49⟩
instance fn_ok50 : FnOk Try.prog 50 := ⟨Try.call50⟩
instance fn_ok51 : FnOk Try.prog 51 := ⟨Try.call51⟩
instance fn_ok52 : FnOk Try.prog 52 := ⟨Try.call52⟩
instance fn_ok53 : FnOk Try.prog 53 := ⟨Try.call53⟩
instance fn_ok54 : FnOk Try.prog 54 := ⟨Try.call54⟩
instance fn_ok55 : FnOk Try.prog 55 := ⟨Try.call55⟩
instance fn_ok56 : FnOk Try.prog 56 := ⟨Try.call56⟩
instance fn_ok57 : FnOk Try.prog 57 := ⟨Try.call57⟩
instance fn_ok58 : FnOk Try.prog 58 := ⟨Try.call58⟩
instance fn_ok59 : FnOk Try.prog 59 := ⟨Try.call59⟩
instance fn_ok60 : FnOk Try.prog 60 := ⟨Try.call60⟩
instance fn_ok61 : FnOk Try.prog 61 := ⟨Try.call61⟩
instance fn_ok62 : FnOk Try.prog 62 := ⟨Try.call62⟩
instance fn_ok63 : FnOk Try.prog 63 := ⟨Try.call63⟩
instance fn_ok64 : FnOk Try.prog 64 := ⟨Try.call64⟩
instance fn_ok65 : FnOk Try.prog 65 := ⟨Try.call65⟩
instance fn_ok66 : FnOk Try.prog 66 := ⟨Try.call66⟩
instance fn_ok67 : FnOk Try.prog 67 := ⟨Try.call67⟩
instance fn_ok68 : FnOk Try.prog 68 := ⟨Try.call68⟩
instance fn_ok69 : FnOk Try.prog 69 := ⟨Try.call69⟩
instance fn_ok70 : FnOk Try.prog 70 := ⟨Try.call70⟩
instance fn_ok71 : FnOk Try.prog 71 := ⟨Try.call71⟩
instance fn_ok72 : FnOk Try.prog 72 := ⟨Try.call72⟩
instance fn_ok73 : FnOk Try.prog 73 := ⟨Try.call73⟩
instance fn_ok74 : FnOk Try.prog 74 := ⟨Try.call74⟩
instance fn_ok75 : FnOk Try.prog 75 := ⟨Try.call75⟩
instance fn_ok76 : FnOk Try.prog 76 := ⟨Try.call76⟩
instance fn_ok77 : FnOk Try.prog 77 := ⟨Try.call77⟩
instance fn_ok78 : FnOk Try.prog 78 := ⟨Try.call78⟩
instance fn_ok79 : FnOk Try.prog 79 := ⟨Try.call79⟩
instance fn_ok80 : FnOk Try.prog 80 := ⟨Try.call80⟩
instance fn_ok81 : FnOk Try.prog 81 := ⟨Try.call81⟩
instance fn_ok82 : FnOk Try.prog 82 := ⟨Try.call82⟩
instance fn_ok83 : FnOk Try.prog 83 := ⟨Try.call83⟩
instance fn_ok84 : FnOk Try.prog 84 := ⟨Try.call84⟩
instance fn_ok85 : FnOk Try.prog 85 := ⟨Try.call85⟩
instance fn_ok86 : FnOk Try.prog 86 := ⟨Try.call86⟩
instance fn_ok87 : FnOk Try.prog 87 := ⟨Try.call87⟩
instance fn_ok88 : FnOk Try.prog 88 := ⟨Try.call88⟩
instance fn_ok89 : FnOk Try.prog 89 := ⟨Try.call89⟩
instance fn_ok90 : FnOk Try.prog 90 := ⟨Try.call90⟩
instance fn_ok91 : FnOk Try.prog 91 := ⟨Try.call91⟩
instance fn_ok92 : FnOk Try.prog 92 := ⟨Try.call92⟩
instance fn_ok93 : FnOk Try.prog 93 := ⟨Try.call93⟩
instance fn_ok94 : FnOk Try.prog 94 := ⟨Try.call94⟩
instance fn_ok95 : FnOk Try.prog 95 := ⟨Try.call95⟩
instance fn_ok96 : FnOk Try.prog 96 := ⟨Try.call96⟩
instance fn_ok97 : FnOk Try.prog 97 := ⟨Try.call97⟩
instance fn_ok98 : FnOk Try.prog 98 := ⟨Try.call98⟩
instance fn_ok99 : FnOk Try.prog 99 := ⟨Try.call99⟩
instance fn_ok100 : FnOk Try.prog 100 := ⟨Try.call100⟩
instance fn_ok101 : FnOk Try.prog 101 := ⟨Try.call101⟩
instance fn_ok102 : FnOk Try.prog 102 := ⟨Try.call102⟩
instance fn_ok103 : FnOk Try.prog 103 := ⟨Try.call103⟩
instance fn_ok104 : FnOk Try.prog 104 := ⟨Try.call104⟩
instance fn_ok105 : FnOk Try.prog 105 := ⟨Try.call105⟩
instance fn_ok106 : FnOk Try.prog 106 := ⟨Try.call106⟩
instance fn_ok107 : FnOk Try.prog 107 := ⟨Try.call107⟩
instance fn_ok108 : FnOk Try.prog 108 := ⟨Try.call108⟩
instance fn_ok109 : FnOk Try.prog 109 := ⟨Try.call109⟩
instance fn_ok110 : FnOk Try.prog 110 := ⟨Try.call110⟩
theorem mixed : Try.prog.follows .mixedOrders = true := by kernel_rfl
end Go.Proofs.Ytnnkegmiefpgpaa
