/- What Eng's laws ask of this program's types and functions. -/
import Derived.Test.YtjnlcfkdackghaaProg
import Derived.Test.YtjnlcfkdackghaaMore
namespace Go.Proofs.Ytjnlcfkdackghaa
open Go.Proofs
set_option maxRecDepth 100000
instance ty_sz1 : TySz Try.prog 1 1 := ⟨Try.sizeOf1⟩
instance ty_agg1 : TyAgg Try.prog 1 false := ⟨Try.isAgg1⟩
instance ty_z1 : TyZ Try.prog 1 (.nilFunc) := ⟨Try.zeroValue1⟩
instance ty_sz2 : TySz Try.prog 2 1 := ⟨Try.sizeOf2⟩
instance ty_agg2 : TyAgg Try.prog 2 false := ⟨Try.isAgg2⟩
instance ty_z2 : TyZ Try.prog 2 (.int .i64 0) := ⟨Try.zeroValue2⟩
instance ty_int2 : TyInt Try.prog 2 .i64 := ⟨Try.underlying2⟩
instance ty_sz3 : TySz Try.prog 3 1 := ⟨Try.sizeOf3⟩
instance ty_agg3 : TyAgg Try.prog 3 false := ⟨Try.isAgg3⟩
instance ty_z3 : TyZ Try.prog 3 (.int .i64 0) := ⟨Try.zeroValue3⟩
instance ty_int3 : TyInt Try.prog 3 .i64 := ⟨Try.underlying3⟩
instance ty_sz4 : TySz Try.prog 4 1 := ⟨Try.sizeOf4⟩
instance ty_agg4 : TyAgg Try.prog 4 false := ⟨Try.isAgg4⟩
instance ty_z4 : TyZ Try.prog 4 (.bool false) := ⟨Try.zeroValue4⟩
instance ty_bool4 : TyBool Try.prog 4 := ⟨Try.underlying4⟩
instance ty_sz5 : TySz Try.prog 5 1 := ⟨Try.sizeOf5⟩
instance ty_agg5 : TyAgg Try.prog 5 false := ⟨Try.isAgg5⟩
instance ty_z5 : TyZ Try.prog 5 (.int .u8 0) := ⟨Try.zeroValue5⟩
instance ty_int5 : TyInt Try.prog 5 .u8 := ⟨Try.underlying5⟩
instance ty_sz6 : TySz Try.prog 6 1 := ⟨Try.sizeOf6⟩
instance ty_agg6 : TyAgg Try.prog 6 false := ⟨Try.isAgg6⟩
instance ty_z6 : TyZ Try.prog 6 (.int .u8 0) := ⟨Try.zeroValue6⟩
instance ty_int6 : TyInt Try.prog 6 .u8 := ⟨Try.underlying6⟩
instance ty_sz7 : TySz Try.prog 7 4 := ⟨Try.sizeOf7⟩
instance ty_agg7 : TyAgg Try.prog 7 true := ⟨Try.isAgg7⟩
instance ty_z7 : TyZ Try.prog 7 (.agg #[.int .i64 0, .int .i64 0, .bool false, .int .u8 0]) := ⟨Try.zeroValue7⟩
instance ty_str7 : TyStr Try.prog 7 [(0, 1), (1, 1), (2, 1), (3, 1)] [.int .i64 0, .int .i64 0, .bool false, .int .u8 0] := ⟨fun ps => by kernel_rfl⟩
instance ty_f7_0 : FOff Try.prog 7 0 0 := ⟨fun a w => by simp [Instr.fieldAt, Instr.sureAddr, fieldPlace, run_underlying Try.underlying7, Try.sizeOf2]⟩
instance ty_f7_1 : FOff Try.prog 7 1 1 := ⟨fun a w => by simp [Instr.fieldAt, Instr.sureAddr, fieldPlace, run_underlying Try.underlying7, Try.sizeOf3]⟩
instance ty_f7_2 : FOff Try.prog 7 2 2 := ⟨fun a w => by simp [Instr.fieldAt, Instr.sureAddr, fieldPlace, run_underlying Try.underlying7, Try.sizeOf4]⟩
instance ty_f7_3 : FOff Try.prog 7 3 3 := ⟨fun a w => by simp [Instr.fieldAt, Instr.sureAddr, fieldPlace, run_underlying Try.underlying7, Try.sizeOf6]⟩
instance ty_sz8 : TySz Try.prog 8 4 := ⟨Try.sizeOf8⟩
instance ty_agg8 : TyAgg Try.prog 8 true := ⟨Try.isAgg8⟩
instance ty_z8 : TyZ Try.prog 8 (.agg #[.int .i64 0, .int .i64 0, .bool false, .int .u8 0]) := ⟨Try.zeroValue8⟩
instance ty_str8 : TyStr Try.prog 8 [(0, 1), (1, 1), (2, 1), (3, 1)] [.int .i64 0, .int .i64 0, .bool false, .int .u8 0] := ⟨fun ps => by kernel_rfl⟩
instance ty_f8_0 : FOff Try.prog 8 0 0 := ⟨fun a w => by simp [Instr.fieldAt, Instr.sureAddr, fieldPlace, run_underlying Try.underlying8, Try.sizeOf2]⟩
instance ty_f8_1 : FOff Try.prog 8 1 1 := ⟨fun a w => by simp [Instr.fieldAt, Instr.sureAddr, fieldPlace, run_underlying Try.underlying8, Try.sizeOf3]⟩
instance ty_f8_2 : FOff Try.prog 8 2 2 := ⟨fun a w => by simp [Instr.fieldAt, Instr.sureAddr, fieldPlace, run_underlying Try.underlying8, Try.sizeOf4]⟩
instance ty_f8_3 : FOff Try.prog 8 3 3 := ⟨fun a w => by simp [Instr.fieldAt, Instr.sureAddr, fieldPlace, run_underlying Try.underlying8, Try.sizeOf6]⟩
instance ty_sz9 : TySz Try.prog 9 1 := ⟨Try.sizeOf9⟩
instance ty_agg9 : TyAgg Try.prog 9 false := ⟨Try.isAgg9⟩
instance ty_z9 : TyZ Try.prog 9 (.string ⟨#[]⟩) := ⟨Try.zeroValue9⟩
instance ty_sz10 : TySz Try.prog 10 1 := ⟨Try.sizeOf10⟩
instance ty_agg10 : TyAgg Try.prog 10 false := ⟨Try.isAgg10⟩
instance ty_z10 : TyZ Try.prog 10 (.string ⟨#[]⟩) := ⟨Try.zeroValue10⟩
instance ty_sz11 : TySz Try.prog 11 1 := ⟨Try.sizeOf11⟩
instance ty_agg11 : TyAgg Try.prog 11 false := ⟨Try.isAgg11⟩
instance ty_z11 : TyZ Try.prog 11 (.string ⟨#[]⟩) := ⟨Try.zeroValue11⟩
instance ty_sz12 : TySz Try.prog 12 1 := ⟨Try.sizeOf12⟩
instance ty_agg12 : TyAgg Try.prog 12 false := ⟨Try.isAgg12⟩
instance ty_z12 : TyZ Try.prog 12 (.int .u64 0) := ⟨Try.zeroValue12⟩
instance ty_int12 : TyInt Try.prog 12 .u64 := ⟨Try.underlying12⟩
instance ty_sz13 : TySz Try.prog 13 2 := ⟨Try.sizeOf13⟩
instance ty_agg13 : TyAgg Try.prog 13 true := ⟨Try.isAgg13⟩
instance ty_z13 : TyZ Try.prog 13 (.agg #[.string ⟨#[]⟩, .int .u64 0]) := ⟨Try.zeroValue13⟩
instance ty_str13 : TyStr Try.prog 13 [(0, 1), (1, 1)] [.string ⟨#[]⟩, .int .u64 0] := ⟨fun ps => by kernel_rfl⟩
instance ty_f13_0 : FOff Try.prog 13 0 0 := ⟨fun a w => by simp [Instr.fieldAt, Instr.sureAddr, fieldPlace, run_underlying Try.underlying13, Try.sizeOf9]⟩
instance ty_f13_1 : FOff Try.prog 13 1 1 := ⟨fun a w => by simp [Instr.fieldAt, Instr.sureAddr, fieldPlace, run_underlying Try.underlying13, Try.sizeOf12]⟩
instance ty_sz14 : TySz Try.prog 14 2 := ⟨Try.sizeOf14⟩
instance ty_agg14 : TyAgg Try.prog 14 true := ⟨Try.isAgg14⟩
instance ty_z14 : TyZ Try.prog 14 (.agg #[.string ⟨#[]⟩, .int .u64 0]) := ⟨Try.zeroValue14⟩
instance ty_str14 : TyStr Try.prog 14 [(0, 1), (1, 1)] [.string ⟨#[]⟩, .int .u64 0] := ⟨fun ps => by kernel_rfl⟩
instance ty_f14_0 : FOff Try.prog 14 0 0 := ⟨fun a w => by simp [Instr.fieldAt, Instr.sureAddr, fieldPlace, run_underlying Try.underlying14, Try.sizeOf9]⟩
instance ty_f14_1 : FOff Try.prog 14 1 1 := ⟨fun a w => by simp [Instr.fieldAt, Instr.sureAddr, fieldPlace, run_underlying Try.underlying14, Try.sizeOf12]⟩
instance ty_sz15 : TySz Try.prog 15 1 := ⟨Try.sizeOf15⟩
instance ty_agg15 : TyAgg Try.prog 15 false := ⟨Try.isAgg15⟩
instance ty_z15 : TyZ Try.prog 15 (.pointer none) := ⟨Try.zeroValue15⟩
instance ty_ptr15 : TyPtr Try.prog 15 := ⟨⟨_, Try.underlying15⟩⟩
instance ty_sz16 : TySz Try.prog 16 1 := ⟨Try.sizeOf16⟩
instance ty_agg16 : TyAgg Try.prog 16 false := ⟨Try.isAgg16⟩
instance ty_z16 : TyZ Try.prog 16 (.pointer none) := ⟨Try.zeroValue16⟩
instance ty_ptr16 : TyPtr Try.prog 16 := ⟨⟨_, Try.underlying16⟩⟩
instance ty_sz17 : TySz Try.prog 17 1 := ⟨Try.sizeOf17⟩
instance ty_agg17 : TyAgg Try.prog 17 false := ⟨Try.isAgg17⟩
instance ty_z17 : TyZ Try.prog 17 (.pointer none) := ⟨Try.zeroValue17⟩
instance ty_ptr17 : TyPtr Try.prog 17 := ⟨⟨_, Try.underlying17⟩⟩
instance ty_sz18 : TySz Try.prog 18 1 := ⟨Try.sizeOf18⟩
instance ty_agg18 : TyAgg Try.prog 18 true := ⟨Try.isAgg18⟩
instance ty_z18 : TyZ Try.prog 18 (.agg #[.pointer none]) := ⟨Try.zeroValue18⟩
instance ty_str18 : TyStr Try.prog 18 [(0, 1)] [.pointer none] := ⟨fun ps => by kernel_rfl⟩
instance ty_f18_0 : FOff Try.prog 18 0 0 := ⟨fun a w => by simp [Instr.fieldAt, Instr.sureAddr, fieldPlace, run_underlying Try.underlying18, Try.sizeOf17]⟩
instance ty_sz19 : TySz Try.prog 19 1 := ⟨Try.sizeOf19⟩
instance ty_agg19 : TyAgg Try.prog 19 true := ⟨Try.isAgg19⟩
instance ty_z19 : TyZ Try.prog 19 (.agg #[.pointer none]) := ⟨Try.zeroValue19⟩
instance ty_str19 : TyStr Try.prog 19 [(0, 1)] [.pointer none] := ⟨fun ps => by kernel_rfl⟩
instance ty_f19_0 : FOff Try.prog 19 0 0 := ⟨fun a w => by simp [Instr.fieldAt, Instr.sureAddr, fieldPlace, run_underlying Try.underlying19, Try.sizeOf17]⟩
instance ty_sz20 : TySz Try.prog 20 1 := ⟨Try.sizeOf20⟩
instance ty_agg20 : TyAgg Try.prog 20 false := ⟨Try.isAgg20⟩
instance ty_z20 : TyZ Try.prog 20 (.nilIface) := ⟨Try.zeroValue20⟩
instance ty_sz21 : TySz Try.prog 21 1 := ⟨Try.sizeOf21⟩
instance ty_agg21 : TyAgg Try.prog 21 false := ⟨Try.isAgg21⟩
instance ty_z21 : TyZ Try.prog 21 (.int .i32 0) := ⟨Try.zeroValue21⟩
instance ty_int21 : TyInt Try.prog 21 .i32 := ⟨Try.underlying21⟩
instance ty_sz22 : TySz Try.prog 22 2 := ⟨Try.sizeOf22⟩
instance ty_agg22 : TyAgg Try.prog 22 true := ⟨Try.isAgg22⟩
instance ty_z22 : TyZ Try.prog 22 (.agg #[.int .i64 0, .int .i64 0]) := ⟨Try.zeroValue22⟩
instance ty_eqi22 : TyEqI Try.prog 22 [.i64, .i64] := ⟨by kernel_rfl, by kernel_rfl, by kernel_rfl, by kernel_rfl⟩
instance ty_str22 : TyStr Try.prog 22 [(0, 1), (1, 1)] [.int .i64 0, .int .i64 0] := ⟨fun ps => by kernel_rfl⟩
instance ty_f22_0 : FOff Try.prog 22 0 0 := ⟨fun a w => by simp [Instr.fieldAt, Instr.sureAddr, fieldPlace, run_underlying Try.underlying22, Try.sizeOf3]⟩
instance ty_f22_1 : FOff Try.prog 22 1 1 := ⟨fun a w => by simp [Instr.fieldAt, Instr.sureAddr, fieldPlace, run_underlying Try.underlying22, Try.sizeOf2]⟩
instance ty_sz23 : TySz Try.prog 23 2 := ⟨Try.sizeOf23⟩
instance ty_agg23 : TyAgg Try.prog 23 true := ⟨Try.isAgg23⟩
instance ty_z23 : TyZ Try.prog 23 (.agg #[.int .i64 0, .int .i64 0]) := ⟨Try.zeroValue23⟩
instance ty_eqi23 : TyEqI Try.prog 23 [.i64, .i64] := ⟨by kernel_rfl, by kernel_rfl, by kernel_rfl, by kernel_rfl⟩
instance ty_str23 : TyStr Try.prog 23 [(0, 1), (1, 1)] [.int .i64 0, .int .i64 0] := ⟨fun ps => by kernel_rfl⟩
instance ty_f23_0 : FOff Try.prog 23 0 0 := ⟨fun a w => by simp [Instr.fieldAt, Instr.sureAddr, fieldPlace, run_underlying Try.underlying23, Try.sizeOf3]⟩
instance ty_f23_1 : FOff Try.prog 23 1 1 := ⟨fun a w => by simp [Instr.fieldAt, Instr.sureAddr, fieldPlace, run_underlying Try.underlying23, Try.sizeOf2]⟩
instance ty_sz24 : TySz Try.prog 24 1 := ⟨Try.sizeOf24⟩
instance ty_agg24 : TyAgg Try.prog 24 false := ⟨Try.isAgg24⟩
instance ty_z24 : TyZ Try.prog 24 (.slice none 0 0) := ⟨Try.zeroValue24⟩
instance ty_sl24 : TySl Try.prog 24 23 2 := ⟨Try.underlying24, Try.sizeOf23⟩
instance ty_el23 : TyEl Try.prog 23 2 16 := ⟨⟨_, _, rfl, rfl, rfl, rfl, rfl⟩⟩
instance ty_sz25 : TySz Try.prog 25 9 := ⟨Try.sizeOf25⟩
instance ty_agg25 : TyAgg Try.prog 25 true := ⟨Try.isAgg25⟩
instance ty_z25 : TyZ Try.prog 25 (.agg #[.int .i64 0, .int .i64 0, .int .i64 0, .int .i64 0, .int .i64 0, .int .i64 0, .bool false, .slice none 0 0, .slice none 0 0]) := ⟨Try.zeroValue25⟩
instance ty_str25 : TyStr Try.prog 25 [(0, 1), (1, 1), (2, 1), (3, 1), (4, 1), (5, 1), (6, 1), (7, 1), (8, 1)] [.int .i64 0, .int .i64 0, .int .i64 0, .int .i64 0, .int .i64 0, .int .i64 0, .bool false, .slice none 0 0, .slice none 0 0] := ⟨fun ps => by kernel_rfl⟩
instance ty_f25_0 : FOff Try.prog 25 0 0 := ⟨fun a w => by simp [Instr.fieldAt, Instr.sureAddr, fieldPlace, run_underlying Try.underlying25, Try.sizeOf3]⟩
instance ty_f25_1 : FOff Try.prog 25 1 1 := ⟨fun a w => by simp [Instr.fieldAt, Instr.sureAddr, fieldPlace, run_underlying Try.underlying25, Try.sizeOf3]⟩
instance ty_f25_2 : FOff Try.prog 25 2 2 := ⟨fun a w => by simp [Instr.fieldAt, Instr.sureAddr, fieldPlace, run_underlying Try.underlying25, Try.sizeOf3]⟩
instance ty_f25_3 : FOff Try.prog 25 3 3 := ⟨fun a w => by simp [Instr.fieldAt, Instr.sureAddr, fieldPlace, run_underlying Try.underlying25, Try.sizeOf3]⟩
instance ty_f25_4 : FOff Try.prog 25 4 4 := ⟨fun a w => by simp [Instr.fieldAt, Instr.sureAddr, fieldPlace, run_underlying Try.underlying25, Try.sizeOf3]⟩
instance ty_f25_5 : FOff Try.prog 25 5 5 := ⟨fun a w => by simp [Instr.fieldAt, Instr.sureAddr, fieldPlace, run_underlying Try.underlying25, Try.sizeOf3]⟩
instance ty_f25_6 : FOff Try.prog 25 6 6 := ⟨fun a w => by simp [Instr.fieldAt, Instr.sureAddr, fieldPlace, run_underlying Try.underlying25, Try.sizeOf4]⟩
instance ty_f25_7 : FOff Try.prog 25 7 7 := ⟨fun a w => by simp [Instr.fieldAt, Instr.sureAddr, fieldPlace, run_underlying Try.underlying25, Try.sizeOf24]⟩
instance ty_f25_8 : FOff Try.prog 25 8 8 := ⟨fun a w => by simp [Instr.fieldAt, Instr.sureAddr, fieldPlace, run_underlying Try.underlying25, Try.sizeOf24]⟩
instance ty_sz26 : TySz Try.prog 26 9 := ⟨Try.sizeOf26⟩
instance ty_agg26 : TyAgg Try.prog 26 true := ⟨Try.isAgg26⟩
instance ty_z26 : TyZ Try.prog 26 (.agg #[.int .i64 0, .int .i64 0, .int .i64 0, .int .i64 0, .int .i64 0, .int .i64 0, .bool false, .slice none 0 0, .slice none 0 0]) := ⟨Try.zeroValue26⟩
instance ty_str26 : TyStr Try.prog 26 [(0, 1), (1, 1), (2, 1), (3, 1), (4, 1), (5, 1), (6, 1), (7, 1), (8, 1)] [.int .i64 0, .int .i64 0, .int .i64 0, .int .i64 0, .int .i64 0, .int .i64 0, .bool false, .slice none 0 0, .slice none 0 0] := ⟨fun ps => by kernel_rfl⟩
instance ty_f26_0 : FOff Try.prog 26 0 0 := ⟨fun a w => by simp [Instr.fieldAt, Instr.sureAddr, fieldPlace, run_underlying Try.underlying26, Try.sizeOf3]⟩
instance ty_f26_1 : FOff Try.prog 26 1 1 := ⟨fun a w => by simp [Instr.fieldAt, Instr.sureAddr, fieldPlace, run_underlying Try.underlying26, Try.sizeOf3]⟩
instance ty_f26_2 : FOff Try.prog 26 2 2 := ⟨fun a w => by simp [Instr.fieldAt, Instr.sureAddr, fieldPlace, run_underlying Try.underlying26, Try.sizeOf3]⟩
instance ty_f26_3 : FOff Try.prog 26 3 3 := ⟨fun a w => by simp [Instr.fieldAt, Instr.sureAddr, fieldPlace, run_underlying Try.underlying26, Try.sizeOf3]⟩
instance ty_f26_4 : FOff Try.prog 26 4 4 := ⟨fun a w => by simp [Instr.fieldAt, Instr.sureAddr, fieldPlace, run_underlying Try.underlying26, Try.sizeOf3]⟩
instance ty_f26_5 : FOff Try.prog 26 5 5 := ⟨fun a w => by simp [Instr.fieldAt, Instr.sureAddr, fieldPlace, run_underlying Try.underlying26, Try.sizeOf3]⟩
instance ty_f26_6 : FOff Try.prog 26 6 6 := ⟨fun a w => by simp [Instr.fieldAt, Instr.sureAddr, fieldPlace, run_underlying Try.underlying26, Try.sizeOf4]⟩
instance ty_f26_7 : FOff Try.prog 26 7 7 := ⟨fun a w => by simp [Instr.fieldAt, Instr.sureAddr, fieldPlace, run_underlying Try.underlying26, Try.sizeOf24]⟩
instance ty_f26_8 : FOff Try.prog 26 8 8 := ⟨fun a w => by simp [Instr.fieldAt, Instr.sureAddr, fieldPlace, run_underlying Try.underlying26, Try.sizeOf24]⟩
instance ty_sz27 : TySz Try.prog 27 1 := ⟨Try.sizeOf27⟩
instance ty_agg27 : TyAgg Try.prog 27 false := ⟨Try.isAgg27⟩
instance ty_z27 : TyZ Try.prog 27 (.slice none 0 0) := ⟨Try.zeroValue27⟩
instance ty_sl27 : TySl Try.prog 27 26 9 := ⟨Try.underlying27, Try.sizeOf26⟩
instance ty_el26 : TyEl Try.prog 26 9 104 := ⟨⟨_, _, rfl, rfl, rfl, rfl, rfl⟩⟩
instance ty_sz28 : TySz Try.prog 28 1 := ⟨Try.sizeOf28⟩
instance ty_agg28 : TyAgg Try.prog 28 false := ⟨Try.isAgg28⟩
instance ty_z28 : TyZ Try.prog 28 (.slice none 0 0) := ⟨Try.zeroValue28⟩
instance ty_sl28 : TySl Try.prog 28 3 1 := ⟨Try.underlying28, Try.sizeOf3⟩
instance ty_el3 : TyEl Try.prog 3 1 8 := ⟨⟨_, _, rfl, rfl, rfl, rfl, rfl⟩⟩
instance ty_sz29 : TySz Try.prog 29 1 := ⟨Try.sizeOf29⟩
instance ty_agg29 : TyAgg Try.prog 29 false := ⟨Try.isAgg29⟩
instance ty_z29 : TyZ Try.prog 29 (.int .i64 0) := ⟨Try.zeroValue29⟩
instance ty_int29 : TyInt Try.prog 29 .i64 := ⟨Try.underlying29⟩
instance ty_sz31 : TySz Try.prog 31 1 := ⟨Try.sizeOf31⟩
instance ty_agg31 : TyAgg Try.prog 31 false := ⟨Try.isAgg31⟩
instance ty_z31 : TyZ Try.prog 31 (.nilFunc) := ⟨Try.zeroValue31⟩
instance ty_sz32 : TySz Try.prog 32 1 := ⟨Try.sizeOf32⟩
instance ty_agg32 : TyAgg Try.prog 32 false := ⟨Try.isAgg32⟩
instance ty_z32 : TyZ Try.prog 32 (.slice none 0 0) := ⟨Try.zeroValue32⟩
instance ty_sl32 : TySl Try.prog 32 2 1 := ⟨Try.underlying32, Try.sizeOf2⟩
instance ty_el2 : TyEl Try.prog 2 1 8 := ⟨⟨_, _, rfl, rfl, rfl, rfl, rfl⟩⟩
instance ty_sz33 : TySz Try.prog 33 1 := ⟨Try.sizeOf33⟩
instance ty_agg33 : TyAgg Try.prog 33 false := ⟨Try.isAgg33⟩
instance ty_z33 : TyZ Try.prog 33 (.nilFunc) := ⟨Try.zeroValue33⟩
instance ty_sz34 : TySz Try.prog 34 1 := ⟨Try.sizeOf34⟩
instance ty_agg34 : TyAgg Try.prog 34 false := ⟨Try.isAgg34⟩
instance ty_z34 : TyZ Try.prog 34 (.nilFunc) := ⟨Try.zeroValue34⟩
instance ty_sz35 : TySz Try.prog 35 1 := ⟨Try.sizeOf35⟩
instance ty_agg35 : TyAgg Try.prog 35 false := ⟨Try.isAgg35⟩
instance ty_z35 : TyZ Try.prog 35 (.nilFunc) := ⟨Try.zeroValue35⟩
instance ty_sz36 : TySz Try.prog 36 1 := ⟨Try.sizeOf36⟩
instance ty_agg36 : TyAgg Try.prog 36 false := ⟨Try.isAgg36⟩
instance ty_z36 : TyZ Try.prog 36 (.nilFunc) := ⟨Try.zeroValue36⟩
instance ty_sz37 : TySz Try.prog 37 1 := ⟨Try.sizeOf37⟩
instance ty_agg37 : TyAgg Try.prog 37 false := ⟨Try.isAgg37⟩
instance ty_z37 : TyZ Try.prog 37 (.int .u64 0) := ⟨Try.zeroValue37⟩
instance ty_int37 : TyInt Try.prog 37 .u64 := ⟨Try.underlying37⟩
instance ty_sz38 : TySz Try.prog 38 1 := ⟨Try.sizeOf38⟩
instance ty_agg38 : TyAgg Try.prog 38 false := ⟨Try.isAgg38⟩
instance ty_z38 : TyZ Try.prog 38 (.nilFunc) := ⟨Try.zeroValue38⟩
instance ty_sz39 : TySz Try.prog 39 1 := ⟨Try.sizeOf39⟩
instance ty_agg39 : TyAgg Try.prog 39 false := ⟨Try.isAgg39⟩
instance ty_z39 : TyZ Try.prog 39 (.nilFunc) := ⟨Try.zeroValue39⟩
instance ty_sz40 : TySz Try.prog 40 1 := ⟨Try.sizeOf40⟩
instance ty_agg40 : TyAgg Try.prog 40 false := ⟨Try.isAgg40⟩
instance ty_z40 : TyZ Try.prog 40 (.nilFunc) := ⟨Try.zeroValue40⟩
instance ty_sz41 : TySz Try.prog 41 1 := ⟨Try.sizeOf41⟩
instance ty_agg41 : TyAgg Try.prog 41 false := ⟨Try.isAgg41⟩
instance ty_z41 : TyZ Try.prog 41 (.slice none 0 0) := ⟨Try.zeroValue41⟩
instance ty_sl41 : TySl Try.prog 41 32 1 := ⟨Try.underlying41, Try.sizeOf32⟩
instance ty_el32 : TyEl Try.prog 32 1 24 := ⟨⟨_, _, rfl, rfl, rfl, rfl, rfl⟩⟩
instance ty_sz43 : TySz Try.prog 43 1 := ⟨Try.sizeOf43⟩
instance ty_agg43 : TyAgg Try.prog 43 false := ⟨Try.isAgg43⟩
instance ty_z43 : TyZ Try.prog 43 (.nilFunc) := ⟨Try.zeroValue43⟩
instance ty_sz44 : TySz Try.prog 44 1 := ⟨Try.sizeOf44⟩
instance ty_agg44 : TyAgg Try.prog 44 false := ⟨Try.isAgg44⟩
instance ty_z44 : TyZ Try.prog 44 (.slice none 0 0) := ⟨Try.zeroValue44⟩
instance ty_sl44 : TySl Try.prog 44 28 1 := ⟨Try.underlying44, Try.sizeOf28⟩
instance ty_el28 : TyEl Try.prog 28 1 24 := ⟨⟨_, _, rfl, rfl, rfl, rfl, rfl⟩⟩
instance ty_sz45 : TySz Try.prog 45 1 := ⟨Try.sizeOf45⟩
instance ty_agg45 : TyAgg Try.prog 45 false := ⟨Try.isAgg45⟩
instance ty_z45 : TyZ Try.prog 45 (.map none) := ⟨Try.zeroValue45⟩
instance ty_map45 : TyMapI Try.prog 45 3 := ⟨⟨3, Try.underlying45, Try.underlying3⟩⟩
instance ty_sz46 : TySz Try.prog 46 1 := ⟨Try.sizeOf46⟩
instance ty_agg46 : TyAgg Try.prog 46 false := ⟨Try.isAgg46⟩
instance ty_z46 : TyZ Try.prog 46 (.nilFunc) := ⟨Try.zeroValue46⟩
instance ty_sz47 : TySz Try.prog 47 1 := ⟨Try.sizeOf47⟩
instance ty_agg47 : TyAgg Try.prog 47 false := ⟨Try.isAgg47⟩
instance ty_z47 : TyZ Try.prog 47 (.nilFunc) := ⟨Try.zeroValue47⟩
instance ty_sz48 : TySz Try.prog 48 1 := ⟨Try.sizeOf48⟩
instance ty_agg48 : TyAgg Try.prog 48 false := ⟨Try.isAgg48⟩
instance ty_z48 : TyZ Try.prog 48 (.nilFunc) := ⟨Try.zeroValue48⟩
instance ty_sz49 : TySz Try.prog 49 1 := ⟨Try.sizeOf49⟩
instance ty_agg49 : TyAgg Try.prog 49 false := ⟨Try.isAgg49⟩
instance ty_z49 : TyZ Try.prog 49 (.nilFunc) := ⟨Try.zeroValue49⟩
instance ty_sz50 : TySz Try.prog 50 1 := ⟨Try.sizeOf50⟩
instance ty_agg50 : TyAgg Try.prog 50 false := ⟨Try.isAgg50⟩
instance ty_z50 : TyZ Try.prog 50 (.nilFunc) := ⟨Try.zeroValue50⟩
instance ty_sz51 : TySz Try.prog 51 1 := ⟨Try.sizeOf51⟩
instance ty_agg51 : TyAgg Try.prog 51 false := ⟨Try.isAgg51⟩
instance ty_z51 : TyZ Try.prog 51 (.nilFunc) := ⟨Try.zeroValue51⟩
instance ty_sz52 : TySz Try.prog 52 1 := ⟨Try.sizeOf52⟩
instance ty_agg52 : TyAgg Try.prog 52 false := ⟨Try.isAgg52⟩
instance ty_z52 : TyZ Try.prog 52 (.nilFunc) := ⟨Try.zeroValue52⟩
instance ty_sz53 : TySz Try.prog 53 1 := ⟨Try.sizeOf53⟩
instance ty_agg53 : TyAgg Try.prog 53 false := ⟨Try.isAgg53⟩
instance ty_z53 : TyZ Try.prog 53 (.map none) := ⟨Try.zeroValue53⟩
instance ty_map53 : TyMapI Try.prog 53 54 := ⟨⟨3, Try.underlying53, Try.underlying3⟩⟩
instance ty_sz54 : TySz Try.prog 54 0 := ⟨Try.sizeOf54⟩
instance ty_agg54 : TyAgg Try.prog 54 true := ⟨Try.isAgg54⟩
instance ty_z54 : TyZ Try.prog 54 (.agg #[]) := ⟨Try.zeroValue54⟩
instance ty_sz56 : TySz Try.prog 56 1 := ⟨Try.sizeOf56⟩
instance ty_agg56 : TyAgg Try.prog 56 false := ⟨Try.isAgg56⟩
instance ty_z56 : TyZ Try.prog 56 (.nilFunc) := ⟨Try.zeroValue56⟩
instance ty_sz57 : TySz Try.prog 57 1 := ⟨Try.sizeOf57⟩
instance ty_agg57 : TyAgg Try.prog 57 false := ⟨Try.isAgg57⟩
instance ty_z57 : TyZ Try.prog 57 (.slice none 0 0) := ⟨Try.zeroValue57⟩
instance ty_sl57 : TySl Try.prog 57 4 1 := ⟨Try.underlying57, Try.sizeOf4⟩
instance ty_el4 : TyEl Try.prog 4 1 1 := ⟨⟨_, _, rfl, rfl, rfl, rfl, rfl⟩⟩
instance ty_sz58 : TySz Try.prog 58 1 := ⟨Try.sizeOf58⟩
instance ty_agg58 : TyAgg Try.prog 58 false := ⟨Try.isAgg58⟩
instance ty_z58 : TyZ Try.prog 58 (.nilFunc) := ⟨Try.zeroValue58⟩
instance ty_sz59 : TySz Try.prog 59 1 := ⟨Try.sizeOf59⟩
instance ty_agg59 : TyAgg Try.prog 59 false := ⟨Try.isAgg59⟩
instance ty_z59 : TyZ Try.prog 59 (.nilFunc) := ⟨Try.zeroValue59⟩
instance ty_sz60 : TySz Try.prog 60 1 := ⟨Try.sizeOf60⟩
instance ty_agg60 : TyAgg Try.prog 60 false := ⟨Try.isAgg60⟩
instance ty_z60 : TyZ Try.prog 60 (.nilFunc) := ⟨Try.zeroValue60⟩
instance ty_sz61 : TySz Try.prog 61 1 := ⟨Try.sizeOf61⟩
instance ty_agg61 : TyAgg Try.prog 61 false := ⟨Try.isAgg61⟩
instance ty_z61 : TyZ Try.prog 61 (.nilFunc) := ⟨Try.zeroValue61⟩
instance ty_sz62 : TySz Try.prog 62 1 := ⟨Try.sizeOf62⟩
instance ty_agg62 : TyAgg Try.prog 62 false := ⟨Try.isAgg62⟩
instance ty_z62 : TyZ Try.prog 62 (.nilFunc) := ⟨Try.zeroValue62⟩
instance ty_sz63 : TySz Try.prog 63 1 := ⟨Try.sizeOf63⟩
instance ty_agg63 : TyAgg Try.prog 63 false := ⟨Try.isAgg63⟩
instance ty_z63 : TyZ Try.prog 63 (.nilFunc) := ⟨Try.zeroValue63⟩
instance ty_sz64 : TySz Try.prog 64 1 := ⟨Try.sizeOf64⟩
instance ty_agg64 : TyAgg Try.prog 64 false := ⟨Try.isAgg64⟩
instance ty_z64 : TyZ Try.prog 64 (.nilFunc) := ⟨Try.zeroValue64⟩
instance ty_sz65 : TySz Try.prog 65 1 := ⟨Try.sizeOf65⟩
instance ty_agg65 : TyAgg Try.prog 65 false := ⟨Try.isAgg65⟩
instance ty_z65 : TyZ Try.prog 65 (.nilFunc) := ⟨Try.zeroValue65⟩
instance ty_sz66 : TySz Try.prog 66 1 := ⟨Try.sizeOf66⟩
instance ty_agg66 : TyAgg Try.prog 66 false := ⟨Try.isAgg66⟩
instance ty_z66 : TyZ Try.prog 66 (.nilFunc) := ⟨Try.zeroValue66⟩
instance ty_sz67 : TySz Try.prog 67 1 := ⟨Try.sizeOf67⟩
instance ty_agg67 : TyAgg Try.prog 67 false := ⟨Try.isAgg67⟩
instance ty_z67 : TyZ Try.prog 67 (.nilFunc) := ⟨Try.zeroValue67⟩
instance ty_sz68 : TySz Try.prog 68 1 := ⟨Try.sizeOf68⟩
instance ty_agg68 : TyAgg Try.prog 68 false := ⟨Try.isAgg68⟩
instance ty_z68 : TyZ Try.prog 68 (.nilFunc) := ⟨Try.zeroValue68⟩
instance ty_sz69 : TySz Try.prog 69 1 := ⟨Try.sizeOf69⟩
instance ty_agg69 : TyAgg Try.prog 69 false := ⟨Try.isAgg69⟩
instance ty_z69 : TyZ Try.prog 69 (.nilFunc) := ⟨Try.zeroValue69⟩
instance ty_sz70 : TySz Try.prog 70 1 := ⟨Try.sizeOf70⟩
instance ty_agg70 : TyAgg Try.prog 70 false := ⟨Try.isAgg70⟩
instance ty_z70 : TyZ Try.prog 70 (.nilFunc) := ⟨Try.zeroValue70⟩
instance ty_sz71 : TySz Try.prog 71 1 := ⟨Try.sizeOf71⟩
instance ty_agg71 : TyAgg Try.prog 71 false := ⟨Try.isAgg71⟩
instance ty_z71 : TyZ Try.prog 71 (.nilFunc) := ⟨Try.zeroValue71⟩
instance ty_sz72 : TySz Try.prog 72 4 := ⟨Try.sizeOf72⟩
instance ty_agg72 : TyAgg Try.prog 72 true := ⟨Try.isAgg72⟩
instance ty_z72 : TyZ Try.prog 72 (.agg #[.pointer none, .pointer none, .pointer none, .string ⟨#[]⟩]) := ⟨Try.zeroValue72⟩
instance ty_str72 : TyStr Try.prog 72 [(0, 1), (1, 1), (2, 1), (3, 1)] [.pointer none, .pointer none, .pointer none, .string ⟨#[]⟩] := ⟨fun ps => by kernel_rfl⟩
instance ty_f72_0 : FOff Try.prog 72 0 0 := ⟨fun a w => by simp [Instr.fieldAt, Instr.sureAddr, fieldPlace, run_underlying Try.underlying72, Try.sizeOf17]⟩
instance ty_f72_1 : FOff Try.prog 72 1 1 := ⟨fun a w => by simp [Instr.fieldAt, Instr.sureAddr, fieldPlace, run_underlying Try.underlying72, Try.sizeOf17]⟩
instance ty_f72_2 : FOff Try.prog 72 2 2 := ⟨fun a w => by simp [Instr.fieldAt, Instr.sureAddr, fieldPlace, run_underlying Try.underlying72, Try.sizeOf17]⟩
instance ty_f72_3 : FOff Try.prog 72 3 3 := ⟨fun a w => by simp [Instr.fieldAt, Instr.sureAddr, fieldPlace, run_underlying Try.underlying72, Try.sizeOf9]⟩
instance ty_sz73 : TySz Try.prog 73 4 := ⟨Try.sizeOf73⟩
instance ty_agg73 : TyAgg Try.prog 73 true := ⟨Try.isAgg73⟩
instance ty_z73 : TyZ Try.prog 73 (.agg #[.pointer none, .pointer none, .pointer none, .string ⟨#[]⟩]) := ⟨Try.zeroValue73⟩
instance ty_str73 : TyStr Try.prog 73 [(0, 1), (1, 1), (2, 1), (3, 1)] [.pointer none, .pointer none, .pointer none, .string ⟨#[]⟩] := ⟨fun ps => by kernel_rfl⟩
instance ty_f73_0 : FOff Try.prog 73 0 0 := ⟨fun a w => by simp [Instr.fieldAt, Instr.sureAddr, fieldPlace, run_underlying Try.underlying73, Try.sizeOf17]⟩
instance ty_f73_1 : FOff Try.prog 73 1 1 := ⟨fun a w => by simp [Instr.fieldAt, Instr.sureAddr, fieldPlace, run_underlying Try.underlying73, Try.sizeOf17]⟩
instance ty_f73_2 : FOff Try.prog 73 2 2 := ⟨fun a w => by simp [Instr.fieldAt, Instr.sureAddr, fieldPlace, run_underlying Try.underlying73, Try.sizeOf17]⟩
instance ty_f73_3 : FOff Try.prog 73 3 3 := ⟨fun a w => by simp [Instr.fieldAt, Instr.sureAddr, fieldPlace, run_underlying Try.underlying73, Try.sizeOf9]⟩
instance ty_sz74 : TySz Try.prog 74 0 := ⟨Try.sizeOf74⟩
instance ty_agg74 : TyAgg Try.prog 74 true := ⟨Try.isAgg74⟩
instance ty_z74 : TyZ Try.prog 74 (.agg #[]) := ⟨Try.zeroValue74⟩
instance ty_ar74 : TyAr Try.prog 74 16 1 0 := ⟨Try.underlying74, Try.sizeOf16⟩
instance ty_sz75 : TySz Try.prog 75 0 := ⟨Try.sizeOf75⟩
instance ty_agg75 : TyAgg Try.prog 75 true := ⟨Try.isAgg75⟩
instance ty_z75 : TyZ Try.prog 75 (.agg #[]) := ⟨Try.zeroValue75⟩
instance ty_sz76 : TySz Try.prog 76 0 := ⟨Try.sizeOf76⟩
instance ty_agg76 : TyAgg Try.prog 76 true := ⟨Try.isAgg76⟩
instance ty_z76 : TyZ Try.prog 76 (.agg #[]) := ⟨Try.zeroValue76⟩
instance ty_sz77 : TySz Try.prog 77 1 := ⟨Try.sizeOf77⟩
instance ty_agg77 : TyAgg Try.prog 77 false := ⟨Try.isAgg77⟩
instance ty_z77 : TyZ Try.prog 77 (.nilFunc) := ⟨Try.zeroValue77⟩
instance ty_sz78 : TySz Try.prog 78 1 := ⟨Try.sizeOf78⟩
instance ty_agg78 : TyAgg Try.prog 78 false := ⟨Try.isAgg78⟩
instance ty_z78 : TyZ Try.prog 78 (.int .u32 0) := ⟨Try.zeroValue78⟩
instance ty_int78 : TyInt Try.prog 78 .u32 := ⟨Try.underlying78⟩
instance ty_sz79 : TySz Try.prog 79 1 := ⟨Try.sizeOf79⟩
instance ty_agg79 : TyAgg Try.prog 79 false := ⟨Try.isAgg79⟩
instance ty_z79 : TyZ Try.prog 79 (.int .u8 0) := ⟨Try.zeroValue79⟩
instance ty_int79 : TyInt Try.prog 79 .u8 := ⟨Try.underlying79⟩
instance ty_sz80 : TySz Try.prog 80 1 := ⟨Try.sizeOf80⟩
instance ty_agg80 : TyAgg Try.prog 80 false := ⟨Try.isAgg80⟩
instance ty_z80 : TyZ Try.prog 80 (.int .u8 0) := ⟨Try.zeroValue80⟩
instance ty_int80 : TyInt Try.prog 80 .u8 := ⟨Try.underlying80⟩
instance ty_sz81 : TySz Try.prog 81 1 := ⟨Try.sizeOf81⟩
instance ty_agg81 : TyAgg Try.prog 81 false := ⟨Try.isAgg81⟩
instance ty_z81 : TyZ Try.prog 81 (.nilFunc) := ⟨Try.zeroValue81⟩
instance ty_sz82 : TySz Try.prog 82 1 := ⟨Try.sizeOf82⟩
instance ty_agg82 : TyAgg Try.prog 82 false := ⟨Try.isAgg82⟩
instance ty_z82 : TyZ Try.prog 82 (.pointer none) := ⟨Try.zeroValue82⟩
instance ty_ptr82 : TyPtr Try.prog 82 := ⟨⟨_, Try.underlying82⟩⟩
instance ty_sz83 : TySz Try.prog 83 1 := ⟨Try.sizeOf83⟩
instance ty_agg83 : TyAgg Try.prog 83 false := ⟨Try.isAgg83⟩
instance ty_z83 : TyZ Try.prog 83 (.int .i32 0) := ⟨Try.zeroValue83⟩
instance ty_int83 : TyInt Try.prog 83 .i32 := ⟨Try.underlying83⟩
instance ty_sz84 : TySz Try.prog 84 1 := ⟨Try.sizeOf84⟩
instance ty_agg84 : TyAgg Try.prog 84 false := ⟨Try.isAgg84⟩
instance ty_z84 : TyZ Try.prog 84 (.int .i32 0) := ⟨Try.zeroValue84⟩
instance ty_int84 : TyInt Try.prog 84 .i32 := ⟨Try.underlying84⟩
instance ty_sz85 : TySz Try.prog 85 11 := ⟨Try.sizeOf85⟩
instance ty_agg85 : TyAgg Try.prog 85 true := ⟨Try.isAgg85⟩
instance ty_z85 : TyZ Try.prog 85 (.agg #[.int .u64 0, .int .u64 0, .int .u32 0, .int .u8 0, .int .u8 0, .int .u8 0, .int .u8 0, .nilFunc, .pointer none, .int .i32 0, .int .i32 0]) := ⟨Try.zeroValue85⟩
instance ty_str85 : TyStr Try.prog 85 [(0, 1), (1, 1), (2, 1), (3, 1), (4, 1), (5, 1), (6, 1), (7, 1), (8, 1), (9, 1), (10, 1)] [.int .u64 0, .int .u64 0, .int .u32 0, .int .u8 0, .int .u8 0, .int .u8 0, .int .u8 0, .nilFunc, .pointer none, .int .i32 0, .int .i32 0] := ⟨fun ps => by kernel_rfl⟩
instance ty_f85_0 : FOff Try.prog 85 0 0 := ⟨fun a w => by simp [Instr.fieldAt, Instr.sureAddr, fieldPlace, run_underlying Try.underlying85, Try.sizeOf12]⟩
instance ty_f85_1 : FOff Try.prog 85 1 1 := ⟨fun a w => by simp [Instr.fieldAt, Instr.sureAddr, fieldPlace, run_underlying Try.underlying85, Try.sizeOf12]⟩
instance ty_f85_2 : FOff Try.prog 85 2 2 := ⟨fun a w => by simp [Instr.fieldAt, Instr.sureAddr, fieldPlace, run_underlying Try.underlying85, Try.sizeOf78]⟩
instance ty_f85_3 : FOff Try.prog 85 3 3 := ⟨fun a w => by simp [Instr.fieldAt, Instr.sureAddr, fieldPlace, run_underlying Try.underlying85, Try.sizeOf79]⟩
instance ty_f85_4 : FOff Try.prog 85 4 4 := ⟨fun a w => by simp [Instr.fieldAt, Instr.sureAddr, fieldPlace, run_underlying Try.underlying85, Try.sizeOf5]⟩
instance ty_f85_5 : FOff Try.prog 85 5 5 := ⟨fun a w => by simp [Instr.fieldAt, Instr.sureAddr, fieldPlace, run_underlying Try.underlying85, Try.sizeOf5]⟩
instance ty_f85_6 : FOff Try.prog 85 6 6 := ⟨fun a w => by simp [Instr.fieldAt, Instr.sureAddr, fieldPlace, run_underlying Try.underlying85, Try.sizeOf80]⟩
instance ty_f85_7 : FOff Try.prog 85 7 7 := ⟨fun a w => by simp [Instr.fieldAt, Instr.sureAddr, fieldPlace, run_underlying Try.underlying85, Try.sizeOf81]⟩
instance ty_f85_8 : FOff Try.prog 85 8 8 := ⟨fun a w => by simp [Instr.fieldAt, Instr.sureAddr, fieldPlace, run_underlying Try.underlying85, Try.sizeOf82]⟩
instance ty_f85_9 : FOff Try.prog 85 9 9 := ⟨fun a w => by simp [Instr.fieldAt, Instr.sureAddr, fieldPlace, run_underlying Try.underlying85, Try.sizeOf83]⟩
instance ty_f85_10 : FOff Try.prog 85 10 10 := ⟨fun a w => by simp [Instr.fieldAt, Instr.sureAddr, fieldPlace, run_underlying Try.underlying85, Try.sizeOf84]⟩
instance ty_sz86 : TySz Try.prog 86 11 := ⟨Try.sizeOf86⟩
instance ty_agg86 : TyAgg Try.prog 86 true := ⟨Try.isAgg86⟩
instance ty_z86 : TyZ Try.prog 86 (.agg #[.int .u64 0, .int .u64 0, .int .u32 0, .int .u8 0, .int .u8 0, .int .u8 0, .int .u8 0, .nilFunc, .pointer none, .int .i32 0, .int .i32 0]) := ⟨Try.zeroValue86⟩
instance ty_str86 : TyStr Try.prog 86 [(0, 1), (1, 1), (2, 1), (3, 1), (4, 1), (5, 1), (6, 1), (7, 1), (8, 1), (9, 1), (10, 1)] [.int .u64 0, .int .u64 0, .int .u32 0, .int .u8 0, .int .u8 0, .int .u8 0, .int .u8 0, .nilFunc, .pointer none, .int .i32 0, .int .i32 0] := ⟨fun ps => by kernel_rfl⟩
instance ty_f86_0 : FOff Try.prog 86 0 0 := ⟨fun a w => by simp [Instr.fieldAt, Instr.sureAddr, fieldPlace, run_underlying Try.underlying86, Try.sizeOf12]⟩
instance ty_f86_1 : FOff Try.prog 86 1 1 := ⟨fun a w => by simp [Instr.fieldAt, Instr.sureAddr, fieldPlace, run_underlying Try.underlying86, Try.sizeOf12]⟩
instance ty_f86_2 : FOff Try.prog 86 2 2 := ⟨fun a w => by simp [Instr.fieldAt, Instr.sureAddr, fieldPlace, run_underlying Try.underlying86, Try.sizeOf78]⟩
instance ty_f86_3 : FOff Try.prog 86 3 3 := ⟨fun a w => by simp [Instr.fieldAt, Instr.sureAddr, fieldPlace, run_underlying Try.underlying86, Try.sizeOf79]⟩
instance ty_f86_4 : FOff Try.prog 86 4 4 := ⟨fun a w => by simp [Instr.fieldAt, Instr.sureAddr, fieldPlace, run_underlying Try.underlying86, Try.sizeOf5]⟩
instance ty_f86_5 : FOff Try.prog 86 5 5 := ⟨fun a w => by simp [Instr.fieldAt, Instr.sureAddr, fieldPlace, run_underlying Try.underlying86, Try.sizeOf5]⟩
instance ty_f86_6 : FOff Try.prog 86 6 6 := ⟨fun a w => by simp [Instr.fieldAt, Instr.sureAddr, fieldPlace, run_underlying Try.underlying86, Try.sizeOf80]⟩
instance ty_f86_7 : FOff Try.prog 86 7 7 := ⟨fun a w => by simp [Instr.fieldAt, Instr.sureAddr, fieldPlace, run_underlying Try.underlying86, Try.sizeOf81]⟩
instance ty_f86_8 : FOff Try.prog 86 8 8 := ⟨fun a w => by simp [Instr.fieldAt, Instr.sureAddr, fieldPlace, run_underlying Try.underlying86, Try.sizeOf82]⟩
instance ty_f86_9 : FOff Try.prog 86 9 9 := ⟨fun a w => by simp [Instr.fieldAt, Instr.sureAddr, fieldPlace, run_underlying Try.underlying86, Try.sizeOf83]⟩
instance ty_f86_10 : FOff Try.prog 86 10 10 := ⟨fun a w => by simp [Instr.fieldAt, Instr.sureAddr, fieldPlace, run_underlying Try.underlying86, Try.sizeOf84]⟩
instance ty_sz87 : TySz Try.prog 87 1 := ⟨Try.sizeOf87⟩
instance ty_agg87 : TyAgg Try.prog 87 false := ⟨Try.isAgg87⟩
instance ty_z87 : TyZ Try.prog 87 (.pointer none) := ⟨Try.zeroValue87⟩
instance fn_ok2 : FnOk Try.prog 2 := ⟨Try.call2⟩
instance fn_ok3 : FnOk Try.prog 3 := ⟨Try.call3⟩
instance fn_ok4 : FnOk Try.prog 4 := ⟨Try.call4⟩
instance fn_ok5 : FnOk Try.prog 5 := ⟨Try.call5⟩
instance fn_ok6 : FnOk Try.prog 6 := ⟨Try.call6⟩
instance fn_ok7 : FnOk Try.prog 7 := ⟨Try.call7⟩
instance fn_ok8 : FnOk Try.prog 8 := ⟨Try.call8⟩
instance fn_ok9 : FnOk Try.prog 9 := ⟨Try.call9⟩
instance fn_ok10 : FnOk Try.prog 10 := ⟨Try.call10⟩
instance fn_ok11 : FnOk Try.prog 11 := ⟨Try.call11⟩
instance fn_ok12 : FnOk Try.prog 12 := ⟨Try.call12⟩
instance fn_ok13 : FnOk Try.prog 13 := ⟨Try.call13⟩
instance fn_ok14 : FnOk Try.prog 14 := ⟨Try.call14⟩
instance fn_ok15 : FnOk Try.prog 15 := ⟨Try.call15⟩
instance fn_ok16 : FnOk Try.prog 16 := ⟨Try.call16⟩
instance fn_ok17 : FnOk Try.prog 17 := ⟨Try.call17⟩
instance fn_ok18 : FnOk Try.prog 18 := ⟨Try.call18⟩
instance fn_ok19 : FnOk Try.prog 19 := ⟨Try.call19⟩
instance fn_ok20 : FnOk Try.prog 20 := ⟨Try.call20⟩
instance fn_ok21 : FnOk Try.prog 21 := ⟨Try.call21⟩
instance fn_ok22 : FnOk Try.prog 22 := ⟨Try.call22⟩
instance fn_ok23 : FnOk Try.prog 23 := ⟨Try.call23⟩
instance fn_ok24 : FnOk Try.prog 24 := ⟨Try.call24⟩
instance fn_ok25 : FnOk Try.prog 25 := ⟨Try.call25⟩
instance fn_ok26 : FnOk Try.prog 26 := ⟨Try.call26⟩
instance fn_ok27 : FnOk Try.prog 27 := ⟨Try.call27⟩
instance fn_ok28 : FnOk Try.prog 28 := ⟨Try.call28⟩
instance fn_ok29 : FnOk Try.prog 29 := ⟨Try.call29⟩
instance fn_ok30 : FnOk Try.prog 30 := ⟨Try.call30⟩
instance fn_ok31 : FnOk Try.prog 31 := ⟨Try.call31⟩
instance fn_ok32 : FnOk Try.prog 32 := ⟨Try.call32⟩
instance fn_ok33 : FnOk Try.prog 33 := ⟨Try.call33⟩
instance fn_ok34 : FnOk Try.prog 34 := ⟨Try.call34⟩
instance fn_ok35 : FnOk Try.prog 35 := ⟨Try.call35⟩
instance fn_ok36 : FnOk Try.prog 36 := ⟨Try.call36⟩
instance fn_ok37 : FnOk Try.prog 37 := ⟨Try.call37⟩
instance fn_ok38 : FnOk Try.prog 38 := ⟨Try.call38⟩
instance fn_ok39 : FnOk Try.prog 39 := ⟨Try.call39⟩
instance fn_ok40 : FnOk Try.prog 40 := ⟨Try.call40⟩
instance fn_ok41 : FnOk Try.prog 41 := ⟨Try.call41⟩
theorem mixed : Try.prog.follows .mixedOrders = true := by kernel_rfl
end Go.Proofs.Ytjnlcfkdackghaa
