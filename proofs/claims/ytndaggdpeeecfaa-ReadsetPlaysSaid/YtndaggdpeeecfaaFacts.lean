/- What Eng's laws ask of this program's types and functions. -/
import Derived.Test.YtndaggdpeeecfaaProg
import Derived.Test.YtndaggdpeeecfaaMore
namespace Go.Proofs.Ytndaggdpeeecfaa
open Go.Proofs
instance ty_sz1 : TySz Try.prog 1 1 := ⟨Try.sizeOf1⟩
instance ty_agg1 : TyAgg Try.prog 1 false := ⟨Try.isAgg1⟩
instance ty_z1 : TyZ Try.prog 1 (.nilFunc) := ⟨Try.zeroValue1⟩
instance ty_sz2 : TySz Try.prog 2 1 := ⟨Try.sizeOf2⟩
instance ty_agg2 : TyAgg Try.prog 2 false := ⟨Try.isAgg2⟩
instance ty_z2 : TyZ Try.prog 2 (.int .i64 0) := ⟨Try.zeroValue2⟩
instance ty_int2 : TyInt Try.prog 2 .i64 := ⟨Try.underlying2⟩
instance ty_sz3 : TySz Try.prog 3 1 := ⟨Try.sizeOf3⟩
instance ty_agg3 : TyAgg Try.prog 3 false := ⟨Try.isAgg3⟩
instance ty_z3 : TyZ Try.prog 3 (.int .i64 0) := ⟨Try.zeroValue3⟩
instance ty_int3 : TyInt Try.prog 3 .i64 := ⟨Try.underlying3⟩
instance ty_sz4 : TySz Try.prog 4 1 := ⟨Try.sizeOf4⟩
instance ty_agg4 : TyAgg Try.prog 4 false := ⟨Try.isAgg4⟩
instance ty_z4 : TyZ Try.prog 4 (.bool false) := ⟨Try.zeroValue4⟩
instance ty_bool4 : TyBool Try.prog 4 := ⟨Try.underlying4⟩
instance ty_sz5 : TySz Try.prog 5 1 := ⟨Try.sizeOf5⟩
instance ty_agg5 : TyAgg Try.prog 5 false := ⟨Try.isAgg5⟩
instance ty_z5 : TyZ Try.prog 5 (.int .u8 0) := ⟨Try.zeroValue5⟩
instance ty_int5 : TyInt Try.prog 5 .u8 := ⟨Try.underlying5⟩
instance ty_sz6 : TySz Try.prog 6 1 := ⟨Try.sizeOf6⟩
instance ty_agg6 : TyAgg Try.prog 6 false := ⟨Try.isAgg6⟩
instance ty_z6 : TyZ Try.prog 6 (.int .u8 0) := ⟨Try.zeroValue6⟩
instance ty_int6 : TyInt Try.prog 6 .u8 := ⟨Try.underlying6⟩
instance ty_sz7 : TySz Try.prog 7 4 := ⟨Try.sizeOf7⟩
instance ty_agg7 : TyAgg Try.prog 7 true := ⟨Try.isAgg7⟩
instance ty_z7 : TyZ Try.prog 7 (.agg #[.int .i64 0, .int .i64 0, .bool false, .int .u8 0]) := ⟨Try.zeroValue7⟩
instance ty_str7 : TyStr Try.prog 7 [(0, 1), (1, 1), (2, 1), (3, 1)] [.int .i64 0, .int .i64 0, .bool false, .int .u8 0] := ⟨fun ps => by kernel_rfl⟩
instance ty_f7_0 : FOff Try.prog 7 0 0 := ⟨fun a w => by simp [Instr.fieldAt, Instr.sureAddr, fieldPlace, run_underlying Try.underlying7, Try.sizeOf2]⟩
instance ty_f7_1 : FOff Try.prog 7 1 1 := ⟨fun a w => by simp [Instr.fieldAt, Instr.sureAddr, fieldPlace, run_underlying Try.underlying7, Try.sizeOf3]⟩
instance ty_f7_2 : FOff Try.prog 7 2 2 := ⟨fun a w => by simp [Instr.fieldAt, Instr.sureAddr, fieldPlace, run_underlying Try.underlying7, Try.sizeOf4]⟩
instance ty_f7_3 : FOff Try.prog 7 3 3 := ⟨fun a w => by simp [Instr.fieldAt, Instr.sureAddr, fieldPlace, run_underlying Try.underlying7, Try.sizeOf6]⟩
instance ty_sz8 : TySz Try.prog 8 4 := ⟨Try.sizeOf8⟩
instance ty_agg8 : TyAgg Try.prog 8 true := ⟨Try.isAgg8⟩
instance ty_z8 : TyZ Try.prog 8 (.agg #[.int .i64 0, .int .i64 0, .bool false, .int .u8 0]) := ⟨Try.zeroValue8⟩
instance ty_str8 : TyStr Try.prog 8 [(0, 1), (1, 1), (2, 1), (3, 1)] [.int .i64 0, .int .i64 0, .bool false, .int .u8 0] := ⟨fun ps => by kernel_rfl⟩
instance ty_f8_0 : FOff Try.prog 8 0 0 := ⟨fun a w => by simp [Instr.fieldAt, Instr.sureAddr, fieldPlace, run_underlying Try.underlying8, Try.sizeOf2]⟩
instance ty_f8_1 : FOff Try.prog 8 1 1 := ⟨fun a w => by simp [Instr.fieldAt, Instr.sureAddr, fieldPlace, run_underlying Try.underlying8, Try.sizeOf3]⟩
instance ty_f8_2 : FOff Try.prog 8 2 2 := ⟨fun a w => by simp [Instr.fieldAt, Instr.sureAddr, fieldPlace, run_underlying Try.underlying8, Try.sizeOf4]⟩
instance ty_f8_3 : FOff Try.prog 8 3 3 := ⟨fun a w => by simp [Instr.fieldAt, Instr.sureAddr, fieldPlace, run_underlying Try.underlying8, Try.sizeOf6]⟩
instance ty_sz9 : TySz Try.prog 9 1 := ⟨Try.sizeOf9⟩
instance ty_agg9 : TyAgg Try.prog 9 false := ⟨Try.isAgg9⟩
instance ty_z9 : TyZ Try.prog 9 (.string ⟨#[]⟩) := ⟨Try.zeroValue9⟩
instance ty_sz10 : TySz Try.prog 10 1 := ⟨Try.sizeOf10⟩
instance ty_agg10 : TyAgg Try.prog 10 false := ⟨Try.isAgg10⟩
instance ty_z10 : TyZ Try.prog 10 (.string ⟨#[]⟩) := ⟨Try.zeroValue10⟩
instance ty_sz11 : TySz Try.prog 11 1 := ⟨Try.sizeOf11⟩
instance ty_agg11 : TyAgg Try.prog 11 false := ⟨Try.isAgg11⟩
instance ty_z11 : TyZ Try.prog 11 (.string ⟨#[]⟩) := ⟨Try.zeroValue11⟩
instance ty_sz12 : TySz Try.prog 12 1 := ⟨Try.sizeOf12⟩
instance ty_agg12 : TyAgg Try.prog 12 false := ⟨Try.isAgg12⟩
instance ty_z12 : TyZ Try.prog 12 (.int .u64 0) := ⟨Try.zeroValue12⟩
instance ty_int12 : TyInt Try.prog 12 .u64 := ⟨Try.underlying12⟩
instance ty_sz13 : TySz Try.prog 13 2 := ⟨Try.sizeOf13⟩
instance ty_agg13 : TyAgg Try.prog 13 true := ⟨Try.isAgg13⟩
instance ty_z13 : TyZ Try.prog 13 (.agg #[.string ⟨#[]⟩, .int .u64 0]) := ⟨Try.zeroValue13⟩
instance ty_str13 : TyStr Try.prog 13 [(0, 1), (1, 1)] [.string ⟨#[]⟩, .int .u64 0] := ⟨fun ps => by kernel_rfl⟩
instance ty_f13_0 : FOff Try.prog 13 0 0 := ⟨fun a w => by simp [Instr.fieldAt, Instr.sureAddr, fieldPlace, run_underlying Try.underlying13, Try.sizeOf9]⟩
instance ty_f13_1 : FOff Try.prog 13 1 1 := ⟨fun a w => by simp [Instr.fieldAt, Instr.sureAddr, fieldPlace, run_underlying Try.underlying13, Try.sizeOf12]⟩
instance ty_sz14 : TySz Try.prog 14 2 := ⟨Try.sizeOf14⟩
instance ty_agg14 : TyAgg Try.prog 14 true := ⟨Try.isAgg14⟩
instance ty_z14 : TyZ Try.prog 14 (.agg #[.string ⟨#[]⟩, .int .u64 0]) := ⟨Try.zeroValue14⟩
instance ty_str14 : TyStr Try.prog 14 [(0, 1), (1, 1)] [.string ⟨#[]⟩, .int .u64 0] := ⟨fun ps => by kernel_rfl⟩
instance ty_f14_0 : FOff Try.prog 14 0 0 := ⟨fun a w => by simp [Instr.fieldAt, Instr.sureAddr, fieldPlace, run_underlying Try.underlying14, Try.sizeOf9]⟩
instance ty_f14_1 : FOff Try.prog 14 1 1 := ⟨fun a w => by simp [Instr.fieldAt, Instr.sureAddr, fieldPlace, run_underlying Try.underlying14, Try.sizeOf12]⟩
instance ty_sz15 : TySz Try.prog 15 1 := ⟨Try.sizeOf15⟩
instance ty_agg15 : TyAgg Try.prog 15 false := ⟨Try.isAgg15⟩
instance ty_z15 : TyZ Try.prog 15 (.pointer none) := ⟨Try.zeroValue15⟩
instance ty_ptr15 : TyPtr Try.prog 15 := ⟨⟨_, Try.underlying15⟩⟩
instance ty_sz16 : TySz Try.prog 16 1 := ⟨Try.sizeOf16⟩
instance ty_agg16 : TyAgg Try.prog 16 false := ⟨Try.isAgg16⟩
instance ty_z16 : TyZ Try.prog 16 (.pointer none) := ⟨Try.zeroValue16⟩
instance ty_ptr16 : TyPtr Try.prog 16 := ⟨⟨_, Try.underlying16⟩⟩
instance ty_sz17 : TySz Try.prog 17 1 := ⟨Try.sizeOf17⟩
instance ty_agg17 : TyAgg Try.prog 17 false := ⟨Try.isAgg17⟩
instance ty_z17 : TyZ Try.prog 17 (.pointer none) := ⟨Try.zeroValue17⟩
instance ty_ptr17 : TyPtr Try.prog 17 := ⟨⟨_, Try.underlying17⟩⟩
instance ty_sz18 : TySz Try.prog 18 1 := ⟨Try.sizeOf18⟩
instance ty_agg18 : TyAgg Try.prog 18 true := ⟨Try.isAgg18⟩
instance ty_z18 : TyZ Try.prog 18 (.agg #[.pointer none]) := ⟨Try.zeroValue18⟩
instance ty_str18 : TyStr Try.prog 18 [(0, 1)] [.pointer none] := ⟨fun ps => by kernel_rfl⟩
instance ty_f18_0 : FOff Try.prog 18 0 0 := ⟨fun a w => by simp [Instr.fieldAt, Instr.sureAddr, fieldPlace, run_underlying Try.underlying18, Try.sizeOf17]⟩
instance ty_sz19 : TySz Try.prog 19 1 := ⟨Try.sizeOf19⟩
instance ty_agg19 : TyAgg Try.prog 19 true := ⟨Try.isAgg19⟩
instance ty_z19 : TyZ Try.prog 19 (.agg #[.pointer none]) := ⟨Try.zeroValue19⟩
instance ty_str19 : TyStr Try.prog 19 [(0, 1)] [.pointer none] := ⟨fun ps => by kernel_rfl⟩
instance ty_f19_0 : FOff Try.prog 19 0 0 := ⟨fun a w => by simp [Instr.fieldAt, Instr.sureAddr, fieldPlace, run_underlying Try.underlying19, Try.sizeOf17]⟩
instance ty_sz20 : TySz Try.prog 20 1 := ⟨Try.sizeOf20⟩
instance ty_agg20 : TyAgg Try.prog 20 false := ⟨Try.isAgg20⟩
instance ty_z20 : TyZ Try.prog 20 (.nilIface) := ⟨Try.zeroValue20⟩
instance ty_sz21 : TySz Try.prog 21 1 := ⟨Try.sizeOf21⟩
instance ty_agg21 : TyAgg Try.prog 21 false := ⟨Try.isAgg21⟩
instance ty_z21 : TyZ Try.prog 21 (.int .i32 0) := ⟨Try.zeroValue21⟩
instance ty_int21 : TyInt Try.prog 21 .i32 := ⟨Try.underlying21⟩
instance ty_sz22 : TySz Try.prog 22 1 := ⟨Try.sizeOf22⟩
instance ty_agg22 : TyAgg Try.prog 22 false := ⟨Try.isAgg22⟩
instance ty_z22 : TyZ Try.prog 22 (.nilFunc) := ⟨Try.zeroValue22⟩
instance ty_sz23 : TySz Try.prog 23 1 := ⟨Try.sizeOf23⟩
instance ty_agg23 : TyAgg Try.prog 23 false := ⟨Try.isAgg23⟩
instance ty_z23 : TyZ Try.prog 23 (.pointer none) := ⟨Try.zeroValue23⟩
instance ty_ptr23 : TyPtr Try.prog 23 := ⟨⟨_, Try.underlying23⟩⟩
instance ty_sz25 : TySz Try.prog 25 1 := ⟨Try.sizeOf25⟩
instance ty_agg25 : TyAgg Try.prog 25 false := ⟨Try.isAgg25⟩
instance ty_z25 : TyZ Try.prog 25 (.nilFunc) := ⟨Try.zeroValue25⟩
instance ty_sz26 : TySz Try.prog 26 1 := ⟨Try.sizeOf26⟩
instance ty_agg26 : TyAgg Try.prog 26 false := ⟨Try.isAgg26⟩
instance ty_z26 : TyZ Try.prog 26 (.int .i64 0) := ⟨Try.zeroValue26⟩
instance ty_int26 : TyInt Try.prog 26 .i64 := ⟨Try.underlying26⟩
instance ty_sz28 : TySz Try.prog 28 1 := ⟨Try.sizeOf28⟩
instance ty_agg28 : TyAgg Try.prog 28 false := ⟨Try.isAgg28⟩
instance ty_z28 : TyZ Try.prog 28 (.nilFunc) := ⟨Try.zeroValue28⟩
instance ty_sz29 : TySz Try.prog 29 1 := ⟨Try.sizeOf29⟩
instance ty_agg29 : TyAgg Try.prog 29 false := ⟨Try.isAgg29⟩
instance ty_z29 : TyZ Try.prog 29 (.nilFunc) := ⟨Try.zeroValue29⟩
instance ty_sz30 : TySz Try.prog 30 1 := ⟨Try.sizeOf30⟩
instance ty_agg30 : TyAgg Try.prog 30 false := ⟨Try.isAgg30⟩
instance ty_z30 : TyZ Try.prog 30 (.int .u64 0) := ⟨Try.zeroValue30⟩
instance ty_int30 : TyInt Try.prog 30 .u64 := ⟨Try.underlying30⟩
instance ty_sz31 : TySz Try.prog 31 1 := ⟨Try.sizeOf31⟩
instance ty_agg31 : TyAgg Try.prog 31 false := ⟨Try.isAgg31⟩
instance ty_z31 : TyZ Try.prog 31 (.nilFunc) := ⟨Try.zeroValue31⟩
instance ty_sz32 : TySz Try.prog 32 1 := ⟨Try.sizeOf32⟩
instance ty_agg32 : TyAgg Try.prog 32 false := ⟨Try.isAgg32⟩
instance ty_z32 : TyZ Try.prog 32 (.nilFunc) := ⟨Try.zeroValue32⟩
instance ty_sz33 : TySz Try.prog 33 1 := ⟨Try.sizeOf33⟩
instance ty_agg33 : TyAgg Try.prog 33 false := ⟨Try.isAgg33⟩
instance ty_z33 : TyZ Try.prog 33 (.nilFunc) := ⟨Try.zeroValue33⟩
instance ty_sz34 : TySz Try.prog 34 1 := ⟨Try.sizeOf34⟩
instance ty_agg34 : TyAgg Try.prog 34 false := ⟨Try.isAgg34⟩
instance ty_z34 : TyZ Try.prog 34 (.slice none 0 0) := ⟨Try.zeroValue34⟩
instance ty_sl34 : TySl Try.prog 34 3 1 := ⟨Try.underlying34, Try.sizeOf3⟩
instance ty_el3 : TyEl Try.prog 3 1 8 := ⟨⟨_, _, rfl, rfl, rfl, rfl, rfl⟩⟩
instance ty_sz35 : TySz Try.prog 35 1 := ⟨Try.sizeOf35⟩
instance ty_agg35 : TyAgg Try.prog 35 false := ⟨Try.isAgg35⟩
instance ty_z35 : TyZ Try.prog 35 (.nilFunc) := ⟨Try.zeroValue35⟩
instance ty_sz36 : TySz Try.prog 36 1 := ⟨Try.sizeOf36⟩
instance ty_agg36 : TyAgg Try.prog 36 false := ⟨Try.isAgg36⟩
instance ty_z36 : TyZ Try.prog 36 (.nilFunc) := ⟨Try.zeroValue36⟩
instance ty_sz37 : TySz Try.prog 37 1 := ⟨Try.sizeOf37⟩
instance ty_agg37 : TyAgg Try.prog 37 false := ⟨Try.isAgg37⟩
instance ty_z37 : TyZ Try.prog 37 (.nilFunc) := ⟨Try.zeroValue37⟩
instance ty_sz38 : TySz Try.prog 38 1 := ⟨Try.sizeOf38⟩
instance ty_agg38 : TyAgg Try.prog 38 false := ⟨Try.isAgg38⟩
instance ty_z38 : TyZ Try.prog 38 (.nilFunc) := ⟨Try.zeroValue38⟩
instance ty_sz39 : TySz Try.prog 39 1 := ⟨Try.sizeOf39⟩
instance ty_agg39 : TyAgg Try.prog 39 false := ⟨Try.isAgg39⟩
instance ty_z39 : TyZ Try.prog 39 (.nilFunc) := ⟨Try.zeroValue39⟩
instance ty_sz40 : TySz Try.prog 40 1 := ⟨Try.sizeOf40⟩
instance ty_agg40 : TyAgg Try.prog 40 false := ⟨Try.isAgg40⟩
instance ty_z40 : TyZ Try.prog 40 (.pointer none) := ⟨Try.zeroValue40⟩
instance ty_ptr40 : TyPtr Try.prog 40 := ⟨⟨_, Try.underlying40⟩⟩
instance ty_sz42 : TySz Try.prog 42 1 := ⟨Try.sizeOf42⟩
instance ty_agg42 : TyAgg Try.prog 42 false := ⟨Try.isAgg42⟩
instance ty_z42 : TyZ Try.prog 42 (.nilFunc) := ⟨Try.zeroValue42⟩
instance ty_sz43 : TySz Try.prog 43 1 := ⟨Try.sizeOf43⟩
instance ty_agg43 : TyAgg Try.prog 43 false := ⟨Try.isAgg43⟩
instance ty_z43 : TyZ Try.prog 43 (.nilFunc) := ⟨Try.zeroValue43⟩
instance ty_sz44 : TySz Try.prog 44 1 := ⟨Try.sizeOf44⟩
instance ty_agg44 : TyAgg Try.prog 44 false := ⟨Try.isAgg44⟩
instance ty_z44 : TyZ Try.prog 44 (.nilFunc) := ⟨Try.zeroValue44⟩
instance ty_sz45 : TySz Try.prog 45 1 := ⟨Try.sizeOf45⟩
instance ty_agg45 : TyAgg Try.prog 45 false := ⟨Try.isAgg45⟩
instance ty_z45 : TyZ Try.prog 45 (.nilFunc) := ⟨Try.zeroValue45⟩
instance ty_sz46 : TySz Try.prog 46 3 := ⟨Try.sizeOf46⟩
instance ty_agg46 : TyAgg Try.prog 46 true := ⟨Try.isAgg46⟩
instance ty_z46 : TyZ Try.prog 46 (.agg #[.int .i64 0, .int .i64 0, .slice none 0 0]) := ⟨Try.zeroValue46⟩
instance ty_str46 : TyStr Try.prog 46 [(0, 1), (1, 1), (2, 1)] [.int .i64 0, .int .i64 0, .slice none 0 0] := ⟨fun ps => by kernel_rfl⟩
instance ty_f46_0 : FOff Try.prog 46 0 0 := ⟨fun a w => by simp [Instr.fieldAt, Instr.sureAddr, fieldPlace, run_underlying Try.underlying46, Try.sizeOf3]⟩
instance ty_f46_1 : FOff Try.prog 46 1 1 := ⟨fun a w => by simp [Instr.fieldAt, Instr.sureAddr, fieldPlace, run_underlying Try.underlying46, Try.sizeOf3]⟩
instance ty_f46_2 : FOff Try.prog 46 2 2 := ⟨fun a w => by simp [Instr.fieldAt, Instr.sureAddr, fieldPlace, run_underlying Try.underlying46, Try.sizeOf34]⟩
instance ty_sz47 : TySz Try.prog 47 3 := ⟨Try.sizeOf47⟩
instance ty_agg47 : TyAgg Try.prog 47 true := ⟨Try.isAgg47⟩
instance ty_z47 : TyZ Try.prog 47 (.agg #[.int .i64 0, .int .i64 0, .slice none 0 0]) := ⟨Try.zeroValue47⟩
instance ty_str47 : TyStr Try.prog 47 [(0, 1), (1, 1), (2, 1)] [.int .i64 0, .int .i64 0, .slice none 0 0] := ⟨fun ps => by kernel_rfl⟩
instance ty_f47_0 : FOff Try.prog 47 0 0 := ⟨fun a w => by simp [Instr.fieldAt, Instr.sureAddr, fieldPlace, run_underlying Try.underlying47, Try.sizeOf3]⟩
instance ty_f47_1 : FOff Try.prog 47 1 1 := ⟨fun a w => by simp [Instr.fieldAt, Instr.sureAddr, fieldPlace, run_underlying Try.underlying47, Try.sizeOf3]⟩
instance ty_f47_2 : FOff Try.prog 47 2 2 := ⟨fun a w => by simp [Instr.fieldAt, Instr.sureAddr, fieldPlace, run_underlying Try.underlying47, Try.sizeOf34]⟩
instance ty_sz48 : TySz Try.prog 48 1 := ⟨Try.sizeOf48⟩
instance ty_agg48 : TyAgg Try.prog 48 false := ⟨Try.isAgg48⟩
instance ty_z48 : TyZ Try.prog 48 (.nilFunc) := ⟨Try.zeroValue48⟩
instance ty_sz49 : TySz Try.prog 49 2 := ⟨Try.sizeOf49⟩
instance ty_agg49 : TyAgg Try.prog 49 true := ⟨Try.isAgg49⟩
instance ty_z49 : TyZ Try.prog 49 (.agg #[.int .i64 0, .int .i64 0]) := ⟨Try.zeroValue49⟩
instance ty_ar49 : TyAr Try.prog 49 3 1 2 := ⟨Try.underlying49, Try.sizeOf3⟩
instance ty_sz50 : TySz Try.prog 50 1 := ⟨Try.sizeOf50⟩
instance ty_agg50 : TyAgg Try.prog 50 false := ⟨Try.isAgg50⟩
instance ty_z50 : TyZ Try.prog 50 (.slice none 0 0) := ⟨Try.zeroValue50⟩
instance ty_sl50 : TySl Try.prog 50 49 2 := ⟨Try.underlying50, Try.sizeOf49⟩
instance ty_el49 : TyEl Try.prog 49 2 16 := ⟨⟨_, _, rfl, rfl, rfl, rfl, rfl⟩⟩
instance ty_sz51 : TySz Try.prog 51 32 := ⟨Try.sizeOf51⟩
instance ty_agg51 : TyAgg Try.prog 51 true := ⟨Try.isAgg51⟩
instance ty_z51 : TyZ Try.prog 51 (.agg #[.bool false, .bool false, .bool false, .bool false, .bool false, .bool false, .bool false, .bool false, .bool false, .bool false, .bool false, .bool false, .bool false, .bool false, .bool false, .bool false, .bool false, .bool false, .bool false, .bool false, .bool false, .bool false, .bool false, .bool false, .bool false, .bool false, .bool false, .bool false, .bool false, .bool false, .bool false, .bool false]) := ⟨Try.zeroValue51⟩
instance ty_ar51 : TyAr Try.prog 51 4 1 32 := ⟨Try.underlying51, Try.sizeOf4⟩
instance ty_sz52 : TySz Try.prog 52 34 := ⟨Try.sizeOf52⟩
instance ty_agg52 : TyAgg Try.prog 52 true := ⟨Try.isAgg52⟩
instance ty_z52 : TyZ Try.prog 52 (.agg #[.int .i64 0, .int .i64 0, .bool false, .bool false, .bool false, .bool false, .bool false, .bool false, .bool false, .bool false, .bool false, .bool false, .bool false, .bool false, .bool false, .bool false, .bool false, .bool false, .bool false, .bool false, .bool false, .bool false, .bool false, .bool false, .bool false, .bool false, .bool false, .bool false, .bool false, .bool false, .bool false, .bool false, .bool false, .bool false]) := ⟨Try.zeroValue52⟩
instance ty_str52 : TyStr Try.prog 52 [(0, 1), (1, 1), (2, 32)] [.int .i64 0, .int .i64 0, .bool false, .bool false, .bool false, .bool false, .bool false, .bool false, .bool false, .bool false, .bool false, .bool false, .bool false, .bool false, .bool false, .bool false, .bool false, .bool false, .bool false, .bool false, .bool false, .bool false, .bool false, .bool false, .bool false, .bool false, .bool false, .bool false, .bool false, .bool false, .bool false, .bool false, .bool false, .bool false] := ⟨fun ps => by kernel_rfl⟩
instance ty_f52_0 : FOff Try.prog 52 0 0 := ⟨fun a w => by simp [Instr.fieldAt, Instr.sureAddr, fieldPlace, run_underlying Try.underlying52, Try.sizeOf3]⟩
instance ty_f52_1 : FOff Try.prog 52 1 1 := ⟨fun a w => by simp [Instr.fieldAt, Instr.sureAddr, fieldPlace, run_underlying Try.underlying52, Try.sizeOf3]⟩
instance ty_f52_2 : FOff Try.prog 52 2 2 := ⟨fun a w => by simp [Instr.fieldAt, Instr.sureAddr, fieldPlace, run_underlying Try.underlying52, Try.sizeOf51]⟩
instance ty_sz53 : TySz Try.prog 53 34 := ⟨Try.sizeOf53⟩
instance ty_agg53 : TyAgg Try.prog 53 true := ⟨Try.isAgg53⟩
instance ty_z53 : TyZ Try.prog 53 (.agg #[.int .i64 0, .int .i64 0, .bool false, .bool false, .bool false, .bool false, .bool false, .bool false, .bool false, .bool false, .bool false, .bool false, .bool false, .bool false, .bool false, .bool false, .bool false, .bool false, .bool false, .bool false, .bool false, .bool false, .bool false, .bool false, .bool false, .bool false, .bool false, .bool false, .bool false, .bool false, .bool false, .bool false, .bool false, .bool false]) := ⟨Try.zeroValue53⟩
instance ty_str53 : TyStr Try.prog 53 [(0, 1), (1, 1), (2, 32)] [.int .i64 0, .int .i64 0, .bool false, .bool false, .bool false, .bool false, .bool false, .bool false, .bool false, .bool false, .bool false, .bool false, .bool false, .bool false, .bool false, .bool false, .bool false, .bool false, .bool false, .bool false, .bool false, .bool false, .bool false, .bool false, .bool false, .bool false, .bool false, .bool false, .bool false, .bool false, .bool false, .bool false, .bool false, .bool false] := ⟨fun ps => by kernel_rfl⟩
instance ty_f53_0 : FOff Try.prog 53 0 0 := ⟨fun a w => by simp [Instr.fieldAt, Instr.sureAddr, fieldPlace, run_underlying Try.underlying53, Try.sizeOf3]⟩
instance ty_f53_1 : FOff Try.prog 53 1 1 := ⟨fun a w => by simp [Instr.fieldAt, Instr.sureAddr, fieldPlace, run_underlying Try.underlying53, Try.sizeOf3]⟩
instance ty_f53_2 : FOff Try.prog 53 2 2 := ⟨fun a w => by simp [Instr.fieldAt, Instr.sureAddr, fieldPlace, run_underlying Try.underlying53, Try.sizeOf51]⟩
instance ty_sz54 : TySz Try.prog 54 1 := ⟨Try.sizeOf54⟩
instance ty_agg54 : TyAgg Try.prog 54 false := ⟨Try.isAgg54⟩
instance ty_z54 : TyZ Try.prog 54 (.nilFunc) := ⟨Try.zeroValue54⟩
instance ty_sz55 : TySz Try.prog 55 1 := ⟨Try.sizeOf55⟩
instance ty_agg55 : TyAgg Try.prog 55 false := ⟨Try.isAgg55⟩
instance ty_z55 : TyZ Try.prog 55 (.nilFunc) := ⟨Try.zeroValue55⟩
instance ty_sz56 : TySz Try.prog 56 1 := ⟨Try.sizeOf56⟩
instance ty_agg56 : TyAgg Try.prog 56 false := ⟨Try.isAgg56⟩
instance ty_z56 : TyZ Try.prog 56 (.nilFunc) := ⟨Try.zeroValue56⟩
instance ty_sz57 : TySz Try.prog 57 1 := ⟨Try.sizeOf57⟩
instance ty_agg57 : TyAgg Try.prog 57 false := ⟨Try.isAgg57⟩
instance ty_z57 : TyZ Try.prog 57 (.nilFunc) := ⟨Try.zeroValue57⟩
instance ty_sz58 : TySz Try.prog 58 1 := ⟨Try.sizeOf58⟩
instance ty_agg58 : TyAgg Try.prog 58 false := ⟨Try.isAgg58⟩
instance ty_z58 : TyZ Try.prog 58 (.nilFunc) := ⟨Try.zeroValue58⟩
instance ty_sz59 : TySz Try.prog 59 1 := ⟨Try.sizeOf59⟩
instance ty_agg59 : TyAgg Try.prog 59 false := ⟨Try.isAgg59⟩
instance ty_z59 : TyZ Try.prog 59 (.nilFunc) := ⟨Try.zeroValue59⟩
instance ty_sz60 : TySz Try.prog 60 4 := ⟨Try.sizeOf60⟩
instance ty_agg60 : TyAgg Try.prog 60 true := ⟨Try.isAgg60⟩
instance ty_z60 : TyZ Try.prog 60 (.agg #[.pointer none, .pointer none, .pointer none, .string ⟨#[]⟩]) := ⟨Try.zeroValue60⟩
instance ty_str60 : TyStr Try.prog 60 [(0, 1), (1, 1), (2, 1), (3, 1)] [.pointer none, .pointer none, .pointer none, .string ⟨#[]⟩] := ⟨fun ps => by kernel_rfl⟩
instance ty_f60_0 : FOff Try.prog 60 0 0 := ⟨fun a w => by simp [Instr.fieldAt, Instr.sureAddr, fieldPlace, run_underlying Try.underlying60, Try.sizeOf17]⟩
instance ty_f60_1 : FOff Try.prog 60 1 1 := ⟨fun a w => by simp [Instr.fieldAt, Instr.sureAddr, fieldPlace, run_underlying Try.underlying60, Try.sizeOf17]⟩
instance ty_f60_2 : FOff Try.prog 60 2 2 := ⟨fun a w => by simp [Instr.fieldAt, Instr.sureAddr, fieldPlace, run_underlying Try.underlying60, Try.sizeOf17]⟩
instance ty_f60_3 : FOff Try.prog 60 3 3 := ⟨fun a w => by simp [Instr.fieldAt, Instr.sureAddr, fieldPlace, run_underlying Try.underlying60, Try.sizeOf9]⟩
instance ty_sz61 : TySz Try.prog 61 4 := ⟨Try.sizeOf61⟩
instance ty_agg61 : TyAgg Try.prog 61 true := ⟨Try.isAgg61⟩
instance ty_z61 : TyZ Try.prog 61 (.agg #[.pointer none, .pointer none, .pointer none, .string ⟨#[]⟩]) := ⟨Try.zeroValue61⟩
instance ty_str61 : TyStr Try.prog 61 [(0, 1), (1, 1), (2, 1), (3, 1)] [.pointer none, .pointer none, .pointer none, .string ⟨#[]⟩] := ⟨fun ps => by kernel_rfl⟩
instance ty_f61_0 : FOff Try.prog 61 0 0 := ⟨fun a w => by simp [Instr.fieldAt, Instr.sureAddr, fieldPlace, run_underlying Try.underlying61, Try.sizeOf17]⟩
instance ty_f61_1 : FOff Try.prog 61 1 1 := ⟨fun a w => by simp [Instr.fieldAt, Instr.sureAddr, fieldPlace, run_underlying Try.underlying61, Try.sizeOf17]⟩
instance ty_f61_2 : FOff Try.prog 61 2 2 := ⟨fun a w => by simp [Instr.fieldAt, Instr.sureAddr, fieldPlace, run_underlying Try.underlying61, Try.sizeOf17]⟩
instance ty_f61_3 : FOff Try.prog 61 3 3 := ⟨fun a w => by simp [Instr.fieldAt, Instr.sureAddr, fieldPlace, run_underlying Try.underlying61, Try.sizeOf9]⟩
instance ty_sz62 : TySz Try.prog 62 0 := ⟨Try.sizeOf62⟩
instance ty_agg62 : TyAgg Try.prog 62 true := ⟨Try.isAgg62⟩
instance ty_z62 : TyZ Try.prog 62 (.agg #[]) := ⟨Try.zeroValue62⟩
instance ty_ar62 : TyAr Try.prog 62 16 1 0 := ⟨Try.underlying62, Try.sizeOf16⟩
instance ty_sz63 : TySz Try.prog 63 0 := ⟨Try.sizeOf63⟩
instance ty_agg63 : TyAgg Try.prog 63 true := ⟨Try.isAgg63⟩
instance ty_z63 : TyZ Try.prog 63 (.agg #[]) := ⟨Try.zeroValue63⟩
instance ty_sz64 : TySz Try.prog 64 0 := ⟨Try.sizeOf64⟩
instance ty_agg64 : TyAgg Try.prog 64 true := ⟨Try.isAgg64⟩
instance ty_z64 : TyZ Try.prog 64 (.agg #[]) := ⟨Try.zeroValue64⟩
instance ty_sz65 : TySz Try.prog 65 1 := ⟨Try.sizeOf65⟩
instance ty_agg65 : TyAgg Try.prog 65 false := ⟨Try.isAgg65⟩
instance ty_z65 : TyZ Try.prog 65 (.int .u32 0) := ⟨Try.zeroValue65⟩
instance ty_int65 : TyInt Try.prog 65 .u32 := ⟨Try.underlying65⟩
instance ty_sz66 : TySz Try.prog 66 1 := ⟨Try.sizeOf66⟩
instance ty_agg66 : TyAgg Try.prog 66 false := ⟨Try.isAgg66⟩
instance ty_z66 : TyZ Try.prog 66 (.int .u8 0) := ⟨Try.zeroValue66⟩
instance ty_int66 : TyInt Try.prog 66 .u8 := ⟨Try.underlying66⟩
instance ty_sz67 : TySz Try.prog 67 1 := ⟨Try.sizeOf67⟩
instance ty_agg67 : TyAgg Try.prog 67 false := ⟨Try.isAgg67⟩
instance ty_z67 : TyZ Try.prog 67 (.int .u8 0) := ⟨Try.zeroValue67⟩
instance ty_int67 : TyInt Try.prog 67 .u8 := ⟨Try.underlying67⟩
instance ty_sz68 : TySz Try.prog 68 1 := ⟨Try.sizeOf68⟩
instance ty_agg68 : TyAgg Try.prog 68 false := ⟨Try.isAgg68⟩
instance ty_z68 : TyZ Try.prog 68 (.nilFunc) := ⟨Try.zeroValue68⟩
instance ty_sz69 : TySz Try.prog 69 1 := ⟨Try.sizeOf69⟩
instance ty_agg69 : TyAgg Try.prog 69 false := ⟨Try.isAgg69⟩
instance ty_z69 : TyZ Try.prog 69 (.pointer none) := ⟨Try.zeroValue69⟩
instance ty_ptr69 : TyPtr Try.prog 69 := ⟨⟨_, Try.underlying69⟩⟩
instance ty_sz70 : TySz Try.prog 70 1 := ⟨Try.sizeOf70⟩
instance ty_agg70 : TyAgg Try.prog 70 false := ⟨Try.isAgg70⟩
instance ty_z70 : TyZ Try.prog 70 (.int .i32 0) := ⟨Try.zeroValue70⟩
instance ty_int70 : TyInt Try.prog 70 .i32 := ⟨Try.underlying70⟩
instance ty_sz71 : TySz Try.prog 71 1 := ⟨Try.sizeOf71⟩
instance ty_agg71 : TyAgg Try.prog 71 false := ⟨Try.isAgg71⟩
instance ty_z71 : TyZ Try.prog 71 (.int .i32 0) := ⟨Try.zeroValue71⟩
instance ty_int71 : TyInt Try.prog 71 .i32 := ⟨Try.underlying71⟩
instance ty_sz72 : TySz Try.prog 72 11 := ⟨Try.sizeOf72⟩
instance ty_agg72 : TyAgg Try.prog 72 true := ⟨Try.isAgg72⟩
instance ty_z72 : TyZ Try.prog 72 (.agg #[.int .u64 0, .int .u64 0, .int .u32 0, .int .u8 0, .int .u8 0, .int .u8 0, .int .u8 0, .nilFunc, .pointer none, .int .i32 0, .int .i32 0]) := ⟨Try.zeroValue72⟩
instance ty_str72 : TyStr Try.prog 72 [(0, 1), (1, 1), (2, 1), (3, 1), (4, 1), (5, 1), (6, 1), (7, 1), (8, 1), (9, 1), (10, 1)] [.int .u64 0, .int .u64 0, .int .u32 0, .int .u8 0, .int .u8 0, .int .u8 0, .int .u8 0, .nilFunc, .pointer none, .int .i32 0, .int .i32 0] := ⟨fun ps => by kernel_rfl⟩
instance ty_f72_0 : FOff Try.prog 72 0 0 := ⟨fun a w => by simp [Instr.fieldAt, Instr.sureAddr, fieldPlace, run_underlying Try.underlying72, Try.sizeOf12]⟩
instance ty_f72_1 : FOff Try.prog 72 1 1 := ⟨fun a w => by simp [Instr.fieldAt, Instr.sureAddr, fieldPlace, run_underlying Try.underlying72, Try.sizeOf12]⟩
instance ty_f72_2 : FOff Try.prog 72 2 2 := ⟨fun a w => by simp [Instr.fieldAt, Instr.sureAddr, fieldPlace, run_underlying Try.underlying72, Try.sizeOf65]⟩
instance ty_f72_3 : FOff Try.prog 72 3 3 := ⟨fun a w => by simp [Instr.fieldAt, Instr.sureAddr, fieldPlace, run_underlying Try.underlying72, Try.sizeOf66]⟩
instance ty_f72_4 : FOff Try.prog 72 4 4 := ⟨fun a w => by simp [Instr.fieldAt, Instr.sureAddr, fieldPlace, run_underlying Try.underlying72, Try.sizeOf5]⟩
instance ty_f72_5 : FOff Try.prog 72 5 5 := ⟨fun a w => by simp [Instr.fieldAt, Instr.sureAddr, fieldPlace, run_underlying Try.underlying72, Try.sizeOf5]⟩
instance ty_f72_6 : FOff Try.prog 72 6 6 := ⟨fun a w => by simp [Instr.fieldAt, Instr.sureAddr, fieldPlace, run_underlying Try.underlying72, Try.sizeOf67]⟩
instance ty_f72_7 : FOff Try.prog 72 7 7 := ⟨fun a w => by simp [Instr.fieldAt, Instr.sureAddr, fieldPlace, run_underlying Try.underlying72, Try.sizeOf68]⟩
instance ty_f72_8 : FOff Try.prog 72 8 8 := ⟨fun a w => by simp [Instr.fieldAt, Instr.sureAddr, fieldPlace, run_underlying Try.underlying72, Try.sizeOf69]⟩
instance ty_f72_9 : FOff Try.prog 72 9 9 := ⟨fun a w => by simp [Instr.fieldAt, Instr.sureAddr, fieldPlace, run_underlying Try.underlying72, Try.sizeOf70]⟩
instance ty_f72_10 : FOff Try.prog 72 10 10 := ⟨fun a w => by simp [Instr.fieldAt, Instr.sureAddr, fieldPlace, run_underlying Try.underlying72, Try.sizeOf71]⟩
instance ty_sz73 : TySz Try.prog 73 11 := ⟨Try.sizeOf73⟩
instance ty_agg73 : TyAgg Try.prog 73 true := ⟨Try.isAgg73⟩
instance ty_z73 : TyZ Try.prog 73 (.agg #[.int .u64 0, .int .u64 0, .int .u32 0, .int .u8 0, .int .u8 0, .int .u8 0, .int .u8 0, .nilFunc, .pointer none, .int .i32 0, .int .i32 0]) := ⟨Try.zeroValue73⟩
instance ty_str73 : TyStr Try.prog 73 [(0, 1), (1, 1), (2, 1), (3, 1), (4, 1), (5, 1), (6, 1), (7, 1), (8, 1), (9, 1), (10, 1)] [.int .u64 0, .int .u64 0, .int .u32 0, .int .u8 0, .int .u8 0, .int .u8 0, .int .u8 0, .nilFunc, .pointer none, .int .i32 0, .int .i32 0] := ⟨fun ps => by kernel_rfl⟩
instance ty_f73_0 : FOff Try.prog 73 0 0 := ⟨fun a w => by simp [Instr.fieldAt, Instr.sureAddr, fieldPlace, run_underlying Try.underlying73, Try.sizeOf12]⟩
instance ty_f73_1 : FOff Try.prog 73 1 1 := ⟨fun a w => by simp [Instr.fieldAt, Instr.sureAddr, fieldPlace, run_underlying Try.underlying73, Try.sizeOf12]⟩
instance ty_f73_2 : FOff Try.prog 73 2 2 := ⟨fun a w => by simp [Instr.fieldAt, Instr.sureAddr, fieldPlace, run_underlying Try.underlying73, Try.sizeOf65]⟩
instance ty_f73_3 : FOff Try.prog 73 3 3 := ⟨fun a w => by simp [Instr.fieldAt, Instr.sureAddr, fieldPlace, run_underlying Try.underlying73, Try.sizeOf66]⟩
instance ty_f73_4 : FOff Try.prog 73 4 4 := ⟨fun a w => by simp [Instr.fieldAt, Instr.sureAddr, fieldPlace, run_underlying Try.underlying73, Try.sizeOf5]⟩
instance ty_f73_5 : FOff Try.prog 73 5 5 := ⟨fun a w => by simp [Instr.fieldAt, Instr.sureAddr, fieldPlace, run_underlying Try.underlying73, Try.sizeOf5]⟩
instance ty_f73_6 : FOff Try.prog 73 6 6 := ⟨fun a w => by simp [Instr.fieldAt, Instr.sureAddr, fieldPlace, run_underlying Try.underlying73, Try.sizeOf67]⟩
instance ty_f73_7 : FOff Try.prog 73 7 7 := ⟨fun a w => by simp [Instr.fieldAt, Instr.sureAddr, fieldPlace, run_underlying Try.underlying73, Try.sizeOf68]⟩
instance ty_f73_8 : FOff Try.prog 73 8 8 := ⟨fun a w => by simp [Instr.fieldAt, Instr.sureAddr, fieldPlace, run_underlying Try.underlying73, Try.sizeOf69]⟩
instance ty_f73_9 : FOff Try.prog 73 9 9 := ⟨fun a w => by simp [Instr.fieldAt, Instr.sureAddr, fieldPlace, run_underlying Try.underlying73, Try.sizeOf70]⟩
instance ty_f73_10 : FOff Try.prog 73 10 10 := ⟨fun a w => by simp [Instr.fieldAt, Instr.sureAddr, fieldPlace, run_underlying Try.underlying73, Try.sizeOf71]⟩
instance ty_sz74 : TySz Try.prog 74 1 := ⟨Try.sizeOf74⟩
instance ty_agg74 : TyAgg Try.prog 74 false := ⟨Try.isAgg74⟩
instance ty_z74 : TyZ Try.prog 74 (.pointer none) := ⟨Try.zeroValue74⟩
instance fn_ok2 : FnOk Try.prog 2 := ⟨Try.call2⟩
instance fn_ok3 : FnOk Try.prog 3 := ⟨Try.call3⟩
instance fn_ok4 : FnOk Try.prog 4 := ⟨Try.call4⟩
instance fn_ok5 : FnOk Try.prog 5 := ⟨Try.call5⟩
instance fn_ok6 : FnOk Try.prog 6 := ⟨Try.call6⟩
instance fn_ok7 : FnOk Try.prog 7 := ⟨Try.call7⟩
instance fn_ok8 : FnOk Try.prog 8 := ⟨Try.call8⟩
instance fn_ok9 : FnOk Try.prog 9 := ⟨Try.call9⟩
instance fn_ok10 : FnOk Try.prog 10 := ⟨Try.call10⟩
instance fn_ok11 : FnOk Try.prog 11 := ⟨Try.call11⟩
instance fn_ok12 : FnOk Try.prog 12 := ⟨Try.call12⟩
instance fn_ok13 : FnOk Try.prog 13 := ⟨Try.call13⟩
instance fn_ok14 : FnOk Try.prog 14 := ⟨Try.call14⟩
instance fn_ok15 : FnOk Try.prog 15 := ⟨Try.call15⟩
instance fn_ok16 : FnOk Try.prog 16 := ⟨Try.call16⟩
instance fn_ok17 : FnOk Try.prog 17 := ⟨Try.call17⟩
instance fn_ok18 : FnOk Try.prog 18 := ⟨Try.call18⟩
instance fn_ok19 : FnOk Try.prog 19 := ⟨Try.call19⟩
instance fn_ok20 : FnOk Try.prog 20 := ⟨Try.call20⟩
instance fn_ok21 : FnOk Try.prog 21 := ⟨Try.call21⟩
instance fn_ok22 : FnOk Try.prog 22 := ⟨Try.call22⟩
instance fn_ok23 : FnOk Try.prog 23 := ⟨Try.call23⟩
instance fn_ok24 : FnOk Try.prog 24 := ⟨Try.call24⟩
instance fn_ok25 : FnOk Try.prog 25 := ⟨Try.call25⟩
instance fn_ok26 : FnOk Try.prog 26 := ⟨Try.call26⟩
instance fn_ok27 : FnOk Try.prog 27 := ⟨Try.call27⟩
theorem mixed : Try.prog.follows .mixedOrders = true := by kernel_rfl
end Go.Proofs.Ytndaggdpeeecfaa
