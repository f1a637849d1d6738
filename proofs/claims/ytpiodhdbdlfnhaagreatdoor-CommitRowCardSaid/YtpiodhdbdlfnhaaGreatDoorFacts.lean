/- What Eng's laws ask of this program's types and functions. -/
import Derived.Test.YtpiodhdbdlfnhaaGreatDoorProg
import Derived.Test.YtpiodhdbdlfnhaaGreatDoorMore
namespace Go.Proofs.YtpiodhdbdlfnhaaGreatDoor
open Go.Proofs
set_option maxRecDepth 100000
instance ty_sz2 : TySz Tryz.prog 2 1 := ⟨Tryz.sizeOf2⟩
instance ty_agg2 : TyAgg Tryz.prog 2 false := ⟨Tryz.isAgg2⟩
instance ty_z2 : TyZ Tryz.prog 2 (.int .i64 0) := ⟨Tryz.zeroValue2⟩
instance ty_int2 : TyInt Tryz.prog 2 .i64 := ⟨Tryz.underlying2⟩
instance ty_sz3 : TySz Tryz.prog 3 1 := ⟨Tryz.sizeOf3⟩
instance ty_agg3 : TyAgg Tryz.prog 3 false := ⟨Tryz.isAgg3⟩
instance ty_z3 : TyZ Tryz.prog 3 (.int .i64 0) := ⟨Tryz.zeroValue3⟩
instance ty_int3 : TyInt Tryz.prog 3 .i64 := ⟨Tryz.underlying3⟩
instance ty_sz4 : TySz Tryz.prog 4 1 := ⟨Tryz.sizeOf4⟩
instance ty_agg4 : TyAgg Tryz.prog 4 false := ⟨Tryz.isAgg4⟩
instance ty_bool4 : TyBool Tryz.prog 4 := ⟨Tryz.underlying4⟩
instance ty_sz5 : TySz Tryz.prog 5 1 := ⟨Tryz.sizeOf5⟩
instance ty_agg5 : TyAgg Tryz.prog 5 false := ⟨Tryz.isAgg5⟩
instance ty_z5 : TyZ Tryz.prog 5 (.int .u8 0) := ⟨Tryz.zeroValue5⟩
instance ty_int5 : TyInt Tryz.prog 5 .u8 := ⟨Tryz.underlying5⟩
instance ty_agg22 : TyAgg Tryz.prog 22 false := ⟨Tryz.isAgg22⟩
instance ty_sl22 : TySl Tryz.prog 22 2 1 := ⟨Tryz.underlying22, Tryz.sizeOf2⟩
instance ty_el2 : TyEl Tryz.prog 2 1 8 := ⟨⟨_, _, rfl, rfl, rfl, rfl, rfl⟩⟩
instance ty_sz23 : TySz Tryz.prog 23 1 := ⟨Tryz.sizeOf23⟩
instance ty_agg23 : TyAgg Tryz.prog 23 false := ⟨Tryz.isAgg23⟩
instance ty_sl23 : TySl Tryz.prog 23 3 1 := ⟨Tryz.underlying23, Tryz.sizeOf3⟩
instance ty_el3 : TyEl Tryz.prog 3 1 8 := ⟨⟨_, _, rfl, rfl, rfl, rfl, rfl⟩⟩
instance ty_agg24 : TyAgg Tryz.prog 24 false := ⟨Tryz.isAgg24⟩
instance ty_sl24 : TySl Tryz.prog 24 57 2 := ⟨Tryz.underlying24, Tryz.sizeOf57⟩
instance ty_el57 : TyEl Tryz.prog 57 2 16 := ⟨⟨_, _, rfl, rfl, rfl, rfl, rfl⟩⟩
instance ty_agg27 : TyAgg Tryz.prog 27 false := ⟨Tryz.isAgg27⟩
instance ty_ptr27 : TyPtr Tryz.prog 27 := ⟨⟨_, Tryz.underlying27⟩⟩
instance ty_ptr31 : TyPtr Tryz.prog 31 := ⟨⟨_, Tryz.underlying31⟩⟩
instance ty_agg34 : TyAgg Tryz.prog 34 false := ⟨Tryz.isAgg34⟩
instance ty_ptr34 : TyPtr Tryz.prog 34 := ⟨⟨_, Tryz.underlying34⟩⟩
instance ty_sz39 : TySz Tryz.prog 39 7 := ⟨Tryz.sizeOf39⟩
instance ty_agg39 : TyAgg Tryz.prog 39 true := ⟨Tryz.isAgg39⟩
instance ty_z39 : TyZ Tryz.prog 39 (.agg #[.int .u8 0, .int .i64 0, .int .i64 0, .int .i64 0, .int .i64 0, .int .i64 0, .int .u8 0]) := ⟨Tryz.zeroValue39⟩
instance ty_eqi39 : TyEqI Tryz.prog 39 [.u8, .i64, .i64, .i64, .i64, .i64, .u8] := ⟨by kernel_rfl, by kernel_rfl, by kernel_rfl, by kernel_rfl⟩
instance ty_str39 : TyStr Tryz.prog 39 [(0, 1), (1, 1), (2, 1), (3, 1), (4, 1), (5, 1), (6, 1)] [.int .u8 0, .int .i64 0, .int .i64 0, .int .i64 0, .int .i64 0, .int .i64 0, .int .u8 0] := ⟨fun ps => by kernel_rfl⟩
instance ty_f39_0 : FOff Tryz.prog 39 0 0 := ⟨fun a w => by simp [Instr.fieldAt, Instr.sureAddr, fieldPlace, run_underlying Tryz.underlying39, Tryz.sizeOf5]⟩
instance ty_f39_1 : FOff Tryz.prog 39 1 1 := ⟨fun a w => by simp [Instr.fieldAt, Instr.sureAddr, fieldPlace, run_underlying Tryz.underlying39, Tryz.sizeOf3]⟩
instance ty_f39_2 : FOff Tryz.prog 39 2 2 := ⟨fun a w => by simp [Instr.fieldAt, Instr.sureAddr, fieldPlace, run_underlying Tryz.underlying39, Tryz.sizeOf3]⟩
instance ty_f39_3 : FOff Tryz.prog 39 3 3 := ⟨fun a w => by simp [Instr.fieldAt, Instr.sureAddr, fieldPlace, run_underlying Tryz.underlying39, Tryz.sizeOf3]⟩
instance ty_f39_4 : FOff Tryz.prog 39 4 4 := ⟨fun a w => by simp [Instr.fieldAt, Instr.sureAddr, fieldPlace, run_underlying Tryz.underlying39, Tryz.sizeOf3]⟩
instance ty_f39_5 : FOff Tryz.prog 39 5 5 := ⟨fun a w => by simp [Instr.fieldAt, Instr.sureAddr, fieldPlace, run_underlying Tryz.underlying39, Tryz.sizeOf2]⟩
instance ty_f39_6 : FOff Tryz.prog 39 6 6 := ⟨fun a w => by simp [Instr.fieldAt, Instr.sureAddr, fieldPlace, run_underlying Tryz.underlying39, Tryz.sizeOf5]⟩
instance ty_agg46 : TyAgg Tryz.prog 46 false := ⟨Tryz.isAgg46⟩
instance ty_ptr46 : TyPtr Tryz.prog 46 := ⟨⟨_, Tryz.underlying46⟩⟩
instance ty_sl49 : TySl Tryz.prog 49 39 7 := ⟨Tryz.underlying49, Tryz.sizeOf39⟩
instance ty_el39 : TyEl Tryz.prog 39 7 56 := ⟨⟨_, _, rfl, rfl, rfl, rfl, rfl⟩⟩
instance ty_sz57 : TySz Tryz.prog 57 2 := ⟨Tryz.sizeOf57⟩
instance ty_agg57 : TyAgg Tryz.prog 57 true := ⟨Tryz.isAgg57⟩
instance ty_z57 : TyZ Tryz.prog 57 (.agg #[.int .i64 0, .int .i64 0]) := ⟨Tryz.zeroValue57⟩
instance ty_str57 : TyStr Tryz.prog 57 [(0, 1), (1, 1)] [.int .i64 0, .int .i64 0] := ⟨fun ps => by kernel_rfl⟩
instance ty_f57_0 : FOff Tryz.prog 57 0 0 := ⟨fun a w => by simp [Instr.fieldAt, Instr.sureAddr, fieldPlace, run_underlying Tryz.underlying57, Tryz.sizeOf3]⟩
instance ty_f57_1 : FOff Tryz.prog 57 1 1 := ⟨fun a w => by simp [Instr.fieldAt, Instr.sureAddr, fieldPlace, run_underlying Tryz.underlying57, Tryz.sizeOf2]⟩
instance ty_sl60 : TySl Tryz.prog 60 181 4 := ⟨Tryz.underlying60, Tryz.sizeOf181⟩
instance ty_agg61 : TyAgg Tryz.prog 61 false := ⟨Tryz.isAgg61⟩
instance ty_sl61 : TySl Tryz.prog 61 64 2 := ⟨Tryz.underlying61, Tryz.sizeOf64⟩
instance ty_el64 : TyEl Tryz.prog 64 2 16 := ⟨⟨_, _, rfl, rfl, rfl, rfl, rfl⟩⟩
instance ty_sz64 : TySz Tryz.prog 64 2 := ⟨Tryz.sizeOf64⟩
instance ty_agg64 : TyAgg Tryz.prog 64 true := ⟨Tryz.isAgg64⟩
instance ty_z64 : TyZ Tryz.prog 64 (.agg #[.int .i64 0, .int .i64 0]) := ⟨Tryz.zeroValue64⟩
instance ty_str64 : TyStr Tryz.prog 64 [(0, 1), (1, 1)] [.int .i64 0, .int .i64 0] := ⟨fun ps => by kernel_rfl⟩
instance ty_f64_0 : FOff Tryz.prog 64 0 0 := ⟨fun a w => by simp [Instr.fieldAt, Instr.sureAddr, fieldPlace, run_underlying Tryz.underlying64, Tryz.sizeOf3]⟩
instance ty_f64_1 : FOff Tryz.prog 64 1 1 := ⟨fun a w => by simp [Instr.fieldAt, Instr.sureAddr, fieldPlace, run_underlying Tryz.underlying64, Tryz.sizeOf3]⟩
instance ty_str66 : TyStr Tryz.prog 66 [(0, 1), (1, 1), (2, 1)] [.slice none 0 0, .int .i64 0, .int .i64 0] := ⟨fun ps => by kernel_rfl⟩
instance ty_f66_0 : FOff Tryz.prog 66 0 0 := ⟨fun a w => by simp [Instr.fieldAt, Instr.sureAddr, fieldPlace, run_underlying Tryz.underlying66, Tryz.sizeOf61]⟩
instance ty_f66_1 : FOff Tryz.prog 66 1 1 := ⟨fun a w => by simp [Instr.fieldAt, Instr.sureAddr, fieldPlace, run_underlying Tryz.underlying66, Tryz.sizeOf3]⟩
instance ty_f66_2 : FOff Tryz.prog 66 2 2 := ⟨fun a w => by simp [Instr.fieldAt, Instr.sureAddr, fieldPlace, run_underlying Tryz.underlying66, Tryz.sizeOf3]⟩
instance ty_sz69 : TySz Tryz.prog 69 4 := ⟨Tryz.sizeOf69⟩
instance ty_str69 : TyStr Tryz.prog 69 [(0, 3), (3, 1)] [.slice none 0 0, .int .i64 0, .int .i64 0, .slice none 0 0] := ⟨fun ps => by kernel_rfl⟩
instance ty_f69_0 : FOff Tryz.prog 69 0 0 := ⟨fun a w => by simp [Instr.fieldAt, Instr.sureAddr, fieldPlace, run_underlying Tryz.underlying69, Tryz.sizeOf66]⟩
instance ty_f69_1 : FOff Tryz.prog 69 1 3 := ⟨fun a w => by simp [Instr.fieldAt, Instr.sureAddr, fieldPlace, run_underlying Tryz.underlying69, Tryz.sizeOf22]⟩
instance ty_agg70 : TyAgg Tryz.prog 70 false := ⟨Tryz.isAgg70⟩
instance ty_sl70 : TySl Tryz.prog 70 87 13 := ⟨Tryz.underlying70, Tryz.sizeOf87⟩
instance ty_el87 : TyEl Tryz.prog 87 13 88 := ⟨⟨_, _, rfl, rfl, rfl, rfl, rfl⟩⟩
instance ty_agg71 : TyAgg Tryz.prog 71 false := ⟨Tryz.isAgg71⟩
instance ty_sl71 : TySl Tryz.prog 71 74 2 := ⟨Tryz.underlying71, Tryz.sizeOf74⟩
instance ty_el74 : TyEl Tryz.prog 74 2 16 := ⟨⟨_, _, rfl, rfl, rfl, rfl, rfl⟩⟩
instance ty_z74 : TyZ Tryz.prog 74 (.agg #[.int .i64 0, .int .i64 0]) := ⟨Tryz.zeroValue74⟩
instance ty_str74 : TyStr Tryz.prog 74 [(0, 1), (1, 1)] [.int .i64 0, .int .i64 0] := ⟨fun ps => by kernel_rfl⟩
instance ty_f74_0 : FOff Tryz.prog 74 0 0 := ⟨fun a w => by simp [Instr.fieldAt, Instr.sureAddr, fieldPlace, run_underlying Tryz.underlying74, Tryz.sizeOf3]⟩
instance ty_f74_1 : FOff Tryz.prog 74 1 1 := ⟨fun a w => by simp [Instr.fieldAt, Instr.sureAddr, fieldPlace, run_underlying Tryz.underlying74, Tryz.sizeOf3]⟩
instance ty_sz76 : TySz Tryz.prog 76 5 := ⟨Tryz.sizeOf76⟩
instance ty_str76 : TyStr Tryz.prog 76 [(0, 1), (1, 1), (2, 1), (3, 1), (4, 1)] [.int .i64 0, .int .i64 0, .int .i64 0, .slice none 0 0, .slice none 0 0] := ⟨fun ps => by kernel_rfl⟩
instance ty_f76_0 : FOff Tryz.prog 76 0 0 := ⟨fun a w => by simp [Instr.fieldAt, Instr.sureAddr, fieldPlace, run_underlying Tryz.underlying76, Tryz.sizeOf3]⟩
instance ty_f76_1 : FOff Tryz.prog 76 1 1 := ⟨fun a w => by simp [Instr.fieldAt, Instr.sureAddr, fieldPlace, run_underlying Tryz.underlying76, Tryz.sizeOf3]⟩
instance ty_f76_2 : FOff Tryz.prog 76 2 2 := ⟨fun a w => by simp [Instr.fieldAt, Instr.sureAddr, fieldPlace, run_underlying Tryz.underlying76, Tryz.sizeOf3]⟩
instance ty_f76_3 : FOff Tryz.prog 76 3 3 := ⟨fun a w => by simp [Instr.fieldAt, Instr.sureAddr, fieldPlace, run_underlying Tryz.underlying76, Tryz.sizeOf70]⟩
instance ty_f76_4 : FOff Tryz.prog 76 4 4 := ⟨fun a w => by simp [Instr.fieldAt, Instr.sureAddr, fieldPlace, run_underlying Tryz.underlying76, Tryz.sizeOf71]⟩
instance ty_sz79 : TySz Tryz.prog 79 34 := ⟨Tryz.sizeOf79⟩
instance ty_agg79 : TyAgg Tryz.prog 79 true := ⟨Tryz.isAgg79⟩
instance ty_z79 : TyZ Tryz.prog 79 (.agg #[.int .i64 0, .int .i64 0, .bool false, .bool false, .bool false, .bool false, .bool false, .bool false, .bool false, .bool false, .bool false, .bool false, .bool false, .bool false, .bool false, .bool false, .bool false, .bool false, .bool false, .bool false, .bool false, .bool false, .bool false, .bool false, .bool false, .bool false, .bool false, .bool false, .bool false, .bool false, .bool false, .bool false, .bool false, .bool false]) := ⟨Tryz.zeroValue79⟩
instance ty_agg81 : TyAgg Tryz.prog 81 false := ⟨Tryz.isAgg81⟩
instance ty_sz83 : TySz Tryz.prog 83 14 := ⟨Tryz.sizeOf83⟩
instance ty_z83 : TyZ Tryz.prog 83 (.agg #[.nilFunc, .nilFunc, .nilFunc, .nilFunc, .nilFunc, .nilFunc, .nilFunc, .nilFunc, .nilFunc, .nilFunc, .nilFunc, .nilFunc, .nilFunc, .nilFunc]) := ⟨Tryz.zeroValue83⟩
instance ty_ar83 : TyAr Tryz.prog 83 81 1 14 := ⟨Tryz.underlying83, Tryz.sizeOf81⟩
instance ty_sz85 : TySz Tryz.prog 85 1 := ⟨Tryz.sizeOf85⟩
instance ty_agg85 : TyAgg Tryz.prog 85 false := ⟨Tryz.isAgg85⟩
instance ty_sz87 : TySz Tryz.prog 87 13 := ⟨Tryz.sizeOf87⟩
instance ty_z87 : TyZ Tryz.prog 87 (.agg #[.int .i64 0, .int .i64 0, .int .i64 0, .int .i64 0, .int .i64 0, .int .i64 0, .int .u32 0, .int .u32 0, .int .u32 0, .int .u32 0, .int .i64 0, .int .i64 0, .bool false]) := ⟨Tryz.zeroValue87⟩
instance ty_str87 : TyStr Tryz.prog 87 [(0, 1), (1, 1), (2, 1), (3, 1), (4, 1), (5, 1), (6, 1), (7, 1), (8, 1), (9, 1), (10, 1), (11, 1), (12, 1)] [.int .i64 0, .int .i64 0, .int .i64 0, .int .i64 0, .int .i64 0, .int .i64 0, .int .u32 0, .int .u32 0, .int .u32 0, .int .u32 0, .int .i64 0, .int .i64 0, .bool false] := ⟨fun ps => by kernel_rfl⟩
instance ty_f87_0 : FOff Tryz.prog 87 0 0 := ⟨fun a w => by simp [Instr.fieldAt, Instr.sureAddr, fieldPlace, run_underlying Tryz.underlying87, Tryz.sizeOf3]⟩
instance ty_f87_1 : FOff Tryz.prog 87 1 1 := ⟨fun a w => by simp [Instr.fieldAt, Instr.sureAddr, fieldPlace, run_underlying Tryz.underlying87, Tryz.sizeOf3]⟩
instance ty_f87_2 : FOff Tryz.prog 87 2 2 := ⟨fun a w => by simp [Instr.fieldAt, Instr.sureAddr, fieldPlace, run_underlying Tryz.underlying87, Tryz.sizeOf3]⟩
instance ty_f87_3 : FOff Tryz.prog 87 3 3 := ⟨fun a w => by simp [Instr.fieldAt, Instr.sureAddr, fieldPlace, run_underlying Tryz.underlying87, Tryz.sizeOf3]⟩
instance ty_f87_4 : FOff Tryz.prog 87 4 4 := ⟨fun a w => by simp [Instr.fieldAt, Instr.sureAddr, fieldPlace, run_underlying Tryz.underlying87, Tryz.sizeOf3]⟩
instance ty_f87_5 : FOff Tryz.prog 87 5 5 := ⟨fun a w => by simp [Instr.fieldAt, Instr.sureAddr, fieldPlace, run_underlying Tryz.underlying87, Tryz.sizeOf3]⟩
instance ty_f87_6 : FOff Tryz.prog 87 6 6 := ⟨fun a w => by simp [Instr.fieldAt, Instr.sureAddr, fieldPlace, run_underlying Tryz.underlying87, Tryz.sizeOf85]⟩
instance ty_f87_7 : FOff Tryz.prog 87 7 7 := ⟨fun a w => by simp [Instr.fieldAt, Instr.sureAddr, fieldPlace, run_underlying Tryz.underlying87, Tryz.sizeOf85]⟩
instance ty_f87_8 : FOff Tryz.prog 87 8 8 := ⟨fun a w => by simp [Instr.fieldAt, Instr.sureAddr, fieldPlace, run_underlying Tryz.underlying87, Tryz.sizeOf85]⟩
instance ty_f87_9 : FOff Tryz.prog 87 9 9 := ⟨fun a w => by simp [Instr.fieldAt, Instr.sureAddr, fieldPlace, run_underlying Tryz.underlying87, Tryz.sizeOf85]⟩
instance ty_f87_10 : FOff Tryz.prog 87 10 10 := ⟨fun a w => by simp [Instr.fieldAt, Instr.sureAddr, fieldPlace, run_underlying Tryz.underlying87, Tryz.sizeOf3]⟩
instance ty_f87_11 : FOff Tryz.prog 87 11 11 := ⟨fun a w => by simp [Instr.fieldAt, Instr.sureAddr, fieldPlace, run_underlying Tryz.underlying87, Tryz.sizeOf3]⟩
instance ty_f87_12 : FOff Tryz.prog 87 12 12 := ⟨fun a w => by simp [Instr.fieldAt, Instr.sureAddr, fieldPlace, run_underlying Tryz.underlying87, Tryz.sizeOf4]⟩
instance ty_ptr88 : TyPtr Tryz.prog 88 := ⟨⟨_, Tryz.underlying88⟩⟩
instance ty_sz94 : TySz Tryz.prog 94 9 := ⟨Tryz.sizeOf94⟩
instance ty_str94 : TyStr Tryz.prog 94 [(0, 1), (1, 1), (2, 1), (3, 1), (4, 1), (5, 1), (6, 1), (7, 1), (8, 1)] [.int .i64 0, .int .u8 0, .pointer none, .slice none 0 0, .slice none 0 0, .int .i64 0, .int .i64 0, .bool false, .bool false] := ⟨fun ps => by kernel_rfl⟩
instance ty_f94_0 : FOff Tryz.prog 94 0 0 := ⟨fun a w => by simp [Instr.fieldAt, Instr.sureAddr, fieldPlace, run_underlying Tryz.underlying94, Tryz.sizeOf3]⟩
instance ty_f94_1 : FOff Tryz.prog 94 1 1 := ⟨fun a w => by simp [Instr.fieldAt, Instr.sureAddr, fieldPlace, run_underlying Tryz.underlying94, Tryz.sizeOf5]⟩
instance ty_f94_2 : FOff Tryz.prog 94 2 2 := ⟨fun a w => by simp [Instr.fieldAt, Instr.sureAddr, fieldPlace, run_underlying Tryz.underlying94, Tryz.sizeOf34]⟩
instance ty_f94_3 : FOff Tryz.prog 94 3 3 := ⟨fun a w => by simp [Instr.fieldAt, Instr.sureAddr, fieldPlace, run_underlying Tryz.underlying94, Tryz.sizeOf24]⟩
instance ty_f94_4 : FOff Tryz.prog 94 4 4 := ⟨fun a w => by simp [Instr.fieldAt, Instr.sureAddr, fieldPlace, run_underlying Tryz.underlying94, Tryz.sizeOf23]⟩
instance ty_f94_5 : FOff Tryz.prog 94 5 5 := ⟨fun a w => by simp [Instr.fieldAt, Instr.sureAddr, fieldPlace, run_underlying Tryz.underlying94, Tryz.sizeOf3]⟩
instance ty_f94_6 : FOff Tryz.prog 94 6 6 := ⟨fun a w => by simp [Instr.fieldAt, Instr.sureAddr, fieldPlace, run_underlying Tryz.underlying94, Tryz.sizeOf3]⟩
instance ty_f94_7 : FOff Tryz.prog 94 7 7 := ⟨fun a w => by simp [Instr.fieldAt, Instr.sureAddr, fieldPlace, run_underlying Tryz.underlying94, Tryz.sizeOf4]⟩
instance ty_f94_8 : FOff Tryz.prog 94 8 8 := ⟨fun a w => by simp [Instr.fieldAt, Instr.sureAddr, fieldPlace, run_underlying Tryz.underlying94, Tryz.sizeOf4]⟩
instance ty_sl101 : TySl Tryz.prog 101 5 1 := ⟨Tryz.underlying101, Tryz.sizeOf5⟩
instance ty_int103 : TyInt Tryz.prog 103 .u64 := ⟨Tryz.underlying103⟩
instance ty_agg117 : TyAgg Tryz.prog 117 false := ⟨Tryz.isAgg117⟩
instance ty_sz119 : TySz Tryz.prog 119 8 := ⟨Tryz.sizeOf119⟩
instance ty_z119 : TyZ Tryz.prog 119 (.agg #[.nilFunc, .nilFunc, .nilFunc, .nilFunc, .nilFunc, .nilFunc, .nilFunc, .nilFunc]) := ⟨Tryz.zeroValue119⟩
instance ty_ar119 : TyAr Tryz.prog 119 117 1 8 := ⟨Tryz.underlying119, Tryz.sizeOf117⟩
instance ty_sz128 : TySz Tryz.prog 128 7 := ⟨Tryz.sizeOf128⟩
instance ty_str128 : TyStr Tryz.prog 128 [(0, 7)] [.int .u8 0, .int .i64 0, .int .i64 0, .int .i64 0, .int .i64 0, .int .i64 0, .int .u8 0] := ⟨fun ps => by kernel_rfl⟩
instance ty_f128_0 : FOff Tryz.prog 128 0 0 := ⟨fun a w => by simp [Instr.fieldAt, Instr.sureAddr, fieldPlace, run_underlying Tryz.underlying128, Tryz.sizeOf39]⟩
instance ty_agg129 : TyAgg Tryz.prog 129 false := ⟨Tryz.isAgg129⟩
instance ty_sl129 : TySl Tryz.prog 129 133 1 := ⟨Tryz.underlying129, Tryz.sizeOf133⟩
instance ty_f130_1 : FOff Tryz.prog 130 1 1 := ⟨fun a w => by simp [Instr.fieldAt, Instr.sureAddr, fieldPlace, run_underlying Tryz.underlying130, Tryz.sizeOf129]⟩
instance ty_ar131 : TyAr Tryz.prog 131 130 2 14 := ⟨Tryz.underlying131, Tryz.sizeOf130⟩
instance ty_agg133 : TyAgg Tryz.prog 133 false := ⟨Tryz.isAgg133⟩
instance ty_ar140 : TyAr Tryz.prog 140 5 1 32 := ⟨Tryz.underlying140, Tryz.sizeOf5⟩
instance fn_ok4 : FnOk Tryz.prog 4 := ⟨Tryz.call4⟩
instance fn_ok5 : FnOk Tryz.prog 5 := ⟨Tryz.call5⟩
instance fn_ok6 : FnOk Tryz.prog 6 := ⟨Tryz.call6⟩
instance fn_ok7 : FnOk Tryz.prog 7 := ⟨Tryz.call7⟩
instance fn_ok8 : FnOk Tryz.prog 8 := ⟨Tryz.call8⟩
instance fn_ok9 : FnOk Tryz.prog 9 := ⟨Tryz.call9⟩
instance fn_ok10 : FnOk Tryz.prog 10 := ⟨Tryz.call10⟩
instance fn_ok11 : FnOk Tryz.prog 11 := ⟨Tryz.call11⟩
instance fn_ok12 : FnOk Tryz.prog 12 := ⟨Tryz.call12⟩
instance fn_ok13 : FnOk Tryz.prog 13 := ⟨Tryz.call13⟩
instance fn_ok14 : FnOk Tryz.prog 14 := ⟨Tryz.call14⟩
instance fn_ok15 : FnOk Tryz.prog 15 := ⟨Tryz.call15⟩
instance fn_ok16 : FnOk Tryz.prog 16 := ⟨Tryz.call16⟩
instance fn_ok17 : FnOk Tryz.prog 17 := ⟨Tryz.call17⟩
instance fn_ok18 : FnOk Tryz.prog 18 := ⟨Tryz.call18⟩
instance fn_ok19 : FnOk Tryz.prog 19 := ⟨Tryz.call19⟩
instance fn_ok20 : FnOk Tryz.prog 20 := ⟨Tryz.call20⟩
instance fn_ok21 : FnOk Tryz.prog 21 := ⟨Tryz.call21⟩
instance fn_ok22 : FnOk Tryz.prog 22 := ⟨Tryz.call22⟩
instance fn_ok23 : FnOk Tryz.prog 23 := ⟨Tryz.call23⟩
instance fn_ok24 : FnOk Tryz.prog 24 := ⟨Tryz.call24⟩
instance fn_ok25 : FnOk Tryz.prog 25 := ⟨Tryz.call25⟩
instance fn_ok26 : FnOk Tryz.prog 26 := ⟨Tryz.call26⟩
instance fn_ok27 : FnOk Tryz.prog 27 := ⟨Tryz.call27⟩
instance fn_ok28 : FnOk Tryz.prog 28 := ⟨Tryz.call28⟩
instance fn_ok29 : FnOk Tryz.prog 29 := ⟨Tryz.call29⟩
instance fn_ok30 : FnOk Tryz.prog 30 := ⟨Tryz.call30⟩
instance fn_ok31 : FnOk Tryz.prog 31 := ⟨Tryz.call31⟩
instance fn_ok32 : FnOk Tryz.prog 32 := ⟨Tryz.call32⟩
instance fn_ok33 : FnOk Tryz.prog 33 := ⟨Tryz.call33⟩
instance fn_ok34 : FnOk Tryz.prog 34 := ⟨Tryz.call34⟩
instance fn_ok35 : FnOk Tryz.prog 35 := ⟨Tryz.call35⟩
instance fn_ok36 : FnOk Tryz.prog 36 := ⟨Tryz.call36⟩
instance fn_ok39 : FnOk Tryz.prog 39 := ⟨Tryz.call39⟩
instance fn_ok40 : FnOk Tryz.prog 40 := ⟨Tryz.call40⟩
instance fn_ok41 : FnOk Tryz.prog 41 := ⟨Tryz.call41⟩
instance fn_ok42 : FnOk Tryz.prog 42 := ⟨Tryz.call42⟩
instance fn_ok43 : FnOk Tryz.prog 43 := ⟨Tryz.call43⟩
instance fn_ok44 : FnOk Tryz.prog 44 := ⟨Tryz.call44⟩
instance fn_ok45 : FnOk Tryz.prog 45 := ⟨Tryz.call45⟩
instance fn_ok46 : FnOk Tryz.prog 46 := ⟨Tryz.call46⟩
instance fn_ok49 : FnOk Tryz.prog 49 := ⟨Tryz.call49⟩
instance fn_ok50 : FnOk Tryz.prog 50 := ⟨Tryz.call50⟩
instance fn_ok51 : FnOk Tryz.prog 51 := ⟨Tryz.call51⟩
instance fn_ok52 : FnOk Tryz.prog 52 := ⟨Tryz.call52⟩
instance fn_ok53 : FnOk Tryz.prog 53 := ⟨Tryz.call53⟩
instance fn_ok54 : FnOk Tryz.prog 54 := ⟨Tryz.call54⟩
instance fn_ok55 : FnOk Tryz.prog 55 := ⟨Tryz.call55⟩
instance fn_ok56 : FnOk Tryz.prog 56 := ⟨Tryz.call56⟩
instance fn_ok57 : FnOk Tryz.prog 57 := ⟨Tryz.call57⟩
instance fn_ok58 : FnOk Tryz.prog 58 := ⟨Tryz.call58⟩
instance fn_ok59 : FnOk Tryz.prog 59 := ⟨Tryz.call59⟩
instance fn_ok60 : FnOk Tryz.prog 60 := ⟨Tryz.call60⟩
instance fn_ok61 : FnOk Tryz.prog 61 := ⟨Tryz.call61⟩
instance fn_ok62 : FnOk Tryz.prog 62 := ⟨Tryz.call62⟩
instance fn_ok63 : FnOk Tryz.prog 63 := ⟨Tryz.call63⟩
instance fn_ok64 : FnOk Tryz.prog 64 := ⟨Tryz.call64⟩
instance fn_ok65 : FnOk Tryz.prog 65 := ⟨Tryz.call65⟩
instance fn_ok66 : FnOk Tryz.prog 66 := ⟨Tryz.call66⟩
instance fn_ok67 : FnOk Tryz.prog 67 := ⟨Tryz.call67⟩
instance fn_ok68 : FnOk Tryz.prog 68 := ⟨Tryz.call68⟩
instance fn_ok69 : FnOk Tryz.prog 69 := ⟨Tryz.call69⟩
instance fn_ok70 : FnOk Tryz.prog 70 := ⟨Tryz.call70⟩
instance fn_ok71 : FnOk Tryz.prog 71 := ⟨Tryz.call71⟩
instance fn_ok77 : FnOk Tryz.prog 77 := ⟨Tryz.call77⟩
instance fn_ok78 : FnOk Tryz.prog 78 := ⟨Tryz.call78⟩
instance fn_ok79 : FnOk Tryz.prog 79 := ⟨Tryz.call79⟩
instance fn_ok80 : FnOk Tryz.prog 80 := ⟨Tryz.call80⟩
instance fn_ok81 : FnOk Tryz.prog 81 := ⟨Tryz.call81⟩
instance fn_ok82 : FnOk Tryz.prog 82 := ⟨Tryz.call82⟩
instance fn_ok83 : FnOk Tryz.prog 83 := ⟨Tryz.call83⟩
instance fn_ok84 : FnOk Tryz.prog 84 := ⟨Tryz.call84⟩
instance fn_ok85 : FnOk Tryz.prog 85 := ⟨Tryz.call85⟩
instance fn_ok86 : FnOk Tryz.prog 86 := ⟨Tryz.call86⟩
instance fn_ok87 : FnOk Tryz.prog 87 := ⟨Tryz.call87⟩
instance fn_ok88 : FnOk Tryz.prog 88 := ⟨Tryz.call88⟩
instance fn_ok89 : FnOk Tryz.prog 89 := ⟨Tryz.call89⟩
instance fn_ok90 : FnOk Tryz.prog 90 := ⟨Tryz.call90⟩
instance fn_ok91 : FnOk Tryz.prog 91 := ⟨Tryz.call91⟩
instance fn_ok92 : FnOk Tryz.prog 92 := ⟨Tryz.call92⟩
instance fn_ok93 : FnOk Tryz.prog 93 := ⟨Tryz.call93⟩
instance fn_ok94 : FnOk Tryz.prog 94 := ⟨Tryz.call94⟩
instance fn_ok95 : FnOk Tryz.prog 95 := ⟨Tryz.call95⟩
instance fn_ok135 : FnOk Tryz.prog 135 := ⟨Tryz.call135⟩
instance fn_ok138 : FnOk Tryz.prog 138 := ⟨Tryz.call138⟩
instance fn_ok139 : FnOk Tryz.prog 139 := ⟨Tryz.call139⟩
instance fn_ok140 : FnOk Tryz.prog 140 := ⟨Tryz.call140⟩
instance fn_ok141 : FnOk Tryz.prog 141 := ⟨Tryz.call141⟩
theorem mixed : Tryz.prog.follows .mixedOrders = true := by kernel_rfl
end Go.Proofs.YtpiodhdbdlfnhaaGreatDoor
