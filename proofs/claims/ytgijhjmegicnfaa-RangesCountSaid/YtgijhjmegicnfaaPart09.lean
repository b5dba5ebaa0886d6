/-
  T
-/
import Derived.Test.YtgijhjmegicnfaaPart08
import Derived.Test.YtgijhjmegicnfaaProg
import Derived.KernelRfl
set_option linter.unusedVariables false
set_option linter.unusedSimpArgs false
namespace Go.V
open Go.Proofs
theorem kd_2 : kdT Try.prog 2 = .int .i64 := by kernel_rfl
theorem sz_2 : szT Try.prog 2 = 1 := by kernel_rfl
theorem by_2 : bytesT Try.prog 2 = 8 := by kernel_rfl
theorem ze_2 : zeroT Try.prog 2 = some [.int .i64 0] := by kernel_rfl
theorem kd_3 : kdT Try.prog 3 = .int .i64 := by kernel_rfl
theorem sz_3 : szT Try.prog 3 = 1 := by kernel_rfl
theorem by_3 : bytesT Try.prog 3 = 8 := by kernel_rfl
theorem ze_3 : zeroT Try.prog 3 = some [.int .i64 0] := by kernel_rfl
theorem kd_4 : kdT Try.prog 4 = .bool := by kernel_rfl
theorem sz_4 : szT Try.prog 4 = 1 := by kernel_rfl
theorem by_4 : bytesT Try.prog 4 = 1 := by kernel_rfl
theorem ze_4 : zeroT Try.prog 4 = some [.bool false] := by kernel_rfl
theorem kd_5 : kdT Try.prog 5 = .int .u8 := by kernel_rfl
theorem sz_5 : szT Try.prog 5 = 1 := by kernel_rfl
theorem by_5 : bytesT Try.prog 5 = 1 := by kernel_rfl
theorem ze_5 : zeroT Try.prog 5 = some [.int .u8 0] := by kernel_rfl
theorem kd_6 : kdT Try.prog 6 = .int .u8 := by kernel_rfl
theorem sz_6 : szT Try.prog 6 = 1 := by kernel_rfl
theorem by_6 : bytesT Try.prog 6 = 1 := by kernel_rfl
theorem ze_6 : zeroT Try.prog 6 = some [.int .u8 0] := by kernel_rfl
theorem kd_7 : kdT Try.prog 7 = .struct := by kernel_rfl
theorem sz_7 : szT Try.prog 7 = 4 := by kernel_rfl
theorem by_7 : bytesT Try.prog 7 = 24 := by kernel_rfl
theorem ze_7 : zeroT Try.prog 7 = some [.int .i64 0, .int .i64 0, .bool false, .int .u8 0] := by kernel_rfl
theorem pl_7 : placesT Try.prog 7 = some [(0, 1), (1, 1), (2, 1), (3, 1)] := by kernel_rfl
theorem fl_7_0 : fldT Try.prog 7 0 = some (0, 2) := by kernel_rfl
theorem fl_7_1 : fldT Try.prog 7 1 = some (1, 3) := by kernel_rfl
theorem fl_7_2 : fldT Try.prog 7 2 = some (2, 4) := by kernel_rfl
theorem fl_7_3 : fldT Try.prog 7 3 = some (3, 6) := by kernel_rfl
theorem kd_8 : kdT Try.prog 8 = .struct := by kernel_rfl
theorem sz_8 : szT Try.prog 8 = 4 := by kernel_rfl
theorem by_8 : bytesT Try.prog 8 = 24 := by kernel_rfl
theorem ze_8 : zeroT Try.prog 8 = some [.int .i64 0, .int .i64 0, .bool false, .int .u8 0] := by kernel_rfl
theorem pl_8 : placesT Try.prog 8 = some [(0, 1), (1, 1), (2, 1), (3, 1)] := by kernel_rfl
theorem fl_8_0 : fldT Try.prog 8 0 = some (0, 2) := by kernel_rfl
theorem fl_8_1 : fldT Try.prog 8 1 = some (1, 3) := by kernel_rfl
theorem fl_8_2 : fldT Try.prog 8 2 = some (2, 4) := by kernel_rfl
theorem fl_8_3 : fldT Try.prog 8 3 = some (3, 6) := by kernel_rfl
theorem kd_9 : kdT Try.prog 9 = .str := by kernel_rfl
theorem sz_9 : szT Try.prog 9 = 1 := by kernel_rfl
theorem by_9 : bytesT Try.prog 9 = 16 := by kernel_rfl
theorem ze_9 : zeroT Try.prog 9 = some [.str []] := by kernel_rfl
theorem kd_10 : kdT Try.prog 10 = .str := by kernel_rfl
theorem sz_10 : szT Try.prog 10 = 1 := by kernel_rfl
theorem by_10 : bytesT Try.prog 10 = 16 := by kernel_rfl
theorem ze_10 : zeroT Try.prog 10 = some [.str []] := by kernel_rfl
theorem kd_11 : kdT Try.prog 11 = .str := by kernel_rfl
theorem sz_11 : szT Try.prog 11 = 1 := by kernel_rfl
theorem by_11 : bytesT Try.prog 11 = 16 := by kernel_rfl
theorem ze_11 : zeroT Try.prog 11 = some [.str []] := by kernel_rfl
theorem kd_12 : kdT Try.prog 12 = .int .u64 := by kernel_rfl
theorem sz_12 : szT Try.prog 12 = 1 := by kernel_rfl
theorem by_12 : bytesT Try.prog 12 = 8 := by kernel_rfl
theorem ze_12 : zeroT Try.prog 12 = some [.int .u64 0] := by kernel_rfl
theorem kd_13 : kdT Try.prog 13 = .struct := by kernel_rfl
theorem sz_13 : szT Try.prog 13 = 2 := by kernel_rfl
theorem by_13 : bytesT Try.prog 13 = 24 := by kernel_rfl
theorem ze_13 : zeroT Try.prog 13 = some [.str [], .int .u64 0] := by kernel_rfl
theorem pl_13 : placesT Try.prog 13 = some [(0, 1), (1, 1)] := by kernel_rfl
theorem fl_13_0 : fldT Try.prog 13 0 = some (0, 9) := by kernel_rfl
theorem fl_13_1 : fldT Try.prog 13 1 = some (1, 12) := by kernel_rfl
theorem kd_14 : kdT Try.prog 14 = .struct := by kernel_rfl
theorem sz_14 : szT Try.prog 14 = 2 := by kernel_rfl
theorem by_14 : bytesT Try.prog 14 = 24 := by kernel_rfl
theorem ze_14 : zeroT Try.prog 14 = some [.str [], .int .u64 0] := by kernel_rfl
theorem pl_14 : placesT Try.prog 14 = some [(0, 1), (1, 1)] := by kernel_rfl
theorem fl_14_0 : fldT Try.prog 14 0 = some (0, 9) := by kernel_rfl
theorem fl_14_1 : fldT Try.prog 14 1 = some (1, 12) := by kernel_rfl
theorem kd_15 : kdT Try.prog 15 = .ptr := by kernel_rfl
theorem sz_15 : szT Try.prog 15 = 1 := by kernel_rfl
theorem by_15 : bytesT Try.prog 15 = 8 := by kernel_rfl
theorem ze_15 : zeroT Try.prog 15 = some [.lit (.pointer none)] := by kernel_rfl
theorem kd_16 : kdT Try.prog 16 = .ptr := by kernel_rfl
theorem sz_16 : szT Try.prog 16 = 1 := by kernel_rfl
theorem by_16 : bytesT Try.prog 16 = 8 := by kernel_rfl
theorem ze_16 : zeroT Try.prog 16 = some [.lit (.pointer none)] := by kernel_rfl
theorem kd_17 : kdT Try.prog 17 = .ptr := by kernel_rfl
theorem sz_17 : szT Try.prog 17 = 1 := by kernel_rfl
theorem by_17 : bytesT Try.prog 17 = 8 := by kernel_rfl
theorem ze_17 : zeroT Try.prog 17 = some [.lit (.pointer none)] := by kernel_rfl
theorem kd_18 : kdT Try.prog 18 = .struct := by kernel_rfl
theorem sz_18 : szT Try.prog 18 = 1 := by kernel_rfl
theorem by_18 : bytesT Try.prog 18 = 8 := by kernel_rfl
theorem ze_18 : zeroT Try.prog 18 = some [.lit (.pointer none)] := by kernel_rfl
theorem pl_18 : placesT Try.prog 18 = some [(0, 1)] := by kernel_rfl
theorem fl_18_0 : fldT Try.prog 18 0 = some (0, 17) := by kernel_rfl
theorem kd_19 : kdT Try.prog 19 = .struct := by kernel_rfl
theorem sz_19 : szT Try.prog 19 = 1 := by kernel_rfl
theorem by_19 : bytesT Try.prog 19 = 8 := by kernel_rfl
theorem ze_19 : zeroT Try.prog 19 = some [.lit (.pointer none)] := by kernel_rfl
theorem pl_19 : placesT Try.prog 19 = some [(0, 1)] := by kernel_rfl
theorem fl_19_0 : fldT Try.prog 19 0 = some (0, 17) := by kernel_rfl
theorem kd_20 : kdT Try.prog 20 = .iface := by kernel_rfl
theorem sz_20 : szT Try.prog 20 = 1 := by kernel_rfl
theorem by_20 : bytesT Try.prog 20 = 16 := by kernel_rfl
theorem ze_20 : zeroT Try.prog 20 = some [.lit .nilIface] := by kernel_rfl
theorem kd_21 : kdT Try.prog 21 = .int .i32 := by kernel_rfl
theorem sz_21 : szT Try.prog 21 = 1 := by kernel_rfl
theorem by_21 : bytesT Try.prog 21 = 4 := by kernel_rfl
theorem ze_21 : zeroT Try.prog 21 = some [.int .i32 0] := by kernel_rfl
theorem kd_22 : kdT Try.prog 22 = .slice 30 := by kernel_rfl
theorem sz_22 : szT Try.prog 22 = 1 := by kernel_rfl
theorem by_22 : bytesT Try.prog 22 = 24 := by kernel_rfl
theorem ze_22 : zeroT Try.prog 22 = some [.lit (.slice none 0 0)] := by kernel_rfl
theorem kd_29 : kdT Try.prog 29 = .struct := by kernel_rfl
theorem sz_29 : szT Try.prog 29 = 2 := by kernel_rfl
theorem by_29 : bytesT Try.prog 29 = 16 := by kernel_rfl
theorem ze_29 : zeroT Try.prog 29 = some [.int .i64 0, .int .i64 0] := by kernel_rfl
theorem pl_29 : placesT Try.prog 29 = some [(0, 1), (1, 1)] := by kernel_rfl
theorem fl_29_0 : fldT Try.prog 29 0 = some (0, 3) := by kernel_rfl
theorem fl_29_1 : fldT Try.prog 29 1 = some (1, 3) := by kernel_rfl
theorem kd_30 : kdT Try.prog 30 = .struct := by kernel_rfl
theorem sz_30 : szT Try.prog 30 = 2 := by kernel_rfl
theorem by_30 : bytesT Try.prog 30 = 16 := by kernel_rfl
theorem ze_30 : zeroT Try.prog 30 = some [.int .i64 0, .int .i64 0] := by kernel_rfl
theorem pl_30 : placesT Try.prog 30 = some [(0, 1), (1, 1)] := by kernel_rfl
theorem fs_30 : fldsT Try.prog 30 = some [(0, 3), (1, 3)] := by kernel_rfl
theorem fl_30_0 : fldT Try.prog 30 0 = some (0, 3) := by kernel_rfl
theorem fl_30_1 : fldT Try.prog 30 1 = some (1, 3) := by kernel_rfl
theorem kd_37 : kdT Try.prog 37 = .int .u64 := by kernel_rfl
theorem sz_37 : szT Try.prog 37 = 1 := by kernel_rfl
theorem by_37 : bytesT Try.prog 37 = 8 := by kernel_rfl
theorem ze_37 : zeroT Try.prog 37 = some [.int .u64 0] := by kernel_rfl
theorem kd_46 : kdT Try.prog 46 = .int .u64 := by kernel_rfl
theorem sz_46 : szT Try.prog 46 = 1 := by kernel_rfl
theorem by_46 : bytesT Try.prog 46 = 8 := by kernel_rfl
theorem ze_46 : zeroT Try.prog 46 = some [.int .u64 0] := by kernel_rfl
theorem kd_49 : kdT Try.prog 49 = .int .i64 := by kernel_rfl
theorem sz_49 : szT Try.prog 49 = 1 := by kernel_rfl
theorem by_49 : bytesT Try.prog 49 = 8 := by kernel_rfl
theorem ze_49 : zeroT Try.prog 49 = some [.int .i64 0] := by kernel_rfl
theorem kd_57 : kdT Try.prog 57 = .int .u32 := by kernel_rfl
theorem sz_57 : szT Try.prog 57 = 1 := by kernel_rfl
theorem by_57 : bytesT Try.prog 57 = 4 := by kernel_rfl
theorem ze_57 : zeroT Try.prog 57 = some [.int .u32 0] := by kernel_rfl
theorem kd_59 : kdT Try.prog 59 = .int .u64 := by kernel_rfl
theorem sz_59 : szT Try.prog 59 = 1 := by kernel_rfl
theorem by_59 : bytesT Try.prog 59 = 8 := by kernel_rfl
theorem ze_59 : zeroT Try.prog 59 = some [.int .u64 0] := by kernel_rfl
theorem kd_63 : kdT Try.prog 63 = .ptr := by kernel_rfl
theorem sz_63 : szT Try.prog 63 = 1 := by kernel_rfl
theorem by_63 : bytesT Try.prog 63 = 8 := by kernel_rfl
theorem ze_63 : zeroT Try.prog 63 = some [.lit (.pointer none)] := by kernel_rfl
theorem kd_65 : kdT Try.prog 65 = .ptr := by kernel_rfl
theorem sz_65 : szT Try.prog 65 = 1 := by kernel_rfl
theorem by_65 : bytesT Try.prog 65 = 8 := by kernel_rfl
theorem ze_65 : zeroT Try.prog 65 = some [.lit (.pointer none)] := by kernel_rfl
theorem kd_69 : kdT Try.prog 69 = .struct := by kernel_rfl
theorem sz_69 : szT Try.prog 69 = 4 := by kernel_rfl
theorem by_69 : bytesT Try.prog 69 = 40 := by kernel_rfl
theorem ze_69 : zeroT Try.prog 69 = some [.lit (.pointer none), .lit (.pointer none), .lit (.pointer none), .str []] := by kernel_rfl
theorem pl_69 : placesT Try.prog 69 = some [(0, 1), (1, 1), (2, 1), (3, 1)] := by kernel_rfl
theorem fl_69_0 : fldT Try.prog 69 0 = some (0, 17) := by kernel_rfl
theorem fl_69_1 : fldT Try.prog 69 1 = some (1, 17) := by kernel_rfl
theorem fl_69_2 : fldT Try.prog 69 2 = some (2, 17) := by kernel_rfl
theorem fl_69_3 : fldT Try.prog 69 3 = some (3, 9) := by kernel_rfl
theorem kd_70 : kdT Try.prog 70 = .struct := by kernel_rfl
theorem sz_70 : szT Try.prog 70 = 4 := by kernel_rfl
theorem by_70 : bytesT Try.prog 70 = 40 := by kernel_rfl
theorem ze_70 : zeroT Try.prog 70 = some [.lit (.pointer none), .lit (.pointer none), .lit (.pointer none), .str []] := by kernel_rfl
theorem pl_70 : placesT Try.prog 70 = some [(0, 1), (1, 1), (2, 1), (3, 1)] := by kernel_rfl
theorem fl_70_0 : fldT Try.prog 70 0 = some (0, 17) := by kernel_rfl
theorem fl_70_1 : fldT Try.prog 70 1 = some (1, 17) := by kernel_rfl
theorem fl_70_2 : fldT Try.prog 70 2 = some (2, 17) := by kernel_rfl
theorem fl_70_3 : fldT Try.prog 70 3 = some (3, 9) := by kernel_rfl
theorem kd_71 : kdT Try.prog 71 = .array 0 16 := by kernel_rfl
theorem sz_71 : szT Try.prog 71 = 0 := by kernel_rfl
theorem by_71 : bytesT Try.prog 71 = 0 := by kernel_rfl
theorem ze_71 : zeroT Try.prog 71 = some [] := by kernel_rfl
theorem kd_72 : kdT Try.prog 72 = .struct := by kernel_rfl
theorem sz_72 : szT Try.prog 72 = 0 := by kernel_rfl
theorem by_72 : bytesT Try.prog 72 = 0 := by kernel_rfl
theorem ze_72 : zeroT Try.prog 72 = some [] := by kernel_rfl
theorem pl_72 : placesT Try.prog 72 = some [(0, 0)] := by kernel_rfl
theorem kd_73 : kdT Try.prog 73 = .struct := by kernel_rfl
theorem sz_73 : szT Try.prog 73 = 0 := by kernel_rfl
theorem by_73 : bytesT Try.prog 73 = 0 := by kernel_rfl
theorem ze_73 : zeroT Try.prog 73 = some [] := by kernel_rfl
theorem pl_73 : placesT Try.prog 73 = some [(0, 0)] := by kernel_rfl
theorem kd_75 : kdT Try.prog 75 = .int .u8 := by kernel_rfl
theorem sz_75 : szT Try.prog 75 = 1 := by kernel_rfl
theorem by_75 : bytesT Try.prog 75 = 1 := by kernel_rfl
theorem ze_75 : zeroT Try.prog 75 = some [.int .u8 0] := by kernel_rfl
theorem kd_76 : kdT Try.prog 76 = .int .u8 := by kernel_rfl
theorem sz_76 : szT Try.prog 76 = 1 := by kernel_rfl
theorem by_76 : bytesT Try.prog 76 = 1 := by kernel_rfl
theorem ze_76 : zeroT Try.prog 76 = some [.int .u8 0] := by kernel_rfl
theorem kd_78 : kdT Try.prog 78 = .ptr := by kernel_rfl
theorem sz_78 : szT Try.prog 78 = 1 := by kernel_rfl
theorem by_78 : bytesT Try.prog 78 = 8 := by kernel_rfl
theorem ze_78 : zeroT Try.prog 78 = some [.lit (.pointer none)] := by kernel_rfl
theorem kd_79 : kdT Try.prog 79 = .int .i32 := by kernel_rfl
theorem sz_79 : szT Try.prog 79 = 1 := by kernel_rfl
theorem by_79 : bytesT Try.prog 79 = 4 := by kernel_rfl
theorem ze_79 : zeroT Try.prog 79 = some [.int .i32 0] := by kernel_rfl
theorem kd_80 : kdT Try.prog 80 = .int .i32 := by kernel_rfl
theorem sz_80 : szT Try.prog 80 = 1 := by kernel_rfl
theorem by_80 : bytesT Try.prog 80 = 4 := by kernel_rfl
theorem ze_80 : zeroT Try.prog 80 = some [.int .i32 0] := by kernel_rfl
theorem kd_81 : kdT Try.prog 81 = .struct := by kernel_rfl
theorem sz_81 : szT Try.prog 81 = 11 := by kernel_rfl
theorem by_81 : bytesT Try.prog 81 = 48 := by kernel_rfl
theorem ze_81 : zeroT Try.prog 81 = some [.int .u64 0, .int .u64 0, .int .u32 0, .int .u8 0, .int .u8 0, .int .u8 0, .int .u8 0, .lit .nilFunc, .lit (.pointer none), .int .i32 0, .int .i32 0] := by kernel_rfl
theorem pl_81 : placesT Try.prog 81 = some [(0, 1), (1, 1), (2, 1), (3, 1), (4, 1), (5, 1), (6, 1), (7, 1), (8, 1), (9, 1), (10, 1)] := by kernel_rfl
theorem fl_81_0 : fldT Try.prog 81 0 = some (0, 12) := by kernel_rfl
theorem fl_81_1 : fldT Try.prog 81 1 = some (1, 12) := by kernel_rfl
theorem fl_81_2 : fldT Try.prog 81 2 = some (2, 57) := by kernel_rfl
theorem fl_81_3 : fldT Try.prog 81 3 = some (3, 75) := by kernel_rfl
theorem fl_81_4 : fldT Try.prog 81 4 = some (4, 5) := by kernel_rfl
theorem fl_81_5 : fldT Try.prog 81 5 = some (5, 5) := by kernel_rfl
theorem fl_81_6 : fldT Try.prog 81 6 = some (6, 76) := by kernel_rfl
theorem fl_81_7 : fldT Try.prog 81 7 = some (7, 77) := by kernel_rfl
theorem fl_81_8 : fldT Try.prog 81 8 = some (8, 78) := by kernel_rfl
theorem fl_81_9 : fldT Try.prog 81 9 = some (9, 79) := by kernel_rfl
theorem fl_81_10 : fldT Try.prog 81 10 = some (10, 80) := by kernel_rfl
theorem kd_82 : kdT Try.prog 82 = .struct := by kernel_rfl
theorem sz_82 : szT Try.prog 82 = 11 := by kernel_rfl
theorem by_82 : bytesT Try.prog 82 = 48 := by kernel_rfl
theorem ze_82 : zeroT Try.prog 82 = some [.int .u64 0, .int .u64 0, .int .u32 0, .int .u8 0, .int .u8 0, .int .u8 0, .int .u8 0, .lit .nilFunc, .lit (.pointer none), .int .i32 0, .int .i32 0] := by kernel_rfl
theorem pl_82 : placesT Try.prog 82 = some [(0, 1), (1, 1), (2, 1), (3, 1), (4, 1), (5, 1), (6, 1), (7, 1), (8, 1), (9, 1), (10, 1)] := by kernel_rfl
theorem fl_82_0 : fldT Try.prog 82 0 = some (0, 12) := by kernel_rfl
theorem fl_82_1 : fldT Try.prog 82 1 = some (1, 12) := by kernel_rfl
theorem fl_82_2 : fldT Try.prog 82 2 = some (2, 57) := by kernel_rfl
theorem fl_82_3 : fldT Try.prog 82 3 = some (3, 75) := by kernel_rfl
theorem fl_82_4 : fldT Try.prog 82 4 = some (4, 5) := by kernel_rfl
theorem fl_82_5 : fldT Try.prog 82 5 = some (5, 5) := by kernel_rfl
theorem fl_82_6 : fldT Try.prog 82 6 = some (6, 76) := by kernel_rfl
theorem fl_82_7 : fldT Try.prog 82 7 = some (7, 77) := by kernel_rfl
theorem fl_82_8 : fldT Try.prog 82 8 = some (8, 78) := by kernel_rfl
theorem fl_82_9 : fldT Try.prog 82 9 = some (9, 79) := by kernel_rfl
theorem fl_82_10 : fldT Try.prog 82 10 = some (10, 80) := by kernel_rfl
instance : ETab := ⟨fun t => if t = 22 then some .rng else none, fun t => none⟩
theorem et_22 : ETab.of 22 = some .rng := rfl
theorem mixed : Try.prog.follows .mixedOrders = true := by kernel_rfl
theorem fn_2 : Try.prog.funcs[2]? = some Try.f2 := by kernel_rfl -- gosem.cut.init
theorem fn_3 : Try.prog.funcs[3]? = some Try.f3 := by kernel_rfl -- spacecraft/spacecraftlaw07.RangesLack
theorem fn_4 : Try.prog.funcs[4]? = some Try.f4 := by kernel_rfl -- spacecraft/spacecraftlaw07.RangesCount
theorem fn_5 : Try.prog.funcs[5]? = some Try.f5 := by kernel_rfl -- spacecraft/spacecraftlaw07.RangesMissing
theorem fn_6 : Try.prog.funcs[6]? = some Try.f6 := by kernel_rfl -- spacecraft/spacecraftlaw07.RangesUndo
theorem fn_7 : Try.prog.funcs[7]? = some Try.f7 := by kernel_rfl -- spacecraft/spacecraftlaw07.RangesChange
theorem fn_8 : Try.prog.funcs[8]? = some Try.f8 := by kernel_rfl -- spacecraft/spacecraftlaw07.few
theorem fn_9 : Try.prog.funcs[9]? = some Try.f9 := by kernel_rfl -- spacecraft/spacecraftlaw07.alive
theorem fn_10 : Try.prog.funcs[10]? = some Try.f10 := by kernel_rfl -- spacecraft/spacecraftref07.Same
theorem fn_11 : Try.prog.funcs[11]? = some Try.f11 := by kernel_rfl -- spacecraft/ranges.Missing
theorem fn_12 : Try.prog.funcs[12]? = some Try.f12 := by kernel_rfl -- spacecraft/spacecraftref07.Missing
theorem fn_13 : Try.prog.funcs[13]? = some Try.f13 := by kernel_rfl -- spacecraft/ranges.Has
theorem fn_14 : Try.prog.funcs[14]? = some Try.f14 := by kernel_rfl -- spacecraft/spacecraftref07.Has
theorem fn_15 : Try.prog.funcs[15]? = some Try.f15 := by kernel_rfl -- spacecraft/ranges.Size
theorem fn_16 : Try.prog.funcs[16]? = some Try.f16 := by kernel_rfl -- spacecraft/spacecraftref07.Size
theorem fn_17 : Try.prog.funcs[17]? = some Try.f17 := by kernel_rfl -- spacecraft/ranges.Head
theorem fn_18 : Try.prog.funcs[18]? = some Try.f18 := by kernel_rfl -- spacecraft/spacecraftref07.Head
theorem fn_19 : Try.prog.funcs[19]? = some Try.f19 := by kernel_rfl -- spacecraft/ranges.Add
theorem fn_20 : Try.prog.funcs[20]? = some Try.f20 := by kernel_rfl -- spacecraft/ranges.Remove
theorem fn_21 : Try.prog.funcs[21]? = some Try.f21 := by kernel_rfl -- spacecraft/ranges.Valid
theorem fn_22 : Try.prog.funcs[22]? = some Try.f22 := by kernel_rfl -- spacecraft/spacecraftref07.Valid
theorem fn_23 : Try.prog.funcs[23]? = some Try.f23 := by kernel_rfl -- spacecraft/spacecraftref07.Add
theorem fn_24 : Try.prog.funcs[24]? = some Try.f24 := by kernel_rfl -- spacecraft/spacecraftref07.Remove
theorem fn_25 : Try.prog.funcs[25]? = some Try.f25 := by kernel_rfl -- spacecraft/ranges.normal
theorem fn_26 : Try.prog.funcs[26]? = some Try.f26 := by kernel_rfl -- spacecraft/spacecraftref07.Of
theorem fn_27 : Try.prog.funcs[27]? = some Try.f27 := by kernel_rfl -- slices.ContainsFunc[[]spacecraft/api.Range,spacecraft/api.Range]
theorem fn_28 : Try.prog.funcs[28]? = some Try.f28 := by kernel_rfl -- spacecraft/ranges.Has$1
theorem fn_29 : Try.prog.funcs[29]? = some Try.f29 := by kernel_rfl -- spacecraft/ranges.width
theorem fn_30 : Try.prog.funcs[30]? = some Try.f30 := by kernel_rfl -- slices.Clone[[]spacecraft/api.Range,spacecraft/api.Range]
theorem fn_31 : Try.prog.funcs[31]? = some Try.f31 := by kernel_rfl -- spacecraft/spacecraftref07.insert
theorem fn_32 : Try.prog.funcs[32]? = some Try.f32 := by kernel_rfl -- slices.DeleteFunc[[]spacecraft/api.Range,spacecraft/api.Range]
theorem fn_33 : Try.prog.funcs[33]? = some Try.f33 := by kernel_rfl -- spacecraft/ranges.normal$1
theorem fn_34 : Try.prog.funcs[34]? = some Try.f34 := by kernel_rfl -- slices.SortFunc[[]spacecraft/api.Range,spacecraft/api.Range]
theorem fn_35 : Try.prog.funcs[35]? = some Try.f35 := by kernel_rfl -- spacecraft/ranges.normal$2
theorem fn_36 : Try.prog.funcs[36]? = some Try.f36 := by kernel_rfl -- cmp.Compare[int]
theorem fn_37 : Try.prog.funcs[37]? = some Try.f37 := by kernel_rfl -- slices.IndexFunc[[]spacecraft/api.Range,spacecraft/api.Range]
theorem fn_38 : Try.prog.funcs[38]? = some Try.f38 := by kernel_rfl -- slices.pdqsortCmpFunc[spacecraft/api.Range]
theorem fn_39 : Try.prog.funcs[39]? = some Try.f39 := by kernel_rfl -- math/bits.Len
theorem fn_40 : Try.prog.funcs[40]? = some Try.f40 := by kernel_rfl -- cmp.isNaN[int]
theorem fn_41 : Try.prog.funcs[41]? = some Try.f41 := by kernel_rfl -- slices.insertionSortCmpFunc[spacecraft/api.Range]
theorem fn_42 : Try.prog.funcs[42]? = some Try.f42 := by kernel_rfl -- slices.heapSortCmpFunc[spacecraft/api.Range]
theorem fn_43 : Try.prog.funcs[43]? = some Try.f43 := by kernel_rfl -- slices.breakPatternsCmpFunc[spacecraft/api.Range]
theorem fn_44 : Try.prog.funcs[44]? = some Try.f44 := by kernel_rfl -- slices.choosePivotCmpFunc[spacecraft/api.Range]
theorem fn_45 : Try.prog.funcs[45]? = some Try.f45 := by kernel_rfl -- slices.reverseRangeCmpFunc[spacecraft/api.Range]
theorem fn_46 : Try.prog.funcs[46]? = some Try.f46 := by kernel_rfl -- slices.partialInsertionSortCmpFunc[spacecraft/api.Range]
theorem fn_47 : Try.prog.funcs[47]? = some Try.f47 := by kernel_rfl -- slices.partitionEqualCmpFunc[spacecraft/api.Range]
theorem fn_48 : Try.prog.funcs[48]? = some Try.f48 := by kernel_rfl -- slices.partitionCmpFunc[spacecraft/api.Range]
theorem fn_49 : Try.prog.funcs[49]? = some Try.f49 := by kernel_rfl -- math/bits.Len32
theorem fn_50 : Try.prog.funcs[50]? = some Try.f50 := by kernel_rfl -- math/bits.Len64
theorem fn_51 : Try.prog.funcs[51]? = some Try.f51 := by kernel_rfl -- slices.siftDownCmpFunc[spacecraft/api.Range]
theorem fn_52 : Try.prog.funcs[52]? = some Try.f52 := by kernel_rfl -- slices.nextPowerOfTwo
theorem fn_53 : Try.prog.funcs[53]? = some Try.f53 := by kernel_rfl -- (*slices.xorshift).Next
theorem fn_54 : Try.prog.funcs[54]? = some Try.f54 := by kernel_rfl -- slices.medianAdjacentCmpFunc[spacecraft/api.Range]
theorem fn_55 : Try.prog.funcs[55]? = some Try.f55 := by kernel_rfl -- slices.medianCmpFunc[spacecraft/api.Range]
theorem fn_56 : Try.prog.funcs[56]? = some Try.f56 := by kernel_rfl -- slices.order2CmpFunc[spacecraft/api.Range]
attribute [go_sem] kd_2 sz_2 by_2 ze_2 kd_3 sz_3 by_3 ze_3 kd_4 sz_4 by_4 ze_4 kd_5 sz_5 by_5 ze_5 kd_6 sz_6 by_6 ze_6 kd_7 sz_7 by_7 ze_7 pl_7 fl_7_0 fl_7_1 fl_7_2 fl_7_3 kd_8 sz_8 by_8 ze_8 pl_8 fl_8_0 fl_8_1 fl_8_2 fl_8_3 kd_9 sz_9 by_9 ze_9 kd_10 sz_10 by_10 ze_10 kd_11 sz_11 by_11 ze_11 kd_12 sz_12 by_12 ze_12 kd_13 sz_13 by_13 ze_13 pl_13 fl_13_0 fl_13_1 kd_14 sz_14 by_14 ze_14 pl_14 fl_14_0 fl_14_1 kd_15 sz_15 by_15 ze_15 kd_16 sz_16 by_16 ze_16 kd_17 sz_17 by_17 ze_17 kd_18 sz_18 by_18 ze_18 pl_18 fl_18_0 kd_19 sz_19 by_19 ze_19 pl_19 fl_19_0 kd_20 sz_20 by_20 ze_20 kd_21 sz_21 by_21 ze_21 kd_22 sz_22 by_22 ze_22 kd_29 sz_29 by_29 ze_29 pl_29 fl_29_0 fl_29_1 kd_30 sz_30 by_30 ze_30 pl_30 fs_30 fl_30_0 fl_30_1 kd_37 sz_37 by_37 ze_37 kd_46 sz_46 by_46 ze_46 kd_49 sz_49 by_49 ze_49 kd_57 sz_57 by_57 ze_57 kd_59 sz_59 by_59 ze_59 kd_63 sz_63 by_63 ze_63 kd_65 sz_65 by_65 ze_65 kd_69 sz_69 by_69 ze_69 pl_69 fl_69_0 fl_69_1 fl_69_2 fl_69_3 kd_70 sz_70 by_70 ze_70 pl_70 fl_70_0 fl_70_1 fl_70_2 fl_70_3 kd_71 sz_71 by_71 ze_71 kd_72 sz_72 by_72 ze_72 pl_72 kd_73 sz_73 by_73 ze_73 pl_73 kd_75 sz_75 by_75 ze_75 kd_76 sz_76 by_76 ze_76 kd_78 sz_78 by_78 ze_78 kd_79 sz_79 by_79 ze_79 kd_80 sz_80 by_80 ze_80 kd_81 sz_81 by_81 ze_81 pl_81 fl_81_0 fl_81_1 fl_81_2 fl_81_3 fl_81_4 fl_81_5 fl_81_6 fl_81_7 fl_81_8 fl_81_9 fl_81_10 kd_82 sz_82 by_82 ze_82 pl_82 fl_82_0 fl_82_1 fl_82_2 fl_82_3 fl_82_4 fl_82_5 fl_82_6 fl_82_7 fl_82_8 fl_82_9 fl_82_10 et_22  
end Go.V
