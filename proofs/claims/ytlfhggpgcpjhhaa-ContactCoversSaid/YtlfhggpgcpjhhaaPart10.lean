/-
  T
  Sets of integers as lists of ranges: the plain law.
-/
import Derived.Test.YtlfhggpgcpjhhaaPart08
import Derived.Test.YtlfhggpgcpjhhaaProg
import Derived.KernelRfl
set_option linter.unusedVariables false
set_option linter.unusedSimpArgs false
namespace Go.V
open Go.Proofs
theorem kd_2 : kdT Try.prog 2 = .int .i64 := by kernel_rfl
theorem sz_2 : szT Try.prog 2 = 1 := by kernel_rfl
theorem by_2 : bytesT Try.prog 2 = 8 := by kernel_rfl
theorem ze_2 : zeroT Try.prog 2 = some [.int .i64 0] := by kernel_rfl
theorem kd_3 : kdT Try.prog 3 = .int .i64 := by kernel_rfl
theorem sz_3 : szT Try.prog 3 = 1 := by kernel_rfl
theorem by_3 : bytesT Try.prog 3 = 8 := by kernel_rfl
theorem ze_3 : zeroT Try.prog 3 = some [.int .i64 0] := by kernel_rfl
theorem kd_4 : kdT Try.prog 4 = .bool := by kernel_rfl
theorem sz_4 : szT Try.prog 4 = 1 := by kernel_rfl
theorem by_4 : bytesT Try.prog 4 = 1 := by kernel_rfl
theorem ze_4 : zeroT Try.prog 4 = some [.bool false] := by kernel_rfl
theorem kd_5 : kdT Try.prog 5 = .int .u8 := by kernel_rfl
theorem sz_5 : szT Try.prog 5 = 1 := by kernel_rfl
theorem by_5 : bytesT Try.prog 5 = 1 := by kernel_rfl
theorem ze_5 : zeroT Try.prog 5 = some [.int .u8 0] := by kernel_rfl
theorem kd_6 : kdT Try.prog 6 = .int .u8 := by kernel_rfl
theorem sz_6 : szT Try.prog 6 = 1 := by kernel_rfl
theorem by_6 : bytesT Try.prog 6 = 1 := by kernel_rfl
theorem ze_6 : zeroT Try.prog 6 = some [.int .u8 0] := by kernel_rfl
theorem kd_7 : kdT Try.prog 7 = .struct := by kernel_rfl
theorem sz_7 : szT Try.prog 7 = 4 := by kernel_rfl
theorem by_7 : bytesT Try.prog 7 = 24 := by kernel_rfl
theorem ze_7 : zeroT Try.prog 7 = some [.int .i64 0, .int .i64 0, .bool false, .int .u8 0] := by kernel_rfl
theorem pl_7 : placesT Try.prog 7 = some [(0, 1), (1, 1), (2, 1), (3, 1)] := by kernel_rfl
theorem fl_7_0 : fldT Try.prog 7 0 = some (0, 2) := by kernel_rfl
theorem fl_7_1 : fldT Try.prog 7 1 = some (1, 3) := by kernel_rfl
theorem fl_7_2 : fldT Try.prog 7 2 = some (2, 4) := by kernel_rfl
theorem fl_7_3 : fldT Try.prog 7 3 = some (3, 6) := by kernel_rfl
theorem kd_8 : kdT Try.prog 8 = .struct := by kernel_rfl
theorem sz_8 : szT Try.prog 8 = 4 := by kernel_rfl
theorem by_8 : bytesT Try.prog 8 = 24 := by kernel_rfl
theorem ze_8 : zeroT Try.prog 8 = some [.int .i64 0, .int .i64 0, .bool false, .int .u8 0] := by kernel_rfl
theorem pl_8 : placesT Try.prog 8 = some [(0, 1), (1, 1), (2, 1), (3, 1)] := by kernel_rfl
theorem fl_8_0 : fldT Try.prog 8 0 = some (0, 2) := by kernel_rfl
theorem fl_8_1 : fldT Try.prog 8 1 = some (1, 3) := by kernel_rfl
theorem fl_8_2 : fldT Try.prog 8 2 = some (2, 4) := by kernel_rfl
theorem fl_8_3 : fldT Try.prog 8 3 = some (3, 6) := by kernel_rfl
theorem kd_9 : kdT Try.prog 9 = .str := by kernel_rfl
theorem sz_9 : szT Try.prog 9 = 1 := by kernel_rfl
theorem by_9 : bytesT Try.prog 9 = 16 := by kernel_rfl
theorem ze_9 : zeroT Try.prog 9 = some [.str []] := by kernel_rfl
theorem kd_10 : kdT Try.prog 10 = .str := by kernel_rfl
theorem sz_10 : szT Try.prog 10 = 1 := by kernel_rfl
theorem by_10 : bytesT Try.prog 10 = 16 := by kernel_rfl
theorem ze_10 : zeroT Try.prog 10 = some [.str []] := by kernel_rfl
theorem kd_11 : kdT Try.prog 11 = .str := by kernel_rfl
theorem sz_11 : szT Try.prog 11 = 1 := by kernel_rfl
theorem by_11 : bytesT Try.prog 11 = 16 := by kernel_rfl
theorem ze_11 : zeroT Try.prog 11 = some [.str []] := by kernel_rfl
theorem kd_12 : kdT Try.prog 12 = .int .u64 := by kernel_rfl
theorem sz_12 : szT Try.prog 12 = 1 := by kernel_rfl
theorem by_12 : bytesT Try.prog 12 = 8 := by kernel_rfl
theorem ze_12 : zeroT Try.prog 12 = some [.int .u64 0] := by kernel_rfl
theorem kd_13 : kdT Try.prog 13 = .struct := by kernel_rfl
theorem sz_13 : szT Try.prog 13 = 2 := by kernel_rfl
theorem by_13 : bytesT Try.prog 13 = 24 := by kernel_rfl
theorem ze_13 : zeroT Try.prog 13 = some [.str [], .int .u64 0] := by kernel_rfl
theorem pl_13 : placesT Try.prog 13 = some [(0, 1), (1, 1)] := by kernel_rfl
theorem fl_13_0 : fldT Try.prog 13 0 = some (0, 9) := by kernel_rfl
theorem fl_13_1 : fldT Try.prog 13 1 = some (1, 12) := by kernel_rfl
theorem kd_14 : kdT Try.prog 14 = .struct := by kernel_rfl
theorem sz_14 : szT Try.prog 14 = 2 := by kernel_rfl
theorem by_14 : bytesT Try.prog 14 = 24 := by kernel_rfl
theorem ze_14 : zeroT Try.prog 14 = some [.str [], .int .u64 0] := by kernel_rfl
theorem pl_14 : placesT Try.prog 14 = some [(0, 1), (1, 1)] := by kernel_rfl
theorem fl_14_0 : fldT Try.prog 14 0 = some (0, 9) := by kernel_rfl
theorem fl_14_1 : fldT Try.prog 14 1 = some (1, 12) := by kernel_rfl
theorem kd_15 : kdT Try.prog 15 = .ptr := by kernel_rfl
theorem sz_15 : szT Try.prog 15 = 1 := by kernel_rfl
theorem by_15 : bytesT Try.prog 15 = 8 := by kernel_rfl
theorem ze_15 : zeroT Try.prog 15 = some [.lit (.pointer none)] := by kernel_rfl
theorem kd_16 : kdT Try.prog 16 = .ptr := by kernel_rfl
theorem sz_16 : szT Try.prog 16 = 1 := by kernel_rfl
theorem by_16 : bytesT Try.prog 16 = 8 := by kernel_rfl
theorem ze_16 : zeroT Try.prog 16 = some [.lit (.pointer none)] := by kernel_rfl
theorem kd_17 : kdT Try.prog 17 = .ptr := by kernel_rfl
theorem sz_17 : szT Try.prog 17 = 1 := by kernel_rfl
theorem by_17 : bytesT Try.prog 17 = 8 := by kernel_rfl
theorem ze_17 : zeroT Try.prog 17 = some [.lit (.pointer none)] := by kernel_rfl
theorem kd_18 : kdT Try.prog 18 = .struct := by kernel_rfl
theorem sz_18 : szT Try.prog 18 = 1 := by kernel_rfl
theorem by_18 : bytesT Try.prog 18 = 8 := by kernel_rfl
theorem ze_18 : zeroT Try.prog 18 = some [.lit (.pointer none)] := by kernel_rfl
theorem pl_18 : placesT Try.prog 18 = some [(0, 1)] := by kernel_rfl
theorem fl_18_0 : fldT Try.prog 18 0 = some (0, 17) := by kernel_rfl
theorem kd_19 : kdT Try.prog 19 = .struct := by kernel_rfl
theorem sz_19 : szT Try.prog 19 = 1 := by kernel_rfl
theorem by_19 : bytesT Try.prog 19 = 8 := by kernel_rfl
theorem ze_19 : zeroT Try.prog 19 = some [.lit (.pointer none)] := by kernel_rfl
theorem pl_19 : placesT Try.prog 19 = some [(0, 1)] := by kernel_rfl
theorem fl_19_0 : fldT Try.prog 19 0 = some (0, 17) := by kernel_rfl
theorem kd_20 : kdT Try.prog 20 = .iface := by kernel_rfl
theorem sz_20 : szT Try.prog 20 = 1 := by kernel_rfl
theorem by_20 : bytesT Try.prog 20 = 16 := by kernel_rfl
theorem ze_20 : zeroT Try.prog 20 = some [.lit .nilIface] := by kernel_rfl
theorem kd_21 : kdT Try.prog 21 = .int .i32 := by kernel_rfl
theorem sz_21 : szT Try.prog 21 = 1 := by kernel_rfl
theorem by_21 : bytesT Try.prog 21 = 4 := by kernel_rfl
theorem ze_21 : zeroT Try.prog 21 = some [.int .i32 0] := by kernel_rfl
theorem kd_22 : kdT Try.prog 22 = .slice 32 := by kernel_rfl
theorem sz_22 : szT Try.prog 22 = 1 := by kernel_rfl
theorem by_22 : bytesT Try.prog 22 = 24 := by kernel_rfl
theorem ze_22 : zeroT Try.prog 22 = some [.lit (.slice none 0 0)] := by kernel_rfl
theorem kd_24 : kdT Try.prog 24 = .slice 3 := by kernel_rfl
theorem sz_24 : szT Try.prog 24 = 1 := by kernel_rfl
theorem by_24 : bytesT Try.prog 24 = 24 := by kernel_rfl
theorem ze_24 : zeroT Try.prog 24 = some [.lit (.slice none 0 0)] := by kernel_rfl
theorem kd_25 : kdT Try.prog 25 = .int .i64 := by kernel_rfl
theorem sz_25 : szT Try.prog 25 = 1 := by kernel_rfl
theorem by_25 : bytesT Try.prog 25 = 8 := by kernel_rfl
theorem ze_25 : zeroT Try.prog 25 = some [.int .i64 0] := by kernel_rfl
theorem kd_31 : kdT Try.prog 31 = .struct := by kernel_rfl
theorem sz_31 : szT Try.prog 31 = 4 := by kernel_rfl
theorem by_31 : bytesT Try.prog 31 = 32 := by kernel_rfl
theorem ze_31 : zeroT Try.prog 31 = some [.int .i64 0, .int .i64 0, .int .i64 0, .int .i64 0] := by kernel_rfl
theorem pl_31 : placesT Try.prog 31 = some [(0, 1), (1, 1), (2, 1), (3, 1)] := by kernel_rfl
theorem fl_31_0 : fldT Try.prog 31 0 = some (0, 3) := by kernel_rfl
theorem fl_31_1 : fldT Try.prog 31 1 = some (1, 3) := by kernel_rfl
theorem fl_31_2 : fldT Try.prog 31 2 = some (2, 3) := by kernel_rfl
theorem fl_31_3 : fldT Try.prog 31 3 = some (3, 3) := by kernel_rfl
theorem kd_32 : kdT Try.prog 32 = .struct := by kernel_rfl
theorem sz_32 : szT Try.prog 32 = 4 := by kernel_rfl
theorem by_32 : bytesT Try.prog 32 = 32 := by kernel_rfl
theorem ze_32 : zeroT Try.prog 32 = some [.int .i64 0, .int .i64 0, .int .i64 0, .int .i64 0] := by kernel_rfl
theorem pl_32 : placesT Try.prog 32 = some [(0, 1), (1, 1), (2, 1), (3, 1)] := by kernel_rfl
theorem fs_32 : fldsT Try.prog 32 = some [(0, 3), (1, 3), (2, 3), (3, 3)] := by kernel_rfl
theorem fl_32_0 : fldT Try.prog 32 0 = some (0, 3) := by kernel_rfl
theorem fl_32_1 : fldT Try.prog 32 1 = some (1, 3) := by kernel_rfl
theorem fl_32_2 : fldT Try.prog 32 2 = some (2, 3) := by kernel_rfl
theorem fl_32_3 : fldT Try.prog 32 3 = some (3, 3) := by kernel_rfl
theorem kd_35 : kdT Try.prog 35 = .slice 38 := by kernel_rfl
theorem sz_35 : szT Try.prog 35 = 1 := by kernel_rfl
theorem by_35 : bytesT Try.prog 35 = 24 := by kernel_rfl
theorem ze_35 : zeroT Try.prog 35 = some [.lit (.slice none 0 0)] := by kernel_rfl
theorem kd_37 : kdT Try.prog 37 = .struct := by kernel_rfl
theorem sz_37 : szT Try.prog 37 = 2 := by kernel_rfl
theorem by_37 : bytesT Try.prog 37 = 16 := by kernel_rfl
theorem ze_37 : zeroT Try.prog 37 = some [.int .i64 0, .int .i64 0] := by kernel_rfl
theorem pl_37 : placesT Try.prog 37 = some [(0, 1), (1, 1)] := by kernel_rfl
theorem fl_37_0 : fldT Try.prog 37 0 = some (0, 3) := by kernel_rfl
theorem fl_37_1 : fldT Try.prog 37 1 = some (1, 3) := by kernel_rfl
theorem kd_38 : kdT Try.prog 38 = .struct := by kernel_rfl
theorem sz_38 : szT Try.prog 38 = 2 := by kernel_rfl
theorem by_38 : bytesT Try.prog 38 = 16 := by kernel_rfl
theorem ze_38 : zeroT Try.prog 38 = some [.int .i64 0, .int .i64 0] := by kernel_rfl
theorem pl_38 : placesT Try.prog 38 = some [(0, 1), (1, 1)] := by kernel_rfl
theorem fs_38 : fldsT Try.prog 38 = some [(0, 3), (1, 3)] := by kernel_rfl
theorem fl_38_0 : fldT Try.prog 38 0 = some (0, 3) := by kernel_rfl
theorem fl_38_1 : fldT Try.prog 38 1 = some (1, 3) := by kernel_rfl
theorem kd_42 : kdT Try.prog 42 = .int .u16 := by kernel_rfl
theorem sz_42 : szT Try.prog 42 = 1 := by kernel_rfl
theorem by_42 : bytesT Try.prog 42 = 2 := by kernel_rfl
theorem ze_42 : zeroT Try.prog 42 = some [.int .u16 0] := by kernel_rfl
theorem kd_63 : kdT Try.prog 63 = .int .u64 := by kernel_rfl
theorem sz_63 : szT Try.prog 63 = 1 := by kernel_rfl
theorem by_63 : bytesT Try.prog 63 = 8 := by kernel_rfl
theorem ze_63 : zeroT Try.prog 63 = some [.int .u64 0] := by kernel_rfl
theorem kd_65 : kdT Try.prog 65 = .int .i64 := by kernel_rfl
theorem sz_65 : szT Try.prog 65 = 1 := by kernel_rfl
theorem by_65 : bytesT Try.prog 65 = 8 := by kernel_rfl
theorem ze_65 : zeroT Try.prog 65 = some [.int .i64 0] := by kernel_rfl
theorem kd_72 : kdT Try.prog 72 = .int .u32 := by kernel_rfl
theorem sz_72 : szT Try.prog 72 = 1 := by kernel_rfl
theorem by_72 : bytesT Try.prog 72 = 4 := by kernel_rfl
theorem ze_72 : zeroT Try.prog 72 = some [.int .u32 0] := by kernel_rfl
theorem kd_74 : kdT Try.prog 74 = .int .u64 := by kernel_rfl
theorem sz_74 : szT Try.prog 74 = 1 := by kernel_rfl
theorem by_74 : bytesT Try.prog 74 = 8 := by kernel_rfl
theorem ze_74 : zeroT Try.prog 74 = some [.int .u64 0] := by kernel_rfl
theorem kd_75 : kdT Try.prog 75 = .int .u64 := by kernel_rfl
theorem sz_75 : szT Try.prog 75 = 1 := by kernel_rfl
theorem by_75 : bytesT Try.prog 75 = 8 := by kernel_rfl
theorem ze_75 : zeroT Try.prog 75 = some [.int .u64 0] := by kernel_rfl
theorem kd_79 : kdT Try.prog 79 = .ptr := by kernel_rfl
theorem sz_79 : szT Try.prog 79 = 1 := by kernel_rfl
theorem by_79 : bytesT Try.prog 79 = 8 := by kernel_rfl
theorem ze_79 : zeroT Try.prog 79 = some [.lit (.pointer none)] := by kernel_rfl
theorem kd_81 : kdT Try.prog 81 = .ptr := by kernel_rfl
theorem sz_81 : szT Try.prog 81 = 1 := by kernel_rfl
theorem by_81 : bytesT Try.prog 81 = 8 := by kernel_rfl
theorem ze_81 : zeroT Try.prog 81 = some [.lit (.pointer none)] := by kernel_rfl
theorem kd_85 : kdT Try.prog 85 = .struct := by kernel_rfl
theorem sz_85 : szT Try.prog 85 = 4 := by kernel_rfl
theorem by_85 : bytesT Try.prog 85 = 40 := by kernel_rfl
theorem ze_85 : zeroT Try.prog 85 = some [.lit (.pointer none), .lit (.pointer none), .lit (.pointer none), .str []] := by kernel_rfl
theorem pl_85 : placesT Try.prog 85 = some [(0, 1), (1, 1), (2, 1), (3, 1)] := by kernel_rfl
theorem fl_85_0 : fldT Try.prog 85 0 = some (0, 17) := by kernel_rfl
theorem fl_85_1 : fldT Try.prog 85 1 = some (1, 17) := by kernel_rfl
theorem fl_85_2 : fldT Try.prog 85 2 = some (2, 17) := by kernel_rfl
theorem fl_85_3 : fldT Try.prog 85 3 = some (3, 9) := by kernel_rfl
theorem kd_86 : kdT Try.prog 86 = .struct := by kernel_rfl
theorem sz_86 : szT Try.prog 86 = 4 := by kernel_rfl
theorem by_86 : bytesT Try.prog 86 = 40 := by kernel_rfl
theorem ze_86 : zeroT Try.prog 86 = some [.lit (.pointer none), .lit (.pointer none), .lit (.pointer none), .str []] := by kernel_rfl
theorem pl_86 : placesT Try.prog 86 = some [(0, 1), (1, 1), (2, 1), (3, 1)] := by kernel_rfl
theorem fl_86_0 : fldT Try.prog 86 0 = some (0, 17) := by kernel_rfl
theorem fl_86_1 : fldT Try.prog 86 1 = some (1, 17) := by kernel_rfl
theorem fl_86_2 : fldT Try.prog 86 2 = some (2, 17) := by kernel_rfl
theorem fl_86_3 : fldT Try.prog 86 3 = some (3, 9) := by kernel_rfl
theorem kd_87 : kdT Try.prog 87 = .array 0 16 := by kernel_rfl
theorem sz_87 : szT Try.prog 87 = 0 := by kernel_rfl
theorem by_87 : bytesT Try.prog 87 = 0 := by kernel_rfl
theorem ze_87 : zeroT Try.prog 87 = some [] := by kernel_rfl
theorem kd_88 : kdT Try.prog 88 = .struct := by kernel_rfl
theorem sz_88 : szT Try.prog 88 = 0 := by kernel_rfl
theorem by_88 : bytesT Try.prog 88 = 0 := by kernel_rfl
theorem ze_88 : zeroT Try.prog 88 = some [] := by kernel_rfl
theorem pl_88 : placesT Try.prog 88 = some [(0, 0)] := by kernel_rfl
theorem kd_89 : kdT Try.prog 89 = .struct := by kernel_rfl
theorem sz_89 : szT Try.prog 89 = 0 := by kernel_rfl
theorem by_89 : bytesT Try.prog 89 = 0 := by kernel_rfl
theorem ze_89 : zeroT Try.prog 89 = some [] := by kernel_rfl
theorem pl_89 : placesT Try.prog 89 = some [(0, 0)] := by kernel_rfl
theorem kd_91 : kdT Try.prog 91 = .int .u8 := by kernel_rfl
theorem sz_91 : szT Try.prog 91 = 1 := by kernel_rfl
theorem by_91 : bytesT Try.prog 91 = 1 := by kernel_rfl
theorem ze_91 : zeroT Try.prog 91 = some [.int .u8 0] := by kernel_rfl
theorem kd_92 : kdT Try.prog 92 = .int .u8 := by kernel_rfl
theorem sz_92 : szT Try.prog 92 = 1 := by kernel_rfl
theorem by_92 : bytesT Try.prog 92 = 1 := by kernel_rfl
theorem ze_92 : zeroT Try.prog 92 = some [.int .u8 0] := by kernel_rfl
theorem kd_94 : kdT Try.prog 94 = .ptr := by kernel_rfl
theorem sz_94 : szT Try.prog 94 = 1 := by kernel_rfl
theorem by_94 : bytesT Try.prog 94 = 8 := by kernel_rfl
theorem ze_94 : zeroT Try.prog 94 = some [.lit (.pointer none)] := by kernel_rfl
theorem kd_95 : kdT Try.prog 95 = .int .i32 := by kernel_rfl
theorem sz_95 : szT Try.prog 95 = 1 := by kernel_rfl
theorem by_95 : bytesT Try.prog 95 = 4 := by kernel_rfl
theorem ze_95 : zeroT Try.prog 95 = some [.int .i32 0] := by kernel_rfl
theorem kd_96 : kdT Try.prog 96 = .int .i32 := by kernel_rfl
theorem sz_96 : szT Try.prog 96 = 1 := by kernel_rfl
theorem by_96 : bytesT Try.prog 96 = 4 := by kernel_rfl
theorem ze_96 : zeroT Try.prog 96 = some [.int .i32 0] := by kernel_rfl
theorem kd_97 : kdT Try.prog 97 = .struct := by kernel_rfl
theorem sz_97 : szT Try.prog 97 = 11 := by kernel_rfl
theorem by_97 : bytesT Try.prog 97 = 48 := by kernel_rfl
theorem ze_97 : zeroT Try.prog 97 = some [.int .u64 0, .int .u64 0, .int .u32 0, .int .u8 0, .int .u8 0, .int .u8 0, .int .u8 0, .lit .nilFunc, .lit (.pointer none), .int .i32 0, .int .i32 0] := by kernel_rfl
theorem pl_97 : placesT Try.prog 97 = some [(0, 1), (1, 1), (2, 1), (3, 1), (4, 1), (5, 1), (6, 1), (7, 1), (8, 1), (9, 1), (10, 1)] := by kernel_rfl
theorem fl_97_0 : fldT Try.prog 97 0 = some (0, 12) := by kernel_rfl
theorem fl_97_1 : fldT Try.prog 97 1 = some (1, 12) := by kernel_rfl
theorem fl_97_2 : fldT Try.prog 97 2 = some (2, 72) := by kernel_rfl
theorem fl_97_3 : fldT Try.prog 97 3 = some (3, 91) := by kernel_rfl
theorem fl_97_4 : fldT Try.prog 97 4 = some (4, 5) := by kernel_rfl
theorem fl_97_5 : fldT Try.prog 97 5 = some (5, 5) := by kernel_rfl
theorem fl_97_6 : fldT Try.prog 97 6 = some (6, 92) := by kernel_rfl
theorem fl_97_7 : fldT Try.prog 97 7 = some (7, 93) := by kernel_rfl
theorem fl_97_8 : fldT Try.prog 97 8 = some (8, 94) := by kernel_rfl
theorem fl_97_9 : fldT Try.prog 97 9 = some (9, 95) := by kernel_rfl
theorem fl_97_10 : fldT Try.prog 97 10 = some (10, 96) := by kernel_rfl
theorem kd_98 : kdT Try.prog 98 = .struct := by kernel_rfl
theorem sz_98 : szT Try.prog 98 = 11 := by kernel_rfl
theorem by_98 : bytesT Try.prog 98 = 48 := by kernel_rfl
theorem ze_98 : zeroT Try.prog 98 = some [.int .u64 0, .int .u64 0, .int .u32 0, .int .u8 0, .int .u8 0, .int .u8 0, .int .u8 0, .lit .nilFunc, .lit (.pointer none), .int .i32 0, .int .i32 0] := by kernel_rfl
theorem pl_98 : placesT Try.prog 98 = some [(0, 1), (1, 1), (2, 1), (3, 1), (4, 1), (5, 1), (6, 1), (7, 1), (8, 1), (9, 1), (10, 1)] := by kernel_rfl
theorem fl_98_0 : fldT Try.prog 98 0 = some (0, 12) := by kernel_rfl
theorem fl_98_1 : fldT Try.prog 98 1 = some (1, 12) := by kernel_rfl
theorem fl_98_2 : fldT Try.prog 98 2 = some (2, 72) := by kernel_rfl
theorem fl_98_3 : fldT Try.prog 98 3 = some (3, 91) := by kernel_rfl
theorem fl_98_4 : fldT Try.prog 98 4 = some (4, 5) := by kernel_rfl
theorem fl_98_5 : fldT Try.prog 98 5 = some (5, 5) := by kernel_rfl
theorem fl_98_6 : fldT Try.prog 98 6 = some (6, 92) := by kernel_rfl
theorem fl_98_7 : fldT Try.prog 98 7 = some (7, 93) := by kernel_rfl
theorem fl_98_8 : fldT Try.prog 98 8 = some (8, 94) := by kernel_rfl
theorem fl_98_9 : fldT Try.prog 98 9 = some (9, 95) := by kernel_rfl
theorem fl_98_10 : fldT Try.prog 98 10 = some (10, 96) := by kernel_rfl
instance : ETab := ⟨fun t => if t = 24 then some .int else if t = 22 then some .win else if t = 35 then some .rng else none, fun t => none⟩
theorem et_24 : ETab.of 24 = some .int := rfl
theorem et_22 : ETab.of 22 = some .win := rfl
theorem et_35 : ETab.of 35 = some .rng := rfl
theorem mixed : Try.prog.follows .mixedOrders = true := by kernel_rfl
theorem fn_2 : Try.prog.funcs[2]? = some Try.f2 := by kernel_rfl -- gosem.cut.init
theorem fn_3 : Try.prog.funcs[3]? = some Try.f3 := by kernel_rfl -- spacecraft/spacecraftlaw53.ContactPlans
theorem fn_4 : Try.prog.funcs[4]? = some Try.f4 := by kernel_rfl -- spacecraft/spacecraftlaw53.ContactReads
theorem fn_5 : Try.prog.funcs[5]? = some Try.f5 := by kernel_rfl -- spacecraft/spacecraftlaw53.ContactBest
theorem fn_6 : Try.prog.funcs[6]? = some Try.f6 := by kernel_rfl -- spacecraft/spacecraftlaw53.ContactGrows
theorem fn_7 : Try.prog.funcs[7]? = some Try.f7 := by kernel_rfl -- spacecraft/spacecraftlaw53.ContactCovers
theorem fn_8 : Try.prog.funcs[8]? = some Try.f8 := by kernel_rfl -- spacecraft/spacecraftlaw53.alive
theorem fn_9 : Try.prog.funcs[9]? = some Try.f9 := by kernel_rfl -- spacecraft/contact.Plan
theorem fn_10 : Try.prog.funcs[10]? = some Try.f10 := by kernel_rfl -- spacecraft/spacecraftref53.Plan
theorem fn_11 : Try.prog.funcs[11]? = some Try.f11 := by kernel_rfl -- spacecraft/spacecraftref53.Ints
theorem fn_12 : Try.prog.funcs[12]? = some Try.f12 := by kernel_rfl -- spacecraft/contact.Valid
theorem fn_13 : Try.prog.funcs[13]? = some Try.f13 := by kernel_rfl -- spacecraft/spacecraftref53.Valid
theorem fn_14 : Try.prog.funcs[14]? = some Try.f14 := by kernel_rfl -- spacecraft/contact.Next
theorem fn_15 : Try.prog.funcs[15]? = some Try.f15 := by kernel_rfl -- spacecraft/spacecraftref53.Next
theorem fn_16 : Try.prog.funcs[16]? = some Try.f16 := by kernel_rfl -- spacecraft/contact.Merge
theorem fn_17 : Try.prog.funcs[17]? = some Try.f17 := by kernel_rfl -- spacecraft/spacecraftref53.Merge
theorem fn_18 : Try.prog.funcs[18]? = some Try.f18 := by kernel_rfl -- spacecraft/contact.Value
theorem fn_19 : Try.prog.funcs[19]? = some Try.f19 := by kernel_rfl -- spacecraft/spacecraftref53.Value
theorem fn_20 : Try.prog.funcs[20]? = some Try.f20 := by kernel_rfl -- spacecraft/spacecraftlaw53.plan
theorem fn_21 : Try.prog.funcs[21]? = some Try.f21 := by kernel_rfl -- spacecraft/spacecraftlaw53.smaller
theorem fn_22 : Try.prog.funcs[22]? = some Try.f22 := by kernel_rfl -- spacecraft/spacecraftlaw53.four
theorem fn_23 : Try.prog.funcs[23]? = some Try.f23 := by kernel_rfl -- slices.ContainsFunc[[]spacecraft/api.Window,spacecraft/api.Window]
theorem fn_24 : Try.prog.funcs[24]? = some Try.f24 := by kernel_rfl -- spacecraft/contact.Plan$1
theorem fn_25 : Try.prog.funcs[25]? = some Try.f25 := by kernel_rfl -- spacecraft/contact.best
theorem fn_26 : Try.prog.funcs[26]? = some Try.f26 := by kernel_rfl -- slices.ContainsFunc[[]int,int]
theorem fn_27 : Try.prog.funcs[27]? = some Try.f27 := by kernel_rfl -- spacecraft/contact.Plan$2
theorem fn_28 : Try.prog.funcs[28]? = some Try.f28 := by kernel_rfl -- spacecraft/contact.compatible
theorem fn_29 : Try.prog.funcs[29]? = some Try.f29 := by kernel_rfl -- slices.Clip[[]int,int]
theorem fn_30 : Try.prog.funcs[30]? = some Try.f30 := by kernel_rfl -- spacecraft/contact.after
theorem fn_31 : Try.prog.funcs[31]? = some Try.f31 := by kernel_rfl -- spacecraft/spacecraftref53.best
theorem fn_32 : Try.prog.funcs[32]? = some Try.f32 := by kernel_rfl -- spacecraft/spacecraftref53.Compatible
theorem fn_33 : Try.prog.funcs[33]? = some Try.f33 := by kernel_rfl -- slices.DeleteFunc[[]spacecraft/api.Window,spacecraft/api.Window]
theorem fn_34 : Try.prog.funcs[34]? = some Try.f34 := by kernel_rfl -- slices.Clone[[]spacecraft/api.Window,spacecraft/api.Window]
theorem fn_35 : Try.prog.funcs[35]? = some Try.f35 := by kernel_rfl -- spacecraft/contact.Merge$1
theorem fn_36 : Try.prog.funcs[36]? = some Try.f36 := by kernel_rfl -- slices.SortFunc[[]spacecraft/api.Window,spacecraft/api.Window]
theorem fn_37 : Try.prog.funcs[37]? = some Try.f37 := by kernel_rfl -- spacecraft/contact.Merge$2
theorem fn_38 : Try.prog.funcs[38]? = some Try.f38 := by kernel_rfl -- cmp.Compare[int]
theorem fn_39 : Try.prog.funcs[39]? = some Try.f39 := by kernel_rfl -- slices.IndexFunc[[]spacecraft/api.Window,spacecraft/api.Window]
theorem fn_40 : Try.prog.funcs[40]? = some Try.f40 := by kernel_rfl -- spacecraft/contact.best$1
theorem fn_41 : Try.prog.funcs[41]? = some Try.f41 := by kernel_rfl -- slices.BinarySearchFunc[[]spacecraft/api.Window,spacecraft/api.Window,int]
theorem fn_42 : Try.prog.funcs[42]? = some Try.f42 := by kernel_rfl -- spacecraft/contact.best$2
theorem fn_43 : Try.prog.funcs[43]? = some Try.f43 := by kernel_rfl -- slices.IndexFunc[[]int,int]
theorem fn_44 : Try.prog.funcs[44]? = some Try.f44 := by kernel_rfl -- spacecraft/contact.after$1
theorem fn_45 : Try.prog.funcs[45]? = some Try.f45 := by kernel_rfl -- slices.pdqsortCmpFunc[spacecraft/api.Window]
theorem fn_46 : Try.prog.funcs[46]? = some Try.f46 := by kernel_rfl -- math/bits.Len
theorem fn_47 : Try.prog.funcs[47]? = some Try.f47 := by kernel_rfl -- cmp.isNaN[int]
theorem fn_48 : Try.prog.funcs[48]? = some Try.f48 := by kernel_rfl -- slices.insertionSortCmpFunc[spacecraft/api.Window]
theorem fn_49 : Try.prog.funcs[49]? = some Try.f49 := by kernel_rfl -- slices.heapSortCmpFunc[spacecraft/api.Window]
theorem fn_50 : Try.prog.funcs[50]? = some Try.f50 := by kernel_rfl -- slices.breakPatternsCmpFunc[spacecraft/api.Window]
theorem fn_51 : Try.prog.funcs[51]? = some Try.f51 := by kernel_rfl -- slices.choosePivotCmpFunc[spacecraft/api.Window]
theorem fn_52 : Try.prog.funcs[52]? = some Try.f52 := by kernel_rfl -- slices.reverseRangeCmpFunc[spacecraft/api.Window]
theorem fn_53 : Try.prog.funcs[53]? = some Try.f53 := by kernel_rfl -- slices.partialInsertionSortCmpFunc[spacecraft/api.Window]
theorem fn_54 : Try.prog.funcs[54]? = some Try.f54 := by kernel_rfl -- slices.partitionEqualCmpFunc[spacecraft/api.Window]
theorem fn_55 : Try.prog.funcs[55]? = some Try.f55 := by kernel_rfl -- slices.partitionCmpFunc[spacecraft/api.Window]
theorem fn_56 : Try.prog.funcs[56]? = some Try.f56 := by kernel_rfl -- math/bits.Len32
theorem fn_57 : Try.prog.funcs[57]? = some Try.f57 := by kernel_rfl -- math/bits.Len64
theorem fn_58 : Try.prog.funcs[58]? = some Try.f58 := by kernel_rfl -- slices.siftDownCmpFunc[spacecraft/api.Window]
theorem fn_59 : Try.prog.funcs[59]? = some Try.f59 := by kernel_rfl -- slices.nextPowerOfTwo
theorem fn_60 : Try.prog.funcs[60]? = some Try.f60 := by kernel_rfl -- (*slices.xorshift).Next
theorem fn_61 : Try.prog.funcs[61]? = some Try.f61 := by kernel_rfl -- slices.medianAdjacentCmpFunc[spacecraft/api.Window]
theorem fn_62 : Try.prog.funcs[62]? = some Try.f62 := by kernel_rfl -- slices.medianCmpFunc[spacecraft/api.Window]
theorem fn_63 : Try.prog.funcs[63]? = some Try.f63 := by kernel_rfl -- slices.order2CmpFunc[spacecraft/api.Window]
attribute [go_sem] kd_2 sz_2 by_2 ze_2 kd_3 sz_3 by_3 ze_3 kd_4 sz_4 by_4 ze_4 kd_5 sz_5 by_5 ze_5 kd_6 sz_6 by_6 ze_6 kd_7 sz_7 by_7 ze_7 pl_7 fl_7_0 fl_7_1 fl_7_2 fl_7_3 kd_8 sz_8 by_8 ze_8 pl_8 fl_8_0 fl_8_1 fl_8_2 fl_8_3 kd_9 sz_9 by_9 ze_9 kd_10 sz_10 by_10 ze_10 kd_11 sz_11 by_11 ze_11 kd_12 sz_12 by_12 ze_12 kd_13 sz_13 by_13 ze_13 pl_13 fl_13_0 fl_13_1 kd_14 sz_14 by_14 ze_14 pl_14 fl_14_0 fl_14_1 kd_15 sz_15 by_15 ze_15 kd_16 sz_16 by_16 ze_16 kd_17 sz_17 by_17 ze_17 kd_18 sz_18 by_18 ze_18 pl_18 fl_18_0 kd_19 sz_19 by_19 ze_19 pl_19 fl_19_0 kd_20 sz_20 by_20 ze_20 kd_21 sz_21 by_21 ze_21 kd_22 sz_22 by_22 ze_22 kd_24 sz_24 by_24 ze_24 kd_25 sz_25 by_25 ze_25 kd_31 sz_31 by_31 ze_31 pl_31 fl_31_0 fl_31_1 fl_31_2 fl_31_3 kd_32 sz_32 by_32 ze_32 pl_32 fs_32 fl_32_0 fl_32_1 fl_32_2 fl_32_3 kd_35 sz_35 by_35 ze_35 kd_37 sz_37 by_37 ze_37 pl_37 fl_37_0 fl_37_1 kd_38 sz_38 by_38 ze_38 pl_38 fs_38 fl_38_0 fl_38_1 kd_42 sz_42 by_42 ze_42 kd_63 sz_63 by_63 ze_63 kd_65 sz_65 by_65 ze_65 kd_72 sz_72 by_72 ze_72 kd_74 sz_74 by_74 ze_74 kd_75 sz_75 by_75 ze_75 kd_79 sz_79 by_79 ze_79 kd_81 sz_81 by_81 ze_81 kd_85 sz_85 by_85 ze_85 pl_85 fl_85_0 fl_85_1 fl_85_2 fl_85_3 kd_86 sz_86 by_86 ze_86 pl_86 fl_86_0 fl_86_1 fl_86_2 fl_86_3 kd_87 sz_87 by_87 ze_87 kd_88 sz_88 by_88 ze_88 pl_88 kd_89 sz_89 by_89 ze_89 pl_89 kd_91 sz_91 by_91 ze_91 kd_92 sz_92 by_92 ze_92 kd_94 sz_94 by_94 ze_94 kd_95 sz_95 by_95 ze_95 kd_96 sz_96 by_96 ze_96 kd_97 sz_97 by_97 ze_97 pl_97 fl_97_0 fl_97_1 fl_97_2 fl_97_3 fl_97_4 fl_97_5 fl_97_6 fl_97_7 fl_97_8 fl_97_9 fl_97_10 kd_98 sz_98 by_98 ze_98 pl_98 fl_98_0 fl_98_1 fl_98_2 fl_98_3 fl_98_4 fl_98_5 fl_98_6 fl_98_7 fl_98_8 fl_98_9 fl_98_10 et_24 et_22 et_35  
end Go.V

set_option maxRecDepth 100000
namespace Go.V
abbrev rAt (l : List Rng) (k : Nat) : Rng := l.getD k Rng.zero
/-- n lies in one of the ranges -/
def memR (l : List Rng) (n : Int) : Prop := ∃ r ∈ l, r.from_ ≤ n ∧ n < r.to_
structure Vld (l : List Rng) : Prop where
  ne : ∀ r ∈ l, r.from_ < r.to_
  ap : l.Pairwise fun r s => r.to_ < s.from_
theorem Vld.nil : Vld [] := ⟨fun _ h => (by cases h), .nil⟩
theorem Vld.tail {r : Rng} {l : List Rng} (h : Vld (r :: l)) : Vld l := ⟨fun s hs => h.ne s (by simp [hs]), (List.pairwise_cons.1 h.ap).2⟩
theorem Vld.head {r : Rng} {l : List Rng} (h : Vld (r :: l)) : r.from_ < r.to_ ∧ ∀ s ∈ l, r.to_ < s.from_ := ⟨h.ne r (by simp), (List.pairwise_cons.1 h.ap).1⟩
theorem Vld.cons {r : Rng} {l : List Rng} (h1 : r.from_ < r.to_) (h2 : ∀ s ∈ l, r.to_ < s.from_) (h : Vld l) : Vld (r :: l) :=
  ⟨fun s hs => by rcases List.mem_cons.1 hs with rfl | hs; exact h1; exact h.ne s hs, List.pairwise_cons.2 ⟨h2, h.ap⟩⟩
theorem memR_cons {r : Rng} {l : List Rng} {n : Int} : memR (r :: l) n ↔ (r.from_ ≤ n ∧ n < r.to_) ∨ memR l n := by
  unfold memR
  constructor
  · rintro ⟨s, hs, h⟩
    rcases List.mem_cons.1 hs with rfl | hs
    · exact .inl h
    · exact .inr ⟨s, hs, h⟩
  · rintro (h | ⟨s, hs, h⟩)
    · exact ⟨r, by simp, h⟩
    · exact ⟨s, by simp [hs], h⟩
theorem memR_app {l m : List Rng} {n : Int} : memR (l ++ m) n ↔ memR l n ∨ memR m n := by
  unfold memR
  constructor
  · rintro ⟨s, hs, h⟩
    rcases List.mem_append.1 hs with hs | hs
    · exact .inl ⟨s, hs, h⟩
    · exact .inr ⟨s, hs, h⟩
  · rintro (⟨s, hs, h⟩ | ⟨s, hs, h⟩)
    · exact ⟨s, by simp [hs], h⟩
    · exact ⟨s, by simp [hs], h⟩
theorem memR_nil {n : Int} : ¬ memR [] n := by rintro ⟨_, h, _⟩; cases h
theorem memR_one {r : Rng} {n : Int} : memR [r] n ↔ r.from_ ≤ n ∧ n < r.to_ := by rw [memR_cons]; simp [memR_nil]
theorem memR_perm {l m : List Rng} (h : l.Perm m) {n : Int} : memR l n ↔ memR m n := by
  unfold memR
  constructor
  · rintro ⟨s, hs, q⟩; exact ⟨s, h.mem_iff.1 hs, q⟩
  · rintro ⟨s, hs, q⟩; exact ⟨s, h.mem_iff.2 hs, q⟩
theorem Vld.above {r : Rng} {l : List Rng} (h : Vld (r :: l)) {n : Int} (hn : memR l n) : r.to_ < n := by
  obtain ⟨s, hs, h1, _⟩ := hn
  have := h.head.2 s hs
  omega
theorem Vld.low {r : Rng} {l : List Rng} (h : Vld (r :: l)) {n : Int} (hn : memR (r :: l) n) : r.from_ ≤ n := by
  rcases memR_cons.1 hn with h1 | h1
  · exact h1.1
  · have := h.above h1
    have := h.head.1
    omega
/-- a set has one such list -/
theorem vld_one : ∀ {l m : List Rng}, Vld l → Vld m → (∀ n, memR l n ↔ memR m n) → l = m
  | [], [], _, _, _ => rfl
  | [], s :: m, _, h2, h => absurd ((h s.from_).2 (memR_cons.2 (.inl ⟨Int.le_refl _, h2.head.1⟩))) memR_nil
  | r :: l, [], h1, _, h => absurd ((h r.from_).1 (memR_cons.2 (.inl ⟨Int.le_refl _, h1.head.1⟩))) memR_nil
  | r :: l, s :: m, h1, h2, h => by
    have a1 := h1.head.1
    have a2 := h2.head.1
    have e1 : r.from_ = s.from_ := by
      have q1 := h2.low ((h r.from_).1 (memR_cons.2 (.inl ⟨Int.le_refl _, a1⟩)))
      have q2 := h1.low ((h s.from_).2 (memR_cons.2 (.inl ⟨Int.le_refl _, a2⟩)))
      omega
    have e2 : r.to_ = s.to_ := by
      rcases Int.lt_trichotomy r.to_ s.to_ with q | q | q
      · have := (h r.to_).2 (memR_cons.2 (.inl ⟨by omega, q⟩))
        rcases memR_cons.1 this with k | k
        · omega
        · have := h1.above k; omega
      · exact q
      · have := (h s.to_).1 (memR_cons.2 (.inl ⟨by omega, q⟩))
        rcases memR_cons.1 this with k | k
        · omega
        · have := h2.above k; omega
    have e : r = s := by cases r; cases s; simp_all
    subst e
    rw [vld_one h1.tail h2.tail fun n => ?_]
    have hn := h n
    rw [memR_cons, memR_cons] at hn
    constructor
    · intro k
      have := h1.above k
      rcases hn.1 (.inr k) with q | q
      · omega
      · exact q
    · intro k
      have := h2.above k
      rcases hn.2 (.inr k) with q | q
      · omega
      · exact q
/-! ### The reference's way -/
def insR : List Rng → Rng → List Rng
  | [], r => [r]
  | x :: l, r => if x.from_ ≤ r.to_ then insR l ⟨min r.from_ x.from_, max r.to_ x.to_⟩ else r :: x :: l
def insL : List Rng → Rng → List Rng
  | [], r => [r]
  | x :: l, r => if x.to_ < r.from_ then x :: insL l r else insR (x :: l) r
theorem insL_skip (l : List Rng) (r : Rng) : ∀ k, k ≤ l.length → (∀ i, i < k → (rAt l i).to_ < r.from_) → insL l r = l.take k ++ insL (l.drop k) r := by
  induction l with
  | nil => intro k hk _; simp at hk; subst hk; rfl
  | cons x l ih =>
    intro k hk h
    cases k with
    | zero => rfl
    | succ k =>
      have h1 : x.to_ < r.from_ := h 0 (by omega)
      have h2 := ih k (by simpa using hk) fun i hi => h (i + 1) (by omega)
      rw [List.take_succ_cons, List.drop_succ_cons, List.cons_append, ← h2]
      conv => lhs; unfold insL
      rw [if_pos h1]
def insF (l : List Rng) (r : Rng) : List Rng := if r.to_ ≤ r.from_ then l else insL l r
def ofL (l : List Rng) : List Rng := l.foldl insF []
theorem insR_ok : ∀ {l : List Rng} {r : Rng}, Vld l → r.from_ < r.to_ → (∀ x ∈ l, r.from_ ≤ x.to_) → Vld (insR l r) ∧ (∀ n, memR (insR l r) n ↔ memR l n ∨ (r.from_ ≤ n ∧ n < r.to_)) ∧ ∀ b : Int, b < r.from_ → (∀ x ∈ l, b < x.from_) → ∀ x ∈ insR l r, b < x.from_
  | [], r, _, hr, _ => ⟨.cons hr (fun s hs => by cases hs) .nil, fun n => by simp [insR, memR_one, memR_nil], fun b hb _ x hx => by simp [insR] at hx; rw [hx]; exact hb⟩
  | x :: l, r, h, hr, ht => by
    have hx := h.head.1
    have hxr := ht x (by simp)
    unfold insR
    by_cases hc : x.from_ ≤ r.to_
    · rw [if_pos hc]
      have ih := insR_ok (l := l) (r := ⟨min r.from_ x.from_, max r.to_ x.to_⟩) h.tail (by simp only; omega) (fun y hy => by
        have := h.head.2 y hy
        have := h.tail.ne y hy
        simp only
        omega)
      refine ⟨ih.1, fun n => ?_, fun b hb hbx => ih.2.2 b (by have := hbx x (by simp); simp only; omega) fun y hy => hbx y (by simp [hy])⟩
      rw [ih.2.1 n, memR_cons]
      simp only
      constructor
      · rintro (q | q)
        · exact .inl (.inr q)
        · by_cases k : x.from_ ≤ n ∧ n < x.to_
          · exact .inl (.inl k)
          · exact .inr (by omega)
      · rintro ((q | q) | q)
        · exact .inr (by omega)
        · exact .inl q
        · exact .inr (by omega)
    · rw [if_neg hc]
      refine ⟨.cons hr (fun s hs => ?_) h, fun n => by rw [memR_cons]; exact Or.comm, fun b hb hbx y hy => ?_⟩
      · rcases List.mem_cons.1 hs with rfl | hs
        · omega
        · have := h.head.2 s hs
          omega
      · rcases List.mem_cons.1 hy with rfl | hy
        · exact hb
        · exact hbx y hy
theorem insL_ok : ∀ {l : List Rng} {r : Rng}, Vld l → r.from_ < r.to_ → Vld (insL l r) ∧ (∀ n, memR (insL l r) n ↔ memR l n ∨ (r.from_ ≤ n ∧ n < r.to_)) ∧ ∀ b : Int, b < r.from_ → (∀ x ∈ l, b < x.from_) → ∀ x ∈ insL l r, b < x.from_
  | [], r, _, hr => ⟨.cons hr (fun s hs => by cases hs) .nil, fun n => by simp [insL, memR_one, memR_nil], fun b hb _ x hx => by simp [insL] at hx; rw [hx]; exact hb⟩
  | x :: l, r, h, hr => by
    unfold insL
    by_cases hc : x.to_ < r.from_
    · rw [if_pos hc]
      have ih := insL_ok (l := l) (r := r) h.tail hr
      refine ⟨.cons h.head.1 (ih.2.2 _ hc h.head.2) ih.1, fun n => ?_, fun b hb hbx y hy => ?_⟩
      · rw [memR_cons, memR_cons, ih.2.1 n, or_assoc]
      · rcases List.mem_cons.1 hy with rfl | hy
        · exact hbx y (by simp)
        · exact ih.2.2 b hb (fun z hz => hbx z (by simp [hz])) y hy
    · rw [if_neg hc]
      exact insR_ok h hr fun y hy => by
        rcases List.mem_cons.1 hy with rfl | hy
        · omega
        · have := h.head.2 y hy
          have := h.tail.ne y hy
          omega
theorem insF_ok {l : List Rng} {r : Rng} (h : Vld l) : Vld (insF l r) ∧ ∀ n, memR (insF l r) n ↔ memR l n ∨ (r.from_ ≤ n ∧ n < r.to_) := by
  unfold insF
  by_cases hc : r.to_ ≤ r.from_
  · rw [if_pos hc]
    exact ⟨h, fun n => ⟨.inl, fun q => q.elim id fun k => by omega⟩⟩
  · rw [if_neg hc]
    have := insL_ok (r := r) h (by omega)
    exact ⟨this.1, this.2.1⟩
theorem fold_ok : ∀ (l : List Rng) {s : List Rng}, Vld s → Vld (l.foldl insF s) ∧ ∀ n, memR (l.foldl insF s) n ↔ memR s n ∨ memR l n
  | [], s, h => ⟨h, fun n => by simp [memR_nil]⟩
  | r :: l, s, h => by
    have h1 := insF_ok (r := r) h
    have h2 := fold_ok l h1.1
    refine ⟨h2.1, fun n => ?_⟩
    rw [List.foldl_cons, h2.2 n, h1.2 n, memR_cons, or_assoc]
theorem of_vld (l : List Rng) : Vld (ofL l) := (fold_ok l .nil).1
theorem of_mem (l : List Rng) (n : Int) : memR (ofL l) n ↔ memR l n := by
  unfold ofL
  rw [(fold_ok l .nil).2 n]
  simp [memR_nil]
theorem of_eq {l m : List Rng} (h : Vld m) (hm : ∀ n, memR m n ↔ memR l n) : m = ofL l := vld_one h (of_vld l) fun n => by rw [hm, of_mem]
theorem of_add (l : List Rng) (r : Rng) : ofL (l ++ [r]) = insF (ofL l) r := by unfold ofL; rw [List.foldl_append]; rfl
theorem insR_len : ∀ (l : List Rng) (r : Rng), (insR l r).length ≤ l.length + 1
  | [], _ => by simp [insR]
  | x :: l, r => by
    unfold insR
    split
    · have := insR_len l ⟨min r.from_ x.from_, max r.to_ x.to_⟩
      simp only [List.length_cons]; omega
    · simp
theorem insL_len : ∀ (l : List Rng) (r : Rng), (insL l r).length ≤ l.length + 1
  | [], _ => by simp [insL]
  | x :: l, r => by
    unfold insL
    split
    · have := insL_len l r
      simp only [List.length_cons]; omega
    · exact insR_len _ _
theorem insF_len (l : List Rng) (r : Rng) : (insF l r).length ≤ l.length + 1 := by
  unfold insF
  split
  · omega
  · exact insL_len l r
theorem of_len (l : List Rng) : (ofL l).length ≤ l.length := by
  have key : ∀ (l s : List Rng), (l.foldl insF s).length ≤ s.length + l.length := by
    intro l
    induction l with
    | nil => intro s; simp
    | cons r l ih =>
      intro s
      have h1 := ih (insF s r)
      have h2 := insF_len s r
      simp only [List.foldl_cons, List.length_cons]
      omega
  simpa [ofL] using key l []
/-! ### The program's way: sorted, then joined -/
def joinS (out : List Rng) (r : Rng) : List Rng :=
  if 0 < out.length ∧ r.from_ ≤ (rAt out (out.length - 1)).to_ then out.set (out.length - 1) ⟨(rAt out (out.length - 1)).from_, max (rAt out (out.length - 1)).to_ r.to_⟩ else out ++ [r]
theorem last_form {out : List Rng} (h : 0 < out.length) : ∃ pre x, out = pre ++ [x] := by
  rcases List.eq_nil_or_concat out with rfl | ⟨p, x, rfl⟩
  · simp at h
  · exact ⟨p, x, by simp⟩
theorem joinS_ok {out : List Rng} {r : Rng} (h : Vld out) (hr : r.from_ < r.to_) (hb : ∀ x ∈ out, x.from_ ≤ r.from_) :
    Vld (joinS out r) ∧ (∀ n, memR (joinS out r) n ↔ memR out n ∨ (r.from_ ≤ n ∧ n < r.to_)) ∧ ∀ x ∈ joinS out r, x.from_ ≤ r.from_ := by
  unfold joinS
  by_cases h0 : 0 < out.length
  · obtain ⟨pre, x, rfl⟩ := last_form h0
    have e1 : (pre ++ [x]).length - 1 = pre.length := by simp
    have e2 : rAt (pre ++ [x]) pre.length = x := by simp [rAt]
    rw [e1, e2]
    have hx := h.ne x (by simp)
    have hbx := hb x (by simp)
    have hpw := List.pairwise_append.1 h.ap
    by_cases hc : r.from_ ≤ x.to_
    · rw [if_pos ⟨h0, hc⟩]
      have e3 : (pre ++ [x]).set pre.length (⟨x.from_, max x.to_ r.to_⟩ : Rng) = pre ++ [⟨x.from_, max x.to_ r.to_⟩] := by simp
      rw [e3]
      refine ⟨⟨fun y hy => ?_, List.pairwise_append.2 ⟨hpw.1, by simp, fun a ha b hb' => ?_⟩⟩, fun n => ?_, fun y hy => ?_⟩
      · rcases List.mem_append.1 hy with hy | hy
        · exact h.ne y (by simp [hy])
        · simp at hy; rw [hy]; simp only; omega
      · simp at hb'; rw [hb']
        exact hpw.2.2 a ha x (by simp)
      · rw [memR_app, memR_app, memR_one, memR_one]
        simp only
        constructor
        · rintro (q | q)
          · exact .inl (.inl q)
          · by_cases k : x.from_ ≤ n ∧ n < x.to_
            · exact .inl (.inr k)
            · exact .inr (by omega)
        · rintro ((q | q) | q)
          · exact .inl q
          · exact .inr (by omega)
          · exact .inr (by omega)
      · rcases List.mem_append.1 hy with hy | hy
        · exact hb y (by simp [hy])
        · simp at hy; rw [hy]; exact hbx
    · rw [if_neg (fun q => hc q.2)]
      refine ⟨⟨fun y hy => ?_, List.pairwise_append.2 ⟨h.ap, by simp, fun a ha b hb' => ?_⟩⟩, fun n => by rw [memR_app, memR_one], fun y hy => ?_⟩
      · rcases List.mem_append.1 hy with hy | hy
        · exact h.ne y hy
        · simp at hy; rw [hy]; exact hr
      · simp at hb'; rw [hb']
        rcases List.mem_append.1 ha with ha | ha
        · have := hpw.2.2 a ha x (by simp)
          omega
        · simp at ha; rw [ha]; omega
      · rcases List.mem_append.1 hy with hy | hy
        · exact hb y hy
        · simp at hy; rw [hy]; exact Int.le_refl _
  · rw [if_neg (fun q => h0 q.1)]
    have : out = [] := by cases out with | nil => rfl | cons => simp at h0
    subst this
    exact ⟨.cons hr (fun s hs => by cases hs) .nil, fun n => by simp [memR_one, memR_nil], fun y hy => by simp at hy; rw [hy]; exact Int.le_refl _⟩
theorem join_ok : ∀ (l : List Rng) {out : List Rng}, Vld out → (∀ r ∈ l, r.from_ < r.to_) → (l.Pairwise fun r s => r.from_ ≤ s.from_) → (∀ x ∈ out, ∀ r ∈ l, x.from_ ≤ r.from_) →
    Vld (l.foldl joinS out) ∧ ∀ n, memR (l.foldl joinS out) n ↔ memR out n ∨ memR l n
  | [], out, h, _, _, _ => ⟨h, fun n => by simp [memR_nil]⟩
  | r :: l, out, h, hr, hp, hb => by
    rw [List.pairwise_cons] at hp
    have h1 := joinS_ok (r := r) h (hr r (by simp)) fun x hx => hb x hx r (by simp)
    have h2 := join_ok l h1.1 (fun s hs => hr s (by simp [hs])) hp.2 fun x hx s hs => Int.le_trans (h1.2.2 x hx) (hp.1 s hs)
    refine ⟨h2.1, fun n => ?_⟩
    rw [List.foldl_cons, h2.2 n, h1.2.1 n, memR_cons, or_assoc]
def neR (r : Rng) : Bool := decide (r.to_ ≤ r.from_)
theorem memR_filter (l : List Rng) (n : Int) : memR (l.filter fun r => !neR r) n ↔ memR l n := by
  unfold memR
  constructor
  · rintro ⟨r, hr, h⟩; exact ⟨r, (List.mem_filter.1 hr).1, h⟩
  · rintro ⟨r, hr, h⟩; exact ⟨r, List.mem_filter.2 ⟨hr, by simp [neR]; omega⟩, h⟩
theorem normal_eq {l d : List Rng} (hp : d.Perm (l.filter fun r => !neR r)) (hs : d.Pairwise fun r s => r.from_ ≤ s.from_) : d.foldl joinS [] = ofL l := by
  have h := join_ok d .nil (fun r hr => by
    have := (List.mem_filter.1 (hp.mem_iff.1 hr)).2
    simp [neR] at this
    omega) hs (fun x hx => by cases hx)
  refine of_eq h.1 fun n => ?_
  rw [h.2 n, memR_perm hp, memR_filter]
  simp [memR_nil]
/-! ### Removing -/
def lftR (x r : Rng) : Rng := ⟨x.from_, min x.to_ r.from_⟩
def rgtR (x r : Rng) : Rng := ⟨max x.from_ r.to_, x.to_⟩
def pieces (s : List Rng) (r : Rng) : List Rng := s.flatMap fun x => [lftR x r, rgtR x r]
def part (r x : Rng) : List Rng := (if (lftR x r).from_ < (lftR x r).to_ then [lftR x r] else []) ++ (if (rgtR x r).from_ < (rgtR x r).to_ then [rgtR x r] else [])
def remL (s : List Rng) (r : Rng) : List Rng := s.flatMap (part r)
theorem part_mem {r x y : Rng} (h : y ∈ part r x) : x.from_ ≤ y.from_ ∧ y.to_ ≤ x.to_ ∧ y.from_ < y.to_ := by
  unfold part lftR rgtR at h
  simp only [List.mem_append] at h
  rcases h with h | h <;> split at h <;> simp at h
  · rw [h]; simp only at *; omega
  · rw [h]; simp only at *; omega
theorem part_set {r x : Rng} (hx : x.from_ < x.to_) (hr : r.from_ < r.to_) (n : Int) : memR (part r x) n ↔ (x.from_ ≤ n ∧ n < x.to_) ∧ ¬ (r.from_ ≤ n ∧ n < r.to_) := by
  unfold part lftR rgtR
  rw [memR_app]
  simp only
  constructor
  · rintro (h | h)
    · split at h
      · rw [memR_one] at h; simp only at h; omega
      · exact absurd h memR_nil
    · split at h
      · rw [memR_one] at h; simp only at h; omega
      · exact absurd h memR_nil
  · rintro ⟨h1, h2⟩
    by_cases h3 : n < r.from_
    · left
      rw [if_pos (by omega), memR_one]
      simp only; omega
    · right
      rw [if_pos (by omega), memR_one]
      simp only; omega
theorem memR_flat {f : Rng → List Rng} {s : List Rng} {n : Int} : memR (s.flatMap f) n ↔ ∃ x ∈ s, memR (f x) n := by
  unfold memR
  constructor
  · rintro ⟨y, hy, h⟩
    obtain ⟨x, hx, hy⟩ := List.mem_flatMap.1 hy
    exact ⟨x, hx, y, hy, h⟩
  · rintro ⟨x, hx, y, hy, h⟩
    exact ⟨y, List.mem_flatMap.2 ⟨x, hx, hy⟩, h⟩
theorem rem_ok {s : List Rng} {r : Rng} (h : Vld s) (hr : r.from_ < r.to_) : Vld (remL s r) ∧ ∀ n, memR (remL s r) n ↔ memR s n ∧ ¬ (r.from_ ≤ n ∧ n < r.to_) := by
  refine ⟨⟨fun y hy => ?_, ?_⟩, fun n => ?_⟩
  · obtain ⟨x, _, hy⟩ := List.mem_flatMap.1 hy
    exact (part_mem hy).2.2
  · unfold remL
    rw [List.pairwise_flatMap]
    refine ⟨fun x hx => ?_, h.ap.imp fun {a b} hab y hy z hz => ?_⟩
    · have := h.ne x hx
      unfold part lftR rgtR
      split <;> split <;> simp_all
      omega
    · have := part_mem hy
      have := part_mem hz
      omega
  · unfold remL
    rw [memR_flat]
    constructor
    · rintro ⟨x, hx, q⟩
      rw [part_set (h.ne x hx) hr] at q
      exact ⟨⟨x, hx, q.1⟩, q.2⟩
    · rintro ⟨⟨x, hx, q⟩, k⟩
      exact ⟨x, hx, (part_set (h.ne x hx) hr n).2 ⟨q, k⟩⟩
theorem pieces_mem {s : List Rng} {r : Rng} (hr : r.from_ < r.to_) (n : Int) : memR (pieces s r) n ↔ memR s n ∧ ¬ (r.from_ ≤ n ∧ n < r.to_) := by
  unfold pieces
  rw [memR_flat]
  have key : ∀ x : Rng, memR [lftR x r, rgtR x r] n ↔ (x.from_ ≤ n ∧ n < x.to_) ∧ ¬ (r.from_ ≤ n ∧ n < r.to_) := by
    intro x
    rw [memR_cons, memR_one]
    unfold lftR rgtR
    simp only
    omega
  constructor
  · rintro ⟨x, hx, q⟩
    rw [key] at q
    exact ⟨⟨x, hx, q.1⟩, q.2⟩
  · rintro ⟨⟨x, hx, q⟩, k⟩
    exact ⟨x, hx, (key x).2 ⟨q, k⟩⟩
def remF (s : List Rng) (r : Rng) : List Rng := if r.to_ ≤ r.from_ then s else remL s r
theorem remF_ok {s : List Rng} {r : Rng} (h : Vld s) : Vld (remF s r) ∧ ∀ n, memR (remF s r) n ↔ memR s n ∧ ¬ (r.from_ ≤ n ∧ n < r.to_) := by
  unfold remF
  split
  · exact ⟨h, fun n => ⟨fun q => ⟨q, by omega⟩, fun q => q.1⟩⟩
  · exact rem_ok h (by omega)
theorem pieces_of {s : List Rng} {r : Rng} (h : Vld s) (hr : r.from_ < r.to_) : ofL (pieces s r) = remL s r :=
  (of_eq (rem_ok h hr).1 fun n => by rw [(rem_ok h hr).2 n, pieces_mem hr n]).symm
theorem of_self {s : List Rng} (h : Vld s) : ofL s = s := (of_eq h fun _ => Iff.rfl).symm
theorem part_le1 {r x : Rng} (h : ¬ (x.from_ < r.from_ ∧ r.to_ < x.to_)) : (part r x).length ≤ 1 := by
  unfold part lftR rgtR
  simp only
  split <;> split <;> simp <;> omega
theorem rem_len_out {r : Rng} : ∀ {s : List Rng}, (∀ y ∈ s, r.from_ ≤ y.from_) → (remL s r).length ≤ s.length
  | [], _ => by simp [remL]
  | x :: s, h => by
    have h1 := rem_len_out (r := r) (s := s) fun y hy => h y (by simp [hy])
    have h2 := h x (by simp)
    have h3 := part_le1 (r := r) (x := x) (by omega)
    unfold remL at *
    rw [List.flatMap_cons, List.length_append, List.length_cons]
    omega
theorem part_two (r x : Rng) : (part r x).length ≤ 2 := by
  unfold part
  split <;> split <;> simp
theorem rem_len {r : Rng} : ∀ {s : List Rng}, Vld s → r.from_ < r.to_ → (remL s r).length ≤ s.length + 1
  | [], _, _ => by simp [remL]
  | x :: s, h, hr => by
    by_cases hc : x.from_ < r.from_ ∧ r.to_ < x.to_
    · have h1 := rem_len_out (r := r) (s := s) fun y hy => by have := h.head.2 y hy; omega
      have h2 := part_two r x
      unfold remL at *
      rw [List.flatMap_cons, List.length_append, List.length_cons]
      omega
    · have h1 := rem_len (r := r) h.tail hr
      have h2 := part_le1 hc
      unfold remL at *
      rw [List.flatMap_cons, List.length_append, List.length_cons]
      omega
theorem remF_len {s : List Rng} {r : Rng} (h : Vld s) : (remF s r).length ≤ s.length + 1 := by
  unfold remF
  split
  · omega
  · exact rem_len h (by omega)
/-- what is left of a range -/
def misL (l : List Rng) (t : Int) : List Rng := l.foldl remF (ofL [⟨0, t⟩])
theorem remFs_ok : ∀ (l : List Rng) {s : List Rng}, Vld s → Vld (l.foldl remF s) ∧ ∀ n, memR (l.foldl remF s) n ↔ memR s n ∧ ¬ memR l n
  | [], s, h => ⟨h, fun n => by simp [memR_nil]⟩
  | r :: l, s, h => by
    have h1 := remF_ok (r := r) h
    have h2 := remFs_ok l h1.1
    refine ⟨h2.1, fun n => ?_⟩
    rw [List.foldl_cons, h2.2 n, h1.2 n, memR_cons, not_or, and_assoc]
theorem mis_vld (l : List Rng) (t : Int) : Vld (misL l t) := (remFs_ok l (of_vld _)).1
theorem mis_mem (l : List Rng) (t n : Int) : memR (misL l t) n ↔ (0 ≤ n ∧ n < t) ∧ ¬ memR l n := by
  unfold misL
  rw [(remFs_ok l (of_vld _)).2 n, of_mem, memR_one]
theorem mis_of (l : List Rng) (t : Int) : misL (ofL l) t = misL l t := vld_one (mis_vld _ _) (mis_vld _ _) fun n => by rw [mis_mem, mis_mem, of_mem]
def hasB (l : List Rng) (n : Int) : Bool := l.any fun r => decide (r.from_ ≤ n) && decide (n < r.to_)
theorem hasB_iff {l : List Rng} {n : Int} : hasB l n = true ↔ memR l n := by
  unfold hasB memR
  rw [List.any_eq_true]
  constructor
  · rintro ⟨r, hr, h⟩; exact ⟨r, hr, by simpa using h⟩
  · rintro ⟨r, hr, h⟩; exact ⟨r, hr, by simpa using h⟩
def vldB (l : List Rng) : Bool := decide (∀ i, i < l.length → (rAt l i).from_ < (rAt l i).to_ ∧ (0 < i → (rAt l (i - 1)).to_ < (rAt l i).from_))
theorem rAt_mem {l : List Rng} {i : Nat} (h : i < l.length) : rAt l i ∈ l := by
  unfold rAt
  rw [List.getD_eq_getElem?_getD, List.getElem?_eq_getElem h]
  exact List.getElem_mem h
theorem vldB_of {l : List Rng} (h : Vld l) : vldB l = true := by
  unfold vldB
  rw [decide_eq_true_eq]
  intro i hi
  refine ⟨h.ne _ (rAt_mem hi), fun h0 => ?_⟩
  have := List.pairwise_iff_getElem.1 h.ap (i - 1) i (by omega) hi (by omega)
  simpa [rAt, List.getD_eq_getElem?_getD, List.getElem?_eq_getElem hi, List.getElem?_eq_getElem (show i - 1 < l.length by omega)] using this
end Go.V
