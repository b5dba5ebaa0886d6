/-
  T
-/
import Derived.Test.YthfcimcmmhnjmaaPart07
import Derived.Test.YthfcimcmmhnjmaaProg
import Derived.KernelRfl
set_option linter.unusedVariables false
set_option linter.unusedSimpArgs false
namespace Go.V
open Go.Proofs
theorem kd_2 : kdT Try.prog 2 = .int .i64 := by kernel_rfl
theorem sz_2 : szT Try.prog 2 = 1 := by kernel_rfl
theorem by_2 : bytesT Try.prog 2 = 8 := by kernel_rfl
theorem ze_2 : zeroT Try.prog 2 = some [.int .i64 0] := by kernel_rfl
theorem kd_3 : kdT Try.prog 3 = .int .i64 := by kernel_rfl
theorem sz_3 : szT Try.prog 3 = 1 := by kernel_rfl
theorem by_3 : bytesT Try.prog 3 = 8 := by kernel_rfl
theorem ze_3 : zeroT Try.prog 3 = some [.int .i64 0] := by kernel_rfl
theorem kd_4 : kdT Try.prog 4 = .bool := by kernel_rfl
theorem sz_4 : szT Try.prog 4 = 1 := by kernel_rfl
theorem by_4 : bytesT Try.prog 4 = 1 := by kernel_rfl
theorem ze_4 : zeroT Try.prog 4 = some [.bool false] := by kernel_rfl
theorem kd_5 : kdT Try.prog 5 = .int .u8 := by kernel_rfl
theorem sz_5 : szT Try.prog 5 = 1 := by kernel_rfl
theorem by_5 : bytesT Try.prog 5 = 1 := by kernel_rfl
theorem ze_5 : zeroT Try.prog 5 = some [.int .u8 0] := by kernel_rfl
theorem kd_6 : kdT Try.prog 6 = .int .u8 := by kernel_rfl
theorem sz_6 : szT Try.prog 6 = 1 := by kernel_rfl
theorem by_6 : bytesT Try.prog 6 = 1 := by kernel_rfl
theorem ze_6 : zeroT Try.prog 6 = some [.int .u8 0] := by kernel_rfl
theorem kd_7 : kdT Try.prog 7 = .struct := by kernel_rfl
theorem sz_7 : szT Try.prog 7 = 4 := by kernel_rfl
theorem by_7 : bytesT Try.prog 7 = 24 := by kernel_rfl
theorem ze_7 : zeroT Try.prog 7 = some [.int .i64 0, .int .i64 0, .bool false, .int .u8 0] := by kernel_rfl
theorem pl_7 : placesT Try.prog 7 = some [(0, 1), (1, 1), (2, 1), (3, 1)] := by kernel_rfl
theorem fl_7_0 : fldT Try.prog 7 0 = some (0, 2) := by kernel_rfl
theorem fl_7_1 : fldT Try.prog 7 1 = some (1, 3) := by kernel_rfl
theorem fl_7_2 : fldT Try.prog 7 2 = some (2, 4) := by kernel_rfl
theorem fl_7_3 : fldT Try.prog 7 3 = some (3, 6) := by kernel_rfl
theorem kd_8 : kdT Try.prog 8 = .struct := by kernel_rfl
theorem sz_8 : szT Try.prog 8 = 4 := by kernel_rfl
theorem by_8 : bytesT Try.prog 8 = 24 := by kernel_rfl
theorem ze_8 : zeroT Try.prog 8 = some [.int .i64 0, .int .i64 0, .bool false, .int .u8 0] := by kernel_rfl
theorem pl_8 : placesT Try.prog 8 = some [(0, 1), (1, 1), (2, 1), (3, 1)] := by kernel_rfl
theorem fl_8_0 : fldT Try.prog 8 0 = some (0, 2) := by kernel_rfl
theorem fl_8_1 : fldT Try.prog 8 1 = some (1, 3) := by kernel_rfl
theorem fl_8_2 : fldT Try.prog 8 2 = some (2, 4) := by kernel_rfl
theorem fl_8_3 : fldT Try.prog 8 3 = some (3, 6) := by kernel_rfl
theorem kd_9 : kdT Try.prog 9 = .str := by kernel_rfl
theorem sz_9 : szT Try.prog 9 = 1 := by kernel_rfl
theorem by_9 : bytesT Try.prog 9 = 16 := by kernel_rfl
theorem ze_9 : zeroT Try.prog 9 = some [.str []] := by kernel_rfl
theorem kd_10 : kdT Try.prog 10 = .str := by kernel_rfl
theorem sz_10 : szT Try.prog 10 = 1 := by kernel_rfl
theorem by_10 : bytesT Try.prog 10 = 16 := by kernel_rfl
theorem ze_10 : zeroT Try.prog 10 = some [.str []] := by kernel_rfl
theorem kd_11 : kdT Try.prog 11 = .str := by kernel_rfl
theorem sz_11 : szT Try.prog 11 = 1 := by kernel_rfl
theorem by_11 : bytesT Try.prog 11 = 16 := by kernel_rfl
theorem ze_11 : zeroT Try.prog 11 = some [.str []] := by kernel_rfl
theorem kd_12 : kdT Try.prog 12 = .int .u64 := by kernel_rfl
theorem sz_12 : szT Try.prog 12 = 1 := by kernel_rfl
theorem by_12 : bytesT Try.prog 12 = 8 := by kernel_rfl
theorem ze_12 : zeroT Try.prog 12 = some [.int .u64 0] := by kernel_rfl
theorem kd_13 : kdT Try.prog 13 = .struct := by kernel_rfl
theorem sz_13 : szT Try.prog 13 = 2 := by kernel_rfl
theorem by_13 : bytesT Try.prog 13 = 24 := by kernel_rfl
theorem ze_13 : zeroT Try.prog 13 = some [.str [], .int .u64 0] := by kernel_rfl
theorem pl_13 : placesT Try.prog 13 = some [(0, 1), (1, 1)] := by kernel_rfl
theorem fl_13_0 : fldT Try.prog 13 0 = some (0, 9) := by kernel_rfl
theorem fl_13_1 : fldT Try.prog 13 1 = some (1, 12) := by kernel_rfl
theorem kd_14 : kdT Try.prog 14 = .struct := by kernel_rfl
theorem sz_14 : szT Try.prog 14 = 2 := by kernel_rfl
theorem by_14 : bytesT Try.prog 14 = 24 := by kernel_rfl
theorem ze_14 : zeroT Try.prog 14 = some [.str [], .int .u64 0] := by kernel_rfl
theorem pl_14 : placesT Try.prog 14 = some [(0, 1), (1, 1)] := by kernel_rfl
theorem fl_14_0 : fldT Try.prog 14 0 = some (0, 9) := by kernel_rfl
theorem fl_14_1 : fldT Try.prog 14 1 = some (1, 12) := by kernel_rfl
theorem kd_15 : kdT Try.prog 15 = .ptr := by kernel_rfl
theorem sz_15 : szT Try.prog 15 = 1 := by kernel_rfl
theorem by_15 : bytesT Try.prog 15 = 8 := by kernel_rfl
theorem ze_15 : zeroT Try.prog 15 = some [.lit (.pointer none)] := by kernel_rfl
theorem kd_16 : kdT Try.prog 16 = .ptr := by kernel_rfl
theorem sz_16 : szT Try.prog 16 = 1 := by kernel_rfl
theorem by_16 : bytesT Try.prog 16 = 8 := by kernel_rfl
theorem ze_16 : zeroT Try.prog 16 = some [.lit (.pointer none)] := by kernel_rfl
theorem kd_17 : kdT Try.prog 17 = .ptr := by kernel_rfl
theorem sz_17 : szT Try.prog 17 = 1 := by kernel_rfl
theorem by_17 : bytesT Try.prog 17 = 8 := by kernel_rfl
theorem ze_17 : zeroT Try.prog 17 = some [.lit (.pointer none)] := by kernel_rfl
theorem kd_18 : kdT Try.prog 18 = .struct := by kernel_rfl
theorem sz_18 : szT Try.prog 18 = 1 := by kernel_rfl
theorem by_18 : bytesT Try.prog 18 = 8 := by kernel_rfl
theorem ze_18 : zeroT Try.prog 18 = some [.lit (.pointer none)] := by kernel_rfl
theorem pl_18 : placesT Try.prog 18 = some [(0, 1)] := by kernel_rfl
theorem fl_18_0 : fldT Try.prog 18 0 = some (0, 17) := by kernel_rfl
theorem kd_19 : kdT Try.prog 19 = .struct := by kernel_rfl
theorem sz_19 : szT Try.prog 19 = 1 := by kernel_rfl
theorem by_19 : bytesT Try.prog 19 = 8 := by kernel_rfl
theorem ze_19 : zeroT Try.prog 19 = some [.lit (.pointer none)] := by kernel_rfl
theorem pl_19 : placesT Try.prog 19 = some [(0, 1)] := by kernel_rfl
theorem fl_19_0 : fldT Try.prog 19 0 = some (0, 17) := by kernel_rfl
theorem kd_20 : kdT Try.prog 20 = .iface := by kernel_rfl
theorem sz_20 : szT Try.prog 20 = 1 := by kernel_rfl
theorem by_20 : bytesT Try.prog 20 = 16 := by kernel_rfl
theorem ze_20 : zeroT Try.prog 20 = some [.lit .nilIface] := by kernel_rfl
theorem kd_21 : kdT Try.prog 21 = .int .i32 := by kernel_rfl
theorem sz_21 : szT Try.prog 21 = 1 := by kernel_rfl
theorem by_21 : bytesT Try.prog 21 = 4 := by kernel_rfl
theorem ze_21 : zeroT Try.prog 21 = some [.int .i32 0] := by kernel_rfl
theorem kd_22 : kdT Try.prog 22 = .slice 5 := by kernel_rfl
theorem sz_22 : szT Try.prog 22 = 1 := by kernel_rfl
theorem by_22 : bytesT Try.prog 22 = 24 := by kernel_rfl
theorem ze_22 : zeroT Try.prog 22 = some [.lit (.slice none 0 0)] := by kernel_rfl
theorem kd_23 : kdT Try.prog 23 = .slice 81 := by kernel_rfl
theorem sz_23 : szT Try.prog 23 = 1 := by kernel_rfl
theorem by_23 : bytesT Try.prog 23 = 24 := by kernel_rfl
theorem ze_23 : zeroT Try.prog 23 = some [.lit (.slice none 0 0)] := by kernel_rfl
theorem kd_24 : kdT Try.prog 24 = .slice 3 := by kernel_rfl
theorem sz_24 : szT Try.prog 24 = 1 := by kernel_rfl
theorem by_24 : bytesT Try.prog 24 = 24 := by kernel_rfl
theorem ze_24 : zeroT Try.prog 24 = some [.lit (.slice none 0 0)] := by kernel_rfl
theorem kd_25 : kdT Try.prog 25 = .slice 49 := by kernel_rfl
theorem sz_25 : szT Try.prog 25 = 1 := by kernel_rfl
theorem by_25 : bytesT Try.prog 25 = 24 := by kernel_rfl
theorem ze_25 : zeroT Try.prog 25 = some [.lit (.slice none 0 0)] := by kernel_rfl
theorem kd_26 : kdT Try.prog 26 = .struct := by kernel_rfl
theorem sz_26 : szT Try.prog 26 = 8 := by kernel_rfl
theorem by_26 : bytesT Try.prog 26 = 128 := by kernel_rfl
theorem ze_26 : zeroT Try.prog 26 = some [.int .i64 0, .int .i64 0, .int .i64 0, .lit (.slice none 0 0), .lit (.slice none 0 0), .lit (.slice none 0 0), .lit (.slice none 0 0), .int .i64 0] := by kernel_rfl
theorem pl_26 : placesT Try.prog 26 = some [(0, 1), (1, 1), (2, 1), (3, 1), (4, 1), (5, 1), (6, 1), (7, 1)] := by kernel_rfl
theorem fl_26_0 : fldT Try.prog 26 0 = some (0, 3) := by kernel_rfl
theorem fl_26_1 : fldT Try.prog 26 1 = some (1, 3) := by kernel_rfl
theorem fl_26_2 : fldT Try.prog 26 2 = some (2, 3) := by kernel_rfl
theorem fl_26_3 : fldT Try.prog 26 3 = some (3, 22) := by kernel_rfl
theorem fl_26_4 : fldT Try.prog 26 4 = some (4, 23) := by kernel_rfl
theorem fl_26_5 : fldT Try.prog 26 5 = some (5, 24) := by kernel_rfl
theorem fl_26_6 : fldT Try.prog 26 6 = some (6, 25) := by kernel_rfl
theorem fl_26_7 : fldT Try.prog 26 7 = some (7, 3) := by kernel_rfl
theorem kd_27 : kdT Try.prog 27 = .struct := by kernel_rfl
theorem sz_27 : szT Try.prog 27 = 8 := by kernel_rfl
theorem by_27 : bytesT Try.prog 27 = 128 := by kernel_rfl
theorem ze_27 : zeroT Try.prog 27 = some [.int .i64 0, .int .i64 0, .int .i64 0, .lit (.slice none 0 0), .lit (.slice none 0 0), .lit (.slice none 0 0), .lit (.slice none 0 0), .int .i64 0] := by kernel_rfl
theorem pl_27 : placesT Try.prog 27 = some [(0, 1), (1, 1), (2, 1), (3, 1), (4, 1), (5, 1), (6, 1), (7, 1)] := by kernel_rfl
theorem fl_27_0 : fldT Try.prog 27 0 = some (0, 3) := by kernel_rfl
theorem fl_27_1 : fldT Try.prog 27 1 = some (1, 3) := by kernel_rfl
theorem fl_27_2 : fldT Try.prog 27 2 = some (2, 3) := by kernel_rfl
theorem fl_27_3 : fldT Try.prog 27 3 = some (3, 22) := by kernel_rfl
theorem fl_27_4 : fldT Try.prog 27 4 = some (4, 23) := by kernel_rfl
theorem fl_27_5 : fldT Try.prog 27 5 = some (5, 24) := by kernel_rfl
theorem fl_27_6 : fldT Try.prog 27 6 = some (6, 25) := by kernel_rfl
theorem fl_27_7 : fldT Try.prog 27 7 = some (7, 3) := by kernel_rfl
theorem kd_30 : kdT Try.prog 30 = .int .i64 := by kernel_rfl
theorem sz_30 : szT Try.prog 30 = 1 := by kernel_rfl
theorem by_30 : bytesT Try.prog 30 = 8 := by kernel_rfl
theorem ze_30 : zeroT Try.prog 30 = some [.int .i64 0] := by kernel_rfl
theorem kd_42 : kdT Try.prog 42 = .ptr := by kernel_rfl
theorem sz_42 : szT Try.prog 42 = 1 := by kernel_rfl
theorem by_42 : bytesT Try.prog 42 = 8 := by kernel_rfl
theorem ze_42 : zeroT Try.prog 42 = some [.lit (.pointer none)] := by kernel_rfl
theorem kd_46 : kdT Try.prog 46 = .int .u64 := by kernel_rfl
theorem sz_46 : szT Try.prog 46 = 1 := by kernel_rfl
theorem by_46 : bytesT Try.prog 46 = 8 := by kernel_rfl
theorem ze_46 : zeroT Try.prog 46 = some [.int .u64 0] := by kernel_rfl
theorem kd_48 : kdT Try.prog 48 = .struct := by kernel_rfl
theorem sz_48 : szT Try.prog 48 = 2 := by kernel_rfl
theorem by_48 : bytesT Try.prog 48 = 16 := by kernel_rfl
theorem ze_48 : zeroT Try.prog 48 = some [.int .i64 0, .int .i64 0] := by kernel_rfl
theorem pl_48 : placesT Try.prog 48 = some [(0, 1), (1, 1)] := by kernel_rfl
theorem fl_48_0 : fldT Try.prog 48 0 = some (0, 3) := by kernel_rfl
theorem fl_48_1 : fldT Try.prog 48 1 = some (1, 3) := by kernel_rfl
theorem kd_49 : kdT Try.prog 49 = .struct := by kernel_rfl
theorem sz_49 : szT Try.prog 49 = 2 := by kernel_rfl
theorem by_49 : bytesT Try.prog 49 = 16 := by kernel_rfl
theorem ze_49 : zeroT Try.prog 49 = some [.int .i64 0, .int .i64 0] := by kernel_rfl
theorem pl_49 : placesT Try.prog 49 = some [(0, 1), (1, 1)] := by kernel_rfl
theorem fs_49 : fldsT Try.prog 49 = some [(0, 3), (1, 3)] := by kernel_rfl
theorem fl_49_0 : fldT Try.prog 49 0 = some (0, 3) := by kernel_rfl
theorem fl_49_1 : fldT Try.prog 49 1 = some (1, 3) := by kernel_rfl
theorem kd_51 : kdT Try.prog 51 = .struct := by kernel_rfl
theorem sz_51 : szT Try.prog 51 = 2 := by kernel_rfl
theorem by_51 : bytesT Try.prog 51 = 32 := by kernel_rfl
theorem ze_51 : zeroT Try.prog 51 = some [.int .i64 0, .lit (.slice none 0 0)] := by kernel_rfl
theorem pl_51 : placesT Try.prog 51 = some [(0, 1), (1, 1)] := by kernel_rfl
theorem fl_51_0 : fldT Try.prog 51 0 = some (0, 3) := by kernel_rfl
theorem fl_51_1 : fldT Try.prog 51 1 = some (1, 24) := by kernel_rfl
theorem kd_52 : kdT Try.prog 52 = .struct := by kernel_rfl
theorem sz_52 : szT Try.prog 52 = 2 := by kernel_rfl
theorem by_52 : bytesT Try.prog 52 = 32 := by kernel_rfl
theorem ze_52 : zeroT Try.prog 52 = some [.int .i64 0, .lit (.slice none 0 0)] := by kernel_rfl
theorem pl_52 : placesT Try.prog 52 = some [(0, 1), (1, 1)] := by kernel_rfl
theorem fl_52_0 : fldT Try.prog 52 0 = some (0, 3) := by kernel_rfl
theorem fl_52_1 : fldT Try.prog 52 1 = some (1, 24) := by kernel_rfl
theorem kd_53 : kdT Try.prog 53 = .array 16 52 := by kernel_rfl
theorem sz_53 : szT Try.prog 53 = 32 := by kernel_rfl
theorem by_53 : bytesT Try.prog 53 = 512 := by kernel_rfl
theorem ze_53 : zeroT Try.prog 53 = some [.int .i64 0, .lit (.slice none 0 0), .int .i64 0, .lit (.slice none 0 0), .int .i64 0, .lit (.slice none 0 0), .int .i64 0, .lit (.slice none 0 0), .int .i64 0, .lit (.slice none 0 0), .int .i64 0, .lit (.slice none 0 0), .int .i64 0, .lit (.slice none 0 0), .int .i64 0, .lit (.slice none 0 0), .int .i64 0, .lit (.slice none 0 0), .int .i64 0, .lit (.slice none 0 0), .int .i64 0, .lit (.slice none 0 0), .int .i64 0, .lit (.slice none 0 0), .int .i64 0, .lit (.slice none 0 0), .int .i64 0, .lit (.slice none 0 0), .int .i64 0, .lit (.slice none 0 0), .int .i64 0, .lit (.slice none 0 0)] := by kernel_rfl
theorem kd_54 : kdT Try.prog 54 = .array 16 52 := by kernel_rfl
theorem sz_54 : szT Try.prog 54 = 32 := by kernel_rfl
theorem by_54 : bytesT Try.prog 54 = 512 := by kernel_rfl
theorem ze_54 : zeroT Try.prog 54 = some [.int .i64 0, .lit (.slice none 0 0), .int .i64 0, .lit (.slice none 0 0), .int .i64 0, .lit (.slice none 0 0), .int .i64 0, .lit (.slice none 0 0), .int .i64 0, .lit (.slice none 0 0), .int .i64 0, .lit (.slice none 0 0), .int .i64 0, .lit (.slice none 0 0), .int .i64 0, .lit (.slice none 0 0), .int .i64 0, .lit (.slice none 0 0), .int .i64 0, .lit (.slice none 0 0), .int .i64 0, .lit (.slice none 0 0), .int .i64 0, .lit (.slice none 0 0), .int .i64 0, .lit (.slice none 0 0), .int .i64 0, .lit (.slice none 0 0), .int .i64 0, .lit (.slice none 0 0), .int .i64 0, .lit (.slice none 0 0)] := by kernel_rfl
theorem kd_60 : kdT Try.prog 60 = .ptr := by kernel_rfl
theorem sz_60 : szT Try.prog 60 = 1 := by kernel_rfl
theorem by_60 : bytesT Try.prog 60 = 8 := by kernel_rfl
theorem ze_60 : zeroT Try.prog 60 = some [.lit (.pointer none)] := by kernel_rfl
theorem kd_66 : kdT Try.prog 66 = .ptr := by kernel_rfl
theorem sz_66 : szT Try.prog 66 = 1 := by kernel_rfl
theorem by_66 : bytesT Try.prog 66 = 8 := by kernel_rfl
theorem ze_66 : zeroT Try.prog 66 = some [.lit (.pointer none)] := by kernel_rfl
theorem kd_74 : kdT Try.prog 74 = .ptr := by kernel_rfl
theorem sz_74 : szT Try.prog 74 = 1 := by kernel_rfl
theorem by_74 : bytesT Try.prog 74 = 8 := by kernel_rfl
theorem ze_74 : zeroT Try.prog 74 = some [.lit (.pointer none)] := by kernel_rfl
theorem kd_75 : kdT Try.prog 75 = .struct := by kernel_rfl
theorem sz_75 : szT Try.prog 75 = 2 := by kernel_rfl
theorem by_75 : bytesT Try.prog 75 = 32 := by kernel_rfl
theorem ze_75 : zeroT Try.prog 75 = some [.lit (.slice none 0 0), .bool false] := by kernel_rfl
theorem pl_75 : placesT Try.prog 75 = some [(0, 1), (1, 1)] := by kernel_rfl
theorem fl_75_0 : fldT Try.prog 75 0 = some (0, 22) := by kernel_rfl
theorem fl_75_1 : fldT Try.prog 75 1 = some (1, 4) := by kernel_rfl
theorem kd_76 : kdT Try.prog 76 = .struct := by kernel_rfl
theorem sz_76 : szT Try.prog 76 = 2 := by kernel_rfl
theorem by_76 : bytesT Try.prog 76 = 32 := by kernel_rfl
theorem ze_76 : zeroT Try.prog 76 = some [.lit (.slice none 0 0), .bool false] := by kernel_rfl
theorem pl_76 : placesT Try.prog 76 = some [(0, 1), (1, 1)] := by kernel_rfl
theorem fl_76_0 : fldT Try.prog 76 0 = some (0, 22) := by kernel_rfl
theorem fl_76_1 : fldT Try.prog 76 1 = some (1, 4) := by kernel_rfl
theorem kd_78 : kdT Try.prog 78 = .struct := by kernel_rfl
theorem sz_78 : szT Try.prog 78 = 5 := by kernel_rfl
theorem by_78 : bytesT Try.prog 78 = 72 := by kernel_rfl
theorem ze_78 : zeroT Try.prog 78 = some [.int .i64 0, .int .i64 0, .int .i64 0, .lit (.slice none 0 0), .lit (.slice none 0 0)] := by kernel_rfl
theorem pl_78 : placesT Try.prog 78 = some [(0, 1), (1, 1), (2, 1), (3, 1), (4, 1)] := by kernel_rfl
theorem fl_78_0 : fldT Try.prog 78 0 = some (0, 3) := by kernel_rfl
theorem fl_78_1 : fldT Try.prog 78 1 = some (1, 3) := by kernel_rfl
theorem fl_78_2 : fldT Try.prog 78 2 = some (2, 3) := by kernel_rfl
theorem fl_78_3 : fldT Try.prog 78 3 = some (3, 24) := by kernel_rfl
theorem fl_78_4 : fldT Try.prog 78 4 = some (4, 22) := by kernel_rfl
theorem kd_79 : kdT Try.prog 79 = .struct := by kernel_rfl
theorem sz_79 : szT Try.prog 79 = 5 := by kernel_rfl
theorem by_79 : bytesT Try.prog 79 = 72 := by kernel_rfl
theorem ze_79 : zeroT Try.prog 79 = some [.int .i64 0, .int .i64 0, .int .i64 0, .lit (.slice none 0 0), .lit (.slice none 0 0)] := by kernel_rfl
theorem pl_79 : placesT Try.prog 79 = some [(0, 1), (1, 1), (2, 1), (3, 1), (4, 1)] := by kernel_rfl
theorem fl_79_0 : fldT Try.prog 79 0 = some (0, 3) := by kernel_rfl
theorem fl_79_1 : fldT Try.prog 79 1 = some (1, 3) := by kernel_rfl
theorem fl_79_2 : fldT Try.prog 79 2 = some (2, 3) := by kernel_rfl
theorem fl_79_3 : fldT Try.prog 79 3 = some (3, 24) := by kernel_rfl
theorem fl_79_4 : fldT Try.prog 79 4 = some (4, 22) := by kernel_rfl
theorem kd_80 : kdT Try.prog 80 = .struct := by kernel_rfl
theorem sz_80 : szT Try.prog 80 = 8 := by kernel_rfl
theorem by_80 : bytesT Try.prog 80 = 96 := by kernel_rfl
theorem ze_80 : zeroT Try.prog 80 = some [.int .i64 0, .int .i64 0, .int .i64 0, .int .i64 0, .int .i64 0, .int .i64 0, .lit (.slice none 0 0), .lit (.slice none 0 0)] := by kernel_rfl
theorem pl_80 : placesT Try.prog 80 = some [(0, 1), (1, 1), (2, 1), (3, 5)] := by kernel_rfl
theorem fl_80_0 : fldT Try.prog 80 0 = some (0, 3) := by kernel_rfl
theorem fl_80_1 : fldT Try.prog 80 1 = some (1, 3) := by kernel_rfl
theorem fl_80_2 : fldT Try.prog 80 2 = some (2, 3) := by kernel_rfl
theorem fl_80_3 : fldT Try.prog 80 3 = some (3, 79) := by kernel_rfl
theorem kd_81 : kdT Try.prog 81 = .struct := by kernel_rfl
theorem sz_81 : szT Try.prog 81 = 8 := by kernel_rfl
theorem by_81 : bytesT Try.prog 81 = 96 := by kernel_rfl
theorem ze_81 : zeroT Try.prog 81 = some [.int .i64 0, .int .i64 0, .int .i64 0, .int .i64 0, .int .i64 0, .int .i64 0, .lit (.slice none 0 0), .lit (.slice none 0 0)] := by kernel_rfl
theorem pl_81 : placesT Try.prog 81 = some [(0, 1), (1, 1), (2, 1), (3, 5)] := by kernel_rfl
theorem fl_81_0 : fldT Try.prog 81 0 = some (0, 3) := by kernel_rfl
theorem fl_81_1 : fldT Try.prog 81 1 = some (1, 3) := by kernel_rfl
theorem fl_81_2 : fldT Try.prog 81 2 = some (2, 3) := by kernel_rfl
theorem fl_81_3 : fldT Try.prog 81 3 = some (3, 79) := by kernel_rfl
theorem kd_84 : kdT Try.prog 84 = .struct := by kernel_rfl
theorem sz_84 : szT Try.prog 84 = 2 := by kernel_rfl
theorem by_84 : bytesT Try.prog 84 = 32 := by kernel_rfl
theorem ze_84 : zeroT Try.prog 84 = some [.bool false, .lit (.slice none 0 0)] := by kernel_rfl
theorem pl_84 : placesT Try.prog 84 = some [(0, 1), (1, 1)] := by kernel_rfl
theorem fl_84_0 : fldT Try.prog 84 0 = some (0, 4) := by kernel_rfl
theorem fl_84_1 : fldT Try.prog 84 1 = some (1, 22) := by kernel_rfl
theorem kd_85 : kdT Try.prog 85 = .struct := by kernel_rfl
theorem sz_85 : szT Try.prog 85 = 2 := by kernel_rfl
theorem by_85 : bytesT Try.prog 85 = 32 := by kernel_rfl
theorem ze_85 : zeroT Try.prog 85 = some [.bool false, .lit (.slice none 0 0)] := by kernel_rfl
theorem pl_85 : placesT Try.prog 85 = some [(0, 1), (1, 1)] := by kernel_rfl
theorem fl_85_0 : fldT Try.prog 85 0 = some (0, 4) := by kernel_rfl
theorem fl_85_1 : fldT Try.prog 85 1 = some (1, 22) := by kernel_rfl
theorem kd_86 : kdT Try.prog 86 = .int .u64 := by kernel_rfl
theorem sz_86 : szT Try.prog 86 = 1 := by kernel_rfl
theorem by_86 : bytesT Try.prog 86 = 8 := by kernel_rfl
theorem ze_86 : zeroT Try.prog 86 = some [.int .u64 0] := by kernel_rfl
theorem kd_93 : kdT Try.prog 93 = .struct := by kernel_rfl
theorem sz_93 : szT Try.prog 93 = 2 := by kernel_rfl
theorem by_93 : bytesT Try.prog 93 = 16 := by kernel_rfl
theorem ze_93 : zeroT Try.prog 93 = some [.int .i64 0, .int .u64 0] := by kernel_rfl
theorem pl_93 : placesT Try.prog 93 = some [(0, 1), (1, 1)] := by kernel_rfl
theorem fl_93_0 : fldT Try.prog 93 0 = some (0, 3) := by kernel_rfl
theorem fl_93_1 : fldT Try.prog 93 1 = some (1, 46) := by kernel_rfl
theorem kd_94 : kdT Try.prog 94 = .struct := by kernel_rfl
theorem sz_94 : szT Try.prog 94 = 2 := by kernel_rfl
theorem by_94 : bytesT Try.prog 94 = 16 := by kernel_rfl
theorem ze_94 : zeroT Try.prog 94 = some [.int .i64 0, .int .u64 0] := by kernel_rfl
theorem pl_94 : placesT Try.prog 94 = some [(0, 1), (1, 1)] := by kernel_rfl
theorem fs_94 : fldsT Try.prog 94 = some [(0, 3), (1, 46)] := by kernel_rfl
theorem fl_94_0 : fldT Try.prog 94 0 = some (0, 3) := by kernel_rfl
theorem fl_94_1 : fldT Try.prog 94 1 = some (1, 46) := by kernel_rfl
theorem kd_95 : kdT Try.prog 95 = .array 16 94 := by kernel_rfl
theorem sz_95 : szT Try.prog 95 = 32 := by kernel_rfl
theorem by_95 : bytesT Try.prog 95 = 256 := by kernel_rfl
theorem ze_95 : zeroT Try.prog 95 = some [.int .i64 0, .int .u64 0, .int .i64 0, .int .u64 0, .int .i64 0, .int .u64 0, .int .i64 0, .int .u64 0, .int .i64 0, .int .u64 0, .int .i64 0, .int .u64 0, .int .i64 0, .int .u64 0, .int .i64 0, .int .u64 0, .int .i64 0, .int .u64 0, .int .i64 0, .int .u64 0, .int .i64 0, .int .u64 0, .int .i64 0, .int .u64 0, .int .i64 0, .int .u64 0, .int .i64 0, .int .u64 0, .int .i64 0, .int .u64 0, .int .i64 0, .int .u64 0] := by kernel_rfl
theorem kd_96 : kdT Try.prog 96 = .struct := by kernel_rfl
theorem sz_96 : szT Try.prog 96 = 33 := by kernel_rfl
theorem by_96 : bytesT Try.prog 96 = 264 := by kernel_rfl
theorem ze_96 : zeroT Try.prog 96 = some [.bool false, .int .i64 0, .int .u64 0, .int .i64 0, .int .u64 0, .int .i64 0, .int .u64 0, .int .i64 0, .int .u64 0, .int .i64 0, .int .u64 0, .int .i64 0, .int .u64 0, .int .i64 0, .int .u64 0, .int .i64 0, .int .u64 0, .int .i64 0, .int .u64 0, .int .i64 0, .int .u64 0, .int .i64 0, .int .u64 0, .int .i64 0, .int .u64 0, .int .i64 0, .int .u64 0, .int .i64 0, .int .u64 0, .int .i64 0, .int .u64 0, .int .i64 0, .int .u64 0] := by kernel_rfl
theorem pl_96 : placesT Try.prog 96 = some [(0, 1), (1, 32)] := by kernel_rfl
theorem fl_96_0 : fldT Try.prog 96 0 = some (0, 4) := by kernel_rfl
theorem fl_96_1 : fldT Try.prog 96 1 = some (1, 95) := by kernel_rfl
theorem kd_97 : kdT Try.prog 97 = .struct := by kernel_rfl
theorem sz_97 : szT Try.prog 97 = 33 := by kernel_rfl
theorem by_97 : bytesT Try.prog 97 = 264 := by kernel_rfl
theorem ze_97 : zeroT Try.prog 97 = some [.bool false, .int .i64 0, .int .u64 0, .int .i64 0, .int .u64 0, .int .i64 0, .int .u64 0, .int .i64 0, .int .u64 0, .int .i64 0, .int .u64 0, .int .i64 0, .int .u64 0, .int .i64 0, .int .u64 0, .int .i64 0, .int .u64 0, .int .i64 0, .int .u64 0, .int .i64 0, .int .u64 0, .int .i64 0, .int .u64 0, .int .i64 0, .int .u64 0, .int .i64 0, .int .u64 0, .int .i64 0, .int .u64 0, .int .i64 0, .int .u64 0, .int .i64 0, .int .u64 0] := by kernel_rfl
theorem pl_97 : placesT Try.prog 97 = some [(0, 1), (1, 32)] := by kernel_rfl
theorem fl_97_0 : fldT Try.prog 97 0 = some (0, 4) := by kernel_rfl
theorem fl_97_1 : fldT Try.prog 97 1 = some (1, 95) := by kernel_rfl
theorem kd_98 : kdT Try.prog 98 = .struct := by kernel_rfl
theorem sz_98 : szT Try.prog 98 = 3 := by kernel_rfl
theorem by_98 : bytesT Try.prog 98 = 32 := by kernel_rfl
theorem ze_98 : zeroT Try.prog 98 = some [.bool false, .bool false, .lit (.slice none 0 0)] := by kernel_rfl
theorem pl_98 : placesT Try.prog 98 = some [(0, 1), (1, 1), (2, 1)] := by kernel_rfl
theorem fl_98_0 : fldT Try.prog 98 0 = some (0, 4) := by kernel_rfl
theorem fl_98_1 : fldT Try.prog 98 1 = some (1, 4) := by kernel_rfl
theorem fl_98_2 : fldT Try.prog 98 2 = some (2, 22) := by kernel_rfl
theorem kd_99 : kdT Try.prog 99 = .struct := by kernel_rfl
theorem sz_99 : szT Try.prog 99 = 3 := by kernel_rfl
theorem by_99 : bytesT Try.prog 99 = 32 := by kernel_rfl
theorem ze_99 : zeroT Try.prog 99 = some [.bool false, .bool false, .lit (.slice none 0 0)] := by kernel_rfl
theorem pl_99 : placesT Try.prog 99 = some [(0, 1), (1, 1), (2, 1)] := by kernel_rfl
theorem fl_99_0 : fldT Try.prog 99 0 = some (0, 4) := by kernel_rfl
theorem fl_99_1 : fldT Try.prog 99 1 = some (1, 4) := by kernel_rfl
theorem fl_99_2 : fldT Try.prog 99 2 = some (2, 22) := by kernel_rfl
theorem kd_112 : kdT Try.prog 112 = .map 3 4 := by kernel_rfl
theorem sz_112 : szT Try.prog 112 = 1 := by kernel_rfl
theorem by_112 : bytesT Try.prog 112 = 8 := by kernel_rfl
theorem ze_112 : zeroT Try.prog 112 = some [.lit (.map none)] := by kernel_rfl
theorem kd_115 : kdT Try.prog 115 = .struct := by kernel_rfl
theorem sz_115 : szT Try.prog 115 = 5 := by kernel_rfl
theorem by_115 : bytesT Try.prog 115 = 48 := by kernel_rfl
theorem ze_115 : zeroT Try.prog 115 = some [.str [], .int .i64 0, .bool false, .int .i64 0, .int .i64 0] := by kernel_rfl
theorem pl_115 : placesT Try.prog 115 = some [(0, 1), (1, 1), (2, 1), (3, 1), (4, 1)] := by kernel_rfl
theorem fl_115_0 : fldT Try.prog 115 0 = some (0, 9) := by kernel_rfl
theorem fl_115_1 : fldT Try.prog 115 1 = some (1, 3) := by kernel_rfl
theorem fl_115_2 : fldT Try.prog 115 2 = some (2, 4) := by kernel_rfl
theorem fl_115_3 : fldT Try.prog 115 3 = some (3, 3) := by kernel_rfl
theorem fl_115_4 : fldT Try.prog 115 4 = some (4, 3) := by kernel_rfl
theorem kd_116 : kdT Try.prog 116 = .struct := by kernel_rfl
theorem sz_116 : szT Try.prog 116 = 5 := by kernel_rfl
theorem by_116 : bytesT Try.prog 116 = 48 := by kernel_rfl
theorem ze_116 : zeroT Try.prog 116 = some [.str [], .int .i64 0, .bool false, .int .i64 0, .int .i64 0] := by kernel_rfl
theorem pl_116 : placesT Try.prog 116 = some [(0, 1), (1, 1), (2, 1), (3, 1), (4, 1)] := by kernel_rfl
theorem fs_116 : fldsT Try.prog 116 = some [(0, 9), (1, 3), (2, 4), (3, 3), (4, 3)] := by kernel_rfl
theorem fl_116_0 : fldT Try.prog 116 0 = some (0, 9) := by kernel_rfl
theorem fl_116_1 : fldT Try.prog 116 1 = some (1, 3) := by kernel_rfl
theorem fl_116_2 : fldT Try.prog 116 2 = some (2, 4) := by kernel_rfl
theorem fl_116_3 : fldT Try.prog 116 3 = some (3, 3) := by kernel_rfl
theorem fl_116_4 : fldT Try.prog 116 4 = some (4, 3) := by kernel_rfl
theorem kd_122 : kdT Try.prog 122 = .array 29 116 := by kernel_rfl
theorem sz_122 : szT Try.prog 122 = 145 := by kernel_rfl
theorem by_122 : bytesT Try.prog 122 = 1392 := by kernel_rfl
theorem ze_122 : zeroT Try.prog 122 = some [.str [], .int .i64 0, .bool false, .int .i64 0, .int .i64 0, .str [], .int .i64 0, .bool false, .int .i64 0, .int .i64 0, .str [], .int .i64 0, .bool false, .int .i64 0, .int .i64 0, .str [], .int .i64 0, .bool false, .int .i64 0, .int .i64 0, .str [], .int .i64 0, .bool false, .int .i64 0, .int .i64 0, .str [], .int .i64 0, .bool false, .int .i64 0, .int .i64 0, .str [], .int .i64 0, .bool false, .int .i64 0, .int .i64 0, .str [], .int .i64 0, .bool false, .int .i64 0, .int .i64 0, .str [], .int .i64 0, .bool false, .int .i64 0, .int .i64 0, .str [], .int .i64 0, .bool false, .int .i64 0, .int .i64 0, .str [], .int .i64 0, .bool false, .int .i64 0, .int .i64 0, .str [], .int .i64 0, .bool false, .int .i64 0, .int .i64 0, .str [], .int .i64 0, .bool false, .int .i64 0, .int .i64 0, .str [], .int .i64 0, .bool false, .int .i64 0, .int .i64 0, .str [], .int .i64 0, .bool false, .int .i64 0, .int .i64 0, .str [], .int .i64 0, .bool false, .int .i64 0, .int .i64 0, .str [], .int .i64 0, .bool false, .int .i64 0, .int .i64 0, .str [], .int .i64 0, .bool false, .int .i64 0, .int .i64 0, .str [], .int .i64 0, .bool false, .int .i64 0, .int .i64 0, .str [], .int .i64 0, .bool false, .int .i64 0, .int .i64 0, .str [], .int .i64 0, .bool false, .int .i64 0, .int .i64 0, .str [], .int .i64 0, .bool false, .int .i64 0, .int .i64 0, .str [], .int .i64 0, .bool false, .int .i64 0, .int .i64 0, .str [], .int .i64 0, .bool false, .int .i64 0, .int .i64 0, .str [], .int .i64 0, .bool false, .int .i64 0, .int .i64 0, .str [], .int .i64 0, .bool false, .int .i64 0, .int .i64 0, .str [], .int .i64 0, .bool false, .int .i64 0, .int .i64 0, .str [], .int .i64 0, .bool false, .int .i64 0, .int .i64 0, .str [], .int .i64 0, .bool false, .int .i64 0, .int .i64 0] := by kernel_rfl
theorem kd_125 : kdT Try.prog 125 = .slice 24 := by kernel_rfl
theorem sz_125 : szT Try.prog 125 = 1 := by kernel_rfl
theorem by_125 : bytesT Try.prog 125 = 24 := by kernel_rfl
theorem ze_125 : zeroT Try.prog 125 = some [.lit (.slice none 0 0)] := by kernel_rfl
theorem kd_127 : kdT Try.prog 127 = .struct := by kernel_rfl
theorem sz_127 : szT Try.prog 127 = 4 := by kernel_rfl
theorem by_127 : bytesT Try.prog 127 = 40 := by kernel_rfl
theorem ze_127 : zeroT Try.prog 127 = some [.lit (.pointer none), .lit (.pointer none), .lit (.pointer none), .str []] := by kernel_rfl
theorem pl_127 : placesT Try.prog 127 = some [(0, 1), (1, 1), (2, 1), (3, 1)] := by kernel_rfl
theorem fl_127_0 : fldT Try.prog 127 0 = some (0, 17) := by kernel_rfl
theorem fl_127_1 : fldT Try.prog 127 1 = some (1, 17) := by kernel_rfl
theorem fl_127_2 : fldT Try.prog 127 2 = some (2, 17) := by kernel_rfl
theorem fl_127_3 : fldT Try.prog 127 3 = some (3, 9) := by kernel_rfl
theorem kd_128 : kdT Try.prog 128 = .struct := by kernel_rfl
theorem sz_128 : szT Try.prog 128 = 4 := by kernel_rfl
theorem by_128 : bytesT Try.prog 128 = 40 := by kernel_rfl
theorem ze_128 : zeroT Try.prog 128 = some [.lit (.pointer none), .lit (.pointer none), .lit (.pointer none), .str []] := by kernel_rfl
theorem pl_128 : placesT Try.prog 128 = some [(0, 1), (1, 1), (2, 1), (3, 1)] := by kernel_rfl
theorem fl_128_0 : fldT Try.prog 128 0 = some (0, 17) := by kernel_rfl
theorem fl_128_1 : fldT Try.prog 128 1 = some (1, 17) := by kernel_rfl
theorem fl_128_2 : fldT Try.prog 128 2 = some (2, 17) := by kernel_rfl
theorem fl_128_3 : fldT Try.prog 128 3 = some (3, 9) := by kernel_rfl
theorem kd_129 : kdT Try.prog 129 = .array 0 16 := by kernel_rfl
theorem sz_129 : szT Try.prog 129 = 0 := by kernel_rfl
theorem by_129 : bytesT Try.prog 129 = 0 := by kernel_rfl
theorem ze_129 : zeroT Try.prog 129 = some [] := by kernel_rfl
theorem kd_130 : kdT Try.prog 130 = .struct := by kernel_rfl
theorem sz_130 : szT Try.prog 130 = 0 := by kernel_rfl
theorem by_130 : bytesT Try.prog 130 = 0 := by kernel_rfl
theorem ze_130 : zeroT Try.prog 130 = some [] := by kernel_rfl
theorem pl_130 : placesT Try.prog 130 = some [(0, 0)] := by kernel_rfl
theorem kd_131 : kdT Try.prog 131 = .struct := by kernel_rfl
theorem sz_131 : szT Try.prog 131 = 0 := by kernel_rfl
theorem by_131 : bytesT Try.prog 131 = 0 := by kernel_rfl
theorem ze_131 : zeroT Try.prog 131 = some [] := by kernel_rfl
theorem pl_131 : placesT Try.prog 131 = some [(0, 0)] := by kernel_rfl
theorem kd_132 : kdT Try.prog 132 = .int .u32 := by kernel_rfl
theorem sz_132 : szT Try.prog 132 = 1 := by kernel_rfl
theorem by_132 : bytesT Try.prog 132 = 4 := by kernel_rfl
theorem ze_132 : zeroT Try.prog 132 = some [.int .u32 0] := by kernel_rfl
theorem kd_133 : kdT Try.prog 133 = .int .u8 := by kernel_rfl
theorem sz_133 : szT Try.prog 133 = 1 := by kernel_rfl
theorem by_133 : bytesT Try.prog 133 = 1 := by kernel_rfl
theorem ze_133 : zeroT Try.prog 133 = some [.int .u8 0] := by kernel_rfl
theorem kd_134 : kdT Try.prog 134 = .int .u8 := by kernel_rfl
theorem sz_134 : szT Try.prog 134 = 1 := by kernel_rfl
theorem by_134 : bytesT Try.prog 134 = 1 := by kernel_rfl
theorem ze_134 : zeroT Try.prog 134 = some [.int .u8 0] := by kernel_rfl
theorem kd_136 : kdT Try.prog 136 = .ptr := by kernel_rfl
theorem sz_136 : szT Try.prog 136 = 1 := by kernel_rfl
theorem by_136 : bytesT Try.prog 136 = 8 := by kernel_rfl
theorem ze_136 : zeroT Try.prog 136 = some [.lit (.pointer none)] := by kernel_rfl
theorem kd_137 : kdT Try.prog 137 = .int .i32 := by kernel_rfl
theorem sz_137 : szT Try.prog 137 = 1 := by kernel_rfl
theorem by_137 : bytesT Try.prog 137 = 4 := by kernel_rfl
theorem ze_137 : zeroT Try.prog 137 = some [.int .i32 0] := by kernel_rfl
theorem kd_138 : kdT Try.prog 138 = .int .i32 := by kernel_rfl
theorem sz_138 : szT Try.prog 138 = 1 := by kernel_rfl
theorem by_138 : bytesT Try.prog 138 = 4 := by kernel_rfl
theorem ze_138 : zeroT Try.prog 138 = some [.int .i32 0] := by kernel_rfl
theorem kd_139 : kdT Try.prog 139 = .struct := by kernel_rfl
theorem sz_139 : szT Try.prog 139 = 11 := by kernel_rfl
theorem by_139 : bytesT Try.prog 139 = 48 := by kernel_rfl
theorem ze_139 : zeroT Try.prog 139 = some [.int .u64 0, .int .u64 0, .int .u32 0, .int .u8 0, .int .u8 0, .int .u8 0, .int .u8 0, .lit .nilFunc, .lit (.pointer none), .int .i32 0, .int .i32 0] := by kernel_rfl
theorem pl_139 : placesT Try.prog 139 = some [(0, 1), (1, 1), (2, 1), (3, 1), (4, 1), (5, 1), (6, 1), (7, 1), (8, 1), (9, 1), (10, 1)] := by kernel_rfl
theorem fl_139_0 : fldT Try.prog 139 0 = some (0, 12) := by kernel_rfl
theorem fl_139_1 : fldT Try.prog 139 1 = some (1, 12) := by kernel_rfl
theorem fl_139_2 : fldT Try.prog 139 2 = some (2, 132) := by kernel_rfl
theorem fl_139_3 : fldT Try.prog 139 3 = some (3, 133) := by kernel_rfl
theorem fl_139_4 : fldT Try.prog 139 4 = some (4, 5) := by kernel_rfl
theorem fl_139_5 : fldT Try.prog 139 5 = some (5, 5) := by kernel_rfl
theorem fl_139_6 : fldT Try.prog 139 6 = some (6, 134) := by kernel_rfl
theorem fl_139_7 : fldT Try.prog 139 7 = some (7, 135) := by kernel_rfl
theorem fl_139_8 : fldT Try.prog 139 8 = some (8, 136) := by kernel_rfl
theorem fl_139_9 : fldT Try.prog 139 9 = some (9, 137) := by kernel_rfl
theorem fl_139_10 : fldT Try.prog 139 10 = some (10, 138) := by kernel_rfl
theorem kd_140 : kdT Try.prog 140 = .struct := by kernel_rfl
theorem sz_140 : szT Try.prog 140 = 11 := by kernel_rfl
theorem by_140 : bytesT Try.prog 140 = 48 := by kernel_rfl
theorem ze_140 : zeroT Try.prog 140 = some [.int .u64 0, .int .u64 0, .int .u32 0, .int .u8 0, .int .u8 0, .int .u8 0, .int .u8 0, .lit .nilFunc, .lit (.pointer none), .int .i32 0, .int .i32 0] := by kernel_rfl
theorem pl_140 : placesT Try.prog 140 = some [(0, 1), (1, 1), (2, 1), (3, 1), (4, 1), (5, 1), (6, 1), (7, 1), (8, 1), (9, 1), (10, 1)] := by kernel_rfl
theorem fl_140_0 : fldT Try.prog 140 0 = some (0, 12) := by kernel_rfl
theorem fl_140_1 : fldT Try.prog 140 1 = some (1, 12) := by kernel_rfl
theorem fl_140_2 : fldT Try.prog 140 2 = some (2, 132) := by kernel_rfl
theorem fl_140_3 : fldT Try.prog 140 3 = some (3, 133) := by kernel_rfl
theorem fl_140_4 : fldT Try.prog 140 4 = some (4, 5) := by kernel_rfl
theorem fl_140_5 : fldT Try.prog 140 5 = some (5, 5) := by kernel_rfl
theorem fl_140_6 : fldT Try.prog 140 6 = some (6, 134) := by kernel_rfl
theorem fl_140_7 : fldT Try.prog 140 7 = some (7, 135) := by kernel_rfl
theorem fl_140_8 : fldT Try.prog 140 8 = some (8, 136) := by kernel_rfl
theorem fl_140_9 : fldT Try.prog 140 9 = some (9, 137) := by kernel_rfl
theorem fl_140_10 : fldT Try.prog 140 10 = some (10, 138) := by kernel_rfl
instance : ETab := ⟨fun t => if t = 24 then some .int else if t = 22 then some .byte else if t = 125 then some .ints else if t = 23 then some .ent else if t = 25 then some .fid else none, fun t => if t = 112 then some (.int, .bool) else none⟩
theorem et_24 : ETab.of 24 = some .int := rfl
theorem et_22 : ETab.of 22 = some .byte := rfl
theorem et_125 : ETab.of 125 = some .ints := rfl
theorem et_23 : ETab.of 23 = some .ent := rfl
theorem et_25 : ETab.of 25 = some .fid := rfl
theorem mt_112 : ETab.mof 112 = some (.int, .bool) := rfl
theorem zv_4 : zeroV Try.prog 4 = some (.bool false) := by kernel_rfl
theorem mixed : Try.prog.follows .mixedOrders = true := by kernel_rfl
theorem fn_2 : Try.prog.funcs[2]? = some Try.f2 := by kernel_rfl -- gosem.cut.init
theorem fn_3 : Try.prog.funcs[3]? = some Try.f3 := by kernel_rfl -- spacecraft/spacecraftlaw48.CheckpointEncodes
theorem fn_4 : Try.prog.funcs[4]? = some Try.f4 := by kernel_rfl -- spacecraft/spacecraftlaw48.CheckpointDecodes
theorem fn_5 : Try.prog.funcs[5]? = some Try.f5 := by kernel_rfl -- spacecraft/spacecraftlaw48.CheckpointBack
theorem fn_6 : Try.prog.funcs[6]? = some Try.f6 := by kernel_rfl -- spacecraft/spacecraftlaw48.CheckpointApart
theorem fn_7 : Try.prog.funcs[7]? = some Try.f7 := by kernel_rfl -- spacecraft/spacecraftlaw48.awake
theorem fn_8 : Try.prog.funcs[8]? = some Try.f8 := by kernel_rfl -- spacecraft/spacecraftref48.Light
theorem fn_9 : Try.prog.funcs[9]? = some Try.f9 := by kernel_rfl -- spacecraft/checkpoint.Encode
theorem fn_10 : Try.prog.funcs[10]? = some Try.f10 := by kernel_rfl -- spacecraft/spacecraftref48.Valid
theorem fn_11 : Try.prog.funcs[11]? = some Try.f11 := by kernel_rfl -- spacecraft/checkpoint.Valid
theorem fn_12 : Try.prog.funcs[12]? = some Try.f12 := by kernel_rfl -- spacecraft/spacecraftref48.Encode
theorem fn_13 : Try.prog.funcs[13]? = some Try.f13 := by kernel_rfl -- spacecraft/checkpoint.Decode
theorem fn_14 : Try.prog.funcs[14]? = some Try.f14 := by kernel_rfl -- spacecraft/spacecraftref48.Decode
theorem fn_15 : Try.prog.funcs[15]? = some Try.f15 := by kernel_rfl -- spacecraft/spacecraftref48.Same
theorem fn_16 : Try.prog.funcs[16]? = some Try.f16 := by kernel_rfl -- spacecraft/spacecraftref42.Light
theorem fn_17 : Try.prog.funcs[17]? = some Try.f17 := by kernel_rfl -- spacecraft/schedule.Encode
theorem fn_18 : Try.prog.funcs[18]? = some Try.f18 := by kernel_rfl -- spacecraft/octets.NewWriter
theorem fn_19 : Try.prog.funcs[19]? = some Try.f19 := by kernel_rfl -- (*spacecraft/octets.Writer).Int
theorem fn_20 : Try.prog.funcs[20]? = some Try.f20 := by kernel_rfl -- (*spacecraft/octets.Writer).Uint
theorem fn_21 : Try.prog.funcs[21]? = some Try.f21 := by kernel_rfl -- (*spacecraft/octets.Writer).Blob
theorem fn_22 : Try.prog.funcs[22]? = some Try.f22 := by kernel_rfl -- (*spacecraft/octets.Writer).Bytes
theorem fn_23 : Try.prog.funcs[23]? = some Try.f23 := by kernel_rfl -- spacecraft/spacecraftref40.Load
theorem fn_24 : Try.prog.funcs[24]? = some Try.f24 := by kernel_rfl -- spacecraft/spacecraftref42.Encode
theorem fn_25 : Try.prog.funcs[25]? = some Try.f25 := by kernel_rfl -- spacecraft/checkpoint.within
theorem fn_26 : Try.prog.funcs[26]? = some Try.f26 := by kernel_rfl -- spacecraft/checkpoint.id
theorem fn_27 : Try.prog.funcs[27]? = some Try.f27 := by kernel_rfl -- slices.Contains[[]spacecraft/api.FileID,spacecraft/api.FileID]
theorem fn_28 : Try.prog.funcs[28]? = some Try.f28 := by kernel_rfl -- spacecraft/ledger.Load
theorem fn_29 : Try.prog.funcs[29]? = some Try.f29 := by kernel_rfl -- spacecraft/spacecraftref03.Int
theorem fn_30 : Try.prog.funcs[30]? = some Try.f30 := by kernel_rfl -- spacecraft/spacecraftref03.Blob
theorem fn_31 : Try.prog.funcs[31]? = some Try.f31 := by kernel_rfl -- spacecraft/spacecraftref03.Uint
theorem fn_32 : Try.prog.funcs[32]? = some Try.f32 := by kernel_rfl -- spacecraft/octets.NewReader
theorem fn_33 : Try.prog.funcs[33]? = some Try.f33 := by kernel_rfl -- (*spacecraft/octets.Reader).Int
theorem fn_34 : Try.prog.funcs[34]? = some Try.f34 := by kernel_rfl -- (*spacecraft/octets.Reader).Uint
theorem fn_35 : Try.prog.funcs[35]? = some Try.f35 := by kernel_rfl -- (*spacecraft/octets.Reader).Blob
theorem fn_36 : Try.prog.funcs[36]? = some Try.f36 := by kernel_rfl -- spacecraft/schedule.Decode
theorem fn_37 : Try.prog.funcs[37]? = some Try.f37 := by kernel_rfl -- (*spacecraft/octets.Reader).Count
theorem fn_38 : Try.prog.funcs[38]? = some Try.f38 := by kernel_rfl -- (*spacecraft/octets.Reader).End
theorem fn_39 : Try.prog.funcs[39]? = some Try.f39 := by kernel_rfl -- bytes.Equal
theorem fn_40 : Try.prog.funcs[40]? = some Try.f40 := by kernel_rfl -- (*spacecraft/spacecraftref03.Reader).Int
theorem fn_41 : Try.prog.funcs[41]? = some Try.f41 := by kernel_rfl -- (*spacecraft/spacecraftref03.Reader).Uint
theorem fn_42 : Try.prog.funcs[42]? = some Try.f42 := by kernel_rfl -- (*spacecraft/spacecraftref03.Reader).Blob
theorem fn_43 : Try.prog.funcs[43]? = some Try.f43 := by kernel_rfl -- spacecraft/spacecraftref42.Decode
theorem fn_44 : Try.prog.funcs[44]? = some Try.f44 := by kernel_rfl -- (*spacecraft/spacecraftref03.Reader).Count
theorem fn_45 : Try.prog.funcs[45]? = some Try.f45 := by kernel_rfl -- spacecraft/spacecraftref42.Same
theorem fn_46 : Try.prog.funcs[46]? = some Try.f46 := by kernel_rfl -- spacecraft/schedule.check
theorem fn_47 : Try.prog.funcs[47]? = some Try.f47 := by kernel_rfl -- spacecraft/command.Encode
theorem fn_48 : Try.prog.funcs[48]? = some Try.f48 := by kernel_rfl -- (*spacecraft/octets.Writer).ok
theorem fn_49 : Try.prog.funcs[49]? = some Try.f49 := by kernel_rfl -- spacecraft/octets.zigzag
theorem fn_50 : Try.prog.funcs[50]? = some Try.f50 := by kernel_rfl -- spacecraft/spacecraftref03.TakeUint
theorem fn_51 : Try.prog.funcs[51]? = some Try.f51 := by kernel_rfl -- spacecraft/spacecraftref42.check
theorem fn_52 : Try.prog.funcs[52]? = some Try.f52 := by kernel_rfl -- spacecraft/spacecraftref39.Encode
theorem fn_53 : Try.prog.funcs[53]? = some Try.f53 := by kernel_rfl -- slices.Index[[]spacecraft/api.FileID,spacecraft/api.FileID]
theorem fn_54 : Try.prog.funcs[54]? = some Try.f54 := by kernel_rfl -- spacecraft/ledger.New
theorem fn_55 : Try.prog.funcs[55]? = some Try.f55 := by kernel_rfl -- (spacecraft/ledger.record).right
theorem fn_56 : Try.prog.funcs[56]? = some Try.f56 := by kernel_rfl -- spacecraft/spacecraftref03.Zigzag
theorem fn_57 : Try.prog.funcs[57]? = some Try.f57 := by kernel_rfl -- (*spacecraft/octets.Reader).ok
theorem fn_58 : Try.prog.funcs[58]? = some Try.f58 := by kernel_rfl -- (*spacecraft/octets.Reader).group
theorem fn_59 : Try.prog.funcs[59]? = some Try.f59 := by kernel_rfl -- (*spacecraft/octets.Reader).fail
theorem fn_60 : Try.prog.funcs[60]? = some Try.f60 := by kernel_rfl -- spacecraft/command.Decode
theorem fn_61 : Try.prog.funcs[61]? = some Try.f61 := by kernel_rfl -- spacecraft/spacecraftref03.TakeInt
theorem fn_62 : Try.prog.funcs[62]? = some Try.f62 := by kernel_rfl -- (*spacecraft/spacecraftref03.Reader).next
theorem fn_63 : Try.prog.funcs[63]? = some Try.f63 := by kernel_rfl -- spacecraft/spacecraftref03.TakeBlob
theorem fn_64 : Try.prog.funcs[64]? = some Try.f64 := by kernel_rfl -- spacecraft/spacecraftref39.Decode
theorem fn_65 : Try.prog.funcs[65]? = some Try.f65 := by kernel_rfl -- spacecraft/spacecraftref03.TakeCount
theorem fn_66 : Try.prog.funcs[66]? = some Try.f66 := by kernel_rfl -- spacecraft/spacecraftref39.Same
theorem fn_67 : Try.prog.funcs[67]? = some Try.f67 := by kernel_rfl -- spacecraft/schedule.valid
theorem fn_68 : Try.prog.funcs[68]? = some Try.f68 := by kernel_rfl -- spacecraft/command.Valid
theorem fn_69 : Try.prog.funcs[69]? = some Try.f69 := by kernel_rfl -- spacecraft/command.find
theorem fn_70 : Try.prog.funcs[70]? = some Try.f70 := by kernel_rfl -- spacecraft/spacecraftref42.Valid
theorem fn_71 : Try.prog.funcs[71]? = some Try.f71 := by kernel_rfl -- spacecraft/spacecraftref39.Args
theorem fn_72 : Try.prog.funcs[72]? = some Try.f72 := by kernel_rfl -- spacecraft/spacecraftref39.Valid
theorem fn_73 : Try.prog.funcs[73]? = some Try.f73 := by kernel_rfl -- spacecraft/schedule.group
theorem fn_74 : Try.prog.funcs[74]? = some Try.f74 := by kernel_rfl -- spacecraft/command.table
theorem fn_75 : Try.prog.funcs[75]? = some Try.f75 := by kernel_rfl -- spacecraft/spacecraftref39.row
attribute [go_sem] kd_2 sz_2 by_2 ze_2 kd_3 sz_3 by_3 ze_3 kd_4 sz_4 by_4 ze_4 kd_5 sz_5 by_5 ze_5 kd_6 sz_6 by_6 ze_6 kd_7 sz_7 by_7 ze_7 pl_7 fl_7_0 fl_7_1 fl_7_2 fl_7_3 kd_8 sz_8 by_8 ze_8 pl_8 fl_8_0 fl_8_1 fl_8_2 fl_8_3 kd_9 sz_9 by_9 ze_9 kd_10 sz_10 by_10 ze_10 kd_11 sz_11 by_11 ze_11 kd_12 sz_12 by_12 ze_12 kd_13 sz_13 by_13 ze_13 pl_13 fl_13_0 fl_13_1 kd_14 sz_14 by_14 ze_14 pl_14 fl_14_0 fl_14_1 kd_15 sz_15 by_15 ze_15 kd_16 sz_16 by_16 ze_16 kd_17 sz_17 by_17 ze_17 kd_18 sz_18 by_18 ze_18 pl_18 fl_18_0 kd_19 sz_19 by_19 ze_19 pl_19 fl_19_0 kd_20 sz_20 by_20 ze_20 kd_21 sz_21 by_21 ze_21 kd_22 sz_22 by_22 ze_22 kd_23 sz_23 by_23 ze_23 kd_24 sz_24 by_24 ze_24 kd_25 sz_25 by_25 ze_25 kd_26 sz_26 by_26 ze_26 pl_26 fl_26_0 fl_26_1 fl_26_2 fl_26_3 fl_26_4 fl_26_5 fl_26_6 fl_26_7 kd_27 sz_27 by_27 ze_27 pl_27 fl_27_0 fl_27_1 fl_27_2 fl_27_3 fl_27_4 fl_27_5 fl_27_6 fl_27_7 kd_30 sz_30 by_30 ze_30 kd_42 sz_42 by_42 ze_42 kd_46 sz_46 by_46 ze_46 kd_48 sz_48 by_48 ze_48 pl_48 fl_48_0 fl_48_1 kd_49 sz_49 by_49 ze_49 pl_49 fs_49 fl_49_0 fl_49_1 kd_51 sz_51 by_51 ze_51 pl_51 fl_51_0 fl_51_1 kd_52 sz_52 by_52 ze_52 pl_52 fl_52_0 fl_52_1 kd_53 sz_53 by_53 ze_53 kd_54 sz_54 by_54 ze_54 kd_60 sz_60 by_60 ze_60 kd_66 sz_66 by_66 ze_66 kd_74 sz_74 by_74 ze_74 kd_75 sz_75 by_75 ze_75 pl_75 fl_75_0 fl_75_1 kd_76 sz_76 by_76 ze_76 pl_76 fl_76_0 fl_76_1 kd_78 sz_78 by_78 ze_78 pl_78 fl_78_0 fl_78_1 fl_78_2 fl_78_3 fl_78_4 kd_79 sz_79 by_79 ze_79 pl_79 fl_79_0 fl_79_1 fl_79_2 fl_79_3 fl_79_4 kd_80 sz_80 by_80 ze_80 pl_80 fl_80_0 fl_80_1 fl_80_2 fl_80_3 kd_81 sz_81 by_81 ze_81 pl_81 fl_81_0 fl_81_1 fl_81_2 fl_81_3 kd_84 sz_84 by_84 ze_84 pl_84 fl_84_0 fl_84_1 kd_85 sz_85 by_85 ze_85 pl_85 fl_85_0 fl_85_1 kd_86 sz_86 by_86 ze_86 kd_93 sz_93 by_93 ze_93 pl_93 fl_93_0 fl_93_1 kd_94 sz_94 by_94 ze_94 pl_94 fs_94 fl_94_0 fl_94_1 kd_95 sz_95 by_95 ze_95 kd_96 sz_96 by_96 ze_96 pl_96 fl_96_0 fl_96_1 kd_97 sz_97 by_97 ze_97 pl_97 fl_97_0 fl_97_1 kd_98 sz_98 by_98 ze_98 pl_98 fl_98_0 fl_98_1 fl_98_2 kd_99 sz_99 by_99 ze_99 pl_99 fl_99_0 fl_99_1 fl_99_2 kd_112 sz_112 by_112 ze_112 kd_115 sz_115 by_115 ze_115 pl_115 fl_115_0 fl_115_1 fl_115_2 fl_115_3 fl_115_4 kd_116 sz_116 by_116 ze_116 pl_116 fs_116 fl_116_0 fl_116_1 fl_116_2 fl_116_3 fl_116_4 kd_122 sz_122 by_122 ze_122 kd_125 sz_125 by_125 ze_125 kd_127 sz_127 by_127 ze_127 pl_127 fl_127_0 fl_127_1 fl_127_2 fl_127_3 kd_128 sz_128 by_128 ze_128 pl_128 fl_128_0 fl_128_1 fl_128_2 fl_128_3 kd_129 sz_129 by_129 ze_129 kd_130 sz_130 by_130 ze_130 pl_130 kd_131 sz_131 by_131 ze_131 pl_131 kd_132 sz_132 by_132 ze_132 kd_133 sz_133 by_133 ze_133 kd_134 sz_134 by_134 ze_134 kd_136 sz_136 by_136 ze_136 kd_137 sz_137 by_137 ze_137 kd_138 sz_138 by_138 ze_138 kd_139 sz_139 by_139 ze_139 pl_139 fl_139_0 fl_139_1 fl_139_2 fl_139_3 fl_139_4 fl_139_5 fl_139_6 fl_139_7 fl_139_8 fl_139_9 fl_139_10 kd_140 sz_140 by_140 ze_140 pl_140 fl_140_0 fl_140_1 fl_140_2 fl_140_3 fl_140_4 fl_140_5 fl_140_6 fl_140_7 fl_140_8 fl_140_9 fl_140_10 et_24 et_22 et_125 et_23 et_25 mt_112 zv_4
end Go.V
