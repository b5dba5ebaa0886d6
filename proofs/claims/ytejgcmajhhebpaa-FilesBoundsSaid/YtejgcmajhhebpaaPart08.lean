/-
  T
-/
import Derived.Test.YtejgcmajhhebpaaPart07
import Derived.Test.YtejgcmajhhebpaaProg
import Derived.KernelRfl
set_option linter.unusedVariables false
set_option linter.unusedSimpArgs false
namespace Go.V
open Go.Proofs
theorem kd_2 : kdT Try.prog 2 = .int .i64 := by kernel_rfl
theorem sz_2 : szT Try.prog 2 = 1 := by kernel_rfl
theorem by_2 : bytesT Try.prog 2 = 8 := by kernel_rfl
theorem ze_2 : zeroT Try.prog 2 = some [.int .i64 0] := by kernel_rfl
theorem kd_3 : kdT Try.prog 3 = .int .i64 := by kernel_rfl
theorem sz_3 : szT Try.prog 3 = 1 := by kernel_rfl
theorem by_3 : bytesT Try.prog 3 = 8 := by kernel_rfl
theorem ze_3 : zeroT Try.prog 3 = some [.int .i64 0] := by kernel_rfl
theorem kd_4 : kdT Try.prog 4 = .bool := by kernel_rfl
theorem sz_4 : szT Try.prog 4 = 1 := by kernel_rfl
theorem by_4 : bytesT Try.prog 4 = 1 := by kernel_rfl
theorem ze_4 : zeroT Try.prog 4 = some [.bool false] := by kernel_rfl
theorem kd_5 : kdT Try.prog 5 = .int .u8 := by kernel_rfl
theorem sz_5 : szT Try.prog 5 = 1 := by kernel_rfl
theorem by_5 : bytesT Try.prog 5 = 1 := by kernel_rfl
theorem ze_5 : zeroT Try.prog 5 = some [.int .u8 0] := by kernel_rfl
theorem kd_6 : kdT Try.prog 6 = .int .u8 := by kernel_rfl
theorem sz_6 : szT Try.prog 6 = 1 := by kernel_rfl
theorem by_6 : bytesT Try.prog 6 = 1 := by kernel_rfl
theorem ze_6 : zeroT Try.prog 6 = some [.int .u8 0] := by kernel_rfl
theorem kd_7 : kdT Try.prog 7 = .struct := by kernel_rfl
theorem sz_7 : szT Try.prog 7 = 4 := by kernel_rfl
theorem by_7 : bytesT Try.prog 7 = 24 := by kernel_rfl
theorem ze_7 : zeroT Try.prog 7 = some [.int .i64 0, .int .i64 0, .bool false, .int .u8 0] := by kernel_rfl
theorem pl_7 : placesT Try.prog 7 = some [(0, 1), (1, 1), (2, 1), (3, 1)] := by kernel_rfl
theorem fl_7_0 : fldT Try.prog 7 0 = some (0, 2) := by kernel_rfl
theorem fl_7_1 : fldT Try.prog 7 1 = some (1, 3) := by kernel_rfl
theorem fl_7_2 : fldT Try.prog 7 2 = some (2, 4) := by kernel_rfl
theorem fl_7_3 : fldT Try.prog 7 3 = some (3, 6) := by kernel_rfl
theorem kd_8 : kdT Try.prog 8 = .struct := by kernel_rfl
theorem sz_8 : szT Try.prog 8 = 4 := by kernel_rfl
theorem by_8 : bytesT Try.prog 8 = 24 := by kernel_rfl
theorem ze_8 : zeroT Try.prog 8 = some [.int .i64 0, .int .i64 0, .bool false, .int .u8 0] := by kernel_rfl
theorem pl_8 : placesT Try.prog 8 = some [(0, 1), (1, 1), (2, 1), (3, 1)] := by kernel_rfl
theorem fl_8_0 : fldT Try.prog 8 0 = some (0, 2) := by kernel_rfl
theorem fl_8_1 : fldT Try.prog 8 1 = some (1, 3) := by kernel_rfl
theorem fl_8_2 : fldT Try.prog 8 2 = some (2, 4) := by kernel_rfl
theorem fl_8_3 : fldT Try.prog 8 3 = some (3, 6) := by kernel_rfl
theorem kd_9 : kdT Try.prog 9 = .str := by kernel_rfl
theorem sz_9 : szT Try.prog 9 = 1 := by kernel_rfl
theorem by_9 : bytesT Try.prog 9 = 16 := by kernel_rfl
theorem ze_9 : zeroT Try.prog 9 = some [.str []] := by kernel_rfl
theorem kd_10 : kdT Try.prog 10 = .str := by kernel_rfl
theorem sz_10 : szT Try.prog 10 = 1 := by kernel_rfl
theorem by_10 : bytesT Try.prog 10 = 16 := by kernel_rfl
theorem ze_10 : zeroT Try.prog 10 = some [.str []] := by kernel_rfl
theorem kd_11 : kdT Try.prog 11 = .str := by kernel_rfl
theorem sz_11 : szT Try.prog 11 = 1 := by kernel_rfl
theorem by_11 : bytesT Try.prog 11 = 16 := by kernel_rfl
theorem ze_11 : zeroT Try.prog 11 = some [.str []] := by kernel_rfl
theorem kd_12 : kdT Try.prog 12 = .int .u64 := by kernel_rfl
theorem sz_12 : szT Try.prog 12 = 1 := by kernel_rfl
theorem by_12 : bytesT Try.prog 12 = 8 := by kernel_rfl
theorem ze_12 : zeroT Try.prog 12 = some [.int .u64 0] := by kernel_rfl
theorem kd_13 : kdT Try.prog 13 = .struct := by kernel_rfl
theorem sz_13 : szT Try.prog 13 = 2 := by kernel_rfl
theorem by_13 : bytesT Try.prog 13 = 24 := by kernel_rfl
theorem ze_13 : zeroT Try.prog 13 = some [.str [], .int .u64 0] := by kernel_rfl
theorem pl_13 : placesT Try.prog 13 = some [(0, 1), (1, 1)] := by kernel_rfl
theorem fl_13_0 : fldT Try.prog 13 0 = some (0, 9) := by kernel_rfl
theorem fl_13_1 : fldT Try.prog 13 1 = some (1, 12) := by kernel_rfl
theorem kd_14 : kdT Try.prog 14 = .struct := by kernel_rfl
theorem sz_14 : szT Try.prog 14 = 2 := by kernel_rfl
theorem by_14 : bytesT Try.prog 14 = 24 := by kernel_rfl
theorem ze_14 : zeroT Try.prog 14 = some [.str [], .int .u64 0] := by kernel_rfl
theorem pl_14 : placesT Try.prog 14 = some [(0, 1), (1, 1)] := by kernel_rfl
theorem fl_14_0 : fldT Try.prog 14 0 = some (0, 9) := by kernel_rfl
theorem fl_14_1 : fldT Try.prog 14 1 = some (1, 12) := by kernel_rfl
theorem kd_15 : kdT Try.prog 15 = .ptr := by kernel_rfl
theorem sz_15 : szT Try.prog 15 = 1 := by kernel_rfl
theorem by_15 : bytesT Try.prog 15 = 8 := by kernel_rfl
theorem ze_15 : zeroT Try.prog 15 = some [.lit (.pointer none)] := by kernel_rfl
theorem kd_16 : kdT Try.prog 16 = .ptr := by kernel_rfl
theorem sz_16 : szT Try.prog 16 = 1 := by kernel_rfl
theorem by_16 : bytesT Try.prog 16 = 8 := by kernel_rfl
theorem ze_16 : zeroT Try.prog 16 = some [.lit (.pointer none)] := by kernel_rfl
theorem kd_17 : kdT Try.prog 17 = .ptr := by kernel_rfl
theorem sz_17 : szT Try.prog 17 = 1 := by kernel_rfl
theorem by_17 : bytesT Try.prog 17 = 8 := by kernel_rfl
theorem ze_17 : zeroT Try.prog 17 = some [.lit (.pointer none)] := by kernel_rfl
theorem kd_18 : kdT Try.prog 18 = .struct := by kernel_rfl
theorem sz_18 : szT Try.prog 18 = 1 := by kernel_rfl
theorem by_18 : bytesT Try.prog 18 = 8 := by kernel_rfl
theorem ze_18 : zeroT Try.prog 18 = some [.lit (.pointer none)] := by kernel_rfl
theorem pl_18 : placesT Try.prog 18 = some [(0, 1)] := by kernel_rfl
theorem fl_18_0 : fldT Try.prog 18 0 = some (0, 17) := by kernel_rfl
theorem kd_19 : kdT Try.prog 19 = .struct := by kernel_rfl
theorem sz_19 : szT Try.prog 19 = 1 := by kernel_rfl
theorem by_19 : bytesT Try.prog 19 = 8 := by kernel_rfl
theorem ze_19 : zeroT Try.prog 19 = some [.lit (.pointer none)] := by kernel_rfl
theorem pl_19 : placesT Try.prog 19 = some [(0, 1)] := by kernel_rfl
theorem fl_19_0 : fldT Try.prog 19 0 = some (0, 17) := by kernel_rfl
theorem kd_20 : kdT Try.prog 20 = .iface := by kernel_rfl
theorem sz_20 : szT Try.prog 20 = 1 := by kernel_rfl
theorem by_20 : bytesT Try.prog 20 = 16 := by kernel_rfl
theorem ze_20 : zeroT Try.prog 20 = some [.lit .nilIface] := by kernel_rfl
theorem kd_21 : kdT Try.prog 21 = .int .i32 := by kernel_rfl
theorem sz_21 : szT Try.prog 21 = 1 := by kernel_rfl
theorem by_21 : bytesT Try.prog 21 = 4 := by kernel_rfl
theorem ze_21 : zeroT Try.prog 21 = some [.int .i32 0] := by kernel_rfl
theorem kd_22 : kdT Try.prog 22 = .slice 23 := by kernel_rfl
theorem sz_22 : szT Try.prog 22 = 1 := by kernel_rfl
theorem by_22 : bytesT Try.prog 22 = 24 := by kernel_rfl
theorem ze_22 : zeroT Try.prog 22 = some [.lit (.slice none 0 0)] := by kernel_rfl
theorem kd_23 : kdT Try.prog 23 = .slice 5 := by kernel_rfl
theorem sz_23 : szT Try.prog 23 = 1 := by kernel_rfl
theorem by_23 : bytesT Try.prog 23 = 24 := by kernel_rfl
theorem ze_23 : zeroT Try.prog 23 = some [.lit (.slice none 0 0)] := by kernel_rfl
theorem kd_25 : kdT Try.prog 25 = .ptr := by kernel_rfl
theorem sz_25 : szT Try.prog 25 = 1 := by kernel_rfl
theorem by_25 : bytesT Try.prog 25 = 8 := by kernel_rfl
theorem ze_25 : zeroT Try.prog 25 = some [.lit (.pointer none)] := by kernel_rfl
theorem kd_27 : kdT Try.prog 27 = .int .i64 := by kernel_rfl
theorem sz_27 : szT Try.prog 27 = 1 := by kernel_rfl
theorem by_27 : bytesT Try.prog 27 = 8 := by kernel_rfl
theorem ze_27 : zeroT Try.prog 27 = some [.int .i64 0] := by kernel_rfl
theorem kd_34 : kdT Try.prog 34 = .slice 9 := by kernel_rfl
theorem sz_34 : szT Try.prog 34 = 1 := by kernel_rfl
theorem by_34 : bytesT Try.prog 34 = 24 := by kernel_rfl
theorem ze_34 : zeroT Try.prog 34 = some [.lit (.slice none 0 0)] := by kernel_rfl
theorem kd_37 : kdT Try.prog 37 = .slice 43 := by kernel_rfl
theorem sz_37 : szT Try.prog 37 = 1 := by kernel_rfl
theorem by_37 : bytesT Try.prog 37 = 24 := by kernel_rfl
theorem ze_37 : zeroT Try.prog 37 = some [.lit (.slice none 0 0)] := by kernel_rfl
theorem kd_38 : kdT Try.prog 38 = .slice 64 := by kernel_rfl
theorem sz_38 : szT Try.prog 38 = 1 := by kernel_rfl
theorem by_38 : bytesT Try.prog 38 = 24 := by kernel_rfl
theorem ze_38 : zeroT Try.prog 38 = some [.lit (.slice none 0 0)] := by kernel_rfl
theorem kd_39 : kdT Try.prog 39 = .struct := by kernel_rfl
theorem sz_39 : szT Try.prog 39 = 3 := by kernel_rfl
theorem by_39 : bytesT Try.prog 39 = 40 := by kernel_rfl
theorem ze_39 : zeroT Try.prog 39 = some [.int .i64 0, .int .i64 0, .lit (.slice none 0 0)] := by kernel_rfl
theorem pl_39 : placesT Try.prog 39 = some [(0, 1), (1, 1), (2, 1)] := by kernel_rfl
theorem fl_39_0 : fldT Try.prog 39 0 = some (0, 3) := by kernel_rfl
theorem fl_39_1 : fldT Try.prog 39 1 = some (1, 3) := by kernel_rfl
theorem fl_39_2 : fldT Try.prog 39 2 = some (2, 38) := by kernel_rfl
theorem kd_40 : kdT Try.prog 40 = .struct := by kernel_rfl
theorem sz_40 : szT Try.prog 40 = 3 := by kernel_rfl
theorem by_40 : bytesT Try.prog 40 = 40 := by kernel_rfl
theorem ze_40 : zeroT Try.prog 40 = some [.int .i64 0, .int .i64 0, .lit (.slice none 0 0)] := by kernel_rfl
theorem pl_40 : placesT Try.prog 40 = some [(0, 1), (1, 1), (2, 1)] := by kernel_rfl
theorem fl_40_0 : fldT Try.prog 40 0 = some (0, 3) := by kernel_rfl
theorem fl_40_1 : fldT Try.prog 40 1 = some (1, 3) := by kernel_rfl
theorem fl_40_2 : fldT Try.prog 40 2 = some (2, 38) := by kernel_rfl
theorem kd_42 : kdT Try.prog 42 = .struct := by kernel_rfl
theorem sz_42 : szT Try.prog 42 = 3 := by kernel_rfl
theorem by_42 : bytesT Try.prog 42 = 48 := by kernel_rfl
theorem ze_42 : zeroT Try.prog 42 = some [.int .i64 0, .str [], .lit (.slice none 0 0)] := by kernel_rfl
theorem pl_42 : placesT Try.prog 42 = some [(0, 1), (1, 1), (2, 1)] := by kernel_rfl
theorem fl_42_0 : fldT Try.prog 42 0 = some (0, 3) := by kernel_rfl
theorem fl_42_1 : fldT Try.prog 42 1 = some (1, 9) := by kernel_rfl
theorem fl_42_2 : fldT Try.prog 42 2 = some (2, 23) := by kernel_rfl
theorem kd_43 : kdT Try.prog 43 = .struct := by kernel_rfl
theorem sz_43 : szT Try.prog 43 = 3 := by kernel_rfl
theorem by_43 : bytesT Try.prog 43 = 48 := by kernel_rfl
theorem ze_43 : zeroT Try.prog 43 = some [.int .i64 0, .str [], .lit (.slice none 0 0)] := by kernel_rfl
theorem pl_43 : placesT Try.prog 43 = some [(0, 1), (1, 1), (2, 1)] := by kernel_rfl
theorem fl_43_0 : fldT Try.prog 43 0 = some (0, 3) := by kernel_rfl
theorem fl_43_1 : fldT Try.prog 43 1 = some (1, 9) := by kernel_rfl
theorem fl_43_2 : fldT Try.prog 43 2 = some (2, 23) := by kernel_rfl
theorem kd_54 : kdT Try.prog 54 = .map 9 23 := by kernel_rfl
theorem sz_54 : szT Try.prog 54 = 1 := by kernel_rfl
theorem by_54 : bytesT Try.prog 54 = 8 := by kernel_rfl
theorem ze_54 : zeroT Try.prog 54 = some [.lit (.map none)] := by kernel_rfl
theorem kd_55 : kdT Try.prog 55 = .struct := by kernel_rfl
theorem sz_55 : szT Try.prog 55 = 3 := by kernel_rfl
theorem by_55 : bytesT Try.prog 55 = 24 := by kernel_rfl
theorem ze_55 : zeroT Try.prog 55 = some [.int .i64 0, .int .i64 0, .lit (.map none)] := by kernel_rfl
theorem pl_55 : placesT Try.prog 55 = some [(0, 1), (1, 1), (2, 1)] := by kernel_rfl
theorem fl_55_0 : fldT Try.prog 55 0 = some (0, 3) := by kernel_rfl
theorem fl_55_1 : fldT Try.prog 55 1 = some (1, 3) := by kernel_rfl
theorem fl_55_2 : fldT Try.prog 55 2 = some (2, 54) := by kernel_rfl
theorem kd_56 : kdT Try.prog 56 = .struct := by kernel_rfl
theorem sz_56 : szT Try.prog 56 = 3 := by kernel_rfl
theorem by_56 : bytesT Try.prog 56 = 24 := by kernel_rfl
theorem ze_56 : zeroT Try.prog 56 = some [.int .i64 0, .int .i64 0, .lit (.map none)] := by kernel_rfl
theorem pl_56 : placesT Try.prog 56 = some [(0, 1), (1, 1), (2, 1)] := by kernel_rfl
theorem fl_56_0 : fldT Try.prog 56 0 = some (0, 3) := by kernel_rfl
theorem fl_56_1 : fldT Try.prog 56 1 = some (1, 3) := by kernel_rfl
theorem fl_56_2 : fldT Try.prog 56 2 = some (2, 54) := by kernel_rfl
theorem kd_63 : kdT Try.prog 63 = .struct := by kernel_rfl
theorem sz_63 : szT Try.prog 63 = 2 := by kernel_rfl
theorem by_63 : bytesT Try.prog 63 = 40 := by kernel_rfl
theorem ze_63 : zeroT Try.prog 63 = some [.str [], .lit (.slice none 0 0)] := by kernel_rfl
theorem pl_63 : placesT Try.prog 63 = some [(0, 1), (1, 1)] := by kernel_rfl
theorem fl_63_0 : fldT Try.prog 63 0 = some (0, 9) := by kernel_rfl
theorem fl_63_1 : fldT Try.prog 63 1 = some (1, 23) := by kernel_rfl
theorem kd_64 : kdT Try.prog 64 = .struct := by kernel_rfl
theorem sz_64 : szT Try.prog 64 = 2 := by kernel_rfl
theorem by_64 : bytesT Try.prog 64 = 40 := by kernel_rfl
theorem ze_64 : zeroT Try.prog 64 = some [.str [], .lit (.slice none 0 0)] := by kernel_rfl
theorem pl_64 : placesT Try.prog 64 = some [(0, 1), (1, 1)] := by kernel_rfl
theorem fl_64_0 : fldT Try.prog 64 0 = some (0, 9) := by kernel_rfl
theorem fl_64_1 : fldT Try.prog 64 1 = some (1, 23) := by kernel_rfl
theorem kd_67 : kdT Try.prog 67 = .int .u64 := by kernel_rfl
theorem sz_67 : szT Try.prog 67 = 1 := by kernel_rfl
theorem by_67 : bytesT Try.prog 67 = 8 := by kernel_rfl
theorem ze_67 : zeroT Try.prog 67 = some [.int .u64 0] := by kernel_rfl
theorem kd_69 : kdT Try.prog 69 = .int .i64 := by kernel_rfl
theorem sz_69 : szT Try.prog 69 = 1 := by kernel_rfl
theorem by_69 : bytesT Try.prog 69 = 8 := by kernel_rfl
theorem ze_69 : zeroT Try.prog 69 = some [.int .i64 0] := by kernel_rfl
theorem kd_77 : kdT Try.prog 77 = .int .u32 := by kernel_rfl
theorem sz_77 : szT Try.prog 77 = 1 := by kernel_rfl
theorem by_77 : bytesT Try.prog 77 = 4 := by kernel_rfl
theorem ze_77 : zeroT Try.prog 77 = some [.int .u32 0] := by kernel_rfl
theorem kd_79 : kdT Try.prog 79 = .int .u64 := by kernel_rfl
theorem sz_79 : szT Try.prog 79 = 1 := by kernel_rfl
theorem by_79 : bytesT Try.prog 79 = 8 := by kernel_rfl
theorem ze_79 : zeroT Try.prog 79 = some [.int .u64 0] := by kernel_rfl
theorem kd_80 : kdT Try.prog 80 = .int .u64 := by kernel_rfl
theorem sz_80 : szT Try.prog 80 = 1 := by kernel_rfl
theorem by_80 : bytesT Try.prog 80 = 8 := by kernel_rfl
theorem ze_80 : zeroT Try.prog 80 = some [.int .u64 0] := by kernel_rfl
theorem kd_84 : kdT Try.prog 84 = .ptr := by kernel_rfl
theorem sz_84 : szT Try.prog 84 = 1 := by kernel_rfl
theorem by_84 : bytesT Try.prog 84 = 8 := by kernel_rfl
theorem ze_84 : zeroT Try.prog 84 = some [.lit (.pointer none)] := by kernel_rfl
theorem kd_86 : kdT Try.prog 86 = .ptr := by kernel_rfl
theorem sz_86 : szT Try.prog 86 = 1 := by kernel_rfl
theorem by_86 : bytesT Try.prog 86 = 8 := by kernel_rfl
theorem ze_86 : zeroT Try.prog 86 = some [.lit (.pointer none)] := by kernel_rfl
theorem kd_90 : kdT Try.prog 90 = .struct := by kernel_rfl
theorem sz_90 : szT Try.prog 90 = 4 := by kernel_rfl
theorem by_90 : bytesT Try.prog 90 = 40 := by kernel_rfl
theorem ze_90 : zeroT Try.prog 90 = some [.lit (.pointer none), .lit (.pointer none), .lit (.pointer none), .str []] := by kernel_rfl
theorem pl_90 : placesT Try.prog 90 = some [(0, 1), (1, 1), (2, 1), (3, 1)] := by kernel_rfl
theorem fl_90_0 : fldT Try.prog 90 0 = some (0, 17) := by kernel_rfl
theorem fl_90_1 : fldT Try.prog 90 1 = some (1, 17) := by kernel_rfl
theorem fl_90_2 : fldT Try.prog 90 2 = some (2, 17) := by kernel_rfl
theorem fl_90_3 : fldT Try.prog 90 3 = some (3, 9) := by kernel_rfl
theorem kd_91 : kdT Try.prog 91 = .struct := by kernel_rfl
theorem sz_91 : szT Try.prog 91 = 4 := by kernel_rfl
theorem by_91 : bytesT Try.prog 91 = 40 := by kernel_rfl
theorem ze_91 : zeroT Try.prog 91 = some [.lit (.pointer none), .lit (.pointer none), .lit (.pointer none), .str []] := by kernel_rfl
theorem pl_91 : placesT Try.prog 91 = some [(0, 1), (1, 1), (2, 1), (3, 1)] := by kernel_rfl
theorem fl_91_0 : fldT Try.prog 91 0 = some (0, 17) := by kernel_rfl
theorem fl_91_1 : fldT Try.prog 91 1 = some (1, 17) := by kernel_rfl
theorem fl_91_2 : fldT Try.prog 91 2 = some (2, 17) := by kernel_rfl
theorem fl_91_3 : fldT Try.prog 91 3 = some (3, 9) := by kernel_rfl
theorem kd_92 : kdT Try.prog 92 = .array 0 16 := by kernel_rfl
theorem sz_92 : szT Try.prog 92 = 0 := by kernel_rfl
theorem by_92 : bytesT Try.prog 92 = 0 := by kernel_rfl
theorem ze_92 : zeroT Try.prog 92 = some [] := by kernel_rfl
theorem kd_93 : kdT Try.prog 93 = .struct := by kernel_rfl
theorem sz_93 : szT Try.prog 93 = 0 := by kernel_rfl
theorem by_93 : bytesT Try.prog 93 = 0 := by kernel_rfl
theorem ze_93 : zeroT Try.prog 93 = some [] := by kernel_rfl
theorem pl_93 : placesT Try.prog 93 = some [(0, 0)] := by kernel_rfl
theorem kd_94 : kdT Try.prog 94 = .struct := by kernel_rfl
theorem sz_94 : szT Try.prog 94 = 0 := by kernel_rfl
theorem by_94 : bytesT Try.prog 94 = 0 := by kernel_rfl
theorem ze_94 : zeroT Try.prog 94 = some [] := by kernel_rfl
theorem pl_94 : placesT Try.prog 94 = some [(0, 0)] := by kernel_rfl
theorem kd_95 : kdT Try.prog 95 = .int .u8 := by kernel_rfl
theorem sz_95 : szT Try.prog 95 = 1 := by kernel_rfl
theorem by_95 : bytesT Try.prog 95 = 1 := by kernel_rfl
theorem ze_95 : zeroT Try.prog 95 = some [.int .u8 0] := by kernel_rfl
theorem kd_96 : kdT Try.prog 96 = .int .u8 := by kernel_rfl
theorem sz_96 : szT Try.prog 96 = 1 := by kernel_rfl
theorem by_96 : bytesT Try.prog 96 = 1 := by kernel_rfl
theorem ze_96 : zeroT Try.prog 96 = some [.int .u8 0] := by kernel_rfl
theorem kd_98 : kdT Try.prog 98 = .ptr := by kernel_rfl
theorem sz_98 : szT Try.prog 98 = 1 := by kernel_rfl
theorem by_98 : bytesT Try.prog 98 = 8 := by kernel_rfl
theorem ze_98 : zeroT Try.prog 98 = some [.lit (.pointer none)] := by kernel_rfl
theorem kd_99 : kdT Try.prog 99 = .int .i32 := by kernel_rfl
theorem sz_99 : szT Try.prog 99 = 1 := by kernel_rfl
theorem by_99 : bytesT Try.prog 99 = 4 := by kernel_rfl
theorem ze_99 : zeroT Try.prog 99 = some [.int .i32 0] := by kernel_rfl
theorem kd_100 : kdT Try.prog 100 = .int .i32 := by kernel_rfl
theorem sz_100 : szT Try.prog 100 = 1 := by kernel_rfl
theorem by_100 : bytesT Try.prog 100 = 4 := by kernel_rfl
theorem ze_100 : zeroT Try.prog 100 = some [.int .i32 0] := by kernel_rfl
theorem kd_101 : kdT Try.prog 101 = .struct := by kernel_rfl
theorem sz_101 : szT Try.prog 101 = 11 := by kernel_rfl
theorem by_101 : bytesT Try.prog 101 = 48 := by kernel_rfl
theorem ze_101 : zeroT Try.prog 101 = some [.int .u64 0, .int .u64 0, .int .u32 0, .int .u8 0, .int .u8 0, .int .u8 0, .int .u8 0, .lit .nilFunc, .lit (.pointer none), .int .i32 0, .int .i32 0] := by kernel_rfl
theorem pl_101 : placesT Try.prog 101 = some [(0, 1), (1, 1), (2, 1), (3, 1), (4, 1), (5, 1), (6, 1), (7, 1), (8, 1), (9, 1), (10, 1)] := by kernel_rfl
theorem fl_101_0 : fldT Try.prog 101 0 = some (0, 12) := by kernel_rfl
theorem fl_101_1 : fldT Try.prog 101 1 = some (1, 12) := by kernel_rfl
theorem fl_101_2 : fldT Try.prog 101 2 = some (2, 77) := by kernel_rfl
theorem fl_101_3 : fldT Try.prog 101 3 = some (3, 95) := by kernel_rfl
theorem fl_101_4 : fldT Try.prog 101 4 = some (4, 5) := by kernel_rfl
theorem fl_101_5 : fldT Try.prog 101 5 = some (5, 5) := by kernel_rfl
theorem fl_101_6 : fldT Try.prog 101 6 = some (6, 96) := by kernel_rfl
theorem fl_101_7 : fldT Try.prog 101 7 = some (7, 97) := by kernel_rfl
theorem fl_101_8 : fldT Try.prog 101 8 = some (8, 98) := by kernel_rfl
theorem fl_101_9 : fldT Try.prog 101 9 = some (9, 99) := by kernel_rfl
theorem fl_101_10 : fldT Try.prog 101 10 = some (10, 100) := by kernel_rfl
theorem kd_102 : kdT Try.prog 102 = .struct := by kernel_rfl
theorem sz_102 : szT Try.prog 102 = 11 := by kernel_rfl
theorem by_102 : bytesT Try.prog 102 = 48 := by kernel_rfl
theorem ze_102 : zeroT Try.prog 102 = some [.int .u64 0, .int .u64 0, .int .u32 0, .int .u8 0, .int .u8 0, .int .u8 0, .int .u8 0, .lit .nilFunc, .lit (.pointer none), .int .i32 0, .int .i32 0] := by kernel_rfl
theorem pl_102 : placesT Try.prog 102 = some [(0, 1), (1, 1), (2, 1), (3, 1), (4, 1), (5, 1), (6, 1), (7, 1), (8, 1), (9, 1), (10, 1)] := by kernel_rfl
theorem fl_102_0 : fldT Try.prog 102 0 = some (0, 12) := by kernel_rfl
theorem fl_102_1 : fldT Try.prog 102 1 = some (1, 12) := by kernel_rfl
theorem fl_102_2 : fldT Try.prog 102 2 = some (2, 77) := by kernel_rfl
theorem fl_102_3 : fldT Try.prog 102 3 = some (3, 95) := by kernel_rfl
theorem fl_102_4 : fldT Try.prog 102 4 = some (4, 5) := by kernel_rfl
theorem fl_102_5 : fldT Try.prog 102 5 = some (5, 5) := by kernel_rfl
theorem fl_102_6 : fldT Try.prog 102 6 = some (6, 96) := by kernel_rfl
theorem fl_102_7 : fldT Try.prog 102 7 = some (7, 97) := by kernel_rfl
theorem fl_102_8 : fldT Try.prog 102 8 = some (8, 98) := by kernel_rfl
theorem fl_102_9 : fldT Try.prog 102 9 = some (9, 99) := by kernel_rfl
theorem fl_102_10 : fldT Try.prog 102 10 = some (10, 100) := by kernel_rfl
instance : ETab := ⟨fun t => if t = 23 then some .byte else if t = 34 then some .str else if t = 22 then some .bytes else if t = 38 then some .file else if t = 37 then some .opn else none, fun t => if t = 54 then some (.str, .bytes) else none⟩
theorem et_23 : ETab.of 23 = some .byte := rfl
theorem et_34 : ETab.of 34 = some .str := rfl
theorem et_22 : ETab.of 22 = some .bytes := rfl
theorem et_38 : ETab.of 38 = some .file := rfl
theorem et_37 : ETab.of 37 = some .opn := rfl
theorem mt_54 : ETab.mof 54 = some (.str, .bytes) := rfl
theorem zv_23 : zeroV Try.prog 23 = some (.lit (.slice none 0 0)) := by kernel_rfl
theorem mixed : Try.prog.follows .mixedOrders = true := by kernel_rfl
theorem fn_2 : Try.prog.funcs[2]? = some Try.f2 := by kernel_rfl -- gosem.cut.init
theorem fn_3 : Try.prog.funcs[3]? = some Try.f3 := by kernel_rfl -- spacecraft/spacecraftlaw26.FilesKeep
theorem fn_4 : Try.prog.funcs[4]? = some Try.f4 := by kernel_rfl -- spacecraft/spacecraftlaw26.FilesBounds
theorem fn_5 : Try.prog.funcs[5]? = some Try.f5 := by kernel_rfl -- spacecraft/spacecraftlaw26.FilesPlays
theorem fn_6 : Try.prog.funcs[6]? = some Try.f6 := by kernel_rfl -- spacecraft/spacecraftlaw26.FilesNil
theorem fn_7 : Try.prog.funcs[7]? = some Try.f7 := by kernel_rfl -- spacecraft/spacecraftlaw26.alive
theorem fn_8 : Try.prog.funcs[8]? = some Try.f8 := by kernel_rfl -- spacecraft/files.New
theorem fn_9 : Try.prog.funcs[9]? = some Try.f9 := by kernel_rfl -- (*spacecraft/files.Store).Put
theorem fn_10 : Try.prog.funcs[10]? = some Try.f10 := by kernel_rfl -- (*spacecraft/files.Store).Delete
theorem fn_11 : Try.prog.funcs[11]? = some Try.f11 := by kernel_rfl -- (*spacecraft/files.Store).Get
theorem fn_12 : Try.prog.funcs[12]? = some Try.f12 := by kernel_rfl -- (*spacecraft/files.Store).Free
theorem fn_13 : Try.prog.funcs[13]? = some Try.f13 := by kernel_rfl -- (*spacecraft/files.Store).Names
theorem fn_14 : Try.prog.funcs[14]? = some Try.f14 := by kernel_rfl -- spacecraft/spacecraftref26.New
theorem fn_15 : Try.prog.funcs[15]? = some Try.f15 := by kernel_rfl -- spacecraft/spacecraftref26.Put
theorem fn_16 : Try.prog.funcs[16]? = some Try.f16 := by kernel_rfl -- spacecraft/spacecraftref26.Delete
theorem fn_17 : Try.prog.funcs[17]? = some Try.f17 := by kernel_rfl -- (*spacecraft/files.Store).Clone
theorem fn_18 : Try.prog.funcs[18]? = some Try.f18 := by kernel_rfl -- spacecraft/spacecraftref26.Get
theorem fn_19 : Try.prog.funcs[19]? = some Try.f19 := by kernel_rfl -- spacecraft/files.Name
theorem fn_20 : Try.prog.funcs[20]? = some Try.f20 := by kernel_rfl -- spacecraft/spacecraftref26.Name
theorem fn_21 : Try.prog.funcs[21]? = some Try.f21 := by kernel_rfl -- spacecraft/spacecraftref26.Free
theorem fn_22 : Try.prog.funcs[22]? = some Try.f22 := by kernel_rfl -- spacecraft/spacecraftref26.Texts
theorem fn_23 : Try.prog.funcs[23]? = some Try.f23 := by kernel_rfl -- spacecraft/spacecraftref26.Names
theorem fn_24 : Try.prog.funcs[24]? = some Try.f24 := by kernel_rfl -- (*spacecraft/files.Store).usable
theorem fn_25 : Try.prog.funcs[25]? = some Try.f25 := by kernel_rfl -- bytes.Clone
theorem fn_26 : Try.prog.funcs[26]? = some Try.f26 := by kernel_rfl -- (*spacecraft/files.Store).find
theorem fn_27 : Try.prog.funcs[27]? = some Try.f27 := by kernel_rfl -- slices.Sort[[]string,string]
theorem fn_28 : Try.prog.funcs[28]? = some Try.f28 := by kernel_rfl -- spacecraft/spacecraftref26.find
theorem fn_29 : Try.prog.funcs[29]? = some Try.f29 := by kernel_rfl -- slices.pdqsortOrdered[string]
theorem fn_30 : Try.prog.funcs[30]? = some Try.f30 := by kernel_rfl -- math/bits.Len
theorem fn_31 : Try.prog.funcs[31]? = some Try.f31 := by kernel_rfl -- slices.insertionSortOrdered[string]
theorem fn_32 : Try.prog.funcs[32]? = some Try.f32 := by kernel_rfl -- slices.heapSortOrdered[string]
theorem fn_33 : Try.prog.funcs[33]? = some Try.f33 := by kernel_rfl -- slices.breakPatternsOrdered[string]
theorem fn_34 : Try.prog.funcs[34]? = some Try.f34 := by kernel_rfl -- slices.choosePivotOrdered[string]
theorem fn_35 : Try.prog.funcs[35]? = some Try.f35 := by kernel_rfl -- slices.reverseRangeOrdered[string]
theorem fn_36 : Try.prog.funcs[36]? = some Try.f36 := by kernel_rfl -- slices.partialInsertionSortOrdered[string]
theorem fn_37 : Try.prog.funcs[37]? = some Try.f37 := by kernel_rfl -- cmp.Less[string]
theorem fn_38 : Try.prog.funcs[38]? = some Try.f38 := by kernel_rfl -- slices.partitionEqualOrdered[string]
theorem fn_39 : Try.prog.funcs[39]? = some Try.f39 := by kernel_rfl -- slices.partitionOrdered[string]
theorem fn_40 : Try.prog.funcs[40]? = some Try.f40 := by kernel_rfl -- math/bits.Len32
theorem fn_41 : Try.prog.funcs[41]? = some Try.f41 := by kernel_rfl -- math/bits.Len64
theorem fn_42 : Try.prog.funcs[42]? = some Try.f42 := by kernel_rfl -- slices.siftDownOrdered[string]
theorem fn_43 : Try.prog.funcs[43]? = some Try.f43 := by kernel_rfl -- slices.nextPowerOfTwo
theorem fn_44 : Try.prog.funcs[44]? = some Try.f44 := by kernel_rfl -- (*slices.xorshift).Next
theorem fn_45 : Try.prog.funcs[45]? = some Try.f45 := by kernel_rfl -- slices.medianAdjacentOrdered[string]
theorem fn_46 : Try.prog.funcs[46]? = some Try.f46 := by kernel_rfl -- slices.medianOrdered[string]
theorem fn_47 : Try.prog.funcs[47]? = some Try.f47 := by kernel_rfl -- cmp.isNaN[string]
theorem fn_48 : Try.prog.funcs[48]? = some Try.f48 := by kernel_rfl -- slices.order2Ordered[string]
attribute [go_sem] kd_2 sz_2 by_2 ze_2 kd_3 sz_3 by_3 ze_3 kd_4 sz_4 by_4 ze_4 kd_5 sz_5 by_5 ze_5 kd_6 sz_6 by_6 ze_6 kd_7 sz_7 by_7 ze_7 pl_7 fl_7_0 fl_7_1 fl_7_2 fl_7_3 kd_8 sz_8 by_8 ze_8 pl_8 fl_8_0 fl_8_1 fl_8_2 fl_8_3 kd_9 sz_9 by_9 ze_9 kd_10 sz_10 by_10 ze_10 kd_11 sz_11 by_11 ze_11 kd_12 sz_12 by_12 ze_12 kd_13 sz_13 by_13 ze_13 pl_13 fl_13_0 fl_13_1 kd_14 sz_14 by_14 ze_14 pl_14 fl_14_0 fl_14_1 kd_15 sz_15 by_15 ze_15 kd_16 sz_16 by_16 ze_16 kd_17 sz_17 by_17 ze_17 kd_18 sz_18 by_18 ze_18 pl_18 fl_18_0 kd_19 sz_19 by_19 ze_19 pl_19 fl_19_0 kd_20 sz_20 by_20 ze_20 kd_21 sz_21 by_21 ze_21 kd_22 sz_22 by_22 ze_22 kd_23 sz_23 by_23 ze_23 kd_25 sz_25 by_25 ze_25 kd_27 sz_27 by_27 ze_27 kd_34 sz_34 by_34 ze_34 kd_37 sz_37 by_37 ze_37 kd_38 sz_38 by_38 ze_38 kd_39 sz_39 by_39 ze_39 pl_39 fl_39_0 fl_39_1 fl_39_2 kd_40 sz_40 by_40 ze_40 pl_40 fl_40_0 fl_40_1 fl_40_2 kd_42 sz_42 by_42 ze_42 pl_42 fl_42_0 fl_42_1 fl_42_2 kd_43 sz_43 by_43 ze_43 pl_43 fl_43_0 fl_43_1 fl_43_2 kd_54 sz_54 by_54 ze_54 kd_55 sz_55 by_55 ze_55 pl_55 fl_55_0 fl_55_1 fl_55_2 kd_56 sz_56 by_56 ze_56 pl_56 fl_56_0 fl_56_1 fl_56_2 kd_63 sz_63 by_63 ze_63 pl_63 fl_63_0 fl_63_1 kd_64 sz_64 by_64 ze_64 pl_64 fl_64_0 fl_64_1 kd_67 sz_67 by_67 ze_67 kd_69 sz_69 by_69 ze_69 kd_77 sz_77 by_77 ze_77 kd_79 sz_79 by_79 ze_79 kd_80 sz_80 by_80 ze_80 kd_84 sz_84 by_84 ze_84 kd_86 sz_86 by_86 ze_86 kd_90 sz_90 by_90 ze_90 pl_90 fl_90_0 fl_90_1 fl_90_2 fl_90_3 kd_91 sz_91 by_91 ze_91 pl_91 fl_91_0 fl_91_1 fl_91_2 fl_91_3 kd_92 sz_92 by_92 ze_92 kd_93 sz_93 by_93 ze_93 pl_93 kd_94 sz_94 by_94 ze_94 pl_94 kd_95 sz_95 by_95 ze_95 kd_96 sz_96 by_96 ze_96 kd_98 sz_98 by_98 ze_98 kd_99 sz_99 by_99 ze_99 kd_100 sz_100 by_100 ze_100 kd_101 sz_101 by_101 ze_101 pl_101 fl_101_0 fl_101_1 fl_101_2 fl_101_3 fl_101_4 fl_101_5 fl_101_6 fl_101_7 fl_101_8 fl_101_9 fl_101_10 kd_102 sz_102 by_102 ze_102 pl_102 fl_102_0 fl_102_1 fl_102_2 fl_102_3 fl_102_4 fl_102_5 fl_102_6 fl_102_7 fl_102_8 fl_102_9 fl_102_10 et_23 et_34 et_22 et_38 et_37 mt_54 zv_23
end Go.V
