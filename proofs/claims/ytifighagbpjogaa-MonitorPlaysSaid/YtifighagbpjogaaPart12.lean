/-
  T
  monitor: the checkers, newChecker, feed of a limit.
-/
import Derived.Test.YtifighagbpjogaaPart11
import Derived.Test.YtifighagbpjogaaProg
import Derived.KernelRfl
set_option linter.unusedVariables false
set_option linter.unusedSimpArgs false
namespace Go.V
open Go.Proofs
theorem kd_2 : kdT Try.prog 2 = .int .i64 := by kernel_rfl
theorem sz_2 : szT Try.prog 2 = 1 := by kernel_rfl
theorem by_2 : bytesT Try.prog 2 = 8 := by kernel_rfl
theorem ze_2 : zeroT Try.prog 2 = some [.int .i64 0] := by kernel_rfl
theorem kd_3 : kdT Try.prog 3 = .int .i64 := by kernel_rfl
theorem sz_3 : szT Try.prog 3 = 1 := by kernel_rfl
theorem by_3 : bytesT Try.prog 3 = 8 := by kernel_rfl
theorem ze_3 : zeroT Try.prog 3 = some [.int .i64 0] := by kernel_rfl
theorem kd_4 : kdT Try.prog 4 = .bool := by kernel_rfl
theorem sz_4 : szT Try.prog 4 = 1 := by kernel_rfl
theorem by_4 : bytesT Try.prog 4 = 1 := by kernel_rfl
theorem ze_4 : zeroT Try.prog 4 = some [.bool false] := by kernel_rfl
theorem kd_5 : kdT Try.prog 5 = .int .u8 := by kernel_rfl
theorem sz_5 : szT Try.prog 5 = 1 := by kernel_rfl
theorem by_5 : bytesT Try.prog 5 = 1 := by kernel_rfl
theorem ze_5 : zeroT Try.prog 5 = some [.int .u8 0] := by kernel_rfl
theorem kd_6 : kdT Try.prog 6 = .int .u8 := by kernel_rfl
theorem sz_6 : szT Try.prog 6 = 1 := by kernel_rfl
theorem by_6 : bytesT Try.prog 6 = 1 := by kernel_rfl
theorem ze_6 : zeroT Try.prog 6 = some [.int .u8 0] := by kernel_rfl
theorem kd_7 : kdT Try.prog 7 = .struct := by kernel_rfl
theorem sz_7 : szT Try.prog 7 = 4 := by kernel_rfl
theorem by_7 : bytesT Try.prog 7 = 24 := by kernel_rfl
theorem ze_7 : zeroT Try.prog 7 = some [.int .i64 0, .int .i64 0, .bool false, .int .u8 0] := by kernel_rfl
theorem pl_7 : placesT Try.prog 7 = some [(0, 1), (1, 1), (2, 1), (3, 1)] := by kernel_rfl
theorem fl_7_0 : fldT Try.prog 7 0 = some (0, 2) := by kernel_rfl
theorem fl_7_1 : fldT Try.prog 7 1 = some (1, 3) := by kernel_rfl
theorem fl_7_2 : fldT Try.prog 7 2 = some (2, 4) := by kernel_rfl
theorem fl_7_3 : fldT Try.prog 7 3 = some (3, 6) := by kernel_rfl
theorem kd_8 : kdT Try.prog 8 = .struct := by kernel_rfl
theorem sz_8 : szT Try.prog 8 = 4 := by kernel_rfl
theorem by_8 : bytesT Try.prog 8 = 24 := by kernel_rfl
theorem ze_8 : zeroT Try.prog 8 = some [.int .i64 0, .int .i64 0, .bool false, .int .u8 0] := by kernel_rfl
theorem pl_8 : placesT Try.prog 8 = some [(0, 1), (1, 1), (2, 1), (3, 1)] := by kernel_rfl
theorem fl_8_0 : fldT Try.prog 8 0 = some (0, 2) := by kernel_rfl
theorem fl_8_1 : fldT Try.prog 8 1 = some (1, 3) := by kernel_rfl
theorem fl_8_2 : fldT Try.prog 8 2 = some (2, 4) := by kernel_rfl
theorem fl_8_3 : fldT Try.prog 8 3 = some (3, 6) := by kernel_rfl
theorem kd_9 : kdT Try.prog 9 = .str := by kernel_rfl
theorem sz_9 : szT Try.prog 9 = 1 := by kernel_rfl
theorem by_9 : bytesT Try.prog 9 = 16 := by kernel_rfl
theorem ze_9 : zeroT Try.prog 9 = some [.str []] := by kernel_rfl
theorem kd_10 : kdT Try.prog 10 = .str := by kernel_rfl
theorem sz_10 : szT Try.prog 10 = 1 := by kernel_rfl
theorem by_10 : bytesT Try.prog 10 = 16 := by kernel_rfl
theorem ze_10 : zeroT Try.prog 10 = some [.str []] := by kernel_rfl
theorem kd_11 : kdT Try.prog 11 = .str := by kernel_rfl
theorem sz_11 : szT Try.prog 11 = 1 := by kernel_rfl
theorem by_11 : bytesT Try.prog 11 = 16 := by kernel_rfl
theorem ze_11 : zeroT Try.prog 11 = some [.str []] := by kernel_rfl
theorem kd_12 : kdT Try.prog 12 = .int .u64 := by kernel_rfl
theorem sz_12 : szT Try.prog 12 = 1 := by kernel_rfl
theorem by_12 : bytesT Try.prog 12 = 8 := by kernel_rfl
theorem ze_12 : zeroT Try.prog 12 = some [.int .u64 0] := by kernel_rfl
theorem kd_13 : kdT Try.prog 13 = .struct := by kernel_rfl
theorem sz_13 : szT Try.prog 13 = 2 := by kernel_rfl
theorem by_13 : bytesT Try.prog 13 = 24 := by kernel_rfl
theorem ze_13 : zeroT Try.prog 13 = some [.str [], .int .u64 0] := by kernel_rfl
theorem pl_13 : placesT Try.prog 13 = some [(0, 1), (1, 1)] := by kernel_rfl
theorem fl_13_0 : fldT Try.prog 13 0 = some (0, 9) := by kernel_rfl
theorem fl_13_1 : fldT Try.prog 13 1 = some (1, 12) := by kernel_rfl
theorem kd_14 : kdT Try.prog 14 = .struct := by kernel_rfl
theorem sz_14 : szT Try.prog 14 = 2 := by kernel_rfl
theorem by_14 : bytesT Try.prog 14 = 24 := by kernel_rfl
theorem ze_14 : zeroT Try.prog 14 = some [.str [], .int .u64 0] := by kernel_rfl
theorem pl_14 : placesT Try.prog 14 = some [(0, 1), (1, 1)] := by kernel_rfl
theorem fl_14_0 : fldT Try.prog 14 0 = some (0, 9) := by kernel_rfl
theorem fl_14_1 : fldT Try.prog 14 1 = some (1, 12) := by kernel_rfl
theorem kd_15 : kdT Try.prog 15 = .ptr := by kernel_rfl
theorem sz_15 : szT Try.prog 15 = 1 := by kernel_rfl
theorem by_15 : bytesT Try.prog 15 = 8 := by kernel_rfl
theorem ze_15 : zeroT Try.prog 15 = some [.lit (.pointer none)] := by kernel_rfl
theorem kd_16 : kdT Try.prog 16 = .ptr := by kernel_rfl
theorem sz_16 : szT Try.prog 16 = 1 := by kernel_rfl
theorem by_16 : bytesT Try.prog 16 = 8 := by kernel_rfl
theorem ze_16 : zeroT Try.prog 16 = some [.lit (.pointer none)] := by kernel_rfl
theorem kd_17 : kdT Try.prog 17 = .ptr := by kernel_rfl
theorem sz_17 : szT Try.prog 17 = 1 := by kernel_rfl
theorem by_17 : bytesT Try.prog 17 = 8 := by kernel_rfl
theorem ze_17 : zeroT Try.prog 17 = some [.lit (.pointer none)] := by kernel_rfl
theorem kd_18 : kdT Try.prog 18 = .struct := by kernel_rfl
theorem sz_18 : szT Try.prog 18 = 1 := by kernel_rfl
theorem by_18 : bytesT Try.prog 18 = 8 := by kernel_rfl
theorem ze_18 : zeroT Try.prog 18 = some [.lit (.pointer none)] := by kernel_rfl
theorem pl_18 : placesT Try.prog 18 = some [(0, 1)] := by kernel_rfl
theorem fl_18_0 : fldT Try.prog 18 0 = some (0, 17) := by kernel_rfl
theorem kd_19 : kdT Try.prog 19 = .struct := by kernel_rfl
theorem sz_19 : szT Try.prog 19 = 1 := by kernel_rfl
theorem by_19 : bytesT Try.prog 19 = 8 := by kernel_rfl
theorem ze_19 : zeroT Try.prog 19 = some [.lit (.pointer none)] := by kernel_rfl
theorem pl_19 : placesT Try.prog 19 = some [(0, 1)] := by kernel_rfl
theorem fl_19_0 : fldT Try.prog 19 0 = some (0, 17) := by kernel_rfl
theorem kd_20 : kdT Try.prog 20 = .iface := by kernel_rfl
theorem sz_20 : szT Try.prog 20 = 1 := by kernel_rfl
theorem by_20 : bytesT Try.prog 20 = 16 := by kernel_rfl
theorem ze_20 : zeroT Try.prog 20 = some [.lit .nilIface] := by kernel_rfl
theorem kd_21 : kdT Try.prog 21 = .int .i32 := by kernel_rfl
theorem sz_21 : szT Try.prog 21 = 1 := by kernel_rfl
theorem by_21 : bytesT Try.prog 21 = 4 := by kernel_rfl
theorem ze_21 : zeroT Try.prog 21 = some [.int .i32 0] := by kernel_rfl
theorem kd_22 : kdT Try.prog 22 = .int .i16 := by kernel_rfl
theorem sz_22 : szT Try.prog 22 = 1 := by kernel_rfl
theorem by_22 : bytesT Try.prog 22 = 2 := by kernel_rfl
theorem ze_22 : zeroT Try.prog 22 = some [.int .i16 0] := by kernel_rfl
theorem kd_23 : kdT Try.prog 23 = .slice 22 := by kernel_rfl
theorem sz_23 : szT Try.prog 23 = 1 := by kernel_rfl
theorem by_23 : bytesT Try.prog 23 = 24 := by kernel_rfl
theorem ze_23 : zeroT Try.prog 23 = some [.lit (.slice none 0 0)] := by kernel_rfl
theorem kd_25 : kdT Try.prog 25 = .ptr := by kernel_rfl
theorem sz_25 : szT Try.prog 25 = 1 := by kernel_rfl
theorem by_25 : bytesT Try.prog 25 = 8 := by kernel_rfl
theorem ze_25 : zeroT Try.prog 25 = some [.lit (.pointer none)] := by kernel_rfl
theorem kd_26 : kdT Try.prog 26 = .int .i64 := by kernel_rfl
theorem sz_26 : szT Try.prog 26 = 1 := by kernel_rfl
theorem by_26 : bytesT Try.prog 26 = 8 := by kernel_rfl
theorem ze_26 : zeroT Try.prog 26 = some [.int .i64 0] := by kernel_rfl
theorem kd_29 : kdT Try.prog 29 = .struct := by kernel_rfl
theorem sz_29 : szT Try.prog 29 = 8 := by kernel_rfl
theorem by_29 : bytesT Try.prog 29 = 64 := by kernel_rfl
theorem ze_29 : zeroT Try.prog 29 = some [.int .i64 0, .int .i64 0, .int .i64 0, .int .i64 0, .int .i64 0, .int .i64 0, .int .i64 0, .int .i64 0] := by kernel_rfl
theorem pl_29 : placesT Try.prog 29 = some [(0, 1), (1, 1), (2, 1), (3, 1), (4, 1), (5, 1), (6, 1), (7, 1)] := by kernel_rfl
theorem fl_29_0 : fldT Try.prog 29 0 = some (0, 3) := by kernel_rfl
theorem fl_29_1 : fldT Try.prog 29 1 = some (1, 3) := by kernel_rfl
theorem fl_29_2 : fldT Try.prog 29 2 = some (2, 3) := by kernel_rfl
theorem fl_29_3 : fldT Try.prog 29 3 = some (3, 3) := by kernel_rfl
theorem fl_29_4 : fldT Try.prog 29 4 = some (4, 3) := by kernel_rfl
theorem fl_29_5 : fldT Try.prog 29 5 = some (5, 3) := by kernel_rfl
theorem fl_29_6 : fldT Try.prog 29 6 = some (6, 3) := by kernel_rfl
theorem fl_29_7 : fldT Try.prog 29 7 = some (7, 3) := by kernel_rfl
theorem kd_30 : kdT Try.prog 30 = .struct := by kernel_rfl
theorem sz_30 : szT Try.prog 30 = 8 := by kernel_rfl
theorem by_30 : bytesT Try.prog 30 = 64 := by kernel_rfl
theorem ze_30 : zeroT Try.prog 30 = some [.int .i64 0, .int .i64 0, .int .i64 0, .int .i64 0, .int .i64 0, .int .i64 0, .int .i64 0, .int .i64 0] := by kernel_rfl
theorem pl_30 : placesT Try.prog 30 = some [(0, 1), (1, 1), (2, 1), (3, 1), (4, 1), (5, 1), (6, 1), (7, 1)] := by kernel_rfl
theorem fs_30 : fldsT Try.prog 30 = some [(0, 3), (1, 3), (2, 3), (3, 3), (4, 3), (5, 3), (6, 3), (7, 3)] := by kernel_rfl
theorem fl_30_0 : fldT Try.prog 30 0 = some (0, 3) := by kernel_rfl
theorem fl_30_1 : fldT Try.prog 30 1 = some (1, 3) := by kernel_rfl
theorem fl_30_2 : fldT Try.prog 30 2 = some (2, 3) := by kernel_rfl
theorem fl_30_3 : fldT Try.prog 30 3 = some (3, 3) := by kernel_rfl
theorem fl_30_4 : fldT Try.prog 30 4 = some (4, 3) := by kernel_rfl
theorem fl_30_5 : fldT Try.prog 30 5 = some (5, 3) := by kernel_rfl
theorem fl_30_6 : fldT Try.prog 30 6 = some (6, 3) := by kernel_rfl
theorem fl_30_7 : fldT Try.prog 30 7 = some (7, 3) := by kernel_rfl
theorem kd_31 : kdT Try.prog 31 = .slice 30 := by kernel_rfl
theorem sz_31 : szT Try.prog 31 = 1 := by kernel_rfl
theorem by_31 : bytesT Try.prog 31 = 24 := by kernel_rfl
theorem ze_31 : zeroT Try.prog 31 = some [.lit (.slice none 0 0)] := by kernel_rfl
theorem kd_32 : kdT Try.prog 32 = .ptr := by kernel_rfl
theorem sz_32 : szT Try.prog 32 = 1 := by kernel_rfl
theorem by_32 : bytesT Try.prog 32 = 8 := by kernel_rfl
theorem ze_32 : zeroT Try.prog 32 = some [.lit (.pointer none)] := by kernel_rfl
theorem kd_33 : kdT Try.prog 33 = .slice 81 := by kernel_rfl
theorem sz_33 : szT Try.prog 33 = 1 := by kernel_rfl
theorem by_33 : bytesT Try.prog 33 = 24 := by kernel_rfl
theorem ze_33 : zeroT Try.prog 33 = some [.lit (.slice none 0 0)] := by kernel_rfl
theorem kd_34 : kdT Try.prog 34 = .struct := by kernel_rfl
theorem sz_34 : szT Try.prog 34 = 1 := by kernel_rfl
theorem by_34 : bytesT Try.prog 34 = 24 := by kernel_rfl
theorem ze_34 : zeroT Try.prog 34 = some [.lit (.slice none 0 0)] := by kernel_rfl
theorem pl_34 : placesT Try.prog 34 = some [(0, 1)] := by kernel_rfl
theorem fl_34_0 : fldT Try.prog 34 0 = some (0, 33) := by kernel_rfl
theorem kd_35 : kdT Try.prog 35 = .struct := by kernel_rfl
theorem sz_35 : szT Try.prog 35 = 1 := by kernel_rfl
theorem by_35 : bytesT Try.prog 35 = 24 := by kernel_rfl
theorem ze_35 : zeroT Try.prog 35 = some [.lit (.slice none 0 0)] := by kernel_rfl
theorem pl_35 : placesT Try.prog 35 = some [(0, 1)] := by kernel_rfl
theorem fl_35_0 : fldT Try.prog 35 0 = some (0, 33) := by kernel_rfl
theorem kd_39 : kdT Try.prog 39 = .slice 42 := by kernel_rfl
theorem sz_39 : szT Try.prog 39 = 1 := by kernel_rfl
theorem by_39 : bytesT Try.prog 39 = 24 := by kernel_rfl
theorem ze_39 : zeroT Try.prog 39 = some [.lit (.slice none 0 0)] := by kernel_rfl
theorem kd_41 : kdT Try.prog 41 = .struct := by kernel_rfl
theorem sz_41 : szT Try.prog 41 = 5 := by kernel_rfl
theorem by_41 : bytesT Try.prog 41 = 40 := by kernel_rfl
theorem ze_41 : zeroT Try.prog 41 = some [.int .i64 0, .int .i64 0, .int .i64 0, .int .i64 0, .int .i64 0] := by kernel_rfl
theorem pl_41 : placesT Try.prog 41 = some [(0, 1), (1, 1), (2, 1), (3, 1), (4, 1)] := by kernel_rfl
theorem fl_41_0 : fldT Try.prog 41 0 = some (0, 3) := by kernel_rfl
theorem fl_41_1 : fldT Try.prog 41 1 = some (1, 3) := by kernel_rfl
theorem fl_41_2 : fldT Try.prog 41 2 = some (2, 3) := by kernel_rfl
theorem fl_41_3 : fldT Try.prog 41 3 = some (3, 3) := by kernel_rfl
theorem fl_41_4 : fldT Try.prog 41 4 = some (4, 3) := by kernel_rfl
theorem kd_42 : kdT Try.prog 42 = .struct := by kernel_rfl
theorem sz_42 : szT Try.prog 42 = 5 := by kernel_rfl
theorem by_42 : bytesT Try.prog 42 = 40 := by kernel_rfl
theorem ze_42 : zeroT Try.prog 42 = some [.int .i64 0, .int .i64 0, .int .i64 0, .int .i64 0, .int .i64 0] := by kernel_rfl
theorem pl_42 : placesT Try.prog 42 = some [(0, 1), (1, 1), (2, 1), (3, 1), (4, 1)] := by kernel_rfl
theorem fs_42 : fldsT Try.prog 42 = some [(0, 3), (1, 3), (2, 3), (3, 3), (4, 3)] := by kernel_rfl
theorem fl_42_0 : fldT Try.prog 42 0 = some (0, 3) := by kernel_rfl
theorem fl_42_1 : fldT Try.prog 42 1 = some (1, 3) := by kernel_rfl
theorem fl_42_2 : fldT Try.prog 42 2 = some (2, 3) := by kernel_rfl
theorem fl_42_3 : fldT Try.prog 42 3 = some (3, 3) := by kernel_rfl
theorem fl_42_4 : fldT Try.prog 42 4 = some (4, 3) := by kernel_rfl
theorem kd_45 : kdT Try.prog 45 = .int .u16 := by kernel_rfl
theorem sz_45 : szT Try.prog 45 = 1 := by kernel_rfl
theorem by_45 : bytesT Try.prog 45 = 2 := by kernel_rfl
theorem ze_45 : zeroT Try.prog 45 = some [.int .u16 0] := by kernel_rfl
theorem kd_47 : kdT Try.prog 47 = .slice 51 := by kernel_rfl
theorem sz_47 : szT Try.prog 47 = 1 := by kernel_rfl
theorem by_47 : bytesT Try.prog 47 = 24 := by kernel_rfl
theorem ze_47 : zeroT Try.prog 47 = some [.lit (.slice none 0 0)] := by kernel_rfl
theorem kd_48 : kdT Try.prog 48 = .slice 3 := by kernel_rfl
theorem sz_48 : szT Try.prog 48 = 1 := by kernel_rfl
theorem by_48 : bytesT Try.prog 48 = 24 := by kernel_rfl
theorem ze_48 : zeroT Try.prog 48 = some [.lit (.slice none 0 0)] := by kernel_rfl
theorem kd_49 : kdT Try.prog 49 = .slice 4 := by kernel_rfl
theorem sz_49 : szT Try.prog 49 = 1 := by kernel_rfl
theorem by_49 : bytesT Try.prog 49 = 24 := by kernel_rfl
theorem ze_49 : zeroT Try.prog 49 = some [.lit (.slice none 0 0)] := by kernel_rfl
theorem kd_50 : kdT Try.prog 50 = .struct := by kernel_rfl
theorem sz_50 : szT Try.prog 50 = 4 := by kernel_rfl
theorem by_50 : bytesT Try.prog 50 = 32 := by kernel_rfl
theorem ze_50 : zeroT Try.prog 50 = some [.int .i64 0, .int .i64 0, .int .i64 0, .bool false] := by kernel_rfl
theorem pl_50 : placesT Try.prog 50 = some [(0, 1), (1, 1), (2, 1), (3, 1)] := by kernel_rfl
theorem fl_50_0 : fldT Try.prog 50 0 = some (0, 3) := by kernel_rfl
theorem fl_50_1 : fldT Try.prog 50 1 = some (1, 3) := by kernel_rfl
theorem fl_50_2 : fldT Try.prog 50 2 = some (2, 3) := by kernel_rfl
theorem fl_50_3 : fldT Try.prog 50 3 = some (3, 4) := by kernel_rfl
theorem kd_51 : kdT Try.prog 51 = .struct := by kernel_rfl
theorem sz_51 : szT Try.prog 51 = 4 := by kernel_rfl
theorem by_51 : bytesT Try.prog 51 = 32 := by kernel_rfl
theorem ze_51 : zeroT Try.prog 51 = some [.int .i64 0, .int .i64 0, .int .i64 0, .bool false] := by kernel_rfl
theorem pl_51 : placesT Try.prog 51 = some [(0, 1), (1, 1), (2, 1), (3, 1)] := by kernel_rfl
theorem fs_51 : fldsT Try.prog 51 = some [(0, 3), (1, 3), (2, 3), (3, 4)] := by kernel_rfl
theorem fl_51_0 : fldT Try.prog 51 0 = some (0, 3) := by kernel_rfl
theorem fl_51_1 : fldT Try.prog 51 1 = some (1, 3) := by kernel_rfl
theorem fl_51_2 : fldT Try.prog 51 2 = some (2, 3) := by kernel_rfl
theorem fl_51_3 : fldT Try.prog 51 3 = some (3, 4) := by kernel_rfl
theorem kd_54 : kdT Try.prog 54 = .slice 94 := by kernel_rfl
theorem sz_54 : szT Try.prog 54 = 1 := by kernel_rfl
theorem by_54 : bytesT Try.prog 54 = 24 := by kernel_rfl
theorem ze_54 : zeroT Try.prog 54 = some [.lit (.slice none 0 0)] := by kernel_rfl
theorem kd_55 : kdT Try.prog 55 = .struct := by kernel_rfl
theorem sz_55 : szT Try.prog 55 = 2 := by kernel_rfl
theorem by_55 : bytesT Try.prog 55 = 32 := by kernel_rfl
theorem ze_55 : zeroT Try.prog 55 = some [.int .i64 0, .lit (.slice none 0 0)] := by kernel_rfl
theorem pl_55 : placesT Try.prog 55 = some [(0, 1), (1, 1)] := by kernel_rfl
theorem fl_55_0 : fldT Try.prog 55 0 = some (0, 3) := by kernel_rfl
theorem fl_55_1 : fldT Try.prog 55 1 = some (1, 54) := by kernel_rfl
theorem kd_56 : kdT Try.prog 56 = .struct := by kernel_rfl
theorem sz_56 : szT Try.prog 56 = 2 := by kernel_rfl
theorem by_56 : bytesT Try.prog 56 = 32 := by kernel_rfl
theorem ze_56 : zeroT Try.prog 56 = some [.int .i64 0, .lit (.slice none 0 0)] := by kernel_rfl
theorem pl_56 : placesT Try.prog 56 = some [(0, 1), (1, 1)] := by kernel_rfl
theorem fl_56_0 : fldT Try.prog 56 0 = some (0, 3) := by kernel_rfl
theorem fl_56_1 : fldT Try.prog 56 1 = some (1, 54) := by kernel_rfl
theorem kd_69 : kdT Try.prog 69 = .slice 77 := by kernel_rfl
theorem sz_69 : szT Try.prog 69 = 1 := by kernel_rfl
theorem by_69 : bytesT Try.prog 69 = 24 := by kernel_rfl
theorem ze_69 : zeroT Try.prog 69 = some [.lit (.slice none 0 0)] := by kernel_rfl
theorem kd_70 : kdT Try.prog 70 = .struct := by kernel_rfl
theorem sz_70 : szT Try.prog 70 = 3 := by kernel_rfl
theorem by_70 : bytesT Try.prog 70 = 40 := by kernel_rfl
theorem ze_70 : zeroT Try.prog 70 = some [.bool false, .int .i64 0, .lit (.slice none 0 0)] := by kernel_rfl
theorem pl_70 : placesT Try.prog 70 = some [(0, 1), (1, 1), (2, 1)] := by kernel_rfl
theorem fl_70_0 : fldT Try.prog 70 0 = some (0, 4) := by kernel_rfl
theorem fl_70_1 : fldT Try.prog 70 1 = some (1, 3) := by kernel_rfl
theorem fl_70_2 : fldT Try.prog 70 2 = some (2, 69) := by kernel_rfl
theorem kd_71 : kdT Try.prog 71 = .struct := by kernel_rfl
theorem sz_71 : szT Try.prog 71 = 3 := by kernel_rfl
theorem by_71 : bytesT Try.prog 71 = 40 := by kernel_rfl
theorem ze_71 : zeroT Try.prog 71 = some [.bool false, .int .i64 0, .lit (.slice none 0 0)] := by kernel_rfl
theorem pl_71 : placesT Try.prog 71 = some [(0, 1), (1, 1), (2, 1)] := by kernel_rfl
theorem fl_71_0 : fldT Try.prog 71 0 = some (0, 4) := by kernel_rfl
theorem fl_71_1 : fldT Try.prog 71 1 = some (1, 3) := by kernel_rfl
theorem fl_71_2 : fldT Try.prog 71 2 = some (2, 69) := by kernel_rfl
theorem kd_73 : kdT Try.prog 73 = .iface := by kernel_rfl
theorem sz_73 : szT Try.prog 73 = 1 := by kernel_rfl
theorem by_73 : bytesT Try.prog 73 = 16 := by kernel_rfl
theorem ze_73 : zeroT Try.prog 73 = some [.lit .nilIface] := by kernel_rfl
theorem kd_74 : kdT Try.prog 74 = .iface := by kernel_rfl
theorem sz_74 : szT Try.prog 74 = 1 := by kernel_rfl
theorem by_74 : bytesT Try.prog 74 = 16 := by kernel_rfl
theorem ze_74 : zeroT Try.prog 74 = some [.lit .nilIface] := by kernel_rfl
theorem kd_77 : kdT Try.prog 77 = .ptr := by kernel_rfl
theorem sz_77 : szT Try.prog 77 = 1 := by kernel_rfl
theorem by_77 : bytesT Try.prog 77 = 8 := by kernel_rfl
theorem ze_77 : zeroT Try.prog 77 = some [.lit (.pointer none)] := by kernel_rfl
theorem kd_78 : kdT Try.prog 78 = .struct := by kernel_rfl
theorem sz_78 : szT Try.prog 78 = 13 := by kernel_rfl
theorem by_78 : bytesT Try.prog 78 = 112 := by kernel_rfl
theorem ze_78 : zeroT Try.prog 78 = some [.int .i64 0, .int .i64 0, .int .i64 0, .int .i64 0, .int .i64 0, .int .i64 0, .int .i64 0, .int .i64 0, .lit .nilIface, .bool false, .int .i64 0, .int .i64 0, .int .i64 0] := by kernel_rfl
theorem pl_78 : placesT Try.prog 78 = some [(0, 8), (8, 1), (9, 1), (10, 1), (11, 1), (12, 1)] := by kernel_rfl
theorem fl_78_0 : fldT Try.prog 78 0 = some (0, 30) := by kernel_rfl
theorem fl_78_1 : fldT Try.prog 78 1 = some (8, 74) := by kernel_rfl
theorem fl_78_2 : fldT Try.prog 78 2 = some (9, 4) := by kernel_rfl
theorem fl_78_3 : fldT Try.prog 78 3 = some (10, 3) := by kernel_rfl
theorem fl_78_4 : fldT Try.prog 78 4 = some (11, 3) := by kernel_rfl
theorem fl_78_5 : fldT Try.prog 78 5 = some (12, 3) := by kernel_rfl
theorem kd_79 : kdT Try.prog 79 = .struct := by kernel_rfl
theorem sz_79 : szT Try.prog 79 = 13 := by kernel_rfl
theorem by_79 : bytesT Try.prog 79 = 112 := by kernel_rfl
theorem ze_79 : zeroT Try.prog 79 = some [.int .i64 0, .int .i64 0, .int .i64 0, .int .i64 0, .int .i64 0, .int .i64 0, .int .i64 0, .int .i64 0, .lit .nilIface, .bool false, .int .i64 0, .int .i64 0, .int .i64 0] := by kernel_rfl
theorem pl_79 : placesT Try.prog 79 = some [(0, 8), (8, 1), (9, 1), (10, 1), (11, 1), (12, 1)] := by kernel_rfl
theorem fl_79_0 : fldT Try.prog 79 0 = some (0, 30) := by kernel_rfl
theorem fl_79_1 : fldT Try.prog 79 1 = some (8, 74) := by kernel_rfl
theorem fl_79_2 : fldT Try.prog 79 2 = some (9, 4) := by kernel_rfl
theorem fl_79_3 : fldT Try.prog 79 3 = some (10, 3) := by kernel_rfl
theorem fl_79_4 : fldT Try.prog 79 4 = some (11, 3) := by kernel_rfl
theorem fl_79_5 : fldT Try.prog 79 5 = some (12, 3) := by kernel_rfl
theorem kd_80 : kdT Try.prog 80 = .struct := by kernel_rfl
theorem sz_80 : szT Try.prog 80 = 4 := by kernel_rfl
theorem by_80 : bytesT Try.prog 80 = 32 := by kernel_rfl
theorem ze_80 : zeroT Try.prog 80 = some [.int .i64 0, .int .i64 0, .bool false, .int .i64 0] := by kernel_rfl
theorem pl_80 : placesT Try.prog 80 = some [(0, 1), (1, 1), (2, 1), (3, 1)] := by kernel_rfl
theorem fl_80_0 : fldT Try.prog 80 0 = some (0, 3) := by kernel_rfl
theorem fl_80_1 : fldT Try.prog 80 1 = some (1, 3) := by kernel_rfl
theorem fl_80_2 : fldT Try.prog 80 2 = some (2, 4) := by kernel_rfl
theorem fl_80_3 : fldT Try.prog 80 3 = some (3, 3) := by kernel_rfl
theorem kd_81 : kdT Try.prog 81 = .struct := by kernel_rfl
theorem sz_81 : szT Try.prog 81 = 4 := by kernel_rfl
theorem by_81 : bytesT Try.prog 81 = 32 := by kernel_rfl
theorem ze_81 : zeroT Try.prog 81 = some [.int .i64 0, .int .i64 0, .bool false, .int .i64 0] := by kernel_rfl
theorem pl_81 : placesT Try.prog 81 = some [(0, 1), (1, 1), (2, 1), (3, 1)] := by kernel_rfl
theorem fs_81 : fldsT Try.prog 81 = some [(0, 3), (1, 3), (2, 4), (3, 3)] := by kernel_rfl
theorem fl_81_0 : fldT Try.prog 81 0 = some (0, 3) := by kernel_rfl
theorem fl_81_1 : fldT Try.prog 81 1 = some (1, 3) := by kernel_rfl
theorem fl_81_2 : fldT Try.prog 81 2 = some (2, 4) := by kernel_rfl
theorem fl_81_3 : fldT Try.prog 81 3 = some (3, 3) := by kernel_rfl
theorem kd_85 : kdT Try.prog 85 = .ptr := by kernel_rfl
theorem sz_85 : szT Try.prog 85 = 1 := by kernel_rfl
theorem by_85 : bytesT Try.prog 85 = 8 := by kernel_rfl
theorem ze_85 : zeroT Try.prog 85 = some [.lit (.pointer none)] := by kernel_rfl
theorem kd_93 : kdT Try.prog 93 = .struct := by kernel_rfl
theorem sz_93 : szT Try.prog 93 = 14 := by kernel_rfl
theorem by_93 : bytesT Try.prog 93 = 112 := by kernel_rfl
theorem ze_93 : zeroT Try.prog 93 = some [.int .i64 0, .int .i64 0, .int .i64 0, .int .i64 0, .int .i64 0, .int .i64 0, .int .i64 0, .int .i64 0, .bool false, .int .i64 0, .int .i64 0, .int .i64 0, .bool false, .int .i64 0] := by kernel_rfl
theorem pl_93 : placesT Try.prog 93 = some [(0, 8), (8, 1), (9, 1), (10, 1), (11, 1), (12, 1), (13, 1)] := by kernel_rfl
theorem fl_93_0 : fldT Try.prog 93 0 = some (0, 30) := by kernel_rfl
theorem fl_93_1 : fldT Try.prog 93 1 = some (8, 4) := by kernel_rfl
theorem fl_93_2 : fldT Try.prog 93 2 = some (9, 3) := by kernel_rfl
theorem fl_93_3 : fldT Try.prog 93 3 = some (10, 3) := by kernel_rfl
theorem fl_93_4 : fldT Try.prog 93 4 = some (11, 3) := by kernel_rfl
theorem fl_93_5 : fldT Try.prog 93 5 = some (12, 4) := by kernel_rfl
theorem fl_93_6 : fldT Try.prog 93 6 = some (13, 3) := by kernel_rfl
theorem kd_94 : kdT Try.prog 94 = .struct := by kernel_rfl
theorem sz_94 : szT Try.prog 94 = 14 := by kernel_rfl
theorem by_94 : bytesT Try.prog 94 = 112 := by kernel_rfl
theorem ze_94 : zeroT Try.prog 94 = some [.int .i64 0, .int .i64 0, .int .i64 0, .int .i64 0, .int .i64 0, .int .i64 0, .int .i64 0, .int .i64 0, .bool false, .int .i64 0, .int .i64 0, .int .i64 0, .bool false, .int .i64 0] := by kernel_rfl
theorem pl_94 : placesT Try.prog 94 = some [(0, 8), (8, 1), (9, 1), (10, 1), (11, 1), (12, 1), (13, 1)] := by kernel_rfl
theorem fl_94_0 : fldT Try.prog 94 0 = some (0, 30) := by kernel_rfl
theorem fl_94_1 : fldT Try.prog 94 1 = some (8, 4) := by kernel_rfl
theorem fl_94_2 : fldT Try.prog 94 2 = some (9, 3) := by kernel_rfl
theorem fl_94_3 : fldT Try.prog 94 3 = some (10, 3) := by kernel_rfl
theorem fl_94_4 : fldT Try.prog 94 4 = some (11, 3) := by kernel_rfl
theorem fl_94_5 : fldT Try.prog 94 5 = some (12, 4) := by kernel_rfl
theorem fl_94_6 : fldT Try.prog 94 6 = some (13, 3) := by kernel_rfl
theorem kd_98 : kdT Try.prog 98 = .ptr := by kernel_rfl
theorem sz_98 : szT Try.prog 98 = 1 := by kernel_rfl
theorem by_98 : bytesT Try.prog 98 = 8 := by kernel_rfl
theorem ze_98 : zeroT Try.prog 98 = some [.lit (.pointer none)] := by kernel_rfl
theorem kd_100 : kdT Try.prog 100 = .struct := by kernel_rfl
theorem sz_100 : szT Try.prog 100 = 3 := by kernel_rfl
theorem by_100 : bytesT Try.prog 100 = 24 := by kernel_rfl
theorem ze_100 : zeroT Try.prog 100 = some [.int .i64 0, .bool false, .int .i64 0] := by kernel_rfl
theorem pl_100 : placesT Try.prog 100 = some [(0, 1), (1, 1), (2, 1)] := by kernel_rfl
theorem fl_100_0 : fldT Try.prog 100 0 = some (0, 3) := by kernel_rfl
theorem fl_100_1 : fldT Try.prog 100 1 = some (1, 4) := by kernel_rfl
theorem fl_100_2 : fldT Try.prog 100 2 = some (2, 3) := by kernel_rfl
theorem kd_101 : kdT Try.prog 101 = .struct := by kernel_rfl
theorem sz_101 : szT Try.prog 101 = 3 := by kernel_rfl
theorem by_101 : bytesT Try.prog 101 = 24 := by kernel_rfl
theorem ze_101 : zeroT Try.prog 101 = some [.int .i64 0, .bool false, .int .i64 0] := by kernel_rfl
theorem pl_101 : placesT Try.prog 101 = some [(0, 1), (1, 1), (2, 1)] := by kernel_rfl
theorem fs_101 : fldsT Try.prog 101 = some [(0, 3), (1, 4), (2, 3)] := by kernel_rfl
theorem fl_101_0 : fldT Try.prog 101 0 = some (0, 3) := by kernel_rfl
theorem fl_101_1 : fldT Try.prog 101 1 = some (1, 4) := by kernel_rfl
theorem fl_101_2 : fldT Try.prog 101 2 = some (2, 3) := by kernel_rfl
theorem kd_102 : kdT Try.prog 102 = .struct := by kernel_rfl
theorem sz_102 : szT Try.prog 102 = 2 := by kernel_rfl
theorem by_102 : bytesT Try.prog 102 = 16 := by kernel_rfl
theorem ze_102 : zeroT Try.prog 102 = some [.int .i64 0, .int .i64 0] := by kernel_rfl
theorem pl_102 : placesT Try.prog 102 = some [(0, 1), (1, 1)] := by kernel_rfl
theorem fl_102_0 : fldT Try.prog 102 0 = some (0, 3) := by kernel_rfl
theorem fl_102_1 : fldT Try.prog 102 1 = some (1, 3) := by kernel_rfl
theorem kd_103 : kdT Try.prog 103 = .struct := by kernel_rfl
theorem sz_103 : szT Try.prog 103 = 2 := by kernel_rfl
theorem by_103 : bytesT Try.prog 103 = 16 := by kernel_rfl
theorem ze_103 : zeroT Try.prog 103 = some [.int .i64 0, .int .i64 0] := by kernel_rfl
theorem pl_103 : placesT Try.prog 103 = some [(0, 1), (1, 1)] := by kernel_rfl
theorem fs_103 : fldsT Try.prog 103 = some [(0, 3), (1, 3)] := by kernel_rfl
theorem fl_103_0 : fldT Try.prog 103 0 = some (0, 3) := by kernel_rfl
theorem fl_103_1 : fldT Try.prog 103 1 = some (1, 3) := by kernel_rfl
theorem kd_104 : kdT Try.prog 104 = .struct := by kernel_rfl
theorem sz_104 : szT Try.prog 104 = 1 := by kernel_rfl
theorem by_104 : bytesT Try.prog 104 = 8 := by kernel_rfl
theorem ze_104 : zeroT Try.prog 104 = some [.int .i64 0] := by kernel_rfl
theorem pl_104 : placesT Try.prog 104 = some [(0, 1)] := by kernel_rfl
theorem fl_104_0 : fldT Try.prog 104 0 = some (0, 3) := by kernel_rfl
theorem kd_105 : kdT Try.prog 105 = .struct := by kernel_rfl
theorem sz_105 : szT Try.prog 105 = 1 := by kernel_rfl
theorem by_105 : bytesT Try.prog 105 = 8 := by kernel_rfl
theorem ze_105 : zeroT Try.prog 105 = some [.int .i64 0] := by kernel_rfl
theorem pl_105 : placesT Try.prog 105 = some [(0, 1)] := by kernel_rfl
theorem fs_105 : fldsT Try.prog 105 = some [(0, 3)] := by kernel_rfl
theorem fl_105_0 : fldT Try.prog 105 0 = some (0, 3) := by kernel_rfl
theorem kd_106 : kdT Try.prog 106 = .struct := by kernel_rfl
theorem sz_106 : szT Try.prog 106 = 2 := by kernel_rfl
theorem by_106 : bytesT Try.prog 106 = 48 := by kernel_rfl
theorem ze_106 : zeroT Try.prog 106 = some [.lit (.slice none 0 0), .lit (.slice none 0 0)] := by kernel_rfl
theorem pl_106 : placesT Try.prog 106 = some [(0, 1), (1, 1)] := by kernel_rfl
theorem fl_106_0 : fldT Try.prog 106 0 = some (0, 48) := by kernel_rfl
theorem fl_106_1 : fldT Try.prog 106 1 = some (1, 33) := by kernel_rfl
theorem kd_107 : kdT Try.prog 107 = .struct := by kernel_rfl
theorem sz_107 : szT Try.prog 107 = 2 := by kernel_rfl
theorem by_107 : bytesT Try.prog 107 = 48 := by kernel_rfl
theorem ze_107 : zeroT Try.prog 107 = some [.lit (.slice none 0 0), .lit (.slice none 0 0)] := by kernel_rfl
theorem pl_107 : placesT Try.prog 107 = some [(0, 1), (1, 1)] := by kernel_rfl
theorem fl_107_0 : fldT Try.prog 107 0 = some (0, 48) := by kernel_rfl
theorem fl_107_1 : fldT Try.prog 107 1 = some (1, 33) := by kernel_rfl
theorem kd_108 : kdT Try.prog 108 = .struct := by kernel_rfl
theorem sz_108 : szT Try.prog 108 = 3 := by kernel_rfl
theorem by_108 : bytesT Try.prog 108 = 56 := by kernel_rfl
theorem ze_108 : zeroT Try.prog 108 = some [.bool false, .lit (.slice none 0 0), .lit (.slice none 0 0)] := by kernel_rfl
theorem pl_108 : placesT Try.prog 108 = some [(0, 1), (1, 2)] := by kernel_rfl
theorem fl_108_0 : fldT Try.prog 108 0 = some (0, 4) := by kernel_rfl
theorem fl_108_1 : fldT Try.prog 108 1 = some (1, 107) := by kernel_rfl
theorem kd_109 : kdT Try.prog 109 = .struct := by kernel_rfl
theorem sz_109 : szT Try.prog 109 = 3 := by kernel_rfl
theorem by_109 : bytesT Try.prog 109 = 56 := by kernel_rfl
theorem ze_109 : zeroT Try.prog 109 = some [.bool false, .lit (.slice none 0 0), .lit (.slice none 0 0)] := by kernel_rfl
theorem pl_109 : placesT Try.prog 109 = some [(0, 1), (1, 2)] := by kernel_rfl
theorem fl_109_0 : fldT Try.prog 109 0 = some (0, 4) := by kernel_rfl
theorem fl_109_1 : fldT Try.prog 109 1 = some (1, 107) := by kernel_rfl
theorem kd_116 : kdT Try.prog 116 = .ptr := by kernel_rfl
theorem sz_116 : szT Try.prog 116 = 1 := by kernel_rfl
theorem by_116 : bytesT Try.prog 116 = 8 := by kernel_rfl
theorem ze_116 : zeroT Try.prog 116 = some [.lit (.pointer none)] := by kernel_rfl
theorem kd_118 : kdT Try.prog 118 = .int .u64 := by kernel_rfl
theorem sz_118 : szT Try.prog 118 = 1 := by kernel_rfl
theorem by_118 : bytesT Try.prog 118 = 8 := by kernel_rfl
theorem ze_118 : zeroT Try.prog 118 = some [.int .u64 0] := by kernel_rfl
theorem kd_121 : kdT Try.prog 121 = .struct := by kernel_rfl
theorem sz_121 : szT Try.prog 121 = 4 := by kernel_rfl
theorem by_121 : bytesT Try.prog 121 = 40 := by kernel_rfl
theorem ze_121 : zeroT Try.prog 121 = some [.lit (.pointer none), .lit (.pointer none), .lit (.pointer none), .str []] := by kernel_rfl
theorem pl_121 : placesT Try.prog 121 = some [(0, 1), (1, 1), (2, 1), (3, 1)] := by kernel_rfl
theorem fl_121_0 : fldT Try.prog 121 0 = some (0, 17) := by kernel_rfl
theorem fl_121_1 : fldT Try.prog 121 1 = some (1, 17) := by kernel_rfl
theorem fl_121_2 : fldT Try.prog 121 2 = some (2, 17) := by kernel_rfl
theorem fl_121_3 : fldT Try.prog 121 3 = some (3, 9) := by kernel_rfl
theorem kd_122 : kdT Try.prog 122 = .struct := by kernel_rfl
theorem sz_122 : szT Try.prog 122 = 4 := by kernel_rfl
theorem by_122 : bytesT Try.prog 122 = 40 := by kernel_rfl
theorem ze_122 : zeroT Try.prog 122 = some [.lit (.pointer none), .lit (.pointer none), .lit (.pointer none), .str []] := by kernel_rfl
theorem pl_122 : placesT Try.prog 122 = some [(0, 1), (1, 1), (2, 1), (3, 1)] := by kernel_rfl
theorem fl_122_0 : fldT Try.prog 122 0 = some (0, 17) := by kernel_rfl
theorem fl_122_1 : fldT Try.prog 122 1 = some (1, 17) := by kernel_rfl
theorem fl_122_2 : fldT Try.prog 122 2 = some (2, 17) := by kernel_rfl
theorem fl_122_3 : fldT Try.prog 122 3 = some (3, 9) := by kernel_rfl
theorem kd_123 : kdT Try.prog 123 = .array 0 16 := by kernel_rfl
theorem sz_123 : szT Try.prog 123 = 0 := by kernel_rfl
theorem by_123 : bytesT Try.prog 123 = 0 := by kernel_rfl
theorem ze_123 : zeroT Try.prog 123 = some [] := by kernel_rfl
theorem kd_124 : kdT Try.prog 124 = .struct := by kernel_rfl
theorem sz_124 : szT Try.prog 124 = 0 := by kernel_rfl
theorem by_124 : bytesT Try.prog 124 = 0 := by kernel_rfl
theorem ze_124 : zeroT Try.prog 124 = some [] := by kernel_rfl
theorem pl_124 : placesT Try.prog 124 = some [(0, 0)] := by kernel_rfl
theorem kd_125 : kdT Try.prog 125 = .struct := by kernel_rfl
theorem sz_125 : szT Try.prog 125 = 0 := by kernel_rfl
theorem by_125 : bytesT Try.prog 125 = 0 := by kernel_rfl
theorem ze_125 : zeroT Try.prog 125 = some [] := by kernel_rfl
theorem pl_125 : placesT Try.prog 125 = some [(0, 0)] := by kernel_rfl
theorem kd_127 : kdT Try.prog 127 = .int .u32 := by kernel_rfl
theorem sz_127 : szT Try.prog 127 = 1 := by kernel_rfl
theorem by_127 : bytesT Try.prog 127 = 4 := by kernel_rfl
theorem ze_127 : zeroT Try.prog 127 = some [.int .u32 0] := by kernel_rfl
theorem kd_128 : kdT Try.prog 128 = .int .u8 := by kernel_rfl
theorem sz_128 : szT Try.prog 128 = 1 := by kernel_rfl
theorem by_128 : bytesT Try.prog 128 = 1 := by kernel_rfl
theorem ze_128 : zeroT Try.prog 128 = some [.int .u8 0] := by kernel_rfl
theorem kd_129 : kdT Try.prog 129 = .int .u8 := by kernel_rfl
theorem sz_129 : szT Try.prog 129 = 1 := by kernel_rfl
theorem by_129 : bytesT Try.prog 129 = 1 := by kernel_rfl
theorem ze_129 : zeroT Try.prog 129 = some [.int .u8 0] := by kernel_rfl
theorem kd_131 : kdT Try.prog 131 = .ptr := by kernel_rfl
theorem sz_131 : szT Try.prog 131 = 1 := by kernel_rfl
theorem by_131 : bytesT Try.prog 131 = 8 := by kernel_rfl
theorem ze_131 : zeroT Try.prog 131 = some [.lit (.pointer none)] := by kernel_rfl
theorem kd_132 : kdT Try.prog 132 = .int .i32 := by kernel_rfl
theorem sz_132 : szT Try.prog 132 = 1 := by kernel_rfl
theorem by_132 : bytesT Try.prog 132 = 4 := by kernel_rfl
theorem ze_132 : zeroT Try.prog 132 = some [.int .i32 0] := by kernel_rfl
theorem kd_133 : kdT Try.prog 133 = .int .i32 := by kernel_rfl
theorem sz_133 : szT Try.prog 133 = 1 := by kernel_rfl
theorem by_133 : bytesT Try.prog 133 = 4 := by kernel_rfl
theorem ze_133 : zeroT Try.prog 133 = some [.int .i32 0] := by kernel_rfl
theorem kd_134 : kdT Try.prog 134 = .struct := by kernel_rfl
theorem sz_134 : szT Try.prog 134 = 11 := by kernel_rfl
theorem by_134 : bytesT Try.prog 134 = 48 := by kernel_rfl
theorem ze_134 : zeroT Try.prog 134 = some [.int .u64 0, .int .u64 0, .int .u32 0, .int .u8 0, .int .u8 0, .int .u8 0, .int .u8 0, .lit .nilFunc, .lit (.pointer none), .int .i32 0, .int .i32 0] := by kernel_rfl
theorem pl_134 : placesT Try.prog 134 = some [(0, 1), (1, 1), (2, 1), (3, 1), (4, 1), (5, 1), (6, 1), (7, 1), (8, 1), (9, 1), (10, 1)] := by kernel_rfl
theorem fl_134_0 : fldT Try.prog 134 0 = some (0, 12) := by kernel_rfl
theorem fl_134_1 : fldT Try.prog 134 1 = some (1, 12) := by kernel_rfl
theorem fl_134_2 : fldT Try.prog 134 2 = some (2, 127) := by kernel_rfl
theorem fl_134_3 : fldT Try.prog 134 3 = some (3, 128) := by kernel_rfl
theorem fl_134_4 : fldT Try.prog 134 4 = some (4, 5) := by kernel_rfl
theorem fl_134_5 : fldT Try.prog 134 5 = some (5, 5) := by kernel_rfl
theorem fl_134_6 : fldT Try.prog 134 6 = some (6, 129) := by kernel_rfl
theorem fl_134_7 : fldT Try.prog 134 7 = some (7, 130) := by kernel_rfl
theorem fl_134_8 : fldT Try.prog 134 8 = some (8, 131) := by kernel_rfl
theorem fl_134_9 : fldT Try.prog 134 9 = some (9, 132) := by kernel_rfl
theorem fl_134_10 : fldT Try.prog 134 10 = some (10, 133) := by kernel_rfl
theorem kd_135 : kdT Try.prog 135 = .struct := by kernel_rfl
theorem sz_135 : szT Try.prog 135 = 11 := by kernel_rfl
theorem by_135 : bytesT Try.prog 135 = 48 := by kernel_rfl
theorem ze_135 : zeroT Try.prog 135 = some [.int .u64 0, .int .u64 0, .int .u32 0, .int .u8 0, .int .u8 0, .int .u8 0, .int .u8 0, .lit .nilFunc, .lit (.pointer none), .int .i32 0, .int .i32 0] := by kernel_rfl
theorem pl_135 : placesT Try.prog 135 = some [(0, 1), (1, 1), (2, 1), (3, 1), (4, 1), (5, 1), (6, 1), (7, 1), (8, 1), (9, 1), (10, 1)] := by kernel_rfl
theorem fl_135_0 : fldT Try.prog 135 0 = some (0, 12) := by kernel_rfl
theorem fl_135_1 : fldT Try.prog 135 1 = some (1, 12) := by kernel_rfl
theorem fl_135_2 : fldT Try.prog 135 2 = some (2, 127) := by kernel_rfl
theorem fl_135_3 : fldT Try.prog 135 3 = some (3, 128) := by kernel_rfl
theorem fl_135_4 : fldT Try.prog 135 4 = some (4, 5) := by kernel_rfl
theorem fl_135_5 : fldT Try.prog 135 5 = some (5, 5) := by kernel_rfl
theorem fl_135_6 : fldT Try.prog 135 6 = some (6, 129) := by kernel_rfl
theorem fl_135_7 : fldT Try.prog 135 7 = some (7, 130) := by kernel_rfl
theorem fl_135_8 : fldT Try.prog 135 8 = some (8, 131) := by kernel_rfl
theorem fl_135_9 : fldT Try.prog 135 9 = some (9, 132) := by kernel_rfl
theorem fl_135_10 : fldT Try.prog 135 10 = some (10, 133) := by kernel_rfl
instance : ETab := ⟨fun t => if t = 48 then some .int else if t = 49 then some .bool else if t = 23 then some .i16 else if t = 31 then some .mon else if t = 39 then some .tra else if t = 33 then some .pdf else if t = 54 then some .one else if t = 47 then some .mop else none, fun t => none⟩
theorem et_48 : ETab.of 48 = some .int := rfl
theorem et_49 : ETab.of 49 = some .bool := rfl
theorem et_23 : ETab.of 23 = some .i16 := rfl
theorem et_31 : ETab.of 31 = some .mon := rfl
theorem et_39 : ETab.of 39 = some .tra := rfl
theorem et_33 : ETab.of 33 = some .pdf := rfl
theorem et_54 : ETab.of 54 = some .one := rfl
theorem et_47 : ETab.of 47 = some .mop := rfl
theorem mth_103_0 : mthT Try.prog 103 "spacecraft/monitor.check" = some 67 := by kernel_rfl
theorem mth_105_1 : mthT Try.prog 105 "spacecraft/monitor.check" = some 68 := by kernel_rfl
theorem mth_98_2 : mthT Try.prog 98 "spacecraft/monitor.check" = some 66 := by kernel_rfl
theorem zv_98 : zeroV Try.prog 98 = some (.lit (.pointer none)) := by kernel_rfl
theorem mixed : Try.prog.follows .mixedOrders = true := by kernel_rfl
theorem fn_6 : Try.prog.funcs[6]? = some Try.f6 := by kernel_rfl -- spacecraft/spacecraftlaw36.MonitorPlays
theorem fn_8 : Try.prog.funcs[8]? = some Try.f8 := by kernel_rfl -- spacecraft/spacecraftlaw36.alive
theorem fn_9 : Try.prog.funcs[9]? = some Try.f9 := by kernel_rfl -- spacecraft/monitor.New
theorem fn_10 : Try.prog.funcs[10]? = some Try.f10 := by kernel_rfl -- spacecraft/spacecraftlaw36.pool
theorem fn_11 : Try.prog.funcs[11]? = some Try.f11 := by kernel_rfl -- (*spacecraft/params.Pool).Set
theorem fn_12 : Try.prog.funcs[12]? = some Try.f12 := by kernel_rfl -- (*spacecraft/monitor.Service).Check
theorem fn_13 : Try.prog.funcs[13]? = some Try.f13 := by kernel_rfl -- (*spacecraft/monitor.Service).State
theorem fn_14 : Try.prog.funcs[14]? = some Try.f14 := by kernel_rfl -- (*spacecraft/monitor.Service).Enable
theorem fn_15 : Try.prog.funcs[15]? = some Try.f15 := by kernel_rfl -- spacecraft/spacecraftref36.New
theorem fn_16 : Try.prog.funcs[16]? = some Try.f16 := by kernel_rfl -- spacecraft/spacecraftref36.Check
theorem fn_17 : Try.prog.funcs[17]? = some Try.f17 := by kernel_rfl -- spacecraft/spacecraftref36.Same
theorem fn_18 : Try.prog.funcs[18]? = some Try.f18 := by kernel_rfl -- spacecraft/spacecraftref36.Enable
theorem fn_19 : Try.prog.funcs[19]? = some Try.f19 := by kernel_rfl -- spacecraft/spacecraftref33.Set
theorem fn_20 : Try.prog.funcs[20]? = some Try.f20 := by kernel_rfl -- (*spacecraft/monitor.Service).Clone
theorem fn_21 : Try.prog.funcs[21]? = some Try.f21 := by kernel_rfl -- (*spacecraft/monitor.Service).Monitor
theorem fn_22 : Try.prog.funcs[22]? = some Try.f22 := by kernel_rfl -- spacecraft/spacecraftref36.State
theorem fn_23 : Try.prog.funcs[23]? = some Try.f23 := by kernel_rfl -- spacecraft/monitor.newChecker
theorem fn_24 : Try.prog.funcs[24]? = some Try.f24 := by kernel_rfl -- spacecraft/monitor.number
theorem fn_25 : Try.prog.funcs[25]? = some Try.f25 := by kernel_rfl -- spacecraft/params.New
theorem fn_26 : Try.prog.funcs[26]? = some Try.f26 := by kernel_rfl -- spacecraft/spacecraftref33.New
theorem fn_27 : Try.prog.funcs[27]? = some Try.f27 := by kernel_rfl -- (*spacecraft/params.Pool).def
theorem fn_28 : Try.prog.funcs[28]? = some Try.f28 := by kernel_rfl -- spacecraft/params.inRange
theorem fn_29 : Try.prog.funcs[29]? = some Try.f29 := by kernel_rfl -- (*spacecraft/params.Pool).Get
theorem fn_30 : Try.prog.funcs[30]? = some Try.f30 := by kernel_rfl -- (*spacecraft/monitor.entry).feed
theorem fn_31 : Try.prog.funcs[31]? = some Try.f31 := by kernel_rfl -- (*spacecraft/monitor.Service).find
theorem fn_32 : Try.prog.funcs[32]? = some Try.f32 := by kernel_rfl -- spacecraft/spacecraftref36.Valid
theorem fn_33 : Try.prog.funcs[33]? = some Try.f33 := by kernel_rfl -- spacecraft/spacecraftref33.Get
theorem fn_34 : Try.prog.funcs[34]? = some Try.f34 := by kernel_rfl -- spacecraft/spacecraftref36.result
theorem fn_35 : Try.prog.funcs[35]? = some Try.f35 := by kernel_rfl -- spacecraft/spacecraftref36.find
theorem fn_36 : Try.prog.funcs[36]? = some Try.f36 := by kernel_rfl -- spacecraft/spacecraftref33.find
theorem fn_37 : Try.prog.funcs[37]? = some Try.f37 := by kernel_rfl -- spacecraft/spacecraftref33.inRange
theorem fn_38 : Try.prog.funcs[38]? = some Try.f38 := by kernel_rfl -- spacecraft/monitor.newChecker$1
theorem fn_39 : Try.prog.funcs[39]? = some Try.f39 := by kernel_rfl -- (*spacecraft/params.table[spacecraft/api.ParamDef]).append
theorem fn_40 : Try.prog.funcs[40]? = some Try.f40 := by kernel_rfl -- spacecraft/spacecraftref33.check
theorem fn_41 : Try.prog.funcs[41]? = some Try.f41 := by kernel_rfl -- (*spacecraft/params.Pool).usable
theorem fn_42 : Try.prog.funcs[42]? = some Try.f42 := by kernel_rfl -- (*spacecraft/params.table[spacecraft/api.ParamDef]).find
theorem fn_43 : Try.prog.funcs[43]? = some Try.f43 := by kernel_rfl -- slices.IndexFunc[[]*spacecraft/monitor.entry,*spacecraft/monitor.entry]
theorem fn_44 : Try.prog.funcs[44]? = some Try.f44 := by kernel_rfl -- (*spacecraft/monitor.Service).find$1
theorem fn_45 : Try.prog.funcs[45]? = some Try.f45 := by kernel_rfl -- spacecraft/spacecraftref36.number
theorem fn_46 : Try.prog.funcs[46]? = some Try.f46 := by kernel_rfl -- spacecraft/spacecraftref33.power
theorem fn_47 : Try.prog.funcs[47]? = some Try.f47 := by kernel_rfl -- slices.BinarySearch[[]int,int]
theorem fn_48 : Try.prog.funcs[48]? = some Try.f48 := by kernel_rfl -- cmp.Less[int]
theorem fn_49 : Try.prog.funcs[49]? = some Try.f49 := by kernel_rfl -- slices.isNaN[int]
theorem fn_50 : Try.prog.funcs[50]? = some Try.f50 := by kernel_rfl -- cmp.isNaN[int]
theorem fn_66 : Try.prog.funcs[66]? = some Try.f66 := by kernel_rfl -- (*spacecraft/monitor.delta).check
theorem fn_67 : Try.prog.funcs[67]? = some Try.f67 := by kernel_rfl -- (spacecraft/monitor.limit).check
theorem fn_68 : Try.prog.funcs[68]? = some Try.f68 := by kernel_rfl -- (spacecraft/monitor.expect).check
attribute [go_sem] kd_2 sz_2 by_2 ze_2 kd_3 sz_3 by_3 ze_3 kd_4 sz_4 by_4 ze_4 kd_5 sz_5 by_5 ze_5 kd_6 sz_6 by_6 ze_6 kd_7 sz_7 by_7 ze_7 pl_7 fl_7_0 fl_7_1 fl_7_2 fl_7_3 kd_8 sz_8 by_8 ze_8 pl_8 fl_8_0 fl_8_1 fl_8_2 fl_8_3 kd_9 sz_9 by_9 ze_9 kd_10 sz_10 by_10 ze_10 kd_11 sz_11 by_11 ze_11 kd_12 sz_12 by_12 ze_12 kd_13 sz_13 by_13 ze_13 pl_13 fl_13_0 fl_13_1 kd_14 sz_14 by_14 ze_14 pl_14 fl_14_0 fl_14_1 kd_15 sz_15 by_15 ze_15 kd_16 sz_16 by_16 ze_16 kd_17 sz_17 by_17 ze_17 kd_18 sz_18 by_18 ze_18 pl_18 fl_18_0 kd_19 sz_19 by_19 ze_19 pl_19 fl_19_0 kd_20 sz_20 by_20 ze_20 kd_21 sz_21 by_21 ze_21 kd_22 sz_22 by_22 ze_22 kd_23 sz_23 by_23 ze_23 kd_25 sz_25 by_25 ze_25 kd_26 sz_26 by_26 ze_26 kd_29 sz_29 by_29 ze_29 pl_29 fl_29_0 fl_29_1 fl_29_2 fl_29_3 fl_29_4 fl_29_5 fl_29_6 fl_29_7 kd_30 sz_30 by_30 ze_30 pl_30 fs_30 fl_30_0 fl_30_1 fl_30_2 fl_30_3 fl_30_4 fl_30_5 fl_30_6 fl_30_7 kd_31 sz_31 by_31 ze_31 kd_32 sz_32 by_32 ze_32 kd_33 sz_33 by_33 ze_33 kd_34 sz_34 by_34 ze_34 pl_34 fl_34_0 kd_35 sz_35 by_35 ze_35 pl_35 fl_35_0 kd_39 sz_39 by_39 ze_39 kd_41 sz_41 by_41 ze_41 pl_41 fl_41_0 fl_41_1 fl_41_2 fl_41_3 fl_41_4 kd_42 sz_42 by_42 ze_42 pl_42 fs_42 fl_42_0 fl_42_1 fl_42_2 fl_42_3 fl_42_4 kd_45 sz_45 by_45 ze_45 kd_47 sz_47 by_47 ze_47 kd_48 sz_48 by_48 ze_48 kd_49 sz_49 by_49 ze_49 kd_50 sz_50 by_50 ze_50 pl_50 fl_50_0 fl_50_1 fl_50_2 fl_50_3 kd_51 sz_51 by_51 ze_51 pl_51 fs_51 fl_51_0 fl_51_1 fl_51_2 fl_51_3 kd_54 sz_54 by_54 ze_54 kd_55 sz_55 by_55 ze_55 pl_55 fl_55_0 fl_55_1 kd_56 sz_56 by_56 ze_56 pl_56 fl_56_0 fl_56_1 kd_69 sz_69 by_69 ze_69 kd_70 sz_70 by_70 ze_70 pl_70 fl_70_0 fl_70_1 fl_70_2 kd_71 sz_71 by_71 ze_71 pl_71 fl_71_0 fl_71_1 fl_71_2 kd_73 sz_73 by_73 ze_73 kd_74 sz_74 by_74 ze_74 kd_77 sz_77 by_77 ze_77 kd_78 sz_78 by_78 ze_78 pl_78 fl_78_0 fl_78_1 fl_78_2 fl_78_3 fl_78_4 fl_78_5 kd_79 sz_79 by_79 ze_79 pl_79 fl_79_0 fl_79_1 fl_79_2 fl_79_3 fl_79_4 fl_79_5 kd_80 sz_80 by_80 ze_80 pl_80 fl_80_0 fl_80_1 fl_80_2 fl_80_3 kd_81 sz_81 by_81 ze_81 pl_81 fs_81 fl_81_0 fl_81_1 fl_81_2 fl_81_3 kd_85 sz_85 by_85 ze_85 kd_93 sz_93 by_93 ze_93 pl_93 fl_93_0 fl_93_1 fl_93_2 fl_93_3 fl_93_4 fl_93_5 fl_93_6 kd_94 sz_94 by_94 ze_94 pl_94 fl_94_0 fl_94_1 fl_94_2 fl_94_3 fl_94_4 fl_94_5 fl_94_6 kd_98 sz_98 by_98 ze_98 kd_100 sz_100 by_100 ze_100 pl_100 fl_100_0 fl_100_1 fl_100_2 kd_101 sz_101 by_101 ze_101 pl_101 fs_101 fl_101_0 fl_101_1 fl_101_2 kd_102 sz_102 by_102 ze_102 pl_102 fl_102_0 fl_102_1 kd_103 sz_103 by_103 ze_103 pl_103 fs_103 fl_103_0 fl_103_1 kd_104 sz_104 by_104 ze_104 pl_104 fl_104_0 kd_105 sz_105 by_105 ze_105 pl_105 fs_105 fl_105_0 kd_106 sz_106 by_106 ze_106 pl_106 fl_106_0 fl_106_1 kd_107 sz_107 by_107 ze_107 pl_107 fl_107_0 fl_107_1 kd_108 sz_108 by_108 ze_108 pl_108 fl_108_0 fl_108_1 kd_109 sz_109 by_109 ze_109 pl_109 fl_109_0 fl_109_1 kd_116 sz_116 by_116 ze_116 kd_118 sz_118 by_118 ze_118 kd_121 sz_121 by_121 ze_121 pl_121 fl_121_0 fl_121_1 fl_121_2 fl_121_3 kd_122 sz_122 by_122 ze_122 pl_122 fl_122_0 fl_122_1 fl_122_2 fl_122_3 kd_123 sz_123 by_123 ze_123 kd_124 sz_124 by_124 ze_124 pl_124 kd_125 sz_125 by_125 ze_125 pl_125 kd_127 sz_127 by_127 ze_127 kd_128 sz_128 by_128 ze_128 kd_129 sz_129 by_129 ze_129 kd_131 sz_131 by_131 ze_131 kd_132 sz_132 by_132 ze_132 kd_133 sz_133 by_133 ze_133 kd_134 sz_134 by_134 ze_134 pl_134 fl_134_0 fl_134_1 fl_134_2 fl_134_3 fl_134_4 fl_134_5 fl_134_6 fl_134_7 fl_134_8 fl_134_9 fl_134_10 kd_135 sz_135 by_135 ze_135 pl_135 fl_135_0 fl_135_1 fl_135_2 fl_135_3 fl_135_4 fl_135_5 fl_135_6 fl_135_7 fl_135_8 fl_135_9 fl_135_10 et_48 et_49 et_23 et_31 et_39 et_33 et_54 et_47 zv_98 mth_103_0 mth_105_1 mth_98_2
end Go.V

set_option maxRecDepth 100000
set_option maxHeartbeats 8000000
namespace Go.V
open Go.Proofs
abbrev monL (m : Mon) : List AV := [.int .i64 m.id, .int .i64 m.param, .int .i64 m.kind, .int .i64 m.low, .int .i64 m.high, .int .i64 m.rep, .int .i64 m.ev, .int .i64 m.sev]
/-- the result of a limit -/
def rsL (lo hi v : Int) : Int := if v < lo then 2 else if hi < v then 3 else 1
theorem b_lchk (lo hi v : Int) : DoesK Try.prog 0 67 [.agg [.int .i64 lo, .int .i64 hi], .int .i64 v] [] (EndF 0 (.int .i64 (rsL lo hi v)) []) := by
  refine DoesK.close ?_
  unfold rsL
  by_cases c1 : v < lo
  · have d1 : decide (v < lo) = true := decide_eq_true c1
    rw [if_pos c1]
    refine w_body (rs := [.tmp 4]) (tm := [.agg [.int .i64 lo, .int .i64 hi], .int .i64 v, .any, .any, .any, .any, .any, .any, .any, .any, .any, .any, .any, .any, .any]) fn_67 rfl rfl rfl rfl fun R hR => ?_
    (have zx1 := @d1; all_goals (try ((with_reducible first | refine wp_id ?_ | refine does_id ?_ | refine ops_id ?_); refine walk ?_; (repeat' (first | exact trivial | with_reducible refine And.intro ?_ ?_)); all_goals (repeat with_reducible first | refine ImpB.mk fun hb => ?_ | refine ImpK.mk fun hK => ?_ | refine ImpF.mk fun hF => ?_ | refine ImpQ.mk fun hp => ?_ | refine AllE.mk fun p => ?_ | refine AllR.mk fun rest => ?_ | refine AllK.mk fun K => ?_))); repeat' (with_reducible refine And.intro ?_ ?_))
    (focus (refine ⟨_, _, Gh.refl, [], rfl, ?_⟩; (refine fitq ?_ ?_ ?_ <;> try exact trivial); (try any_goals (refine ⟨?_, ?_⟩)); (try any_goals (with_reducible rfl))))
  · have d1 : decide (v < lo) = false := decide_eq_false c1
    rw [if_neg c1]
    by_cases c2 : hi < v
    · have d2 : decide (hi < v) = true := decide_eq_true c2
      rw [if_pos c2]
      refine w_body (rs := [.tmp 4]) (tm := [.agg [.int .i64 lo, .int .i64 hi], .int .i64 v, .any, .any, .any, .any, .any, .any, .any, .any, .any, .any, .any, .any, .any]) fn_67 rfl rfl rfl rfl fun R hR => ?_
      (have zx1 := @d1; have zx2 := @d2; all_goals (try ((with_reducible first | refine wp_id ?_ | refine does_id ?_ | refine ops_id ?_); refine walk ?_; (repeat' (first | exact trivial | with_reducible refine And.intro ?_ ?_)); all_goals (repeat with_reducible first | refine ImpB.mk fun hb => ?_ | refine ImpK.mk fun hK => ?_ | refine ImpF.mk fun hF => ?_ | refine ImpQ.mk fun hp => ?_ | refine AllE.mk fun p => ?_ | refine AllR.mk fun rest => ?_ | refine AllK.mk fun K => ?_))); repeat' (with_reducible refine And.intro ?_ ?_))
      (focus (refine ⟨_, _, Gh.refl, [], rfl, ?_⟩; (refine fitq ?_ ?_ ?_ <;> try exact trivial); (try any_goals (refine ⟨?_, ?_⟩)); (try any_goals (with_reducible rfl))))
    · have d2 : decide (hi < v) = false := decide_eq_false c2
      rw [if_neg c2]
      refine w_body (rs := [.tmp 4]) (tm := [.agg [.int .i64 lo, .int .i64 hi], .int .i64 v, .any, .any, .any, .any, .any, .any, .any, .any, .any, .any, .any, .any, .any]) fn_67 rfl rfl rfl rfl fun R hR => ?_
      (have zx1 := @d1; have zx2 := @d2; all_goals (try ((with_reducible first | refine wp_id ?_ | refine does_id ?_ | refine ops_id ?_); refine walk ?_; (repeat' (first | exact trivial | with_reducible refine And.intro ?_ ?_)); all_goals (repeat with_reducible first | refine ImpB.mk fun hb => ?_ | refine ImpK.mk fun hK => ?_ | refine ImpF.mk fun hF => ?_ | refine ImpQ.mk fun hp => ?_ | refine AllE.mk fun p => ?_ | refine AllR.mk fun rest => ?_ | refine AllK.mk fun K => ?_))); repeat' (with_reducible refine And.intro ?_ ?_))
      (focus (refine ⟨_, _, Gh.refl, [], rfl, ?_⟩; (refine fitq ?_ ?_ ?_ <;> try exact trivial); (try any_goals (refine ⟨?_, ?_⟩)); (try any_goals (with_reducible rfl))))
theorem c_lchk {h : List Ch} {K : KT} {lo hi v : Int} (H : K (.int .i64 (rsL lo hi v)) h) : Does Try.prog 67 [.agg [.int .i64 lo, .int .i64 hi], .int .i64 v] h K :=
  frame_pure (b_lchk lo hi v) (br_cons (br_agg (br_cons br_int (br_cons br_int br_nil))) (br_cons br_int br_nil)) (.inr rfl) (fun _ => rfl) H
abbrev i_lchk := Ctr.mk (i := 0) (g := 67) @c_lchk
attribute [instance] i_lchk
def inW (n : Int) : Bool := decide (-2147483648 ≤ n) && decide (n ≤ 2147483648)
theorem b_within (n : Int) : DoesK Try.prog 0 38 [.int .i64 n] [] (EndF 0 (.bool (inW n)) []) := by
  refine DoesK.close ?_
  unfold inW
  refine w_body (rs := [.tmp 2]) (tm := [.int .i64 n, .any, .any, .any, .any, .any, .any, .any, .any]) fn_38 rfl rfl rfl rfl fun R hR => ?_
  (all_goals (try ((with_reducible first | refine wp_id ?_ | refine does_id ?_ | refine ops_id ?_); refine walk ?_; (repeat' (first | exact trivial | with_reducible refine And.intro ?_ ?_)); all_goals (repeat with_reducible first | refine ImpB.mk fun hb => ?_ | refine ImpK.mk fun hK => ?_ | refine ImpF.mk fun hF => ?_ | refine ImpQ.mk fun hp => ?_ | refine AllE.mk fun p => ?_ | refine AllR.mk fun rest => ?_ | refine AllK.mk fun K => ?_))); repeat' (with_reducible refine And.intro ?_ ?_))
  all_goals
    (focus (refine ⟨_, _, Gh.refl, [], rfl, ?_⟩; (refine fitq ?_ ?_ ?_ <;> try exact trivial); (try any_goals (refine ⟨?_, ?_⟩)); (try any_goals (with_reducible rfl))))
    simp [*]
theorem c_within {h : List Ch} {K : KT} {n : Int} (H : K (.bool (inW n)) h) : Does Try.prog 38 [.int .i64 n] h K :=
  frame_pure (b_within n) (br_cons br_int br_nil) (.inr rfl) (fun _ => rfl) H
abbrev i_within := Ctr.mk (i := 0) (g := 38) @c_within
attribute [instance] i_within
def inN (n : Int) : Bool := decide (0 ≤ n) && decide (n ≤ 65535)
theorem b_num (n : Int) : DoesK Try.prog 0 24 [.int .i64 n] [] (EndF 0 (.bool (inN n)) []) := by
  refine DoesK.close ?_
  unfold inN
  refine w_body (rs := [.tmp 2]) (tm := [.int .i64 n, .any, .any, .any, .any, .any, .any, .any, .any]) fn_24 rfl rfl rfl rfl fun R hR => ?_
  (all_goals (try ((with_reducible first | refine wp_id ?_ | refine does_id ?_ | refine ops_id ?_); refine walk ?_; (repeat' (first | exact trivial | with_reducible refine And.intro ?_ ?_)); all_goals (repeat with_reducible first | refine ImpB.mk fun hb => ?_ | refine ImpK.mk fun hK => ?_ | refine ImpF.mk fun hF => ?_ | refine ImpQ.mk fun hp => ?_ | refine AllE.mk fun p => ?_ | refine AllR.mk fun rest => ?_ | refine AllK.mk fun K => ?_))); repeat' (with_reducible refine And.intro ?_ ?_))
  all_goals
    (focus (refine ⟨_, _, Gh.refl, [], rfl, ?_⟩; (refine fitq ?_ ?_ ?_ <;> try exact trivial); (try any_goals (refine ⟨?_, ?_⟩)); (try any_goals (with_reducible rfl))))
    simp [*]
theorem c_num {h : List Ch} {K : KT} {n : Int} (H : K (.bool (inN n)) h) : Does Try.prog 24 [.int .i64 n] h K :=
  frame_pure (b_num n) (br_cons br_int br_nil) (.inr rfl) (fun _ => rfl) H
abbrev i_num := Ctr.mk (i := 0) (g := 24) @c_num
attribute [instance] i_num
/-- a limit that is right -/
structure isLim (m : Mon) : Prop where
  kind : m.kind = 1
  lo : inW m.low = true
  hi : inW m.high = true
  le : m.low ≤ m.high
theorem b_newL (m : Mon) (hm : isLim m) : DoesK Try.prog 0 23 [.agg (monL m)] [] (EndF 0 (.ifc 103 (.agg [.int .i64 m.low, .int .i64 m.high])) []) := by
  refine DoesK.close ?_
  obtain ⟨h1, h2, h3, h4⟩ := hm
  have d1 : decide (m.kind = 1) = true := decide_eq_true h1
  have d4 : decide (m.low ≤ m.high) = true := decide_eq_true h4
  refine w_body (rs := [.tmp 2]) (tm := [.agg (monL m), .any, .any, .any, .any, .any, .any, .any, .any, .any, .any, .any, .any, .any, .any, .any, .any, .any, .any, .any, .any, .any, .any, .any, .any, .any, .any, .any, .any, .any, .any, .any, .any, .any, .any, .any, .any, .any, .any, .any, .any, .any, .any, .any, .any, .any, .any, .any, .any, .any, .any, .any, .any, .any, .any, .any, .any, .any, .any, .any, .any, .any, .any, .any, .any, .any, .any, .any, .any, .any, .any, .any, .any, .any, .any, .any]) fn_23 rfl rfl rfl rfl fun R hR => ?_
  (have zx1 := @d1; have zx2 := @d4; have zx3 := @h2; have zx4 := @h3; all_goals (try ((with_reducible first | refine wp_id ?_ | refine does_id ?_ | refine ops_id ?_); refine walk ?_; (repeat' (first | exact trivial | with_reducible refine And.intro ?_ ?_)); all_goals (repeat with_reducible first | refine ImpB.mk fun hb => ?_ | refine ImpK.mk fun hK => ?_ | refine ImpF.mk fun hF => ?_ | refine ImpQ.mk fun hp => ?_ | refine AllE.mk fun p => ?_ | refine AllR.mk fun rest => ?_ | refine AllK.mk fun K => ?_))); repeat' (with_reducible refine And.intro ?_ ?_))
  (focus (refine ⟨_, _, Gh.refl, [], rfl, ?_⟩; (refine fitq ?_ ?_ ?_ <;> try exact trivial); (try any_goals (refine ⟨?_, ?_⟩)); (try any_goals (with_reducible rfl))))
  all_goals (repeat' (first | (refine And.intro ?_ ?_) | rfl))
theorem c_newL {h : List Ch} {K : KT} {a b c lo hi d e f : Int} (H : K (.ifc 103 (.agg [.int .i64 lo, .int .i64 hi])) h) (e1 : isLim ⟨a, b, c, lo, hi, d, e, f⟩) : Does Try.prog 23 [.agg [.int .i64 a, .int .i64 b, .int .i64 c, .int .i64 lo, .int .i64 hi, .int .i64 d, .int .i64 e, .int .i64 f]] h K :=
  frame_pure (b_newL ⟨a, b, c, lo, hi, d, e, f⟩ e1) (br_cons (br_agg (br_cons br_int (br_cons br_int (br_cons br_int (br_cons br_int (br_cons br_int (br_cons br_int (br_cons br_int (br_cons br_int br_nil))))))))) br_nil) (.inr rfl) (fun _ => rfl) H
abbrev i_newL := Ctr.mk (i := 0) (g := 23) @c_newL
attribute [instance] i_newL
/-- an entry with a limit, as it lies -/
def EL (m : Mon) (off : Bool) (st res run : Int) : List Ch := [.cells [.int .i64 m.id, .int .i64 m.param, .int .i64 m.kind, .int .i64 m.low, .int .i64 m.high, .int .i64 m.rep, .int .i64 m.ev, .int .i64 m.sev, .ifc 103 (.agg [.int .i64 m.low, .int .i64 m.high]), .bool off, .int .i64 st, .int .i64 res, .int .i64 run]]
attribute [go_sem] EL
/-- a result is fed: whether the state changes, and what is left -/
def fdR (rep st res run r : Int) : Bool × Int × Int × Int :=
  if (if r = res then run + 1 else 1) < rep ∨ st = r then (false, st, r, if r = res then run + 1 else 1) else (true, r, r, if r = res then run + 1 else 1)
theorem b_feedL (m : Mon) (off : Bool) (st res run v : Int) (h0 : 0 ≤ run) (h1 : run ≤ 1000000) : DoesK Try.prog 1 30 [.ptr 0 0, .int .i64 v] [.pack (EL m off st res run)]
    (EndF 1 (.bool (fdR m.rep st res run (rsL m.low m.high v)).1) ([.pack (EL m off (fdR m.rep st res run (rsL m.low m.high v)).2.1 (fdR m.rep st res run (rsL m.low m.high v)).2.2.1 (fdR m.rep st res run (rsL m.low m.high v)).2.2.2)] ++ [])) := by
  refine DoesK.close ?_
  obtain ⟨r, hr⟩ : ∃ r, rsL m.low m.high v = r := ⟨_, rfl⟩
  rw [hr]
  obtain ⟨run', hrun⟩ : ∃ q, (if r = res then run + 1 else 1) = q := ⟨_, rfl⟩
  have hF : fdR m.rep st res run r = if run' < m.rep ∨ st = r then (false, st, r, run') else (true, r, r, run') := by unfold fdR; rw [hrun]
  rw [hF]
  by_cases c1 : r = res
  · have d1 : decide (¬ r = res) = false := decide_eq_false (fun q => q c1)
    rw [if_pos c1] at hrun
    have hw : IntKind.i64.wrap (run + 1) = run' := by rw [wrap_i64 _ (by omega) (by omega)]; exact hrun
    by_cases c2 : run' < m.rep
    · have d2 : decide (run' < m.rep) = true := decide_eq_true c2
      rw [if_pos (.inl c2)]
      subst c1
      refine w_body (rs := [.tmp 4]) (tm := [.ptr 0 0, .int .i64 v, .any, .any, .any, .any, .any, .any, .any, .any, .any, .any, .any, .any, .any, .any, .any, .any, .any, .any, .any, .any, .any, .any, .any, .any, .any, .any, .any, .any, .any, .any, .any, .any, .any, .any, .any, .any, .any, .any, .any, .any, .any, .any, .any, .any, .any, .any, .any, .any, .any, .any, .any, .any]) fn_30 rfl rfl rfl rfl fun R hR => ?_
      (have zx1 := @hr; have zx2 := @d1; have zx3 := @d2; have zx4 := @hw; all_goals (try ((with_reducible first | refine wp_id ?_ | refine does_id ?_ | refine ops_id ?_); refine walk ?_; (repeat' (first | exact trivial | with_reducible refine And.intro ?_ ?_)); all_goals (repeat with_reducible first | refine ImpB.mk fun hb => ?_ | refine ImpK.mk fun hK => ?_ | refine ImpF.mk fun hF => ?_ | refine ImpQ.mk fun hp => ?_ | refine AllE.mk fun p => ?_ | refine AllR.mk fun rest => ?_ | refine AllK.mk fun K => ?_))); repeat' (with_reducible refine And.intro ?_ ?_))
      (focus (refine ⟨_, _, gh_close (t := 0) (ts := []) (l := EL m off st r run') ⟨⟨_, _, rfl⟩, ?_, by simp⟩, [0], rfl, ?_⟩; all_goals (refine fitq ?_ ?_ ?_ <;> try exact trivial); (try any_goals (refine ⟨?_, ?_⟩)); (try any_goals (with_reducible rfl))))
    · have d2 : decide (run' < m.rep) = false := decide_eq_false c2
      by_cases c3 : st = r
      · have d3 : decide (st = r) = true := decide_eq_true c3
        rw [if_pos (.inr c3)]
        subst c1
        refine w_body (rs := [.tmp 4]) (tm := [.ptr 0 0, .int .i64 v, .any, .any, .any, .any, .any, .any, .any, .any, .any, .any, .any, .any, .any, .any, .any, .any, .any, .any, .any, .any, .any, .any, .any, .any, .any, .any, .any, .any, .any, .any, .any, .any, .any, .any, .any, .any, .any, .any, .any, .any, .any, .any, .any, .any, .any, .any, .any, .any, .any, .any, .any, .any]) fn_30 rfl rfl rfl rfl fun R hR => ?_
        (have zx1 := @hr; have zx2 := @d1; have zx3 := @d2; have zx4 := @d3; have zx5 := @hw; all_goals (try ((with_reducible first | refine wp_id ?_ | refine does_id ?_ | refine ops_id ?_); refine walk ?_; (repeat' (first | exact trivial | with_reducible refine And.intro ?_ ?_)); all_goals (repeat with_reducible first | refine ImpB.mk fun hb => ?_ | refine ImpK.mk fun hK => ?_ | refine ImpF.mk fun hF => ?_ | refine ImpQ.mk fun hp => ?_ | refine AllE.mk fun p => ?_ | refine AllR.mk fun rest => ?_ | refine AllK.mk fun K => ?_))); repeat' (with_reducible refine And.intro ?_ ?_))
        (focus (refine ⟨_, _, gh_close (t := 0) (ts := []) (l := EL m off st r run') ⟨⟨_, _, rfl⟩, ?_, by simp⟩, [0], rfl, ?_⟩; all_goals (refine fitq ?_ ?_ ?_ <;> try exact trivial); (try any_goals (refine ⟨?_, ?_⟩)); (try any_goals (with_reducible rfl))))
      · have d3 : decide (st = r) = false := decide_eq_false c3
        rw [if_neg (fun q => q.elim c2 c3)]
        subst c1
        refine w_body (rs := [.tmp 4]) (tm := [.ptr 0 0, .int .i64 v, .any, .any, .any, .any, .any, .any, .any, .any, .any, .any, .any, .any, .any, .any, .any, .any, .any, .any, .any, .any, .any, .any, .any, .any, .any, .any, .any, .any, .any, .any, .any, .any, .any, .any, .any, .any, .any, .any, .any, .any, .any, .any, .any, .any, .any, .any, .any, .any, .any, .any, .any, .any]) fn_30 rfl rfl rfl rfl fun R hR => ?_
        (have zx1 := @hr; have zx2 := @d1; have zx3 := @d2; have zx4 := @d3; have zx5 := @hw; all_goals (try ((with_reducible first | refine wp_id ?_ | refine does_id ?_ | refine ops_id ?_); refine walk ?_; (repeat' (first | exact trivial | with_reducible refine And.intro ?_ ?_)); all_goals (repeat with_reducible first | refine ImpB.mk fun hb => ?_ | refine ImpK.mk fun hK => ?_ | refine ImpF.mk fun hF => ?_ | refine ImpQ.mk fun hp => ?_ | refine AllE.mk fun p => ?_ | refine AllR.mk fun rest => ?_ | refine AllK.mk fun K => ?_))); repeat' (with_reducible refine And.intro ?_ ?_))
        (focus (refine ⟨_, _, gh_close (t := 0) (ts := []) (l := EL m off r r run') ⟨⟨_, _, rfl⟩, ?_, by simp⟩, [0], rfl, ?_⟩; all_goals (refine fitq ?_ ?_ ?_ <;> try exact trivial); (try any_goals (refine ⟨?_, ?_⟩)); (try any_goals (with_reducible rfl))))
  · have d1 : decide (¬ r = res) = true := decide_eq_true c1
    rw [if_neg c1] at hrun
    have hw : IntKind.i64.wrap 1 = run' := by rw [← hrun]; decide
    by_cases c2 : run' < m.rep
    · have d2 : decide (run' < m.rep) = true := decide_eq_true c2
      rw [if_pos (.inl c2)]
      refine w_body (rs := [.tmp 4]) (tm := [.ptr 0 0, .int .i64 v, .any, .any, .any, .any, .any, .any, .any, .any, .any, .any, .any, .any, .any, .any, .any, .any, .any, .any, .any, .any, .any, .any, .any, .any, .any, .any, .any, .any, .any, .any, .any, .any, .any, .any, .any, .any, .any, .any, .any, .any, .any, .any, .any, .any, .any, .any, .any, .any, .any, .any, .any, .any]) fn_30 rfl rfl rfl rfl fun R hR => ?_
      (have zx1 := @hr; have zx2 := @d1; have zx3 := @d2; have zx4 := @hw; all_goals (try ((with_reducible first | refine wp_id ?_ | refine does_id ?_ | refine ops_id ?_); refine walk ?_; (repeat' (first | exact trivial | with_reducible refine And.intro ?_ ?_)); all_goals (repeat with_reducible first | refine ImpB.mk fun hb => ?_ | refine ImpK.mk fun hK => ?_ | refine ImpF.mk fun hF => ?_ | refine ImpQ.mk fun hp => ?_ | refine AllE.mk fun p => ?_ | refine AllR.mk fun rest => ?_ | refine AllK.mk fun K => ?_))); repeat' (with_reducible refine And.intro ?_ ?_))
      (focus (refine ⟨_, _, gh_close (t := 0) (ts := []) (l := EL m off st r run') ⟨⟨_, _, rfl⟩, ?_, by simp⟩, [0], rfl, ?_⟩; all_goals (refine fitq ?_ ?_ ?_ <;> try exact trivial); (try any_goals (refine ⟨?_, ?_⟩)); (try any_goals (with_reducible rfl))))
    · have d2 : decide (run' < m.rep) = false := decide_eq_false c2
      by_cases c3 : st = r
      · have d3 : decide (st = r) = true := decide_eq_true c3
        rw [if_pos (.inr c3)]
        refine w_body (rs := [.tmp 4]) (tm := [.ptr 0 0, .int .i64 v, .any, .any, .any, .any, .any, .any, .any, .any, .any, .any, .any, .any, .any, .any, .any, .any, .any, .any, .any, .any, .any, .any, .any, .any, .any, .any, .any, .any, .any, .any, .any, .any, .any, .any, .any, .any, .any, .any, .any, .any, .any, .any, .any, .any, .any, .any, .any, .any, .any, .any, .any, .any]) fn_30 rfl rfl rfl rfl fun R hR => ?_
        (have zx1 := @hr; have zx2 := @d1; have zx3 := @d2; have zx4 := @d3; have zx5 := @hw; all_goals (try ((with_reducible first | refine wp_id ?_ | refine does_id ?_ | refine ops_id ?_); refine walk ?_; (repeat' (first | exact trivial | with_reducible refine And.intro ?_ ?_)); all_goals (repeat with_reducible first | refine ImpB.mk fun hb => ?_ | refine ImpK.mk fun hK => ?_ | refine ImpF.mk fun hF => ?_ | refine ImpQ.mk fun hp => ?_ | refine AllE.mk fun p => ?_ | refine AllR.mk fun rest => ?_ | refine AllK.mk fun K => ?_))); repeat' (with_reducible refine And.intro ?_ ?_))
        (focus (refine ⟨_, _, gh_close (t := 0) (ts := []) (l := EL m off st r run') ⟨⟨_, _, rfl⟩, ?_, by simp⟩, [0], rfl, ?_⟩; all_goals (refine fitq ?_ ?_ ?_ <;> try exact trivial); (try any_goals (refine ⟨?_, ?_⟩)); (try any_goals (with_reducible rfl))))
      · have d3 : decide (st = r) = false := decide_eq_false c3
        rw [if_neg (fun q => q.elim c2 c3)]
        refine w_body (rs := [.tmp 4]) (tm := [.ptr 0 0, .int .i64 v, .any, .any, .any, .any, .any, .any, .any, .any, .any, .any, .any, .any, .any, .any, .any, .any, .any, .any, .any, .any, .any, .any, .any, .any, .any, .any, .any, .any, .any, .any, .any, .any, .any, .any, .any, .any, .any, .any, .any, .any, .any, .any, .any, .any, .any, .any, .any, .any, .any, .any, .any, .any]) fn_30 rfl rfl rfl rfl fun R hR => ?_
        (have zx1 := @hr; have zx2 := @d1; have zx3 := @d2; have zx4 := @d3; have zx5 := @hw; all_goals (try ((with_reducible first | refine wp_id ?_ | refine does_id ?_ | refine ops_id ?_); refine walk ?_; (repeat' (first | exact trivial | with_reducible refine And.intro ?_ ?_)); all_goals (repeat with_reducible first | refine ImpB.mk fun hb => ?_ | refine ImpK.mk fun hK => ?_ | refine ImpF.mk fun hF => ?_ | refine ImpQ.mk fun hp => ?_ | refine AllE.mk fun p => ?_ | refine AllR.mk fun rest => ?_ | refine AllK.mk fun K => ?_))); repeat' (with_reducible refine And.intro ?_ ?_))
        (focus (refine ⟨_, _, gh_close (t := 0) (ts := []) (l := EL m off r r run') ⟨⟨_, _, rfl⟩, ?_, by simp⟩, [0], rfl, ?_⟩; all_goals (refine fitq ?_ ?_ ?_ <;> try exact trivial); (try any_goals (refine ⟨?_, ?_⟩)); (try any_goals (with_reducible rfl))))
end Go.V
