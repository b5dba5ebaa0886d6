/-
  T
-/
import Derived.Test.YtginlelmkebpmaaPart10
import Derived.Test.YtginlelmkebpmaaProg
import Derived.KernelRfl
set_option linter.unusedVariables false
set_option linter.unusedSimpArgs false
namespace Go.V
open Go.Proofs
theorem kd_2 : kdT Try.prog 2 = .int .i64 := by kernel_rfl
theorem sz_2 : szT Try.prog 2 = 1 := by kernel_rfl
theorem by_2 : bytesT Try.prog 2 = 8 := by kernel_rfl
theorem ze_2 : zeroT Try.prog 2 = some [.int .i64 0] := by kernel_rfl
theorem kd_3 : kdT Try.prog 3 = .int .i64 := by kernel_rfl
theorem sz_3 : szT Try.prog 3 = 1 := by kernel_rfl
theorem by_3 : bytesT Try.prog 3 = 8 := by kernel_rfl
theorem ze_3 : zeroT Try.prog 3 = some [.int .i64 0] := by kernel_rfl
theorem kd_4 : kdT Try.prog 4 = .bool := by kernel_rfl
theorem sz_4 : szT Try.prog 4 = 1 := by kernel_rfl
theorem by_4 : bytesT Try.prog 4 = 1 := by kernel_rfl
theorem ze_4 : zeroT Try.prog 4 = some [.bool false] := by kernel_rfl
theorem kd_5 : kdT Try.prog 5 = .int .u8 := by kernel_rfl
theorem sz_5 : szT Try.prog 5 = 1 := by kernel_rfl
theorem by_5 : bytesT Try.prog 5 = 1 := by kernel_rfl
theorem ze_5 : zeroT Try.prog 5 = some [.int .u8 0] := by kernel_rfl
theorem kd_6 : kdT Try.prog 6 = .int .u8 := by kernel_rfl
theorem sz_6 : szT Try.prog 6 = 1 := by kernel_rfl
theorem by_6 : bytesT Try.prog 6 = 1 := by kernel_rfl
theorem ze_6 : zeroT Try.prog 6 = some [.int .u8 0] := by kernel_rfl
theorem kd_7 : kdT Try.prog 7 = .struct := by kernel_rfl
theorem sz_7 : szT Try.prog 7 = 4 := by kernel_rfl
theorem by_7 : bytesT Try.prog 7 = 24 := by kernel_rfl
theorem ze_7 : zeroT Try.prog 7 = some [.int .i64 0, .int .i64 0, .bool false, .int .u8 0] := by kernel_rfl
theorem pl_7 : placesT Try.prog 7 = some [(0, 1), (1, 1), (2, 1), (3, 1)] := by kernel_rfl
theorem fl_7_0 : fldT Try.prog 7 0 = some (0, 2) := by kernel_rfl
theorem fl_7_1 : fldT Try.prog 7 1 = some (1, 3) := by kernel_rfl
theorem fl_7_2 : fldT Try.prog 7 2 = some (2, 4) := by kernel_rfl
theorem fl_7_3 : fldT Try.prog 7 3 = some (3, 6) := by kernel_rfl
theorem kd_8 : kdT Try.prog 8 = .struct := by kernel_rfl
theorem sz_8 : szT Try.prog 8 = 4 := by kernel_rfl
theorem by_8 : bytesT Try.prog 8 = 24 := by kernel_rfl
theorem ze_8 : zeroT Try.prog 8 = some [.int .i64 0, .int .i64 0, .bool false, .int .u8 0] := by kernel_rfl
theorem pl_8 : placesT Try.prog 8 = some [(0, 1), (1, 1), (2, 1), (3, 1)] := by kernel_rfl
theorem fl_8_0 : fldT Try.prog 8 0 = some (0, 2) := by kernel_rfl
theorem fl_8_1 : fldT Try.prog 8 1 = some (1, 3) := by kernel_rfl
theorem fl_8_2 : fldT Try.prog 8 2 = some (2, 4) := by kernel_rfl
theorem fl_8_3 : fldT Try.prog 8 3 = some (3, 6) := by kernel_rfl
theorem kd_9 : kdT Try.prog 9 = .str := by kernel_rfl
theorem sz_9 : szT Try.prog 9 = 1 := by kernel_rfl
theorem by_9 : bytesT Try.prog 9 = 16 := by kernel_rfl
theorem ze_9 : zeroT Try.prog 9 = some [.str []] := by kernel_rfl
theorem kd_10 : kdT Try.prog 10 = .str := by kernel_rfl
theorem sz_10 : szT Try.prog 10 = 1 := by kernel_rfl
theorem by_10 : bytesT Try.prog 10 = 16 := by kernel_rfl
theorem ze_10 : zeroT Try.prog 10 = some [.str []] := by kernel_rfl
theorem kd_11 : kdT Try.prog 11 = .str := by kernel_rfl
theorem sz_11 : szT Try.prog 11 = 1 := by kernel_rfl
theorem by_11 : bytesT Try.prog 11 = 16 := by kernel_rfl
theorem ze_11 : zeroT Try.prog 11 = some [.str []] := by kernel_rfl
theorem kd_12 : kdT Try.prog 12 = .int .u64 := by kernel_rfl
theorem sz_12 : szT Try.prog 12 = 1 := by kernel_rfl
theorem by_12 : bytesT Try.prog 12 = 8 := by kernel_rfl
theorem ze_12 : zeroT Try.prog 12 = some [.int .u64 0] := by kernel_rfl
theorem kd_13 : kdT Try.prog 13 = .struct := by kernel_rfl
theorem sz_13 : szT Try.prog 13 = 2 := by kernel_rfl
theorem by_13 : bytesT Try.prog 13 = 24 := by kernel_rfl
theorem ze_13 : zeroT Try.prog 13 = some [.str [], .int .u64 0] := by kernel_rfl
theorem pl_13 : placesT Try.prog 13 = some [(0, 1), (1, 1)] := by kernel_rfl
theorem fl_13_0 : fldT Try.prog 13 0 = some (0, 9) := by kernel_rfl
theorem fl_13_1 : fldT Try.prog 13 1 = some (1, 12) := by kernel_rfl
theorem kd_14 : kdT Try.prog 14 = .struct := by kernel_rfl
theorem sz_14 : szT Try.prog 14 = 2 := by kernel_rfl
theorem by_14 : bytesT Try.prog 14 = 24 := by kernel_rfl
theorem ze_14 : zeroT Try.prog 14 = some [.str [], .int .u64 0] := by kernel_rfl
theorem pl_14 : placesT Try.prog 14 = some [(0, 1), (1, 1)] := by kernel_rfl
theorem fl_14_0 : fldT Try.prog 14 0 = some (0, 9) := by kernel_rfl
theorem fl_14_1 : fldT Try.prog 14 1 = some (1, 12) := by kernel_rfl
theorem kd_15 : kdT Try.prog 15 = .ptr := by kernel_rfl
theorem sz_15 : szT Try.prog 15 = 1 := by kernel_rfl
theorem by_15 : bytesT Try.prog 15 = 8 := by kernel_rfl
theorem ze_15 : zeroT Try.prog 15 = some [.lit (.pointer none)] := by kernel_rfl
theorem kd_16 : kdT Try.prog 16 = .ptr := by kernel_rfl
theorem sz_16 : szT Try.prog 16 = 1 := by kernel_rfl
theorem by_16 : bytesT Try.prog 16 = 8 := by kernel_rfl
theorem ze_16 : zeroT Try.prog 16 = some [.lit (.pointer none)] := by kernel_rfl
theorem kd_17 : kdT Try.prog 17 = .ptr := by kernel_rfl
theorem sz_17 : szT Try.prog 17 = 1 := by kernel_rfl
theorem by_17 : bytesT Try.prog 17 = 8 := by kernel_rfl
theorem ze_17 : zeroT Try.prog 17 = some [.lit (.pointer none)] := by kernel_rfl
theorem kd_18 : kdT Try.prog 18 = .struct := by kernel_rfl
theorem sz_18 : szT Try.prog 18 = 1 := by kernel_rfl
theorem by_18 : bytesT Try.prog 18 = 8 := by kernel_rfl
theorem ze_18 : zeroT Try.prog 18 = some [.lit (.pointer none)] := by kernel_rfl
theorem pl_18 : placesT Try.prog 18 = some [(0, 1)] := by kernel_rfl
theorem fl_18_0 : fldT Try.prog 18 0 = some (0, 17) := by kernel_rfl
theorem kd_19 : kdT Try.prog 19 = .struct := by kernel_rfl
theorem sz_19 : szT Try.prog 19 = 1 := by kernel_rfl
theorem by_19 : bytesT Try.prog 19 = 8 := by kernel_rfl
theorem ze_19 : zeroT Try.prog 19 = some [.lit (.pointer none)] := by kernel_rfl
theorem pl_19 : placesT Try.prog 19 = some [(0, 1)] := by kernel_rfl
theorem fl_19_0 : fldT Try.prog 19 0 = some (0, 17) := by kernel_rfl
theorem kd_20 : kdT Try.prog 20 = .iface := by kernel_rfl
theorem sz_20 : szT Try.prog 20 = 1 := by kernel_rfl
theorem by_20 : bytesT Try.prog 20 = 16 := by kernel_rfl
theorem ze_20 : zeroT Try.prog 20 = some [.lit .nilIface] := by kernel_rfl
theorem kd_21 : kdT Try.prog 21 = .int .i32 := by kernel_rfl
theorem sz_21 : szT Try.prog 21 = 1 := by kernel_rfl
theorem by_21 : bytesT Try.prog 21 = 4 := by kernel_rfl
theorem ze_21 : zeroT Try.prog 21 = some [.int .i32 0] := by kernel_rfl
theorem kd_22 : kdT Try.prog 22 = .struct := by kernel_rfl
theorem sz_22 : szT Try.prog 22 = 3 := by kernel_rfl
theorem by_22 : bytesT Try.prog 22 = 24 := by kernel_rfl
theorem ze_22 : zeroT Try.prog 22 = some [.int .i64 0, .int .i64 0, .int .i64 0] := by kernel_rfl
theorem pl_22 : placesT Try.prog 22 = some [(0, 1), (1, 1), (2, 1)] := by kernel_rfl
theorem fl_22_0 : fldT Try.prog 22 0 = some (0, 3) := by kernel_rfl
theorem fl_22_1 : fldT Try.prog 22 1 = some (1, 3) := by kernel_rfl
theorem fl_22_2 : fldT Try.prog 22 2 = some (2, 3) := by kernel_rfl
theorem kd_23 : kdT Try.prog 23 = .struct := by kernel_rfl
theorem sz_23 : szT Try.prog 23 = 3 := by kernel_rfl
theorem by_23 : bytesT Try.prog 23 = 24 := by kernel_rfl
theorem ze_23 : zeroT Try.prog 23 = some [.int .i64 0, .int .i64 0, .int .i64 0] := by kernel_rfl
theorem pl_23 : placesT Try.prog 23 = some [(0, 1), (1, 1), (2, 1)] := by kernel_rfl
theorem fs_23 : fldsT Try.prog 23 = some [(0, 3), (1, 3), (2, 3)] := by kernel_rfl
theorem fl_23_0 : fldT Try.prog 23 0 = some (0, 3) := by kernel_rfl
theorem fl_23_1 : fldT Try.prog 23 1 = some (1, 3) := by kernel_rfl
theorem fl_23_2 : fldT Try.prog 23 2 = some (2, 3) := by kernel_rfl
theorem kd_24 : kdT Try.prog 24 = .ptr := by kernel_rfl
theorem sz_24 : szT Try.prog 24 = 1 := by kernel_rfl
theorem by_24 : bytesT Try.prog 24 = 8 := by kernel_rfl
theorem ze_24 : zeroT Try.prog 24 = some [.lit (.pointer none)] := by kernel_rfl
theorem kd_25 : kdT Try.prog 25 = .int .i64 := by kernel_rfl
theorem sz_25 : szT Try.prog 25 = 1 := by kernel_rfl
theorem by_25 : bytesT Try.prog 25 = 8 := by kernel_rfl
theorem ze_25 : zeroT Try.prog 25 = some [.int .i64 0] := by kernel_rfl
theorem kd_31 : kdT Try.prog 31 = .slice 34 := by kernel_rfl
theorem sz_31 : szT Try.prog 31 = 1 := by kernel_rfl
theorem by_31 : bytesT Try.prog 31 = 24 := by kernel_rfl
theorem ze_31 : zeroT Try.prog 31 = some [.lit (.slice none 0 0)] := by kernel_rfl
theorem kd_33 : kdT Try.prog 33 = .struct := by kernel_rfl
theorem sz_33 : szT Try.prog 33 = 3 := by kernel_rfl
theorem by_33 : bytesT Try.prog 33 = 24 := by kernel_rfl
theorem ze_33 : zeroT Try.prog 33 = some [.int .i64 0, .int .i64 0, .int .i64 0] := by kernel_rfl
theorem pl_33 : placesT Try.prog 33 = some [(0, 1), (1, 1), (2, 1)] := by kernel_rfl
theorem fl_33_0 : fldT Try.prog 33 0 = some (0, 3) := by kernel_rfl
theorem fl_33_1 : fldT Try.prog 33 1 = some (1, 3) := by kernel_rfl
theorem fl_33_2 : fldT Try.prog 33 2 = some (2, 3) := by kernel_rfl
theorem kd_34 : kdT Try.prog 34 = .struct := by kernel_rfl
theorem sz_34 : szT Try.prog 34 = 3 := by kernel_rfl
theorem by_34 : bytesT Try.prog 34 = 24 := by kernel_rfl
theorem ze_34 : zeroT Try.prog 34 = some [.int .i64 0, .int .i64 0, .int .i64 0] := by kernel_rfl
theorem pl_34 : placesT Try.prog 34 = some [(0, 1), (1, 1), (2, 1)] := by kernel_rfl
theorem fs_34 : fldsT Try.prog 34 = some [(0, 3), (1, 3), (2, 3)] := by kernel_rfl
theorem fl_34_0 : fldT Try.prog 34 0 = some (0, 3) := by kernel_rfl
theorem fl_34_1 : fldT Try.prog 34 1 = some (1, 3) := by kernel_rfl
theorem fl_34_2 : fldT Try.prog 34 2 = some (2, 3) := by kernel_rfl
theorem kd_36 : kdT Try.prog 36 = .struct := by kernel_rfl
theorem sz_36 : szT Try.prog 36 = 3 := by kernel_rfl
theorem by_36 : bytesT Try.prog 36 = 24 := by kernel_rfl
theorem ze_36 : zeroT Try.prog 36 = some [.int .i64 0, .bool false, .int .i64 0] := by kernel_rfl
theorem pl_36 : placesT Try.prog 36 = some [(0, 1), (1, 1), (2, 1)] := by kernel_rfl
theorem fl_36_0 : fldT Try.prog 36 0 = some (0, 3) := by kernel_rfl
theorem fl_36_1 : fldT Try.prog 36 1 = some (1, 4) := by kernel_rfl
theorem fl_36_2 : fldT Try.prog 36 2 = some (2, 3) := by kernel_rfl
theorem kd_37 : kdT Try.prog 37 = .struct := by kernel_rfl
theorem sz_37 : szT Try.prog 37 = 3 := by kernel_rfl
theorem by_37 : bytesT Try.prog 37 = 24 := by kernel_rfl
theorem ze_37 : zeroT Try.prog 37 = some [.int .i64 0, .bool false, .int .i64 0] := by kernel_rfl
theorem pl_37 : placesT Try.prog 37 = some [(0, 1), (1, 1), (2, 1)] := by kernel_rfl
theorem fs_37 : fldsT Try.prog 37 = some [(0, 3), (1, 4), (2, 3)] := by kernel_rfl
theorem fl_37_0 : fldT Try.prog 37 0 = some (0, 3) := by kernel_rfl
theorem fl_37_1 : fldT Try.prog 37 1 = some (1, 4) := by kernel_rfl
theorem fl_37_2 : fldT Try.prog 37 2 = some (2, 3) := by kernel_rfl
theorem kd_38 : kdT Try.prog 38 = .slice 3 := by kernel_rfl
theorem sz_38 : szT Try.prog 38 = 1 := by kernel_rfl
theorem by_38 : bytesT Try.prog 38 = 24 := by kernel_rfl
theorem ze_38 : zeroT Try.prog 38 = some [.lit (.slice none 0 0)] := by kernel_rfl
theorem kd_42 : kdT Try.prog 42 = .slice 48 := by kernel_rfl
theorem sz_42 : szT Try.prog 42 = 1 := by kernel_rfl
theorem by_42 : bytesT Try.prog 42 = 24 := by kernel_rfl
theorem ze_42 : zeroT Try.prog 42 = some [.lit (.slice none 0 0)] := by kernel_rfl
theorem kd_43 : kdT Try.prog 43 = .slice 69 := by kernel_rfl
theorem sz_43 : szT Try.prog 43 = 1 := by kernel_rfl
theorem by_43 : bytesT Try.prog 43 = 24 := by kernel_rfl
theorem ze_43 : zeroT Try.prog 43 = some [.lit (.slice none 0 0)] := by kernel_rfl
theorem kd_44 : kdT Try.prog 44 = .struct := by kernel_rfl
theorem sz_44 : szT Try.prog 44 = 11 := by kernel_rfl
theorem by_44 : bytesT Try.prog 44 = 136 := by kernel_rfl
theorem ze_44 : zeroT Try.prog 44 = some [.int .i64 0, .int .i64 0, .int .i64 0, .int .i64 0, .int .i64 0, .int .i64 0, .int .i64 0, .lit (.slice none 0 0), .lit (.slice none 0 0), .lit (.slice none 0 0), .bool false] := by kernel_rfl
theorem pl_44 : placesT Try.prog 44 = some [(0, 3), (3, 1), (4, 1), (5, 1), (6, 1), (7, 1), (8, 1), (9, 1), (10, 1)] := by kernel_rfl
theorem fl_44_0 : fldT Try.prog 44 0 = some (0, 23) := by kernel_rfl
theorem fl_44_1 : fldT Try.prog 44 1 = some (3, 3) := by kernel_rfl
theorem fl_44_2 : fldT Try.prog 44 2 = some (4, 3) := by kernel_rfl
theorem fl_44_3 : fldT Try.prog 44 3 = some (5, 3) := by kernel_rfl
theorem fl_44_4 : fldT Try.prog 44 4 = some (6, 3) := by kernel_rfl
theorem fl_44_5 : fldT Try.prog 44 5 = some (7, 43) := by kernel_rfl
theorem fl_44_6 : fldT Try.prog 44 6 = some (8, 38) := by kernel_rfl
theorem fl_44_7 : fldT Try.prog 44 7 = some (9, 38) := by kernel_rfl
theorem fl_44_8 : fldT Try.prog 44 8 = some (10, 4) := by kernel_rfl
theorem kd_45 : kdT Try.prog 45 = .struct := by kernel_rfl
theorem sz_45 : szT Try.prog 45 = 11 := by kernel_rfl
theorem by_45 : bytesT Try.prog 45 = 136 := by kernel_rfl
theorem ze_45 : zeroT Try.prog 45 = some [.int .i64 0, .int .i64 0, .int .i64 0, .int .i64 0, .int .i64 0, .int .i64 0, .int .i64 0, .lit (.slice none 0 0), .lit (.slice none 0 0), .lit (.slice none 0 0), .bool false] := by kernel_rfl
theorem pl_45 : placesT Try.prog 45 = some [(0, 3), (3, 1), (4, 1), (5, 1), (6, 1), (7, 1), (8, 1), (9, 1), (10, 1)] := by kernel_rfl
theorem fl_45_0 : fldT Try.prog 45 0 = some (0, 23) := by kernel_rfl
theorem fl_45_1 : fldT Try.prog 45 1 = some (3, 3) := by kernel_rfl
theorem fl_45_2 : fldT Try.prog 45 2 = some (4, 3) := by kernel_rfl
theorem fl_45_3 : fldT Try.prog 45 3 = some (5, 3) := by kernel_rfl
theorem fl_45_4 : fldT Try.prog 45 4 = some (6, 3) := by kernel_rfl
theorem fl_45_5 : fldT Try.prog 45 5 = some (7, 43) := by kernel_rfl
theorem fl_45_6 : fldT Try.prog 45 6 = some (8, 38) := by kernel_rfl
theorem fl_45_7 : fldT Try.prog 45 7 = some (9, 38) := by kernel_rfl
theorem fl_45_8 : fldT Try.prog 45 8 = some (10, 4) := by kernel_rfl
theorem kd_47 : kdT Try.prog 47 = .struct := by kernel_rfl
theorem sz_47 : szT Try.prog 47 = 4 := by kernel_rfl
theorem by_47 : bytesT Try.prog 47 = 64 := by kernel_rfl
theorem ze_47 : zeroT Try.prog 47 = some [.int .i64 0, .int .i64 0, .lit (.slice none 0 0), .lit (.slice none 0 0)] := by kernel_rfl
theorem pl_47 : placesT Try.prog 47 = some [(0, 1), (1, 1), (2, 1), (3, 1)] := by kernel_rfl
theorem fl_47_0 : fldT Try.prog 47 0 = some (0, 3) := by kernel_rfl
theorem fl_47_1 : fldT Try.prog 47 1 = some (1, 3) := by kernel_rfl
theorem fl_47_2 : fldT Try.prog 47 2 = some (2, 38) := by kernel_rfl
theorem fl_47_3 : fldT Try.prog 47 3 = some (3, 38) := by kernel_rfl
theorem kd_48 : kdT Try.prog 48 = .struct := by kernel_rfl
theorem sz_48 : szT Try.prog 48 = 4 := by kernel_rfl
theorem by_48 : bytesT Try.prog 48 = 64 := by kernel_rfl
theorem ze_48 : zeroT Try.prog 48 = some [.int .i64 0, .int .i64 0, .lit (.slice none 0 0), .lit (.slice none 0 0)] := by kernel_rfl
theorem pl_48 : placesT Try.prog 48 = some [(0, 1), (1, 1), (2, 1), (3, 1)] := by kernel_rfl
theorem fl_48_0 : fldT Try.prog 48 0 = some (0, 3) := by kernel_rfl
theorem fl_48_1 : fldT Try.prog 48 1 = some (1, 3) := by kernel_rfl
theorem fl_48_2 : fldT Try.prog 48 2 = some (2, 38) := by kernel_rfl
theorem fl_48_3 : fldT Try.prog 48 3 = some (3, 38) := by kernel_rfl
theorem kd_54 : kdT Try.prog 54 = .map 3 56 := by kernel_rfl
theorem sz_54 : szT Try.prog 54 = 1 := by kernel_rfl
theorem by_54 : bytesT Try.prog 54 = 8 := by kernel_rfl
theorem ze_54 : zeroT Try.prog 54 = some [.lit (.map none)] := by kernel_rfl
theorem kd_55 : kdT Try.prog 55 = .struct := by kernel_rfl
theorem sz_55 : szT Try.prog 55 = 2 := by kernel_rfl
theorem by_55 : bytesT Try.prog 55 = 16 := by kernel_rfl
theorem ze_55 : zeroT Try.prog 55 = some [.bool false, .int .i64 0] := by kernel_rfl
theorem pl_55 : placesT Try.prog 55 = some [(0, 1), (1, 1)] := by kernel_rfl
theorem fl_55_0 : fldT Try.prog 55 0 = some (0, 4) := by kernel_rfl
theorem fl_55_1 : fldT Try.prog 55 1 = some (1, 3) := by kernel_rfl
theorem kd_56 : kdT Try.prog 56 = .struct := by kernel_rfl
theorem sz_56 : szT Try.prog 56 = 2 := by kernel_rfl
theorem by_56 : bytesT Try.prog 56 = 16 := by kernel_rfl
theorem ze_56 : zeroT Try.prog 56 = some [.bool false, .int .i64 0] := by kernel_rfl
theorem pl_56 : placesT Try.prog 56 = some [(0, 1), (1, 1)] := by kernel_rfl
theorem fs_56 : fldsT Try.prog 56 = some [(0, 4), (1, 3)] := by kernel_rfl
theorem fl_56_0 : fldT Try.prog 56 0 = some (0, 4) := by kernel_rfl
theorem fl_56_1 : fldT Try.prog 56 1 = some (1, 3) := by kernel_rfl
theorem kd_57 : kdT Try.prog 57 = .struct := by kernel_rfl
theorem sz_57 : szT Try.prog 57 = 13 := by kernel_rfl
theorem by_57 : bytesT Try.prog 57 = 136 := by kernel_rfl
theorem ze_57 : zeroT Try.prog 57 = some [.bool false, .int .i64 0, .int .i64 0, .int .i64 0, .int .i64 0, .int .i64 0, .int .i64 0, .bool false, .int .i64 0, .lit (.map none), .lit (.slice none 0 0), .lit (.slice none 0 0), .bool false] := by kernel_rfl
theorem pl_57 : placesT Try.prog 57 = some [(0, 1), (1, 3), (4, 1), (5, 1), (6, 1), (7, 2), (9, 1), (10, 1), (11, 1), (12, 1)] := by kernel_rfl
theorem fl_57_0 : fldT Try.prog 57 0 = some (0, 4) := by kernel_rfl
theorem fl_57_1 : fldT Try.prog 57 1 = some (1, 23) := by kernel_rfl
theorem fl_57_2 : fldT Try.prog 57 2 = some (4, 3) := by kernel_rfl
theorem fl_57_3 : fldT Try.prog 57 3 = some (5, 3) := by kernel_rfl
theorem fl_57_4 : fldT Try.prog 57 4 = some (6, 3) := by kernel_rfl
theorem fl_57_5 : fldT Try.prog 57 5 = some (7, 56) := by kernel_rfl
theorem fl_57_6 : fldT Try.prog 57 6 = some (9, 54) := by kernel_rfl
theorem fl_57_7 : fldT Try.prog 57 7 = some (10, 38) := by kernel_rfl
theorem fl_57_8 : fldT Try.prog 57 8 = some (11, 38) := by kernel_rfl
theorem fl_57_9 : fldT Try.prog 57 9 = some (12, 4) := by kernel_rfl
theorem kd_58 : kdT Try.prog 58 = .struct := by kernel_rfl
theorem sz_58 : szT Try.prog 58 = 13 := by kernel_rfl
theorem by_58 : bytesT Try.prog 58 = 136 := by kernel_rfl
theorem ze_58 : zeroT Try.prog 58 = some [.bool false, .int .i64 0, .int .i64 0, .int .i64 0, .int .i64 0, .int .i64 0, .int .i64 0, .bool false, .int .i64 0, .lit (.map none), .lit (.slice none 0 0), .lit (.slice none 0 0), .bool false] := by kernel_rfl
theorem pl_58 : placesT Try.prog 58 = some [(0, 1), (1, 3), (4, 1), (5, 1), (6, 1), (7, 2), (9, 1), (10, 1), (11, 1), (12, 1)] := by kernel_rfl
theorem fl_58_0 : fldT Try.prog 58 0 = some (0, 4) := by kernel_rfl
theorem fl_58_1 : fldT Try.prog 58 1 = some (1, 23) := by kernel_rfl
theorem fl_58_2 : fldT Try.prog 58 2 = some (4, 3) := by kernel_rfl
theorem fl_58_3 : fldT Try.prog 58 3 = some (5, 3) := by kernel_rfl
theorem fl_58_4 : fldT Try.prog 58 4 = some (6, 3) := by kernel_rfl
theorem fl_58_5 : fldT Try.prog 58 5 = some (7, 56) := by kernel_rfl
theorem fl_58_6 : fldT Try.prog 58 6 = some (9, 54) := by kernel_rfl
theorem fl_58_7 : fldT Try.prog 58 7 = some (10, 38) := by kernel_rfl
theorem fl_58_8 : fldT Try.prog 58 8 = some (11, 38) := by kernel_rfl
theorem fl_58_9 : fldT Try.prog 58 9 = some (12, 4) := by kernel_rfl
theorem kd_69 : kdT Try.prog 69 = .array 2 3 := by kernel_rfl
theorem sz_69 : szT Try.prog 69 = 2 := by kernel_rfl
theorem by_69 : bytesT Try.prog 69 = 16 := by kernel_rfl
theorem ze_69 : zeroT Try.prog 69 = some [.int .i64 0, .int .i64 0] := by kernel_rfl
theorem kd_72 : kdT Try.prog 72 = .int .u64 := by kernel_rfl
theorem sz_72 : szT Try.prog 72 = 1 := by kernel_rfl
theorem by_72 : bytesT Try.prog 72 = 8 := by kernel_rfl
theorem ze_72 : zeroT Try.prog 72 = some [.int .u64 0] := by kernel_rfl
theorem kd_76 : kdT Try.prog 76 = .int .i64 := by kernel_rfl
theorem sz_76 : szT Try.prog 76 = 1 := by kernel_rfl
theorem by_76 : bytesT Try.prog 76 = 8 := by kernel_rfl
theorem ze_76 : zeroT Try.prog 76 = some [.int .i64 0] := by kernel_rfl
theorem kd_83 : kdT Try.prog 83 = .int .u32 := by kernel_rfl
theorem sz_83 : szT Try.prog 83 = 1 := by kernel_rfl
theorem by_83 : bytesT Try.prog 83 = 4 := by kernel_rfl
theorem ze_83 : zeroT Try.prog 83 = some [.int .u32 0] := by kernel_rfl
theorem kd_85 : kdT Try.prog 85 = .int .u64 := by kernel_rfl
theorem sz_85 : szT Try.prog 85 = 1 := by kernel_rfl
theorem by_85 : bytesT Try.prog 85 = 8 := by kernel_rfl
theorem ze_85 : zeroT Try.prog 85 = some [.int .u64 0] := by kernel_rfl
theorem kd_86 : kdT Try.prog 86 = .int .u64 := by kernel_rfl
theorem sz_86 : szT Try.prog 86 = 1 := by kernel_rfl
theorem by_86 : bytesT Try.prog 86 = 8 := by kernel_rfl
theorem ze_86 : zeroT Try.prog 86 = some [.int .u64 0] := by kernel_rfl
theorem kd_90 : kdT Try.prog 90 = .ptr := by kernel_rfl
theorem sz_90 : szT Try.prog 90 = 1 := by kernel_rfl
theorem by_90 : bytesT Try.prog 90 = 8 := by kernel_rfl
theorem ze_90 : zeroT Try.prog 90 = some [.lit (.pointer none)] := by kernel_rfl
theorem kd_92 : kdT Try.prog 92 = .ptr := by kernel_rfl
theorem sz_92 : szT Try.prog 92 = 1 := by kernel_rfl
theorem by_92 : bytesT Try.prog 92 = 8 := by kernel_rfl
theorem ze_92 : zeroT Try.prog 92 = some [.lit (.pointer none)] := by kernel_rfl
theorem kd_96 : kdT Try.prog 96 = .struct := by kernel_rfl
theorem sz_96 : szT Try.prog 96 = 4 := by kernel_rfl
theorem by_96 : bytesT Try.prog 96 = 40 := by kernel_rfl
theorem ze_96 : zeroT Try.prog 96 = some [.lit (.pointer none), .lit (.pointer none), .lit (.pointer none), .str []] := by kernel_rfl
theorem pl_96 : placesT Try.prog 96 = some [(0, 1), (1, 1), (2, 1), (3, 1)] := by kernel_rfl
theorem fl_96_0 : fldT Try.prog 96 0 = some (0, 17) := by kernel_rfl
theorem fl_96_1 : fldT Try.prog 96 1 = some (1, 17) := by kernel_rfl
theorem fl_96_2 : fldT Try.prog 96 2 = some (2, 17) := by kernel_rfl
theorem fl_96_3 : fldT Try.prog 96 3 = some (3, 9) := by kernel_rfl
theorem kd_97 : kdT Try.prog 97 = .struct := by kernel_rfl
theorem sz_97 : szT Try.prog 97 = 4 := by kernel_rfl
theorem by_97 : bytesT Try.prog 97 = 40 := by kernel_rfl
theorem ze_97 : zeroT Try.prog 97 = some [.lit (.pointer none), .lit (.pointer none), .lit (.pointer none), .str []] := by kernel_rfl
theorem pl_97 : placesT Try.prog 97 = some [(0, 1), (1, 1), (2, 1), (3, 1)] := by kernel_rfl
theorem fl_97_0 : fldT Try.prog 97 0 = some (0, 17) := by kernel_rfl
theorem fl_97_1 : fldT Try.prog 97 1 = some (1, 17) := by kernel_rfl
theorem fl_97_2 : fldT Try.prog 97 2 = some (2, 17) := by kernel_rfl
theorem fl_97_3 : fldT Try.prog 97 3 = some (3, 9) := by kernel_rfl
theorem kd_98 : kdT Try.prog 98 = .array 0 16 := by kernel_rfl
theorem sz_98 : szT Try.prog 98 = 0 := by kernel_rfl
theorem by_98 : bytesT Try.prog 98 = 0 := by kernel_rfl
theorem ze_98 : zeroT Try.prog 98 = some [] := by kernel_rfl
theorem kd_99 : kdT Try.prog 99 = .struct := by kernel_rfl
theorem sz_99 : szT Try.prog 99 = 0 := by kernel_rfl
theorem by_99 : bytesT Try.prog 99 = 0 := by kernel_rfl
theorem ze_99 : zeroT Try.prog 99 = some [] := by kernel_rfl
theorem pl_99 : placesT Try.prog 99 = some [(0, 0)] := by kernel_rfl
theorem kd_100 : kdT Try.prog 100 = .struct := by kernel_rfl
theorem sz_100 : szT Try.prog 100 = 0 := by kernel_rfl
theorem by_100 : bytesT Try.prog 100 = 0 := by kernel_rfl
theorem ze_100 : zeroT Try.prog 100 = some [] := by kernel_rfl
theorem pl_100 : placesT Try.prog 100 = some [(0, 0)] := by kernel_rfl
theorem kd_102 : kdT Try.prog 102 = .int .u8 := by kernel_rfl
theorem sz_102 : szT Try.prog 102 = 1 := by kernel_rfl
theorem by_102 : bytesT Try.prog 102 = 1 := by kernel_rfl
theorem ze_102 : zeroT Try.prog 102 = some [.int .u8 0] := by kernel_rfl
theorem kd_103 : kdT Try.prog 103 = .int .u8 := by kernel_rfl
theorem sz_103 : szT Try.prog 103 = 1 := by kernel_rfl
theorem by_103 : bytesT Try.prog 103 = 1 := by kernel_rfl
theorem ze_103 : zeroT Try.prog 103 = some [.int .u8 0] := by kernel_rfl
theorem kd_105 : kdT Try.prog 105 = .ptr := by kernel_rfl
theorem sz_105 : szT Try.prog 105 = 1 := by kernel_rfl
theorem by_105 : bytesT Try.prog 105 = 8 := by kernel_rfl
theorem ze_105 : zeroT Try.prog 105 = some [.lit (.pointer none)] := by kernel_rfl
theorem kd_106 : kdT Try.prog 106 = .int .i32 := by kernel_rfl
theorem sz_106 : szT Try.prog 106 = 1 := by kernel_rfl
theorem by_106 : bytesT Try.prog 106 = 4 := by kernel_rfl
theorem ze_106 : zeroT Try.prog 106 = some [.int .i32 0] := by kernel_rfl
theorem kd_107 : kdT Try.prog 107 = .int .i32 := by kernel_rfl
theorem sz_107 : szT Try.prog 107 = 1 := by kernel_rfl
theorem by_107 : bytesT Try.prog 107 = 4 := by kernel_rfl
theorem ze_107 : zeroT Try.prog 107 = some [.int .i32 0] := by kernel_rfl
theorem kd_108 : kdT Try.prog 108 = .struct := by kernel_rfl
theorem sz_108 : szT Try.prog 108 = 11 := by kernel_rfl
theorem by_108 : bytesT Try.prog 108 = 48 := by kernel_rfl
theorem ze_108 : zeroT Try.prog 108 = some [.int .u64 0, .int .u64 0, .int .u32 0, .int .u8 0, .int .u8 0, .int .u8 0, .int .u8 0, .lit .nilFunc, .lit (.pointer none), .int .i32 0, .int .i32 0] := by kernel_rfl
theorem pl_108 : placesT Try.prog 108 = some [(0, 1), (1, 1), (2, 1), (3, 1), (4, 1), (5, 1), (6, 1), (7, 1), (8, 1), (9, 1), (10, 1)] := by kernel_rfl
theorem fl_108_0 : fldT Try.prog 108 0 = some (0, 12) := by kernel_rfl
theorem fl_108_1 : fldT Try.prog 108 1 = some (1, 12) := by kernel_rfl
theorem fl_108_2 : fldT Try.prog 108 2 = some (2, 83) := by kernel_rfl
theorem fl_108_3 : fldT Try.prog 108 3 = some (3, 102) := by kernel_rfl
theorem fl_108_4 : fldT Try.prog 108 4 = some (4, 5) := by kernel_rfl
theorem fl_108_5 : fldT Try.prog 108 5 = some (5, 5) := by kernel_rfl
theorem fl_108_6 : fldT Try.prog 108 6 = some (6, 103) := by kernel_rfl
theorem fl_108_7 : fldT Try.prog 108 7 = some (7, 104) := by kernel_rfl
theorem fl_108_8 : fldT Try.prog 108 8 = some (8, 105) := by kernel_rfl
theorem fl_108_9 : fldT Try.prog 108 9 = some (9, 106) := by kernel_rfl
theorem fl_108_10 : fldT Try.prog 108 10 = some (10, 107) := by kernel_rfl
theorem kd_109 : kdT Try.prog 109 = .struct := by kernel_rfl
theorem sz_109 : szT Try.prog 109 = 11 := by kernel_rfl
theorem by_109 : bytesT Try.prog 109 = 48 := by kernel_rfl
theorem ze_109 : zeroT Try.prog 109 = some [.int .u64 0, .int .u64 0, .int .u32 0, .int .u8 0, .int .u8 0, .int .u8 0, .int .u8 0, .lit .nilFunc, .lit (.pointer none), .int .i32 0, .int .i32 0] := by kernel_rfl
theorem pl_109 : placesT Try.prog 109 = some [(0, 1), (1, 1), (2, 1), (3, 1), (4, 1), (5, 1), (6, 1), (7, 1), (8, 1), (9, 1), (10, 1)] := by kernel_rfl
theorem fl_109_0 : fldT Try.prog 109 0 = some (0, 12) := by kernel_rfl
theorem fl_109_1 : fldT Try.prog 109 1 = some (1, 12) := by kernel_rfl
theorem fl_109_2 : fldT Try.prog 109 2 = some (2, 83) := by kernel_rfl
theorem fl_109_3 : fldT Try.prog 109 3 = some (3, 102) := by kernel_rfl
theorem fl_109_4 : fldT Try.prog 109 4 = some (4, 5) := by kernel_rfl
theorem fl_109_5 : fldT Try.prog 109 5 = some (5, 5) := by kernel_rfl
theorem fl_109_6 : fldT Try.prog 109 6 = some (6, 103) := by kernel_rfl
theorem fl_109_7 : fldT Try.prog 109 7 = some (7, 104) := by kernel_rfl
theorem fl_109_8 : fldT Try.prog 109 8 = some (8, 105) := by kernel_rfl
theorem fl_109_9 : fldT Try.prog 109 9 = some (9, 106) := by kernel_rfl
theorem fl_109_10 : fldT Try.prog 109 10 = some (10, 107) := by kernel_rfl
instance : ETab := ⟨fun t => if t = 38 then some .int else if t = 43 then some .pr else if t = 31 then some .rcy else if t = 42 then some .gct else none, fun t => if t = 54 then some (.int, .sw) else none⟩
theorem et_38 : ETab.of 38 = some .int := rfl
theorem et_43 : ETab.of 43 = some .pr := rfl
theorem et_31 : ETab.of 31 = some .rcy := rfl
theorem et_42 : ETab.of 42 = some .gct := rfl
theorem mt_54 : ETab.mof 54 = some (.int, .sw) := rfl
theorem zv_56 : zeroV Try.prog 56 = some (.agg [.bool false, .int .i64 0]) := by kernel_rfl
theorem mixed : Try.prog.follows .mixedOrders = true := by kernel_rfl
theorem fn_5 : Try.prog.funcs[5]? = some Try.f5 := by kernel_rfl -- spacecraft/spacecraftlaw47.GuardUnits
theorem fn_6 : Try.prog.funcs[6]? = some Try.f6 := by kernel_rfl -- spacecraft/spacecraftlaw47.GuardPlays
theorem fn_7 : Try.prog.funcs[7]? = some Try.f7 := by kernel_rfl -- spacecraft/guard.New
theorem fn_8 : Try.prog.funcs[8]? = some Try.f8 := by kernel_rfl -- spacecraft/spacecraftref47.Right
theorem fn_9 : Try.prog.funcs[9]? = some Try.f9 := by kernel_rfl -- spacecraft/spacecraftlaw47.awake
theorem fn_10 : Try.prog.funcs[10]? = some Try.f10 := by kernel_rfl -- (*spacecraft/guard.Guard).Alive
theorem fn_11 : Try.prog.funcs[11]? = some Try.f11 := by kernel_rfl -- (*spacecraft/guard.Guard).Heard
theorem fn_12 : Try.prog.funcs[12]? = some Try.f12 := by kernel_rfl -- (*spacecraft/guard.Guard).Tick
theorem fn_13 : Try.prog.funcs[13]? = some Try.f13 := by kernel_rfl -- (*spacecraft/guard.Guard).Broken
theorem fn_14 : Try.prog.funcs[14]? = some Try.f14 := by kernel_rfl -- spacecraft/spacecraftlaw47.same
theorem fn_15 : Try.prog.funcs[15]? = some Try.f15 := by kernel_rfl -- spacecraft/spacecraftref47.New
theorem fn_16 : Try.prog.funcs[16]? = some Try.f16 := by kernel_rfl -- spacecraft/spacecraftref47.At
theorem fn_17 : Try.prog.funcs[17]? = some Try.f17 := by kernel_rfl -- (*spacecraft/guard.Guard).Alarm
theorem fn_18 : Try.prog.funcs[18]? = some Try.f18 := by kernel_rfl -- (*spacecraft/guard.Guard).Clone
theorem fn_19 : Try.prog.funcs[19]? = some Try.f19 := by kernel_rfl -- spacecraft/spacecraftref47.Tick
theorem fn_20 : Try.prog.funcs[20]? = some Try.f20 := by kernel_rfl -- (*spacecraft/guard.Guard).clock
theorem fn_21 : Try.prog.funcs[21]? = some Try.f21 := by kernel_rfl -- (*spacecraft/guard.Guard).Tick$1
theorem fn_22 : Try.prog.funcs[22]? = some Try.f22 := by kernel_rfl -- (spacecraft/guard.switching).may
theorem fn_23 : Try.prog.funcs[23]? = some Try.f23 := by kernel_rfl -- slices.Sort[[]int,int]
theorem fn_24 : Try.prog.funcs[24]? = some Try.f24 := by kernel_rfl -- slices.Compact[[]int,int]
theorem fn_25 : Try.prog.funcs[25]? = some Try.f25 := by kernel_rfl -- slices.Contains[[]int,int]
theorem fn_26 : Try.prog.funcs[26]? = some Try.f26 := by kernel_rfl -- slices.Clone[[]int,int]
theorem fn_27 : Try.prog.funcs[27]? = some Try.f27 := by kernel_rfl -- maps.Clone[map[int]spacecraft/guard.switching,int,spacecraft/guard.switching]
theorem fn_28 : Try.prog.funcs[28]? = some Try.f28 := by kernel_rfl -- spacecraft/spacecraftref47.least
theorem fn_29 : Try.prog.funcs[29]? = some Try.f29 := by kernel_rfl -- spacecraft/spacecraftref47.last
theorem fn_30 : Try.prog.funcs[30]? = some Try.f30 := by kernel_rfl -- spacecraft/spacecraftref47.has
theorem fn_33 : Try.prog.funcs[33]? = some Try.f33 := by kernel_rfl -- slices.Index[[]int,int]
attribute [go_sem] kd_2 sz_2 by_2 ze_2 kd_3 sz_3 by_3 ze_3 kd_4 sz_4 by_4 ze_4 kd_5 sz_5 by_5 ze_5 kd_6 sz_6 by_6 ze_6 kd_7 sz_7 by_7 ze_7 pl_7 fl_7_0 fl_7_1 fl_7_2 fl_7_3 kd_8 sz_8 by_8 ze_8 pl_8 fl_8_0 fl_8_1 fl_8_2 fl_8_3 kd_9 sz_9 by_9 ze_9 kd_10 sz_10 by_10 ze_10 kd_11 sz_11 by_11 ze_11 kd_12 sz_12 by_12 ze_12 kd_13 sz_13 by_13 ze_13 pl_13 fl_13_0 fl_13_1 kd_14 sz_14 by_14 ze_14 pl_14 fl_14_0 fl_14_1 kd_15 sz_15 by_15 ze_15 kd_16 sz_16 by_16 ze_16 kd_17 sz_17 by_17 ze_17 kd_18 sz_18 by_18 ze_18 pl_18 fl_18_0 kd_19 sz_19 by_19 ze_19 pl_19 fl_19_0 kd_20 sz_20 by_20 ze_20 kd_21 sz_21 by_21 ze_21 kd_22 sz_22 by_22 ze_22 pl_22 fl_22_0 fl_22_1 fl_22_2 kd_23 sz_23 by_23 ze_23 pl_23 fs_23 fl_23_0 fl_23_1 fl_23_2 kd_24 sz_24 by_24 ze_24 kd_25 sz_25 by_25 ze_25 kd_31 sz_31 by_31 ze_31 kd_33 sz_33 by_33 ze_33 pl_33 fl_33_0 fl_33_1 fl_33_2 kd_34 sz_34 by_34 ze_34 pl_34 fs_34 fl_34_0 fl_34_1 fl_34_2 kd_36 sz_36 by_36 ze_36 pl_36 fl_36_0 fl_36_1 fl_36_2 kd_37 sz_37 by_37 ze_37 pl_37 fs_37 fl_37_0 fl_37_1 fl_37_2 kd_38 sz_38 by_38 ze_38 kd_42 sz_42 by_42 ze_42 kd_43 sz_43 by_43 ze_43 kd_44 sz_44 by_44 ze_44 pl_44 fl_44_0 fl_44_1 fl_44_2 fl_44_3 fl_44_4 fl_44_5 fl_44_6 fl_44_7 fl_44_8 kd_45 sz_45 by_45 ze_45 pl_45 fl_45_0 fl_45_1 fl_45_2 fl_45_3 fl_45_4 fl_45_5 fl_45_6 fl_45_7 fl_45_8 kd_47 sz_47 by_47 ze_47 pl_47 fl_47_0 fl_47_1 fl_47_2 fl_47_3 kd_48 sz_48 by_48 ze_48 pl_48 fl_48_0 fl_48_1 fl_48_2 fl_48_3 kd_54 sz_54 by_54 ze_54 kd_55 sz_55 by_55 ze_55 pl_55 fl_55_0 fl_55_1 kd_56 sz_56 by_56 ze_56 pl_56 fs_56 fl_56_0 fl_56_1 kd_57 sz_57 by_57 ze_57 pl_57 fl_57_0 fl_57_1 fl_57_2 fl_57_3 fl_57_4 fl_57_5 fl_57_6 fl_57_7 fl_57_8 fl_57_9 kd_58 sz_58 by_58 ze_58 pl_58 fl_58_0 fl_58_1 fl_58_2 fl_58_3 fl_58_4 fl_58_5 fl_58_6 fl_58_7 fl_58_8 fl_58_9 kd_69 sz_69 by_69 ze_69 kd_72 sz_72 by_72 ze_72 kd_76 sz_76 by_76 ze_76 kd_83 sz_83 by_83 ze_83 kd_85 sz_85 by_85 ze_85 kd_86 sz_86 by_86 ze_86 kd_90 sz_90 by_90 ze_90 kd_92 sz_92 by_92 ze_92 kd_96 sz_96 by_96 ze_96 pl_96 fl_96_0 fl_96_1 fl_96_2 fl_96_3 kd_97 sz_97 by_97 ze_97 pl_97 fl_97_0 fl_97_1 fl_97_2 fl_97_3 kd_98 sz_98 by_98 ze_98 kd_99 sz_99 by_99 ze_99 pl_99 kd_100 sz_100 by_100 ze_100 pl_100 kd_102 sz_102 by_102 ze_102 kd_103 sz_103 by_103 ze_103 kd_105 sz_105 by_105 ze_105 kd_106 sz_106 by_106 ze_106 kd_107 sz_107 by_107 ze_107 kd_108 sz_108 by_108 ze_108 pl_108 fl_108_0 fl_108_1 fl_108_2 fl_108_3 fl_108_4 fl_108_5 fl_108_6 fl_108_7 fl_108_8 fl_108_9 fl_108_10 kd_109 sz_109 by_109 ze_109 pl_109 fl_109_0 fl_109_1 fl_109_2 fl_109_3 fl_109_4 fl_109_5 fl_109_6 fl_109_7 fl_109_8 fl_109_9 fl_109_10 et_38 et_43 et_31 et_42 mt_54 zv_56
end Go.V
