/-
  T
  slices.Sort at integers: the shelf's contract over the abstract memory.
-/
import Derived.Test.YtnlndokgejiafaaPart10
import Derived.Test.YtnlndokgejiafaaProg
import Derived.KernelRfl
import Derived.Shelf.SortM.Plain
import Derived.Shelf.SortM.SortNone
import Derived.Ground.SlgmProg
import Derived.Sort.OwnSortedInts
set_option linter.unusedVariables false
set_option linter.unusedSimpArgs false
namespace Go.V
open Go.Proofs
theorem kd_2 : kdT Try.prog 2 = .int .i64 := by kernel_rfl
theorem sz_2 : szT Try.prog 2 = 1 := by kernel_rfl
theorem by_2 : bytesT Try.prog 2 = 8 := by kernel_rfl
theorem ze_2 : zeroT Try.prog 2 = some [.int .i64 0] := by kernel_rfl
theorem kd_3 : kdT Try.prog 3 = .int .i64 := by kernel_rfl
theorem sz_3 : szT Try.prog 3 = 1 := by kernel_rfl
theorem by_3 : bytesT Try.prog 3 = 8 := by kernel_rfl
theorem ze_3 : zeroT Try.prog 3 = some [.int .i64 0] := by kernel_rfl
theorem kd_4 : kdT Try.prog 4 = .bool := by kernel_rfl
theorem sz_4 : szT Try.prog 4 = 1 := by kernel_rfl
theorem by_4 : bytesT Try.prog 4 = 1 := by kernel_rfl
theorem ze_4 : zeroT Try.prog 4 = some [.bool false] := by kernel_rfl
theorem kd_5 : kdT Try.prog 5 = .int .u8 := by kernel_rfl
theorem sz_5 : szT Try.prog 5 = 1 := by kernel_rfl
theorem by_5 : bytesT Try.prog 5 = 1 := by kernel_rfl
theorem ze_5 : zeroT Try.prog 5 = some [.int .u8 0] := by kernel_rfl
theorem kd_6 : kdT Try.prog 6 = .int .u8 := by kernel_rfl
theorem sz_6 : szT Try.prog 6 = 1 := by kernel_rfl
theorem by_6 : bytesT Try.prog 6 = 1 := by kernel_rfl
theorem ze_6 : zeroT Try.prog 6 = some [.int .u8 0] := by kernel_rfl
theorem kd_7 : kdT Try.prog 7 = .struct := by kernel_rfl
theorem sz_7 : szT Try.prog 7 = 4 := by kernel_rfl
theorem by_7 : bytesT Try.prog 7 = 24 := by kernel_rfl
theorem ze_7 : zeroT Try.prog 7 = some [.int .i64 0, .int .i64 0, .bool false, .int .u8 0] := by kernel_rfl
theorem pl_7 : placesT Try.prog 7 = some [(0, 1), (1, 1), (2, 1), (3, 1)] := by kernel_rfl
theorem fl_7_0 : fldT Try.prog 7 0 = some (0, 2) := by kernel_rfl
theorem fl_7_1 : fldT Try.prog 7 1 = some (1, 3) := by kernel_rfl
theorem fl_7_2 : fldT Try.prog 7 2 = some (2, 4) := by kernel_rfl
theorem fl_7_3 : fldT Try.prog 7 3 = some (3, 6) := by kernel_rfl
theorem kd_8 : kdT Try.prog 8 = .struct := by kernel_rfl
theorem sz_8 : szT Try.prog 8 = 4 := by kernel_rfl
theorem by_8 : bytesT Try.prog 8 = 24 := by kernel_rfl
theorem ze_8 : zeroT Try.prog 8 = some [.int .i64 0, .int .i64 0, .bool false, .int .u8 0] := by kernel_rfl
theorem pl_8 : placesT Try.prog 8 = some [(0, 1), (1, 1), (2, 1), (3, 1)] := by kernel_rfl
theorem fl_8_0 : fldT Try.prog 8 0 = some (0, 2) := by kernel_rfl
theorem fl_8_1 : fldT Try.prog 8 1 = some (1, 3) := by kernel_rfl
theorem fl_8_2 : fldT Try.prog 8 2 = some (2, 4) := by kernel_rfl
theorem fl_8_3 : fldT Try.prog 8 3 = some (3, 6) := by kernel_rfl
theorem kd_9 : kdT Try.prog 9 = .str := by kernel_rfl
theorem sz_9 : szT Try.prog 9 = 1 := by kernel_rfl
theorem by_9 : bytesT Try.prog 9 = 16 := by kernel_rfl
theorem ze_9 : zeroT Try.prog 9 = some [.str []] := by kernel_rfl
theorem kd_10 : kdT Try.prog 10 = .str := by kernel_rfl
theorem sz_10 : szT Try.prog 10 = 1 := by kernel_rfl
theorem by_10 : bytesT Try.prog 10 = 16 := by kernel_rfl
theorem ze_10 : zeroT Try.prog 10 = some [.str []] := by kernel_rfl
theorem kd_11 : kdT Try.prog 11 = .str := by kernel_rfl
theorem sz_11 : szT Try.prog 11 = 1 := by kernel_rfl
theorem by_11 : bytesT Try.prog 11 = 16 := by kernel_rfl
theorem ze_11 : zeroT Try.prog 11 = some [.str []] := by kernel_rfl
theorem kd_12 : kdT Try.prog 12 = .int .u64 := by kernel_rfl
theorem sz_12 : szT Try.prog 12 = 1 := by kernel_rfl
theorem by_12 : bytesT Try.prog 12 = 8 := by kernel_rfl
theorem ze_12 : zeroT Try.prog 12 = some [.int .u64 0] := by kernel_rfl
theorem kd_13 : kdT Try.prog 13 = .struct := by kernel_rfl
theorem sz_13 : szT Try.prog 13 = 2 := by kernel_rfl
theorem by_13 : bytesT Try.prog 13 = 24 := by kernel_rfl
theorem ze_13 : zeroT Try.prog 13 = some [.str [], .int .u64 0] := by kernel_rfl
theorem pl_13 : placesT Try.prog 13 = some [(0, 1), (1, 1)] := by kernel_rfl
theorem fl_13_0 : fldT Try.prog 13 0 = some (0, 9) := by kernel_rfl
theorem fl_13_1 : fldT Try.prog 13 1 = some (1, 12) := by kernel_rfl
theorem kd_14 : kdT Try.prog 14 = .struct := by kernel_rfl
theorem sz_14 : szT Try.prog 14 = 2 := by kernel_rfl
theorem by_14 : bytesT Try.prog 14 = 24 := by kernel_rfl
theorem ze_14 : zeroT Try.prog 14 = some [.str [], .int .u64 0] := by kernel_rfl
theorem pl_14 : placesT Try.prog 14 = some [(0, 1), (1, 1)] := by kernel_rfl
theorem fl_14_0 : fldT Try.prog 14 0 = some (0, 9) := by kernel_rfl
theorem fl_14_1 : fldT Try.prog 14 1 = some (1, 12) := by kernel_rfl
theorem kd_15 : kdT Try.prog 15 = .ptr := by kernel_rfl
theorem sz_15 : szT Try.prog 15 = 1 := by kernel_rfl
theorem by_15 : bytesT Try.prog 15 = 8 := by kernel_rfl
theorem ze_15 : zeroT Try.prog 15 = some [.lit (.pointer none)] := by kernel_rfl
theorem kd_16 : kdT Try.prog 16 = .ptr := by kernel_rfl
theorem sz_16 : szT Try.prog 16 = 1 := by kernel_rfl
theorem by_16 : bytesT Try.prog 16 = 8 := by kernel_rfl
theorem ze_16 : zeroT Try.prog 16 = some [.lit (.pointer none)] := by kernel_rfl
theorem kd_17 : kdT Try.prog 17 = .ptr := by kernel_rfl
theorem sz_17 : szT Try.prog 17 = 1 := by kernel_rfl
theorem by_17 : bytesT Try.prog 17 = 8 := by kernel_rfl
theorem ze_17 : zeroT Try.prog 17 = some [.lit (.pointer none)] := by kernel_rfl
theorem kd_18 : kdT Try.prog 18 = .struct := by kernel_rfl
theorem sz_18 : szT Try.prog 18 = 1 := by kernel_rfl
theorem by_18 : bytesT Try.prog 18 = 8 := by kernel_rfl
theorem ze_18 : zeroT Try.prog 18 = some [.lit (.pointer none)] := by kernel_rfl
theorem pl_18 : placesT Try.prog 18 = some [(0, 1)] := by kernel_rfl
theorem fl_18_0 : fldT Try.prog 18 0 = some (0, 17) := by kernel_rfl
theorem kd_19 : kdT Try.prog 19 = .struct := by kernel_rfl
theorem sz_19 : szT Try.prog 19 = 1 := by kernel_rfl
theorem by_19 : bytesT Try.prog 19 = 8 := by kernel_rfl
theorem ze_19 : zeroT Try.prog 19 = some [.lit (.pointer none)] := by kernel_rfl
theorem pl_19 : placesT Try.prog 19 = some [(0, 1)] := by kernel_rfl
theorem fl_19_0 : fldT Try.prog 19 0 = some (0, 17) := by kernel_rfl
theorem kd_20 : kdT Try.prog 20 = .iface := by kernel_rfl
theorem sz_20 : szT Try.prog 20 = 1 := by kernel_rfl
theorem by_20 : bytesT Try.prog 20 = 16 := by kernel_rfl
theorem ze_20 : zeroT Try.prog 20 = some [.lit .nilIface] := by kernel_rfl
theorem kd_21 : kdT Try.prog 21 = .int .i32 := by kernel_rfl
theorem sz_21 : szT Try.prog 21 = 1 := by kernel_rfl
theorem by_21 : bytesT Try.prog 21 = 4 := by kernel_rfl
theorem ze_21 : zeroT Try.prog 21 = some [.int .i32 0] := by kernel_rfl
theorem kd_22 : kdT Try.prog 22 = .struct := by kernel_rfl
theorem sz_22 : szT Try.prog 22 = 2 := by kernel_rfl
theorem by_22 : bytesT Try.prog 22 = 16 := by kernel_rfl
theorem ze_22 : zeroT Try.prog 22 = some [.int .i64 0, .int .i64 0] := by kernel_rfl
theorem pl_22 : placesT Try.prog 22 = some [(0, 1), (1, 1)] := by kernel_rfl
theorem fl_22_0 : fldT Try.prog 22 0 = some (0, 3) := by kernel_rfl
theorem fl_22_1 : fldT Try.prog 22 1 = some (1, 3) := by kernel_rfl
theorem kd_23 : kdT Try.prog 23 = .struct := by kernel_rfl
theorem sz_23 : szT Try.prog 23 = 2 := by kernel_rfl
theorem by_23 : bytesT Try.prog 23 = 16 := by kernel_rfl
theorem ze_23 : zeroT Try.prog 23 = some [.int .i64 0, .int .i64 0] := by kernel_rfl
theorem pl_23 : placesT Try.prog 23 = some [(0, 1), (1, 1)] := by kernel_rfl
theorem fs_23 : fldsT Try.prog 23 = some [(0, 3), (1, 3)] := by kernel_rfl
theorem fl_23_0 : fldT Try.prog 23 0 = some (0, 3) := by kernel_rfl
theorem fl_23_1 : fldT Try.prog 23 1 = some (1, 3) := by kernel_rfl
theorem kd_24 : kdT Try.prog 24 = .slice 3 := by kernel_rfl
theorem sz_24 : szT Try.prog 24 = 1 := by kernel_rfl
theorem by_24 : bytesT Try.prog 24 = 24 := by kernel_rfl
theorem ze_24 : zeroT Try.prog 24 = some [.lit (.slice none 0 0)] := by kernel_rfl
theorem kd_25 : kdT Try.prog 25 = .slice 35 := by kernel_rfl
theorem sz_25 : szT Try.prog 25 = 1 := by kernel_rfl
theorem by_25 : bytesT Try.prog 25 = 24 := by kernel_rfl
theorem ze_25 : zeroT Try.prog 25 = some [.lit (.slice none 0 0)] := by kernel_rfl
theorem kd_27 : kdT Try.prog 27 = .ptr := by kernel_rfl
theorem sz_27 : szT Try.prog 27 = 1 := by kernel_rfl
theorem by_27 : bytesT Try.prog 27 = 8 := by kernel_rfl
theorem ze_27 : zeroT Try.prog 27 = some [.lit (.pointer none)] := by kernel_rfl
theorem kd_28 : kdT Try.prog 28 = .int .i64 := by kernel_rfl
theorem sz_28 : szT Try.prog 28 = 1 := by kernel_rfl
theorem by_28 : bytesT Try.prog 28 = 8 := by kernel_rfl
theorem ze_28 : zeroT Try.prog 28 = some [.int .i64 0] := by kernel_rfl
theorem kd_31 : kdT Try.prog 31 = .slice 23 := by kernel_rfl
theorem sz_31 : szT Try.prog 31 = 1 := by kernel_rfl
theorem by_31 : bytesT Try.prog 31 = 24 := by kernel_rfl
theorem ze_31 : zeroT Try.prog 31 = some [.lit (.slice none 0 0)] := by kernel_rfl
theorem kd_32 : kdT Try.prog 32 = .slice 43 := by kernel_rfl
theorem sz_32 : szT Try.prog 32 = 1 := by kernel_rfl
theorem by_32 : bytesT Try.prog 32 = 24 := by kernel_rfl
theorem ze_32 : zeroT Try.prog 32 = some [.lit (.slice none 0 0)] := by kernel_rfl
theorem kd_33 : kdT Try.prog 33 = .struct := by kernel_rfl
theorem sz_33 : szT Try.prog 33 = 4 := by kernel_rfl
theorem by_33 : bytesT Try.prog 33 = 80 := by kernel_rfl
theorem ze_33 : zeroT Try.prog 33 = some [.int .i64 0, .lit (.slice none 0 0), .lit (.slice none 0 0), .lit (.slice none 0 0)] := by kernel_rfl
theorem pl_33 : placesT Try.prog 33 = some [(0, 1), (1, 1), (2, 1), (3, 1)] := by kernel_rfl
theorem fl_33_0 : fldT Try.prog 33 0 = some (0, 3) := by kernel_rfl
theorem fl_33_1 : fldT Try.prog 33 1 = some (1, 31) := by kernel_rfl
theorem fl_33_2 : fldT Try.prog 33 2 = some (2, 24) := by kernel_rfl
theorem fl_33_3 : fldT Try.prog 33 3 = some (3, 32) := by kernel_rfl
theorem kd_34 : kdT Try.prog 34 = .struct := by kernel_rfl
theorem sz_34 : szT Try.prog 34 = 4 := by kernel_rfl
theorem by_34 : bytesT Try.prog 34 = 80 := by kernel_rfl
theorem ze_34 : zeroT Try.prog 34 = some [.int .i64 0, .lit (.slice none 0 0), .lit (.slice none 0 0), .lit (.slice none 0 0)] := by kernel_rfl
theorem pl_34 : placesT Try.prog 34 = some [(0, 1), (1, 1), (2, 1), (3, 1)] := by kernel_rfl
theorem fl_34_0 : fldT Try.prog 34 0 = some (0, 3) := by kernel_rfl
theorem fl_34_1 : fldT Try.prog 34 1 = some (1, 31) := by kernel_rfl
theorem fl_34_2 : fldT Try.prog 34 2 = some (2, 24) := by kernel_rfl
theorem fl_34_3 : fldT Try.prog 34 3 = some (3, 32) := by kernel_rfl
theorem kd_35 : kdT Try.prog 35 = .slice 5 := by kernel_rfl
theorem sz_35 : szT Try.prog 35 = 1 := by kernel_rfl
theorem by_35 : bytesT Try.prog 35 = 24 := by kernel_rfl
theorem ze_35 : zeroT Try.prog 35 = some [.lit (.slice none 0 0)] := by kernel_rfl
theorem kd_41 : kdT Try.prog 41 = .int .u16 := by kernel_rfl
theorem sz_41 : szT Try.prog 41 = 1 := by kernel_rfl
theorem by_41 : bytesT Try.prog 41 = 2 := by kernel_rfl
theorem ze_41 : zeroT Try.prog 41 = some [.int .u16 0] := by kernel_rfl
theorem kd_42 : kdT Try.prog 42 = .struct := by kernel_rfl
theorem sz_42 : szT Try.prog 42 = 2 := by kernel_rfl
theorem by_42 : bytesT Try.prog 42 = 16 := by kernel_rfl
theorem ze_42 : zeroT Try.prog 42 = some [.int .i64 0, .int .i64 0] := by kernel_rfl
theorem pl_42 : placesT Try.prog 42 = some [(0, 1), (1, 1)] := by kernel_rfl
theorem fl_42_0 : fldT Try.prog 42 0 = some (0, 3) := by kernel_rfl
theorem fl_42_1 : fldT Try.prog 42 1 = some (1, 3) := by kernel_rfl
theorem kd_43 : kdT Try.prog 43 = .struct := by kernel_rfl
theorem sz_43 : szT Try.prog 43 = 2 := by kernel_rfl
theorem by_43 : bytesT Try.prog 43 = 16 := by kernel_rfl
theorem ze_43 : zeroT Try.prog 43 = some [.int .i64 0, .int .i64 0] := by kernel_rfl
theorem pl_43 : placesT Try.prog 43 = some [(0, 1), (1, 1)] := by kernel_rfl
theorem fs_43 : fldsT Try.prog 43 = some [(0, 3), (1, 3)] := by kernel_rfl
theorem fl_43_0 : fldT Try.prog 43 0 = some (0, 3) := by kernel_rfl
theorem fl_43_1 : fldT Try.prog 43 1 = some (1, 3) := by kernel_rfl
theorem kd_45 : kdT Try.prog 45 = .slice 53 := by kernel_rfl
theorem sz_45 : szT Try.prog 45 = 1 := by kernel_rfl
theorem by_45 : bytesT Try.prog 45 = 24 := by kernel_rfl
theorem ze_45 : zeroT Try.prog 45 = some [.lit (.slice none 0 0)] := by kernel_rfl
theorem kd_47 : kdT Try.prog 47 = .slice 83 := by kernel_rfl
theorem sz_47 : szT Try.prog 47 = 1 := by kernel_rfl
theorem by_47 : bytesT Try.prog 47 = 24 := by kernel_rfl
theorem ze_47 : zeroT Try.prog 47 = some [.lit (.slice none 0 0)] := by kernel_rfl
theorem kd_48 : kdT Try.prog 48 = .struct := by kernel_rfl
theorem sz_48 : szT Try.prog 48 = 7 := by kernel_rfl
theorem by_48 : bytesT Try.prog 48 = 120 := by kernel_rfl
theorem ze_48 : zeroT Try.prog 48 = some [.int .i64 0, .lit (.slice none 0 0), .lit (.slice none 0 0), .lit (.slice none 0 0), .int .i64 0, .int .i64 0, .lit (.slice none 0 0)] := by kernel_rfl
theorem pl_48 : placesT Try.prog 48 = some [(0, 4), (4, 1), (5, 1), (6, 1)] := by kernel_rfl
theorem fl_48_0 : fldT Try.prog 48 0 = some (0, 34) := by kernel_rfl
theorem fl_48_1 : fldT Try.prog 48 1 = some (4, 3) := by kernel_rfl
theorem fl_48_2 : fldT Try.prog 48 2 = some (5, 3) := by kernel_rfl
theorem fl_48_3 : fldT Try.prog 48 3 = some (6, 47) := by kernel_rfl
theorem kd_49 : kdT Try.prog 49 = .struct := by kernel_rfl
theorem sz_49 : szT Try.prog 49 = 7 := by kernel_rfl
theorem by_49 : bytesT Try.prog 49 = 120 := by kernel_rfl
theorem ze_49 : zeroT Try.prog 49 = some [.int .i64 0, .lit (.slice none 0 0), .lit (.slice none 0 0), .lit (.slice none 0 0), .int .i64 0, .int .i64 0, .lit (.slice none 0 0)] := by kernel_rfl
theorem pl_49 : placesT Try.prog 49 = some [(0, 4), (4, 1), (5, 1), (6, 1)] := by kernel_rfl
theorem fl_49_0 : fldT Try.prog 49 0 = some (0, 34) := by kernel_rfl
theorem fl_49_1 : fldT Try.prog 49 1 = some (4, 3) := by kernel_rfl
theorem fl_49_2 : fldT Try.prog 49 2 = some (5, 3) := by kernel_rfl
theorem fl_49_3 : fldT Try.prog 49 3 = some (6, 47) := by kernel_rfl
theorem kd_52 : kdT Try.prog 52 = .struct := by kernel_rfl
theorem sz_52 : szT Try.prog 52 = 3 := by kernel_rfl
theorem by_52 : bytesT Try.prog 52 = 40 := by kernel_rfl
theorem ze_52 : zeroT Try.prog 52 = some [.int .i64 0, .int .i64 0, .lit (.slice none 0 0)] := by kernel_rfl
theorem pl_52 : placesT Try.prog 52 = some [(0, 1), (1, 1), (2, 1)] := by kernel_rfl
theorem fl_52_0 : fldT Try.prog 52 0 = some (0, 3) := by kernel_rfl
theorem fl_52_1 : fldT Try.prog 52 1 = some (1, 3) := by kernel_rfl
theorem fl_52_2 : fldT Try.prog 52 2 = some (2, 35) := by kernel_rfl
theorem kd_53 : kdT Try.prog 53 = .struct := by kernel_rfl
theorem sz_53 : szT Try.prog 53 = 3 := by kernel_rfl
theorem by_53 : bytesT Try.prog 53 = 40 := by kernel_rfl
theorem ze_53 : zeroT Try.prog 53 = some [.int .i64 0, .int .i64 0, .lit (.slice none 0 0)] := by kernel_rfl
theorem pl_53 : placesT Try.prog 53 = some [(0, 1), (1, 1), (2, 1)] := by kernel_rfl
theorem fl_53_0 : fldT Try.prog 53 0 = some (0, 3) := by kernel_rfl
theorem fl_53_1 : fldT Try.prog 53 1 = some (1, 3) := by kernel_rfl
theorem fl_53_2 : fldT Try.prog 53 2 = some (2, 35) := by kernel_rfl
theorem kd_59 : kdT Try.prog 59 = .map 3 75 := by kernel_rfl
theorem sz_59 : szT Try.prog 59 = 1 := by kernel_rfl
theorem by_59 : bytesT Try.prog 59 = 8 := by kernel_rfl
theorem ze_59 : zeroT Try.prog 59 = some [.lit (.map none)] := by kernel_rfl
theorem kd_60 : kdT Try.prog 60 = .struct := by kernel_rfl
theorem sz_60 : szT Try.prog 60 = 8 := by kernel_rfl
theorem by_60 : bytesT Try.prog 60 = 112 := by kernel_rfl
theorem ze_60 : zeroT Try.prog 60 = some [.bool false, .int .i64 0, .lit (.slice none 0 0), .lit (.slice none 0 0), .lit (.slice none 0 0), .int .i64 0, .int .i64 0, .lit (.map none)] := by kernel_rfl
theorem pl_60 : placesT Try.prog 60 = some [(0, 1), (1, 4), (5, 1), (6, 1), (7, 1)] := by kernel_rfl
theorem fl_60_0 : fldT Try.prog 60 0 = some (0, 4) := by kernel_rfl
theorem fl_60_1 : fldT Try.prog 60 1 = some (1, 34) := by kernel_rfl
theorem fl_60_2 : fldT Try.prog 60 2 = some (5, 3) := by kernel_rfl
theorem fl_60_3 : fldT Try.prog 60 3 = some (6, 3) := by kernel_rfl
theorem fl_60_4 : fldT Try.prog 60 4 = some (7, 59) := by kernel_rfl
theorem kd_61 : kdT Try.prog 61 = .struct := by kernel_rfl
theorem sz_61 : szT Try.prog 61 = 8 := by kernel_rfl
theorem by_61 : bytesT Try.prog 61 = 112 := by kernel_rfl
theorem ze_61 : zeroT Try.prog 61 = some [.bool false, .int .i64 0, .lit (.slice none 0 0), .lit (.slice none 0 0), .lit (.slice none 0 0), .int .i64 0, .int .i64 0, .lit (.map none)] := by kernel_rfl
theorem pl_61 : placesT Try.prog 61 = some [(0, 1), (1, 4), (5, 1), (6, 1), (7, 1)] := by kernel_rfl
theorem fl_61_0 : fldT Try.prog 61 0 = some (0, 4) := by kernel_rfl
theorem fl_61_1 : fldT Try.prog 61 1 = some (1, 34) := by kernel_rfl
theorem fl_61_2 : fldT Try.prog 61 2 = some (5, 3) := by kernel_rfl
theorem fl_61_3 : fldT Try.prog 61 3 = some (6, 3) := by kernel_rfl
theorem fl_61_4 : fldT Try.prog 61 4 = some (7, 59) := by kernel_rfl
theorem kd_74 : kdT Try.prog 74 = .struct := by kernel_rfl
theorem sz_74 : szT Try.prog 74 = 2 := by kernel_rfl
theorem by_74 : bytesT Try.prog 74 = 32 := by kernel_rfl
theorem ze_74 : zeroT Try.prog 74 = some [.int .i64 0, .lit (.slice none 0 0)] := by kernel_rfl
theorem pl_74 : placesT Try.prog 74 = some [(0, 1), (1, 1)] := by kernel_rfl
theorem fl_74_0 : fldT Try.prog 74 0 = some (0, 3) := by kernel_rfl
theorem fl_74_1 : fldT Try.prog 74 1 = some (1, 35) := by kernel_rfl
theorem kd_75 : kdT Try.prog 75 = .struct := by kernel_rfl
theorem sz_75 : szT Try.prog 75 = 2 := by kernel_rfl
theorem by_75 : bytesT Try.prog 75 = 32 := by kernel_rfl
theorem ze_75 : zeroT Try.prog 75 = some [.int .i64 0, .lit (.slice none 0 0)] := by kernel_rfl
theorem pl_75 : placesT Try.prog 75 = some [(0, 1), (1, 1)] := by kernel_rfl
theorem fl_75_0 : fldT Try.prog 75 0 = some (0, 3) := by kernel_rfl
theorem fl_75_1 : fldT Try.prog 75 1 = some (1, 35) := by kernel_rfl
theorem kd_82 : kdT Try.prog 82 = .struct := by kernel_rfl
theorem sz_82 : szT Try.prog 82 = 2 := by kernel_rfl
theorem by_82 : bytesT Try.prog 82 = 32 := by kernel_rfl
theorem ze_82 : zeroT Try.prog 82 = some [.int .i64 0, .lit (.slice none 0 0)] := by kernel_rfl
theorem pl_82 : placesT Try.prog 82 = some [(0, 1), (1, 1)] := by kernel_rfl
theorem fl_82_0 : fldT Try.prog 82 0 = some (0, 3) := by kernel_rfl
theorem fl_82_1 : fldT Try.prog 82 1 = some (1, 35) := by kernel_rfl
theorem kd_83 : kdT Try.prog 83 = .struct := by kernel_rfl
theorem sz_83 : szT Try.prog 83 = 2 := by kernel_rfl
theorem by_83 : bytesT Try.prog 83 = 32 := by kernel_rfl
theorem ze_83 : zeroT Try.prog 83 = some [.int .i64 0, .lit (.slice none 0 0)] := by kernel_rfl
theorem pl_83 : placesT Try.prog 83 = some [(0, 1), (1, 1)] := by kernel_rfl
theorem fl_83_0 : fldT Try.prog 83 0 = some (0, 3) := by kernel_rfl
theorem fl_83_1 : fldT Try.prog 83 1 = some (1, 35) := by kernel_rfl
theorem kd_94 : kdT Try.prog 94 = .int .u64 := by kernel_rfl
theorem sz_94 : szT Try.prog 94 = 1 := by kernel_rfl
theorem by_94 : bytesT Try.prog 94 = 8 := by kernel_rfl
theorem ze_94 : zeroT Try.prog 94 = some [.int .u64 0] := by kernel_rfl
theorem kd_96 : kdT Try.prog 96 = .int .i64 := by kernel_rfl
theorem sz_96 : szT Try.prog 96 = 1 := by kernel_rfl
theorem by_96 : bytesT Try.prog 96 = 8 := by kernel_rfl
theorem ze_96 : zeroT Try.prog 96 = some [.int .i64 0] := by kernel_rfl
theorem kd_105 : kdT Try.prog 105 = .int .u32 := by kernel_rfl
theorem sz_105 : szT Try.prog 105 = 1 := by kernel_rfl
theorem by_105 : bytesT Try.prog 105 = 4 := by kernel_rfl
theorem ze_105 : zeroT Try.prog 105 = some [.int .u32 0] := by kernel_rfl
theorem kd_107 : kdT Try.prog 107 = .int .u64 := by kernel_rfl
theorem sz_107 : szT Try.prog 107 = 1 := by kernel_rfl
theorem by_107 : bytesT Try.prog 107 = 8 := by kernel_rfl
theorem ze_107 : zeroT Try.prog 107 = some [.int .u64 0] := by kernel_rfl
theorem kd_108 : kdT Try.prog 108 = .int .u64 := by kernel_rfl
theorem sz_108 : szT Try.prog 108 = 1 := by kernel_rfl
theorem by_108 : bytesT Try.prog 108 = 8 := by kernel_rfl
theorem ze_108 : zeroT Try.prog 108 = some [.int .u64 0] := by kernel_rfl
theorem kd_112 : kdT Try.prog 112 = .ptr := by kernel_rfl
theorem sz_112 : szT Try.prog 112 = 1 := by kernel_rfl
theorem by_112 : bytesT Try.prog 112 = 8 := by kernel_rfl
theorem ze_112 : zeroT Try.prog 112 = some [.lit (.pointer none)] := by kernel_rfl
theorem kd_114 : kdT Try.prog 114 = .ptr := by kernel_rfl
theorem sz_114 : szT Try.prog 114 = 1 := by kernel_rfl
theorem by_114 : bytesT Try.prog 114 = 8 := by kernel_rfl
theorem ze_114 : zeroT Try.prog 114 = some [.lit (.pointer none)] := by kernel_rfl
theorem kd_118 : kdT Try.prog 118 = .struct := by kernel_rfl
theorem sz_118 : szT Try.prog 118 = 4 := by kernel_rfl
theorem by_118 : bytesT Try.prog 118 = 40 := by kernel_rfl
theorem ze_118 : zeroT Try.prog 118 = some [.lit (.pointer none), .lit (.pointer none), .lit (.pointer none), .str []] := by kernel_rfl
theorem pl_118 : placesT Try.prog 118 = some [(0, 1), (1, 1), (2, 1), (3, 1)] := by kernel_rfl
theorem fl_118_0 : fldT Try.prog 118 0 = some (0, 17) := by kernel_rfl
theorem fl_118_1 : fldT Try.prog 118 1 = some (1, 17) := by kernel_rfl
theorem fl_118_2 : fldT Try.prog 118 2 = some (2, 17) := by kernel_rfl
theorem fl_118_3 : fldT Try.prog 118 3 = some (3, 9) := by kernel_rfl
theorem kd_119 : kdT Try.prog 119 = .struct := by kernel_rfl
theorem sz_119 : szT Try.prog 119 = 4 := by kernel_rfl
theorem by_119 : bytesT Try.prog 119 = 40 := by kernel_rfl
theorem ze_119 : zeroT Try.prog 119 = some [.lit (.pointer none), .lit (.pointer none), .lit (.pointer none), .str []] := by kernel_rfl
theorem pl_119 : placesT Try.prog 119 = some [(0, 1), (1, 1), (2, 1), (3, 1)] := by kernel_rfl
theorem fl_119_0 : fldT Try.prog 119 0 = some (0, 17) := by kernel_rfl
theorem fl_119_1 : fldT Try.prog 119 1 = some (1, 17) := by kernel_rfl
theorem fl_119_2 : fldT Try.prog 119 2 = some (2, 17) := by kernel_rfl
theorem fl_119_3 : fldT Try.prog 119 3 = some (3, 9) := by kernel_rfl
theorem kd_120 : kdT Try.prog 120 = .array 0 16 := by kernel_rfl
theorem sz_120 : szT Try.prog 120 = 0 := by kernel_rfl
theorem by_120 : bytesT Try.prog 120 = 0 := by kernel_rfl
theorem ze_120 : zeroT Try.prog 120 = some [] := by kernel_rfl
theorem kd_121 : kdT Try.prog 121 = .struct := by kernel_rfl
theorem sz_121 : szT Try.prog 121 = 0 := by kernel_rfl
theorem by_121 : bytesT Try.prog 121 = 0 := by kernel_rfl
theorem ze_121 : zeroT Try.prog 121 = some [] := by kernel_rfl
theorem pl_121 : placesT Try.prog 121 = some [(0, 0)] := by kernel_rfl
theorem kd_122 : kdT Try.prog 122 = .struct := by kernel_rfl
theorem sz_122 : szT Try.prog 122 = 0 := by kernel_rfl
theorem by_122 : bytesT Try.prog 122 = 0 := by kernel_rfl
theorem ze_122 : zeroT Try.prog 122 = some [] := by kernel_rfl
theorem pl_122 : placesT Try.prog 122 = some [(0, 0)] := by kernel_rfl
theorem kd_123 : kdT Try.prog 123 = .int .u8 := by kernel_rfl
theorem sz_123 : szT Try.prog 123 = 1 := by kernel_rfl
theorem by_123 : bytesT Try.prog 123 = 1 := by kernel_rfl
theorem ze_123 : zeroT Try.prog 123 = some [.int .u8 0] := by kernel_rfl
theorem kd_124 : kdT Try.prog 124 = .int .u8 := by kernel_rfl
theorem sz_124 : szT Try.prog 124 = 1 := by kernel_rfl
theorem by_124 : bytesT Try.prog 124 = 1 := by kernel_rfl
theorem ze_124 : zeroT Try.prog 124 = some [.int .u8 0] := by kernel_rfl
theorem kd_126 : kdT Try.prog 126 = .ptr := by kernel_rfl
theorem sz_126 : szT Try.prog 126 = 1 := by kernel_rfl
theorem by_126 : bytesT Try.prog 126 = 8 := by kernel_rfl
theorem ze_126 : zeroT Try.prog 126 = some [.lit (.pointer none)] := by kernel_rfl
theorem kd_127 : kdT Try.prog 127 = .int .i32 := by kernel_rfl
theorem sz_127 : szT Try.prog 127 = 1 := by kernel_rfl
theorem by_127 : bytesT Try.prog 127 = 4 := by kernel_rfl
theorem ze_127 : zeroT Try.prog 127 = some [.int .i32 0] := by kernel_rfl
theorem kd_128 : kdT Try.prog 128 = .int .i32 := by kernel_rfl
theorem sz_128 : szT Try.prog 128 = 1 := by kernel_rfl
theorem by_128 : bytesT Try.prog 128 = 4 := by kernel_rfl
theorem ze_128 : zeroT Try.prog 128 = some [.int .i32 0] := by kernel_rfl
theorem kd_129 : kdT Try.prog 129 = .struct := by kernel_rfl
theorem sz_129 : szT Try.prog 129 = 11 := by kernel_rfl
theorem by_129 : bytesT Try.prog 129 = 48 := by kernel_rfl
theorem ze_129 : zeroT Try.prog 129 = some [.int .u64 0, .int .u64 0, .int .u32 0, .int .u8 0, .int .u8 0, .int .u8 0, .int .u8 0, .lit .nilFunc, .lit (.pointer none), .int .i32 0, .int .i32 0] := by kernel_rfl
theorem pl_129 : placesT Try.prog 129 = some [(0, 1), (1, 1), (2, 1), (3, 1), (4, 1), (5, 1), (6, 1), (7, 1), (8, 1), (9, 1), (10, 1)] := by kernel_rfl
theorem fl_129_0 : fldT Try.prog 129 0 = some (0, 12) := by kernel_rfl
theorem fl_129_1 : fldT Try.prog 129 1 = some (1, 12) := by kernel_rfl
theorem fl_129_2 : fldT Try.prog 129 2 = some (2, 105) := by kernel_rfl
theorem fl_129_3 : fldT Try.prog 129 3 = some (3, 123) := by kernel_rfl
theorem fl_129_4 : fldT Try.prog 129 4 = some (4, 5) := by kernel_rfl
theorem fl_129_5 : fldT Try.prog 129 5 = some (5, 5) := by kernel_rfl
theorem fl_129_6 : fldT Try.prog 129 6 = some (6, 124) := by kernel_rfl
theorem fl_129_7 : fldT Try.prog 129 7 = some (7, 125) := by kernel_rfl
theorem fl_129_8 : fldT Try.prog 129 8 = some (8, 126) := by kernel_rfl
theorem fl_129_9 : fldT Try.prog 129 9 = some (9, 127) := by kernel_rfl
theorem fl_129_10 : fldT Try.prog 129 10 = some (10, 128) := by kernel_rfl
theorem kd_130 : kdT Try.prog 130 = .struct := by kernel_rfl
theorem sz_130 : szT Try.prog 130 = 11 := by kernel_rfl
theorem by_130 : bytesT Try.prog 130 = 48 := by kernel_rfl
theorem ze_130 : zeroT Try.prog 130 = some [.int .u64 0, .int .u64 0, .int .u32 0, .int .u8 0, .int .u8 0, .int .u8 0, .int .u8 0, .lit .nilFunc, .lit (.pointer none), .int .i32 0, .int .i32 0] := by kernel_rfl
theorem pl_130 : placesT Try.prog 130 = some [(0, 1), (1, 1), (2, 1), (3, 1), (4, 1), (5, 1), (6, 1), (7, 1), (8, 1), (9, 1), (10, 1)] := by kernel_rfl
theorem fl_130_0 : fldT Try.prog 130 0 = some (0, 12) := by kernel_rfl
theorem fl_130_1 : fldT Try.prog 130 1 = some (1, 12) := by kernel_rfl
theorem fl_130_2 : fldT Try.prog 130 2 = some (2, 105) := by kernel_rfl
theorem fl_130_3 : fldT Try.prog 130 3 = some (3, 123) := by kernel_rfl
theorem fl_130_4 : fldT Try.prog 130 4 = some (4, 5) := by kernel_rfl
theorem fl_130_5 : fldT Try.prog 130 5 = some (5, 5) := by kernel_rfl
theorem fl_130_6 : fldT Try.prog 130 6 = some (6, 124) := by kernel_rfl
theorem fl_130_7 : fldT Try.prog 130 7 = some (7, 125) := by kernel_rfl
theorem fl_130_8 : fldT Try.prog 130 8 = some (8, 126) := by kernel_rfl
theorem fl_130_9 : fldT Try.prog 130 9 = some (9, 127) := by kernel_rfl
theorem fl_130_10 : fldT Try.prog 130 10 = some (10, 128) := by kernel_rfl
instance : ETab := ⟨fun t => if t = 24 then some .int else if t = 35 then some .byte else if t = 31 then some .rng else if t = 32 then some .flp else if t = 25 then some .bytes else if t = 47 then some .arr else if t = 45 then some .opl else none, fun t => if t = 59 then some (.int, .arr) else none⟩
theorem et_24 : ETab.of 24 = some .int := rfl
theorem et_35 : ETab.of 35 = some .byte := rfl
theorem et_31 : ETab.of 31 = some .rng := rfl
theorem et_32 : ETab.of 32 = some .flp := rfl
theorem et_25 : ETab.of 25 = some .bytes := rfl
theorem et_47 : ETab.of 47 = some .arr := rfl
theorem et_45 : ETab.of 45 = some .opl := rfl
theorem mt_59 : ETab.mof 59 = some (.int, .arr) := rfl
theorem zv_75 : zeroV Try.prog 75 = some (.agg [.int .i64 0, .lit (.slice none 0 0)]) := by kernel_rfl
theorem mixed : Try.prog.follows .mixedOrders = true := by kernel_rfl
theorem fn_3 : Try.prog.funcs[3]? = some Try.f3 := by kernel_rfl -- spacecraft/spacecraftlaw23.LinkDelivers
theorem fn_4 : Try.prog.funcs[4]? = some Try.f4 := by kernel_rfl -- spacecraft/spacecraftlaw23.LinkFlips
theorem fn_7 : Try.prog.funcs[7]? = some Try.f7 := by kernel_rfl -- spacecraft/spacecraftlaw23.alive
theorem fn_8 : Try.prog.funcs[8]? = some Try.f8 := by kernel_rfl -- spacecraft/link.New
theorem fn_9 : Try.prog.funcs[9]? = some Try.f9 := by kernel_rfl -- (*spacecraft/link.Link).Send
theorem fn_10 : Try.prog.funcs[10]? = some Try.f10 := by kernel_rfl -- (*spacecraft/link.Link).Receive
theorem fn_11 : Try.prog.funcs[11]? = some Try.f11 := by kernel_rfl -- spacecraft/spacecraftref23.Same
theorem fn_12 : Try.prog.funcs[12]? = some Try.f12 := by kernel_rfl -- (*spacecraft/link.Link).Pending
theorem fn_13 : Try.prog.funcs[13]? = some Try.f13 := by kernel_rfl -- (*spacecraft/link.Link).Sent
theorem fn_19 : Try.prog.funcs[19]? = some Try.f19 := by kernel_rfl -- spacecraft/link.New$1
theorem fn_20 : Try.prog.funcs[20]? = some Try.f20 := by kernel_rfl -- slices.ContainsFunc[[]int,int]
theorem fn_21 : Try.prog.funcs[21]? = some Try.f21 := by kernel_rfl -- slices.ContainsFunc[[]spacecraft/api.Flip,spacecraft/api.Flip]
theorem fn_22 : Try.prog.funcs[22]? = some Try.f22 := by kernel_rfl -- spacecraft/link.New$2
theorem fn_23 : Try.prog.funcs[23]? = some Try.f23 := by kernel_rfl -- slices.Clone[[]spacecraft/api.Range,spacecraft/api.Range]
theorem fn_24 : Try.prog.funcs[24]? = some Try.f24 := by kernel_rfl -- slices.Clone[[]int,int]
theorem fn_25 : Try.prog.funcs[25]? = some Try.f25 := by kernel_rfl -- slices.Clone[[]spacecraft/api.Flip,spacecraft/api.Flip]
theorem fn_26 : Try.prog.funcs[26]? = some Try.f26 := by kernel_rfl -- (*spacecraft/link.Link).usable
theorem fn_27 : Try.prog.funcs[27]? = some Try.f27 := by kernel_rfl -- (*spacecraft/link.Link).clock
theorem fn_28 : Try.prog.funcs[28]? = some Try.f28 := by kernel_rfl -- spacecraft/ranges.Has
theorem fn_29 : Try.prog.funcs[29]? = some Try.f29 := by kernel_rfl -- slices.Contains[[]int,int]
theorem fn_30 : Try.prog.funcs[30]? = some Try.f30 := by kernel_rfl -- slices.Clone[[]byte,byte]
theorem fn_31 : Try.prog.funcs[31]? = some Try.f31 := by kernel_rfl -- slices.Sorted[int]
theorem fn_32 : Try.prog.funcs[32]? = some Try.f32 := by kernel_rfl -- maps.Keys[map[int]spacecraft/link.arrival,int,spacecraft/link.arrival]
theorem fn_36 : Try.prog.funcs[36]? = some Try.f36 := by kernel_rfl -- slices.IndexFunc[[]int,int]
theorem fn_37 : Try.prog.funcs[37]? = some Try.f37 := by kernel_rfl -- slices.IndexFunc[[]spacecraft/api.Flip,spacecraft/api.Flip]
theorem fn_38 : Try.prog.funcs[38]? = some Try.f38 := by kernel_rfl -- slices.ContainsFunc[[]spacecraft/api.Range,spacecraft/api.Range]
theorem fn_39 : Try.prog.funcs[39]? = some Try.f39 := by kernel_rfl -- spacecraft/ranges.Has$1
theorem fn_40 : Try.prog.funcs[40]? = some Try.f40 := by kernel_rfl -- slices.Index[[]int,int]
theorem fn_44 : Try.prog.funcs[44]? = some Try.f44 := by kernel_rfl -- slices.IndexFunc[[]spacecraft/api.Range,spacecraft/api.Range]
attribute [go_sem] kd_2 sz_2 by_2 ze_2 kd_3 sz_3 by_3 ze_3 kd_4 sz_4 by_4 ze_4 kd_5 sz_5 by_5 ze_5 kd_6 sz_6 by_6 ze_6 kd_7 sz_7 by_7 ze_7 pl_7 fl_7_0 fl_7_1 fl_7_2 fl_7_3 kd_8 sz_8 by_8 ze_8 pl_8 fl_8_0 fl_8_1 fl_8_2 fl_8_3 kd_9 sz_9 by_9 ze_9 kd_10 sz_10 by_10 ze_10 kd_11 sz_11 by_11 ze_11 kd_12 sz_12 by_12 ze_12 kd_13 sz_13 by_13 ze_13 pl_13 fl_13_0 fl_13_1 kd_14 sz_14 by_14 ze_14 pl_14 fl_14_0 fl_14_1 kd_15 sz_15 by_15 ze_15 kd_16 sz_16 by_16 ze_16 kd_17 sz_17 by_17 ze_17 kd_18 sz_18 by_18 ze_18 pl_18 fl_18_0 kd_19 sz_19 by_19 ze_19 pl_19 fl_19_0 kd_20 sz_20 by_20 ze_20 kd_21 sz_21 by_21 ze_21 kd_22 sz_22 by_22 ze_22 pl_22 fl_22_0 fl_22_1 kd_23 sz_23 by_23 ze_23 pl_23 fs_23 fl_23_0 fl_23_1 kd_24 sz_24 by_24 ze_24 kd_25 sz_25 by_25 ze_25 kd_27 sz_27 by_27 ze_27 kd_28 sz_28 by_28 ze_28 kd_31 sz_31 by_31 ze_31 kd_32 sz_32 by_32 ze_32 kd_33 sz_33 by_33 ze_33 pl_33 fl_33_0 fl_33_1 fl_33_2 fl_33_3 kd_34 sz_34 by_34 ze_34 pl_34 fl_34_0 fl_34_1 fl_34_2 fl_34_3 kd_35 sz_35 by_35 ze_35 kd_41 sz_41 by_41 ze_41 kd_42 sz_42 by_42 ze_42 pl_42 fl_42_0 fl_42_1 kd_43 sz_43 by_43 ze_43 pl_43 fs_43 fl_43_0 fl_43_1 kd_45 sz_45 by_45 ze_45 kd_47 sz_47 by_47 ze_47 kd_48 sz_48 by_48 ze_48 pl_48 fl_48_0 fl_48_1 fl_48_2 fl_48_3 kd_49 sz_49 by_49 ze_49 pl_49 fl_49_0 fl_49_1 fl_49_2 fl_49_3 kd_52 sz_52 by_52 ze_52 pl_52 fl_52_0 fl_52_1 fl_52_2 kd_53 sz_53 by_53 ze_53 pl_53 fl_53_0 fl_53_1 fl_53_2 kd_59 sz_59 by_59 ze_59 kd_60 sz_60 by_60 ze_60 pl_60 fl_60_0 fl_60_1 fl_60_2 fl_60_3 fl_60_4 kd_61 sz_61 by_61 ze_61 pl_61 fl_61_0 fl_61_1 fl_61_2 fl_61_3 fl_61_4 kd_74 sz_74 by_74 ze_74 pl_74 fl_74_0 fl_74_1 kd_75 sz_75 by_75 ze_75 pl_75 fl_75_0 fl_75_1 kd_82 sz_82 by_82 ze_82 pl_82 fl_82_0 fl_82_1 kd_83 sz_83 by_83 ze_83 pl_83 fl_83_0 fl_83_1 kd_94 sz_94 by_94 ze_94 kd_96 sz_96 by_96 ze_96 kd_105 sz_105 by_105 ze_105 kd_107 sz_107 by_107 ze_107 kd_108 sz_108 by_108 ze_108 kd_112 sz_112 by_112 ze_112 kd_114 sz_114 by_114 ze_114 kd_118 sz_118 by_118 ze_118 pl_118 fl_118_0 fl_118_1 fl_118_2 fl_118_3 kd_119 sz_119 by_119 ze_119 pl_119 fl_119_0 fl_119_1 fl_119_2 fl_119_3 kd_120 sz_120 by_120 ze_120 kd_121 sz_121 by_121 ze_121 pl_121 kd_122 sz_122 by_122 ze_122 pl_122 kd_123 sz_123 by_123 ze_123 kd_124 sz_124 by_124 ze_124 kd_126 sz_126 by_126 ze_126 kd_127 sz_127 by_127 ze_127 kd_128 sz_128 by_128 ze_128 kd_129 sz_129 by_129 ze_129 pl_129 fl_129_0 fl_129_1 fl_129_2 fl_129_3 fl_129_4 fl_129_5 fl_129_6 fl_129_7 fl_129_8 fl_129_9 fl_129_10 kd_130 sz_130 by_130 ze_130 pl_130 fl_130_0 fl_130_1 fl_130_2 fl_130_3 fl_130_4 fl_130_5 fl_130_6 fl_130_7 fl_130_8 fl_130_9 fl_130_10 et_24 et_35 et_31 et_32 et_25 et_47 et_45 mt_59 zv_75
end Go.V

set_option maxRecDepth 100000
set_option maxHeartbeats 1000000
namespace Go.Proofs
open Go.Shelf Go.Sort
shelf_lay_g SlLaysM.n5 Slgm 5 at Try 42 as Try.mSortZ
end Go.Proofs
namespace Go.V
open Go.Proofs Go.Sort
/-- the integers in order -/
def sortZ (l : List Int) : List Int := l.mergeSort fun x y => decide (x ≤ y)
theorem sortZ_len (l : List Int) : (sortZ l).length = l.length := List.length_mergeSort _
theorem sortZ_perm (l : List Int) : (sortZ l).Perm l := List.mergeSort_perm _ _
theorem of_ints {R : RO} : ∀ (xs : List Int), LRel R [] (xs.flatMap (Ety.enc .int)) (xs.map (Value.int .i64))
  | [] => .nil
  | _ :: xs => .cons .int (of_ints xs)
end Go.V
