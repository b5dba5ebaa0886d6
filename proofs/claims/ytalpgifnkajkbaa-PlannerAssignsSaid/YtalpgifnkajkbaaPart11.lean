/-
  T
  slices.Insert of one element, at elements of several cells.
  slices.Sort at integers: the shelf's contract over the abstract memory.
  Ks
-/
import Derived.Test.YtalpgifnkajkbaaPart10
import Derived.Test.YtalpgifnkajkbaaProg
import Derived.KernelRfl
import Derived.Shelf.Spec.SlicesInsertGrow
import Derived.Laws.CopyRow
import Derived.Shelf.SortM.Plain
import Derived.Shelf.SortM.SortNone
import Derived.Ground.SlgmProg
import Derived.Sort.OwnSortedInts
set_option linter.unusedVariables false
set_option linter.unusedSimpArgs false
namespace Go.V
open Go.Proofs
theorem kd_2 : kdT Try.prog 2 = .int .i64 := by kernel_rfl
theorem sz_2 : szT Try.prog 2 = 1 := by kernel_rfl
theorem by_2 : bytesT Try.prog 2 = 8 := by kernel_rfl
theorem ze_2 : zeroT Try.prog 2 = some [.int .i64 0] := by kernel_rfl
theorem kd_3 : kdT Try.prog 3 = .int .i64 := by kernel_rfl
theorem sz_3 : szT Try.prog 3 = 1 := by kernel_rfl
theorem by_3 : bytesT Try.prog 3 = 8 := by kernel_rfl
theorem ze_3 : zeroT Try.prog 3 = some [.int .i64 0] := by kernel_rfl
theorem kd_4 : kdT Try.prog 4 = .bool := by kernel_rfl
theorem sz_4 : szT Try.prog 4 = 1 := by kernel_rfl
theorem by_4 : bytesT Try.prog 4 = 1 := by kernel_rfl
theorem ze_4 : zeroT Try.prog 4 = some [.bool false] := by kernel_rfl
theorem kd_5 : kdT Try.prog 5 = .int .u8 := by kernel_rfl
theorem sz_5 : szT Try.prog 5 = 1 := by kernel_rfl
theorem by_5 : bytesT Try.prog 5 = 1 := by kernel_rfl
theorem ze_5 : zeroT Try.prog 5 = some [.int .u8 0] := by kernel_rfl
theorem kd_6 : kdT Try.prog 6 = .int .u8 := by kernel_rfl
theorem sz_6 : szT Try.prog 6 = 1 := by kernel_rfl
theorem by_6 : bytesT Try.prog 6 = 1 := by kernel_rfl
theorem ze_6 : zeroT Try.prog 6 = some [.int .u8 0] := by kernel_rfl
theorem kd_7 : kdT Try.prog 7 = .struct := by kernel_rfl
theorem sz_7 : szT Try.prog 7 = 4 := by kernel_rfl
theorem by_7 : bytesT Try.prog 7 = 24 := by kernel_rfl
theorem ze_7 : zeroT Try.prog 7 = some [.int .i64 0, .int .i64 0, .bool false, .int .u8 0] := by kernel_rfl
theorem pl_7 : placesT Try.prog 7 = some [(0, 1), (1, 1), (2, 1), (3, 1)] := by kernel_rfl
theorem fl_7_0 : fldT Try.prog 7 0 = some (0, 2) := by kernel_rfl
theorem fl_7_1 : fldT Try.prog 7 1 = some (1, 3) := by kernel_rfl
theorem fl_7_2 : fldT Try.prog 7 2 = some (2, 4) := by kernel_rfl
theorem fl_7_3 : fldT Try.prog 7 3 = some (3, 6) := by kernel_rfl
theorem kd_8 : kdT Try.prog 8 = .struct := by kernel_rfl
theorem sz_8 : szT Try.prog 8 = 4 := by kernel_rfl
theorem by_8 : bytesT Try.prog 8 = 24 := by kernel_rfl
theorem ze_8 : zeroT Try.prog 8 = some [.int .i64 0, .int .i64 0, .bool false, .int .u8 0] := by kernel_rfl
theorem pl_8 : placesT Try.prog 8 = some [(0, 1), (1, 1), (2, 1), (3, 1)] := by kernel_rfl
theorem fl_8_0 : fldT Try.prog 8 0 = some (0, 2) := by kernel_rfl
theorem fl_8_1 : fldT Try.prog 8 1 = some (1, 3) := by kernel_rfl
theorem fl_8_2 : fldT Try.prog 8 2 = some (2, 4) := by kernel_rfl
theorem fl_8_3 : fldT Try.prog 8 3 = some (3, 6) := by kernel_rfl
theorem kd_9 : kdT Try.prog 9 = .str := by kernel_rfl
theorem sz_9 : szT Try.prog 9 = 1 := by kernel_rfl
theorem by_9 : bytesT Try.prog 9 = 16 := by kernel_rfl
theorem ze_9 : zeroT Try.prog 9 = some [.str []] := by kernel_rfl
theorem kd_10 : kdT Try.prog 10 = .str := by kernel_rfl
theorem sz_10 : szT Try.prog 10 = 1 := by kernel_rfl
theorem by_10 : bytesT Try.prog 10 = 16 := by kernel_rfl
theorem ze_10 : zeroT Try.prog 10 = some [.str []] := by kernel_rfl
theorem kd_11 : kdT Try.prog 11 = .str := by kernel_rfl
theorem sz_11 : szT Try.prog 11 = 1 := by kernel_rfl
theorem by_11 : bytesT Try.prog 11 = 16 := by kernel_rfl
theorem ze_11 : zeroT Try.prog 11 = some [.str []] := by kernel_rfl
theorem kd_12 : kdT Try.prog 12 = .int .u64 := by kernel_rfl
theorem sz_12 : szT Try.prog 12 = 1 := by kernel_rfl
theorem by_12 : bytesT Try.prog 12 = 8 := by kernel_rfl
theorem ze_12 : zeroT Try.prog 12 = some [.int .u64 0] := by kernel_rfl
theorem kd_13 : kdT Try.prog 13 = .struct := by kernel_rfl
theorem sz_13 : szT Try.prog 13 = 2 := by kernel_rfl
theorem by_13 : bytesT Try.prog 13 = 24 := by kernel_rfl
theorem ze_13 : zeroT Try.prog 13 = some [.str [], .int .u64 0] := by kernel_rfl
theorem pl_13 : placesT Try.prog 13 = some [(0, 1), (1, 1)] := by kernel_rfl
theorem fl_13_0 : fldT Try.prog 13 0 = some (0, 9) := by kernel_rfl
theorem fl_13_1 : fldT Try.prog 13 1 = some (1, 12) := by kernel_rfl
theorem kd_14 : kdT Try.prog 14 = .struct := by kernel_rfl
theorem sz_14 : szT Try.prog 14 = 2 := by kernel_rfl
theorem by_14 : bytesT Try.prog 14 = 24 := by kernel_rfl
theorem ze_14 : zeroT Try.prog 14 = some [.str [], .int .u64 0] := by kernel_rfl
theorem pl_14 : placesT Try.prog 14 = some [(0, 1), (1, 1)] := by kernel_rfl
theorem fl_14_0 : fldT Try.prog 14 0 = some (0, 9) := by kernel_rfl
theorem fl_14_1 : fldT Try.prog 14 1 = some (1, 12) := by kernel_rfl
theorem kd_15 : kdT Try.prog 15 = .ptr := by kernel_rfl
theorem sz_15 : szT Try.prog 15 = 1 := by kernel_rfl
theorem by_15 : bytesT Try.prog 15 = 8 := by kernel_rfl
theorem ze_15 : zeroT Try.prog 15 = some [.lit (.pointer none)] := by kernel_rfl
theorem kd_16 : kdT Try.prog 16 = .ptr := by kernel_rfl
theorem sz_16 : szT Try.prog 16 = 1 := by kernel_rfl
theorem by_16 : bytesT Try.prog 16 = 8 := by kernel_rfl
theorem ze_16 : zeroT Try.prog 16 = some [.lit (.pointer none)] := by kernel_rfl
theorem kd_17 : kdT Try.prog 17 = .ptr := by kernel_rfl
theorem sz_17 : szT Try.prog 17 = 1 := by kernel_rfl
theorem by_17 : bytesT Try.prog 17 = 8 := by kernel_rfl
theorem ze_17 : zeroT Try.prog 17 = some [.lit (.pointer none)] := by kernel_rfl
theorem kd_18 : kdT Try.prog 18 = .struct := by kernel_rfl
theorem sz_18 : szT Try.prog 18 = 1 := by kernel_rfl
theorem by_18 : bytesT Try.prog 18 = 8 := by kernel_rfl
theorem ze_18 : zeroT Try.prog 18 = some [.lit (.pointer none)] := by kernel_rfl
theorem pl_18 : placesT Try.prog 18 = some [(0, 1)] := by kernel_rfl
theorem fl_18_0 : fldT Try.prog 18 0 = some (0, 17) := by kernel_rfl
theorem kd_19 : kdT Try.prog 19 = .struct := by kernel_rfl
theorem sz_19 : szT Try.prog 19 = 1 := by kernel_rfl
theorem by_19 : bytesT Try.prog 19 = 8 := by kernel_rfl
theorem ze_19 : zeroT Try.prog 19 = some [.lit (.pointer none)] := by kernel_rfl
theorem pl_19 : placesT Try.prog 19 = some [(0, 1)] := by kernel_rfl
theorem fl_19_0 : fldT Try.prog 19 0 = some (0, 17) := by kernel_rfl
theorem kd_20 : kdT Try.prog 20 = .iface := by kernel_rfl
theorem sz_20 : szT Try.prog 20 = 1 := by kernel_rfl
theorem by_20 : bytesT Try.prog 20 = 16 := by kernel_rfl
theorem ze_20 : zeroT Try.prog 20 = some [.lit .nilIface] := by kernel_rfl
theorem kd_21 : kdT Try.prog 21 = .int .i32 := by kernel_rfl
theorem sz_21 : szT Try.prog 21 = 1 := by kernel_rfl
theorem by_21 : bytesT Try.prog 21 = 4 := by kernel_rfl
theorem ze_21 : zeroT Try.prog 21 = some [.int .i32 0] := by kernel_rfl
theorem kd_22 : kdT Try.prog 22 = .slice 42 := by kernel_rfl
theorem sz_22 : szT Try.prog 22 = 1 := by kernel_rfl
theorem by_22 : bytesT Try.prog 22 = 24 := by kernel_rfl
theorem ze_22 : zeroT Try.prog 22 = some [.lit (.slice none 0 0)] := by kernel_rfl
theorem kd_23 : kdT Try.prog 23 = .slice 39 := by kernel_rfl
theorem sz_23 : szT Try.prog 23 = 1 := by kernel_rfl
theorem by_23 : bytesT Try.prog 23 = 24 := by kernel_rfl
theorem ze_23 : zeroT Try.prog 23 = some [.lit (.slice none 0 0)] := by kernel_rfl
theorem kd_24 : kdT Try.prog 24 = .slice 37 := by kernel_rfl
theorem sz_24 : szT Try.prog 24 = 1 := by kernel_rfl
theorem by_24 : bytesT Try.prog 24 = 24 := by kernel_rfl
theorem ze_24 : zeroT Try.prog 24 = some [.lit (.slice none 0 0)] := by kernel_rfl
theorem kd_25 : kdT Try.prog 25 = .struct := by kernel_rfl
theorem sz_25 : szT Try.prog 25 = 4 := by kernel_rfl
theorem by_25 : bytesT Try.prog 25 = 80 := by kernel_rfl
theorem ze_25 : zeroT Try.prog 25 = some [.lit (.slice none 0 0), .lit (.slice none 0 0), .int .i64 0, .lit (.slice none 0 0)] := by kernel_rfl
theorem pl_25 : placesT Try.prog 25 = some [(0, 1), (1, 1), (2, 1), (3, 1)] := by kernel_rfl
theorem fl_25_0 : fldT Try.prog 25 0 = some (0, 22) := by kernel_rfl
theorem fl_25_1 : fldT Try.prog 25 1 = some (1, 23) := by kernel_rfl
theorem fl_25_2 : fldT Try.prog 25 2 = some (2, 3) := by kernel_rfl
theorem fl_25_3 : fldT Try.prog 25 3 = some (3, 24) := by kernel_rfl
theorem kd_26 : kdT Try.prog 26 = .struct := by kernel_rfl
theorem sz_26 : szT Try.prog 26 = 4 := by kernel_rfl
theorem by_26 : bytesT Try.prog 26 = 80 := by kernel_rfl
theorem ze_26 : zeroT Try.prog 26 = some [.lit (.slice none 0 0), .lit (.slice none 0 0), .int .i64 0, .lit (.slice none 0 0)] := by kernel_rfl
theorem pl_26 : placesT Try.prog 26 = some [(0, 1), (1, 1), (2, 1), (3, 1)] := by kernel_rfl
theorem fl_26_0 : fldT Try.prog 26 0 = some (0, 22) := by kernel_rfl
theorem fl_26_1 : fldT Try.prog 26 1 = some (1, 23) := by kernel_rfl
theorem fl_26_2 : fldT Try.prog 26 2 = some (2, 3) := by kernel_rfl
theorem fl_26_3 : fldT Try.prog 26 3 = some (3, 24) := by kernel_rfl
theorem kd_28 : kdT Try.prog 28 = .slice 3 := by kernel_rfl
theorem sz_28 : szT Try.prog 28 = 1 := by kernel_rfl
theorem by_28 : bytesT Try.prog 28 = 24 := by kernel_rfl
theorem ze_28 : zeroT Try.prog 28 = some [.lit (.slice none 0 0)] := by kernel_rfl
theorem kd_29 : kdT Try.prog 29 = .int .i64 := by kernel_rfl
theorem sz_29 : szT Try.prog 29 = 1 := by kernel_rfl
theorem by_29 : bytesT Try.prog 29 = 8 := by kernel_rfl
theorem ze_29 : zeroT Try.prog 29 = some [.int .i64 0] := by kernel_rfl
theorem kd_36 : kdT Try.prog 36 = .struct := by kernel_rfl
theorem sz_36 : szT Try.prog 36 = 4 := by kernel_rfl
theorem by_36 : bytesT Try.prog 36 = 32 := by kernel_rfl
theorem ze_36 : zeroT Try.prog 36 = some [.int .i64 0, .int .i64 0, .int .i64 0, .int .i64 0] := by kernel_rfl
theorem pl_36 : placesT Try.prog 36 = some [(0, 1), (1, 1), (2, 1), (3, 1)] := by kernel_rfl
theorem fl_36_0 : fldT Try.prog 36 0 = some (0, 3) := by kernel_rfl
theorem fl_36_1 : fldT Try.prog 36 1 = some (1, 3) := by kernel_rfl
theorem fl_36_2 : fldT Try.prog 36 2 = some (2, 3) := by kernel_rfl
theorem fl_36_3 : fldT Try.prog 36 3 = some (3, 3) := by kernel_rfl
theorem kd_37 : kdT Try.prog 37 = .struct := by kernel_rfl
theorem sz_37 : szT Try.prog 37 = 4 := by kernel_rfl
theorem by_37 : bytesT Try.prog 37 = 32 := by kernel_rfl
theorem ze_37 : zeroT Try.prog 37 = some [.int .i64 0, .int .i64 0, .int .i64 0, .int .i64 0] := by kernel_rfl
theorem pl_37 : placesT Try.prog 37 = some [(0, 1), (1, 1), (2, 1), (3, 1)] := by kernel_rfl
theorem fs_37 : fldsT Try.prog 37 = some [(0, 3), (1, 3), (2, 3), (3, 3)] := by kernel_rfl
theorem fl_37_0 : fldT Try.prog 37 0 = some (0, 3) := by kernel_rfl
theorem fl_37_1 : fldT Try.prog 37 1 = some (1, 3) := by kernel_rfl
theorem fl_37_2 : fldT Try.prog 37 2 = some (2, 3) := by kernel_rfl
theorem fl_37_3 : fldT Try.prog 37 3 = some (3, 3) := by kernel_rfl
theorem kd_38 : kdT Try.prog 38 = .struct := by kernel_rfl
theorem sz_38 : szT Try.prog 38 = 5 := by kernel_rfl
theorem by_38 : bytesT Try.prog 38 = 40 := by kernel_rfl
theorem ze_38 : zeroT Try.prog 38 = some [.int .i64 0, .int .i64 0, .int .i64 0, .int .i64 0, .int .i64 0] := by kernel_rfl
theorem pl_38 : placesT Try.prog 38 = some [(0, 1), (1, 1), (2, 1), (3, 1), (4, 1)] := by kernel_rfl
theorem fl_38_0 : fldT Try.prog 38 0 = some (0, 3) := by kernel_rfl
theorem fl_38_1 : fldT Try.prog 38 1 = some (1, 3) := by kernel_rfl
theorem fl_38_2 : fldT Try.prog 38 2 = some (2, 3) := by kernel_rfl
theorem fl_38_3 : fldT Try.prog 38 3 = some (3, 3) := by kernel_rfl
theorem fl_38_4 : fldT Try.prog 38 4 = some (4, 3) := by kernel_rfl
theorem kd_39 : kdT Try.prog 39 = .struct := by kernel_rfl
theorem sz_39 : szT Try.prog 39 = 5 := by kernel_rfl
theorem by_39 : bytesT Try.prog 39 = 40 := by kernel_rfl
theorem ze_39 : zeroT Try.prog 39 = some [.int .i64 0, .int .i64 0, .int .i64 0, .int .i64 0, .int .i64 0] := by kernel_rfl
theorem pl_39 : placesT Try.prog 39 = some [(0, 1), (1, 1), (2, 1), (3, 1), (4, 1)] := by kernel_rfl
theorem fs_39 : fldsT Try.prog 39 = some [(0, 3), (1, 3), (2, 3), (3, 3), (4, 3)] := by kernel_rfl
theorem fl_39_0 : fldT Try.prog 39 0 = some (0, 3) := by kernel_rfl
theorem fl_39_1 : fldT Try.prog 39 1 = some (1, 3) := by kernel_rfl
theorem fl_39_2 : fldT Try.prog 39 2 = some (2, 3) := by kernel_rfl
theorem fl_39_3 : fldT Try.prog 39 3 = some (3, 3) := by kernel_rfl
theorem fl_39_4 : fldT Try.prog 39 4 = some (4, 3) := by kernel_rfl
theorem kd_41 : kdT Try.prog 41 = .struct := by kernel_rfl
theorem sz_41 : szT Try.prog 41 = 4 := by kernel_rfl
theorem by_41 : bytesT Try.prog 41 = 32 := by kernel_rfl
theorem ze_41 : zeroT Try.prog 41 = some [.int .i64 0, .int .i64 0, .int .i64 0, .int .i64 0] := by kernel_rfl
theorem pl_41 : placesT Try.prog 41 = some [(0, 1), (1, 1), (2, 1), (3, 1)] := by kernel_rfl
theorem fl_41_0 : fldT Try.prog 41 0 = some (0, 3) := by kernel_rfl
theorem fl_41_1 : fldT Try.prog 41 1 = some (1, 3) := by kernel_rfl
theorem fl_41_2 : fldT Try.prog 41 2 = some (2, 3) := by kernel_rfl
theorem fl_41_3 : fldT Try.prog 41 3 = some (3, 3) := by kernel_rfl
theorem kd_42 : kdT Try.prog 42 = .struct := by kernel_rfl
theorem sz_42 : szT Try.prog 42 = 4 := by kernel_rfl
theorem by_42 : bytesT Try.prog 42 = 32 := by kernel_rfl
theorem ze_42 : zeroT Try.prog 42 = some [.int .i64 0, .int .i64 0, .int .i64 0, .int .i64 0] := by kernel_rfl
theorem pl_42 : placesT Try.prog 42 = some [(0, 1), (1, 1), (2, 1), (3, 1)] := by kernel_rfl
theorem fs_42 : fldsT Try.prog 42 = some [(0, 3), (1, 3), (2, 3), (3, 3)] := by kernel_rfl
theorem fl_42_0 : fldT Try.prog 42 0 = some (0, 3) := by kernel_rfl
theorem fl_42_1 : fldT Try.prog 42 1 = some (1, 3) := by kernel_rfl
theorem fl_42_2 : fldT Try.prog 42 2 = some (2, 3) := by kernel_rfl
theorem fl_42_3 : fldT Try.prog 42 3 = some (3, 3) := by kernel_rfl
theorem kd_55 : kdT Try.prog 55 = .slice 4 := by kernel_rfl
theorem sz_55 : szT Try.prog 55 = 1 := by kernel_rfl
theorem by_55 : bytesT Try.prog 55 = 24 := by kernel_rfl
theorem ze_55 : zeroT Try.prog 55 = some [.lit (.slice none 0 0)] := by kernel_rfl
theorem kd_65 : kdT Try.prog 65 = .int .u64 := by kernel_rfl
theorem sz_65 : szT Try.prog 65 = 1 := by kernel_rfl
theorem by_65 : bytesT Try.prog 65 = 8 := by kernel_rfl
theorem ze_65 : zeroT Try.prog 65 = some [.int .u64 0] := by kernel_rfl
theorem kd_74 : kdT Try.prog 74 = .int .i64 := by kernel_rfl
theorem sz_74 : szT Try.prog 74 = 1 := by kernel_rfl
theorem by_74 : bytesT Try.prog 74 = 8 := by kernel_rfl
theorem ze_74 : zeroT Try.prog 74 = some [.int .i64 0] := by kernel_rfl
theorem kd_82 : kdT Try.prog 82 = .int .u32 := by kernel_rfl
theorem sz_82 : szT Try.prog 82 = 1 := by kernel_rfl
theorem by_82 : bytesT Try.prog 82 = 4 := by kernel_rfl
theorem ze_82 : zeroT Try.prog 82 = some [.int .u32 0] := by kernel_rfl
theorem kd_84 : kdT Try.prog 84 = .int .u64 := by kernel_rfl
theorem sz_84 : szT Try.prog 84 = 1 := by kernel_rfl
theorem by_84 : bytesT Try.prog 84 = 8 := by kernel_rfl
theorem ze_84 : zeroT Try.prog 84 = some [.int .u64 0] := by kernel_rfl
theorem kd_86 : kdT Try.prog 86 = .int .u64 := by kernel_rfl
theorem sz_86 : szT Try.prog 86 = 1 := by kernel_rfl
theorem by_86 : bytesT Try.prog 86 = 8 := by kernel_rfl
theorem ze_86 : zeroT Try.prog 86 = some [.int .u64 0] := by kernel_rfl
theorem kd_90 : kdT Try.prog 90 = .ptr := by kernel_rfl
theorem sz_90 : szT Try.prog 90 = 1 := by kernel_rfl
theorem by_90 : bytesT Try.prog 90 = 8 := by kernel_rfl
theorem ze_90 : zeroT Try.prog 90 = some [.lit (.pointer none)] := by kernel_rfl
theorem kd_92 : kdT Try.prog 92 = .ptr := by kernel_rfl
theorem sz_92 : szT Try.prog 92 = 1 := by kernel_rfl
theorem by_92 : bytesT Try.prog 92 = 8 := by kernel_rfl
theorem ze_92 : zeroT Try.prog 92 = some [.lit (.pointer none)] := by kernel_rfl
theorem kd_96 : kdT Try.prog 96 = .struct := by kernel_rfl
theorem sz_96 : szT Try.prog 96 = 4 := by kernel_rfl
theorem by_96 : bytesT Try.prog 96 = 40 := by kernel_rfl
theorem ze_96 : zeroT Try.prog 96 = some [.lit (.pointer none), .lit (.pointer none), .lit (.pointer none), .str []] := by kernel_rfl
theorem pl_96 : placesT Try.prog 96 = some [(0, 1), (1, 1), (2, 1), (3, 1)] := by kernel_rfl
theorem fl_96_0 : fldT Try.prog 96 0 = some (0, 17) := by kernel_rfl
theorem fl_96_1 : fldT Try.prog 96 1 = some (1, 17) := by kernel_rfl
theorem fl_96_2 : fldT Try.prog 96 2 = some (2, 17) := by kernel_rfl
theorem fl_96_3 : fldT Try.prog 96 3 = some (3, 9) := by kernel_rfl
theorem kd_97 : kdT Try.prog 97 = .struct := by kernel_rfl
theorem sz_97 : szT Try.prog 97 = 4 := by kernel_rfl
theorem by_97 : bytesT Try.prog 97 = 40 := by kernel_rfl
theorem ze_97 : zeroT Try.prog 97 = some [.lit (.pointer none), .lit (.pointer none), .lit (.pointer none), .str []] := by kernel_rfl
theorem pl_97 : placesT Try.prog 97 = some [(0, 1), (1, 1), (2, 1), (3, 1)] := by kernel_rfl
theorem fl_97_0 : fldT Try.prog 97 0 = some (0, 17) := by kernel_rfl
theorem fl_97_1 : fldT Try.prog 97 1 = some (1, 17) := by kernel_rfl
theorem fl_97_2 : fldT Try.prog 97 2 = some (2, 17) := by kernel_rfl
theorem fl_97_3 : fldT Try.prog 97 3 = some (3, 9) := by kernel_rfl
theorem kd_98 : kdT Try.prog 98 = .array 0 16 := by kernel_rfl
theorem sz_98 : szT Try.prog 98 = 0 := by kernel_rfl
theorem by_98 : bytesT Try.prog 98 = 0 := by kernel_rfl
theorem ze_98 : zeroT Try.prog 98 = some [] := by kernel_rfl
theorem kd_99 : kdT Try.prog 99 = .struct := by kernel_rfl
theorem sz_99 : szT Try.prog 99 = 0 := by kernel_rfl
theorem by_99 : bytesT Try.prog 99 = 0 := by kernel_rfl
theorem ze_99 : zeroT Try.prog 99 = some [] := by kernel_rfl
theorem pl_99 : placesT Try.prog 99 = some [(0, 0)] := by kernel_rfl
theorem kd_100 : kdT Try.prog 100 = .struct := by kernel_rfl
theorem sz_100 : szT Try.prog 100 = 0 := by kernel_rfl
theorem by_100 : bytesT Try.prog 100 = 0 := by kernel_rfl
theorem ze_100 : zeroT Try.prog 100 = some [] := by kernel_rfl
theorem pl_100 : placesT Try.prog 100 = some [(0, 0)] := by kernel_rfl
theorem kd_102 : kdT Try.prog 102 = .int .u8 := by kernel_rfl
theorem sz_102 : szT Try.prog 102 = 1 := by kernel_rfl
theorem by_102 : bytesT Try.prog 102 = 1 := by kernel_rfl
theorem ze_102 : zeroT Try.prog 102 = some [.int .u8 0] := by kernel_rfl
theorem kd_103 : kdT Try.prog 103 = .int .u8 := by kernel_rfl
theorem sz_103 : szT Try.prog 103 = 1 := by kernel_rfl
theorem by_103 : bytesT Try.prog 103 = 1 := by kernel_rfl
theorem ze_103 : zeroT Try.prog 103 = some [.int .u8 0] := by kernel_rfl
theorem kd_105 : kdT Try.prog 105 = .ptr := by kernel_rfl
theorem sz_105 : szT Try.prog 105 = 1 := by kernel_rfl
theorem by_105 : bytesT Try.prog 105 = 8 := by kernel_rfl
theorem ze_105 : zeroT Try.prog 105 = some [.lit (.pointer none)] := by kernel_rfl
theorem kd_106 : kdT Try.prog 106 = .int .i32 := by kernel_rfl
theorem sz_106 : szT Try.prog 106 = 1 := by kernel_rfl
theorem by_106 : bytesT Try.prog 106 = 4 := by kernel_rfl
theorem ze_106 : zeroT Try.prog 106 = some [.int .i32 0] := by kernel_rfl
theorem kd_107 : kdT Try.prog 107 = .int .i32 := by kernel_rfl
theorem sz_107 : szT Try.prog 107 = 1 := by kernel_rfl
theorem by_107 : bytesT Try.prog 107 = 4 := by kernel_rfl
theorem ze_107 : zeroT Try.prog 107 = some [.int .i32 0] := by kernel_rfl
theorem kd_108 : kdT Try.prog 108 = .struct := by kernel_rfl
theorem sz_108 : szT Try.prog 108 = 11 := by kernel_rfl
theorem by_108 : bytesT Try.prog 108 = 48 := by kernel_rfl
theorem ze_108 : zeroT Try.prog 108 = some [.int .u64 0, .int .u64 0, .int .u32 0, .int .u8 0, .int .u8 0, .int .u8 0, .int .u8 0, .lit .nilFunc, .lit (.pointer none), .int .i32 0, .int .i32 0] := by kernel_rfl
theorem pl_108 : placesT Try.prog 108 = some [(0, 1), (1, 1), (2, 1), (3, 1), (4, 1), (5, 1), (6, 1), (7, 1), (8, 1), (9, 1), (10, 1)] := by kernel_rfl
theorem fl_108_0 : fldT Try.prog 108 0 = some (0, 12) := by kernel_rfl
theorem fl_108_1 : fldT Try.prog 108 1 = some (1, 12) := by kernel_rfl
theorem fl_108_2 : fldT Try.prog 108 2 = some (2, 82) := by kernel_rfl
theorem fl_108_3 : fldT Try.prog 108 3 = some (3, 102) := by kernel_rfl
theorem fl_108_4 : fldT Try.prog 108 4 = some (4, 5) := by kernel_rfl
theorem fl_108_5 : fldT Try.prog 108 5 = some (5, 5) := by kernel_rfl
theorem fl_108_6 : fldT Try.prog 108 6 = some (6, 103) := by kernel_rfl
theorem fl_108_7 : fldT Try.prog 108 7 = some (7, 104) := by kernel_rfl
theorem fl_108_8 : fldT Try.prog 108 8 = some (8, 105) := by kernel_rfl
theorem fl_108_9 : fldT Try.prog 108 9 = some (9, 106) := by kernel_rfl
theorem fl_108_10 : fldT Try.prog 108 10 = some (10, 107) := by kernel_rfl
theorem kd_109 : kdT Try.prog 109 = .struct := by kernel_rfl
theorem sz_109 : szT Try.prog 109 = 11 := by kernel_rfl
theorem by_109 : bytesT Try.prog 109 = 48 := by kernel_rfl
theorem ze_109 : zeroT Try.prog 109 = some [.int .u64 0, .int .u64 0, .int .u32 0, .int .u8 0, .int .u8 0, .int .u8 0, .int .u8 0, .lit .nilFunc, .lit (.pointer none), .int .i32 0, .int .i32 0] := by kernel_rfl
theorem pl_109 : placesT Try.prog 109 = some [(0, 1), (1, 1), (2, 1), (3, 1), (4, 1), (5, 1), (6, 1), (7, 1), (8, 1), (9, 1), (10, 1)] := by kernel_rfl
theorem fl_109_0 : fldT Try.prog 109 0 = some (0, 12) := by kernel_rfl
theorem fl_109_1 : fldT Try.prog 109 1 = some (1, 12) := by kernel_rfl
theorem fl_109_2 : fldT Try.prog 109 2 = some (2, 82) := by kernel_rfl
theorem fl_109_3 : fldT Try.prog 109 3 = some (3, 102) := by kernel_rfl
theorem fl_109_4 : fldT Try.prog 109 4 = some (4, 5) := by kernel_rfl
theorem fl_109_5 : fldT Try.prog 109 5 = some (5, 5) := by kernel_rfl
theorem fl_109_6 : fldT Try.prog 109 6 = some (6, 103) := by kernel_rfl
theorem fl_109_7 : fldT Try.prog 109 7 = some (7, 104) := by kernel_rfl
theorem fl_109_8 : fldT Try.prog 109 8 = some (8, 105) := by kernel_rfl
theorem fl_109_9 : fldT Try.prog 109 9 = some (9, 106) := by kernel_rfl
theorem fl_109_10 : fldT Try.prog 109 10 = some (10, 107) := by kernel_rfl
instance : ETab := ⟨fun t => if t = 28 then some .int else if t = 55 then some .bool else if t = 22 then some .win else if t = 23 then some .job else if t = 24 then some .slo else none, fun t => none⟩
theorem et_28 : ETab.of 28 = some .int := rfl
theorem et_55 : ETab.of 55 = some .bool := rfl
theorem et_22 : ETab.of 22 = some .win := rfl
theorem et_23 : ETab.of 23 = some .job := rfl
theorem et_24 : ETab.of 24 = some .slo := rfl
theorem mixed : Try.prog.follows .mixedOrders = true := by kernel_rfl
theorem fn_3 : Try.prog.funcs[3]? = some Try.f3 := by kernel_rfl -- spacecraft/spacecraftlaw54.PlannerAssigns
theorem fn_8 : Try.prog.funcs[8]? = some Try.f8 := by kernel_rfl -- spacecraft/spacecraftlaw54.lives
theorem fn_9 : Try.prog.funcs[9]? = some Try.f9 := by kernel_rfl -- spacecraft/planner.Assign
theorem fn_10 : Try.prog.funcs[10]? = some Try.f10 := by kernel_rfl -- spacecraft/spacecraftref54.Assign
theorem fn_11 : Try.prog.funcs[11]? = some Try.f11 := by kernel_rfl -- spacecraft/spacecraftref54.Same
theorem fn_12 : Try.prog.funcs[12]? = some Try.f12 := by kernel_rfl -- spacecraft/spacecraftref09.Same
theorem fn_14 : Try.prog.funcs[14]? = some Try.f14 := by kernel_rfl -- spacecraft/planner.Check
theorem fn_16 : Try.prog.funcs[16]? = some Try.f16 := by kernel_rfl -- spacecraft/spacecraftref54.Duration
theorem fn_17 : Try.prog.funcs[17]? = some Try.f17 := by kernel_rfl -- spacecraft/planner.right
theorem fn_18 : Try.prog.funcs[18]? = some Try.f18 := by kernel_rfl -- slices.SortStableFunc[[]int,int]
theorem fn_19 : Try.prog.funcs[19]? = some Try.f19 := by kernel_rfl -- spacecraft/planner.Assign$1
theorem fn_20 : Try.prog.funcs[20]? = some Try.f20 := by kernel_rfl -- cmp.Compare[int]
theorem fn_21 : Try.prog.funcs[21]? = some Try.f21 := by kernel_rfl -- spacecraft/planner.assign
theorem fn_22 : Try.prog.funcs[22]? = some Try.f22 := by kernel_rfl -- spacecraft/planner.duration
theorem fn_23 : Try.prog.funcs[23]? = some Try.f23 := by kernel_rfl -- slices.BinarySearchFunc[[]spacecraft/api.Slot,spacecraft/api.Slot,int]
theorem fn_24 : Try.prog.funcs[24]? = some Try.f24 := by kernel_rfl -- spacecraft/planner.Assign$2
theorem fn_25 : Try.prog.funcs[25]? = some Try.f25 := by kernel_rfl -- slices.Insert[[]spacecraft/api.Slot,spacecraft/api.Slot]
theorem fn_26 : Try.prog.funcs[26]? = some Try.f26 := by kernel_rfl -- slices.Sort[[]int,int]
theorem fn_27 : Try.prog.funcs[27]? = some Try.f27 := by kernel_rfl -- spacecraft/spacecraftref54.usable
theorem fn_28 : Try.prog.funcs[28]? = some Try.f28 := by kernel_rfl -- spacecraft/spacecraftref54.order
theorem fn_29 : Try.prog.funcs[29]? = some Try.f29 := by kernel_rfl -- spacecraft/spacecraftref54.place
theorem fn_30 : Try.prog.funcs[30]? = some Try.f30 := by kernel_rfl -- spacecraft/spacecraftref54.insert
theorem fn_31 : Try.prog.funcs[31]? = some Try.f31 := by kernel_rfl -- spacecraft/planner.fits
theorem fn_32 : Try.prog.funcs[32]? = some Try.f32 := by kernel_rfl -- slices.ContainsFunc[[]spacecraft/api.Window,spacecraft/api.Window]
theorem fn_33 : Try.prog.funcs[33]? = some Try.f33 := by kernel_rfl -- spacecraft/planner.right$1
theorem fn_34 : Try.prog.funcs[34]? = some Try.f34 := by kernel_rfl -- spacecraft/contact.Valid
theorem fn_35 : Try.prog.funcs[35]? = some Try.f35 := by kernel_rfl -- slices.ContainsFunc[[]spacecraft/api.Job,spacecraft/api.Job]
theorem fn_36 : Try.prog.funcs[36]? = some Try.f36 := by kernel_rfl -- spacecraft/planner.right$2
theorem fn_37 : Try.prog.funcs[37]? = some Try.f37 := by kernel_rfl -- spacecraft/planner.job
theorem fn_38 : Try.prog.funcs[38]? = some Try.f38 := by kernel_rfl -- slices.stableCmpFunc[int]
theorem fn_39 : Try.prog.funcs[39]? = some Try.f39 := by kernel_rfl -- cmp.isNaN[int]
theorem fn_40 : Try.prog.funcs[40]? = some Try.f40 := by kernel_rfl -- spacecraft/planner.place
theorem fn_45 : Try.prog.funcs[45]? = some Try.f45 := by kernel_rfl -- spacecraft/spacecraftref53.Valid
theorem fn_46 : Try.prog.funcs[46]? = some Try.f46 := by kernel_rfl -- spacecraft/spacecraftref54.valid
theorem fn_47 : Try.prog.funcs[47]? = some Try.f47 := by kernel_rfl -- slices.IndexFunc[[]spacecraft/api.Window,spacecraft/api.Window]
theorem fn_48 : Try.prog.funcs[48]? = some Try.f48 := by kernel_rfl -- slices.IndexFunc[[]spacecraft/api.Job,spacecraft/api.Job]
theorem fn_49 : Try.prog.funcs[49]? = some Try.f49 := by kernel_rfl -- slices.insertionSortCmpFunc[int]
theorem fn_50 : Try.prog.funcs[50]? = some Try.f50 := by kernel_rfl -- slices.symMergeCmpFunc[int]
theorem fn_63 : Try.prog.funcs[63]? = some Try.f63 := by kernel_rfl -- slices.rotateCmpFunc[int]
theorem fn_70 : Try.prog.funcs[70]? = some Try.f70 := by kernel_rfl -- slices.swapRangeCmpFunc[int]
attribute [go_sem] kd_2 sz_2 by_2 ze_2 kd_3 sz_3 by_3 ze_3 kd_4 sz_4 by_4 ze_4 kd_5 sz_5 by_5 ze_5 kd_6 sz_6 by_6 ze_6 kd_7 sz_7 by_7 ze_7 pl_7 fl_7_0 fl_7_1 fl_7_2 fl_7_3 kd_8 sz_8 by_8 ze_8 pl_8 fl_8_0 fl_8_1 fl_8_2 fl_8_3 kd_9 sz_9 by_9 ze_9 kd_10 sz_10 by_10 ze_10 kd_11 sz_11 by_11 ze_11 kd_12 sz_12 by_12 ze_12 kd_13 sz_13 by_13 ze_13 pl_13 fl_13_0 fl_13_1 kd_14 sz_14 by_14 ze_14 pl_14 fl_14_0 fl_14_1 kd_15 sz_15 by_15 ze_15 kd_16 sz_16 by_16 ze_16 kd_17 sz_17 by_17 ze_17 kd_18 sz_18 by_18 ze_18 pl_18 fl_18_0 kd_19 sz_19 by_19 ze_19 pl_19 fl_19_0 kd_20 sz_20 by_20 ze_20 kd_21 sz_21 by_21 ze_21 kd_22 sz_22 by_22 ze_22 kd_23 sz_23 by_23 ze_23 kd_24 sz_24 by_24 ze_24 kd_25 sz_25 by_25 ze_25 pl_25 fl_25_0 fl_25_1 fl_25_2 fl_25_3 kd_26 sz_26 by_26 ze_26 pl_26 fl_26_0 fl_26_1 fl_26_2 fl_26_3 kd_28 sz_28 by_28 ze_28 kd_29 sz_29 by_29 ze_29 kd_36 sz_36 by_36 ze_36 pl_36 fl_36_0 fl_36_1 fl_36_2 fl_36_3 kd_37 sz_37 by_37 ze_37 pl_37 fs_37 fl_37_0 fl_37_1 fl_37_2 fl_37_3 kd_38 sz_38 by_38 ze_38 pl_38 fl_38_0 fl_38_1 fl_38_2 fl_38_3 fl_38_4 kd_39 sz_39 by_39 ze_39 pl_39 fs_39 fl_39_0 fl_39_1 fl_39_2 fl_39_3 fl_39_4 kd_41 sz_41 by_41 ze_41 pl_41 fl_41_0 fl_41_1 fl_41_2 fl_41_3 kd_42 sz_42 by_42 ze_42 pl_42 fs_42 fl_42_0 fl_42_1 fl_42_2 fl_42_3 kd_55 sz_55 by_55 ze_55 kd_65 sz_65 by_65 ze_65 kd_74 sz_74 by_74 ze_74 kd_82 sz_82 by_82 ze_82 kd_84 sz_84 by_84 ze_84 kd_86 sz_86 by_86 ze_86 kd_90 sz_90 by_90 ze_90 kd_92 sz_92 by_92 ze_92 kd_96 sz_96 by_96 ze_96 pl_96 fl_96_0 fl_96_1 fl_96_2 fl_96_3 kd_97 sz_97 by_97 ze_97 pl_97 fl_97_0 fl_97_1 fl_97_2 fl_97_3 kd_98 sz_98 by_98 ze_98 kd_99 sz_99 by_99 ze_99 pl_99 kd_100 sz_100 by_100 ze_100 pl_100 kd_102 sz_102 by_102 ze_102 kd_103 sz_103 by_103 ze_103 kd_105 sz_105 by_105 ze_105 kd_106 sz_106 by_106 ze_106 kd_107 sz_107 by_107 ze_107 kd_108 sz_108 by_108 ze_108 pl_108 fl_108_0 fl_108_1 fl_108_2 fl_108_3 fl_108_4 fl_108_5 fl_108_6 fl_108_7 fl_108_8 fl_108_9 fl_108_10 kd_109 sz_109 by_109 ze_109 pl_109 fl_109_0 fl_109_1 fl_109_2 fl_109_3 fl_109_4 fl_109_5 fl_109_6 fl_109_7 fl_109_8 fl_109_9 fl_109_10 et_28 et_55 et_22 et_23 et_24
end Go.V

set_option maxRecDepth 100000
set_option maxHeartbeats 4000000
namespace Go.V
open Go.Proofs Go.Lib Go.Shelf Go.RowKit
theorem run_copy_rowK (P : Program) (w : World) (dT sT ty elem : TypeId) (g o dLen dCap : Nat) (a : Addr) (sLen sCap : Nat) (cur : Array Value) (t : TypeId) (cs : List Value) (k : Nat)
    (hu : P.underlying dT = some (.slice elem)) (hs : (P.info? elem).map (·.size) = some k)
    (hg : w.heap[g]? = some (.cells cur t (0, 0))) (hn : cs.length = Nat.min sLen dLen * k)
    (hsrc : ∀ j v, cs[j]? = some v → w.cell? (a.add j) = some v) (hfit : o + cs.length ≤ cur.size) (h1 : ∀ v ∈ cs, v.oneCell' = true) :
    (Builtin.copy_ #[dT, sT] ty #[.slice (some ⟨g, o, none⟩) dLen dCap, .slice (some a) sLen sCap]).run P w =
      .ok (goInt (Nat.min sLen dLen)) (w.setRow g (cur.toList.take o ++ cs ++ cur.toList.drop (o + cs.length)).toArray) := by
  have hl := run_loadCells_list (P := P) w a cs hsrc
  have hst := run_storeCells_at P g o t cs 0 cur w hg (by simpa using hfit) h1
  cases hq : P.info? elem with
  | none => simp [hq] at hs
  | some i =>
    have hi : i.size = k := by simpa [hq] using hs
    simp [Builtin.copy_, run_underlying hu, Builtin.lenOf, Builtin.firstCells, sizeOf, typeInfo, hq, hi, ← hn, hl, hst]
theorem ins_list0 {cur cs vs : List Value} {a b k : Nat} (h1 : b + k ≤ cur.length) (h2 : a ≤ b) (h3 : cs.length = b - a) (h4 : vs.length = k) (D : List Value) :
    ((cur.take (a + k) ++ cs ++ D).take a ++ vs ++ (cur.take (a + k) ++ cs ++ D).drop (a + vs.length)).take (b + k) = cur.take a ++ vs ++ cs := by
  have l1 : (cur.take (a + k)).length = a + k := by rw [List.length_take]; omega
  have e1 : (cur.take (a + k) ++ cs ++ D).take a = cur.take a := by
    rw [List.append_assoc, List.take_append_of_le_length (by omega), List.take_take, Nat.min_eq_left (by omega)]
  have e2 : (cur.take (a + k) ++ cs ++ D).drop (a + vs.length) = cs ++ D := by
    rw [List.append_assoc, h4]
    exact List.drop_left' l1
  rw [e1, e2, ← List.append_assoc]
  exact List.take_left' (by rw [List.length_append, List.length_append, List.length_take, h3, h4]; omega)
theorem ins_list {cur cs vs : List Value} {n i k : Nat} (h1 : (n + 1) * k ≤ cur.length) (h2 : i * k ≤ n * k) (h3 : cs.length = (n - i) * k) (h4 : vs.length = k) :
    ((cur.take ((i + 1) * k) ++ cs ++ cur.drop ((i + 1) * k + cs.length)).take (i * k) ++ vs ++ (cur.take ((i + 1) * k) ++ cs ++ cur.drop ((i + 1) * k + cs.length)).drop (i * k + vs.length)).take ((n + 1) * k) = cur.take (i * k) ++ vs ++ cs := by
  generalize cur.drop ((i + 1) * k + cs.length) = D
  rw [Nat.succ_mul] at h1
  rw [Nat.sub_mul] at h3
  rw [Nat.succ_mul, Nat.succ_mul]
  exact ins_list0 h1 h2 h3 h4 D
theorem insG_list {cur cs vs : List Value} {Z1 Z2 : Array Value} {n i k : Nat} (h2 : (cur.take (i * k)).length = i * k) (h4 : vs.length = k) (h3 : cs.length + (i + 1) * k = (n + 1) * k) :
    ((((((cur.take (i * k)).toArray ++ Z1 ++ Z2).toList.take (i * k) ++ vs ++ ((cur.take (i * k)).toArray ++ Z1 ++ Z2).toList.drop (i * k + vs.length)).toArray).toList.take ((i + 1) * k) ++ cs ++ ((((cur.take (i * k)).toArray ++ Z1 ++ Z2).toList.take (i * k) ++ vs ++ ((cur.take (i * k)).toArray ++ Z1 ++ Z2).toList.drop (i * k + vs.length)).toArray).toList.drop ((i + 1) * k + cs.length)).toArray).toList.take ((n + 1) * k) = cur.take (i * k) ++ vs ++ cs := by
  simp only [Array.toList_append, List.toList_toArray]
  have e1 : (cur.take (i * k) ++ Z1.toList ++ Z2.toList).take (i * k) = cur.take (i * k) := by
    rw [List.append_assoc]
    exact List.take_left' h2
  rw [e1]
  have l2 : (cur.take (i * k) ++ vs).length = (i + 1) * k := by rw [List.length_append, h2, h4, Nat.succ_mul]
  generalize (cur.take (i * k) ++ Z1.toList ++ Z2.toList).drop (i * k + vs.length) = D
  rw [List.take_left' l2]
  generalize (cur.take (i * k) ++ vs ++ D).drop ((i + 1) * k + cs.length) = D2
  exact List.take_left' (by rw [List.length_append, l2]; omega)
theorem ins_ok [ETab] {P : Program} {F T E : Nat} (hr : Here P F) {e : Ety} (hk : kdT P T = .slice E) (hsz : szT P E = e.sz) (hzl : zlenT P E = e.sz) (hby : bytesT P E ≤ 1024)
    (hE : ∀ (s : Option Addr) (n c vb vo vc : Nat) (v : Value) (w w1 : World), n ≤ c → c ≤ 9223372036854775807 → (s = none → n = 0 ∧ c = 0) →
      (Builtin.append_ #[T, T] T #[.slice s n c, .slice (some ⟨vb, vo, none⟩) 1 vc]).run P w = .ok v w1 → Calls P F #[.slice s n c, .int .i64 n, .slice (some ⟨vb, vo, none⟩) 1 vc] w fun e w' => e = .returned v ∧ w' = w1)
    (hS : ∀ (b n c vb vo vc i : Nat) (cur : Array Value) (ty : TypeId) (vs : List Value) (w : World), i < n → n + 1 ≤ c → c ≤ 9223372036854775807 → vb ≠ b → w.heap[b]? = some (.cells cur ty (0, 0)) → cur.size = c * e.sz → (∀ v ∈ cur.toList.take (n * e.sz), v.oneCell' = true) →
      vs.length = e.sz → (∀ j v, vs[j]? = some v → w.cell? ⟨vb, vo + j, none⟩ = some v) → (∀ v ∈ vs, v.oneCell' = true) → ∀ (tA : TypeId) (kA : Nat), w.shape? vb = some (tA, kA) → w.frozen? ⟨vb, vo, none⟩ = false → w.frozen? ⟨vb, kA, none⟩ = false →
      Calls P F #[.slice (some ⟨b, 0, none⟩) n c, .int .i64 i, .slice (some ⟨vb, vo, none⟩) 1 vc] w fun e' w' => e' = .returned (.slice (some ⟨b, 0, none⟩) (n + 1) c) ∧ ∃ row, row.toList.take ((n + 1) * e.sz) = cur.toList.take (i * e.sz) ++ vs ++ (cur.toList.take (n * e.sz)).drop (i * e.sz) ∧ row.size = cur.size ∧ w' = w.drew.setRow b row)
    (hG : ∀ (b n c vb vo vc i : Nat) (cur : Array Value) (ty : TypeId) (vs : List Value) (w : World), i < n → n ≤ c → c < n + 1 → (n + 1) * bytesT P E ≤ 140737488355328 → w.heap[b]? = some (.cells cur ty (0, 0)) → cur.size = c * e.sz → (∀ v ∈ cur.toList.take (n * e.sz), v.oneCell' = true) →
      vs.length = e.sz → vb < w.heap.size → (∀ j v, vs[j]? = some v → w.cell? ⟨vb, vo + j, none⟩ = some v) → (∀ v ∈ vs, v.oneCell' = true) →
      Calls P F #[.slice (some ⟨b, 0, none⟩) n c, .int .i64 i, .slice (some ⟨vb, vo, none⟩) 1 vc] w fun e' w' => ∃ G row, e' = .returned (.slice (some ⟨w.heap.size, 0, none⟩) (n + 1) G) ∧ n + 1 ≤ G ∧ G ≤ maxLen ∧
        row.toList.take ((n + 1) * e.sz) = cur.toList.take (i * e.sz) ++ vs ++ (cur.toList.take (n * e.sz)).drop (i * e.sz) ∧ row.size = G * e.sz ∧ w'.heap[w.heap.size]? = some (.cells row E (0, 0)) ∧
        (∀ m, m < w.heap.size → w'.heap[m]? = w.heap[m]?) ∧ w'.heap.size = w.heap.size + 1 ∧ w'.os = w.os ∧ w'.tape = w.tape ∧ w'.output = w.output ∧ w.drawn ≤ w'.drawn)
    {h : List Ch} {K : KT} {t u n i : Nat} {xs : List e.T} {y : e.T} (hn : n = xs.length) (hi : i ≤ n) (hlen : xs.length ≤ 1000000000) (hne : t ≠ u) (o : hth h t = .rows e xs) (o1 : hth h u = .rows e [y])
    (H : K (.sl h.length e 0 (n + 1)) (h.set t .gone ++ [.rows e (xs.take i ++ y :: xs.drop i)])) : Does P F [.sl t e 0 n, .int .i64 (i : Int), .sl u e 0 1] h K := by
  refine ⟨hr, fun R μ w vs hv H0 => ?_⟩
  have hg := hth_get o (by simp)
  have hg1 := hth_get o1 (by simp)
  cases hv with
  | cons hs h2 =>
  cases h2 with
  | cons hii h3 =>
  cases h3 with
  | cons hx h4 =>
  cases h4
  cases hii
  obtain ⟨B1, hB1, hr1, hown1⟩ := H0.rel.get hg1
  rcases Nat.lt_or_ge i n with hlt | hge
  · -- in the middle
    generalize hN : n = N at hs
    cases hs with
    | sl0 => omega
    | sl h1 hcap hl hm =>
      rename_i b cap c
      subst hN
      generalize hone : (1 : Nat) = ONE at hx
      cases hx with
      | sl0 => omega
      | sl k1 kcap kl km =>
        rename_i vb vcap vc
        subst hone
        obtain ⟨B, hB, hr0, hown⟩ := H0.rel.get hg
        have eB : B = .blk b cap := by rw [h1] at hB; exact (Option.some.inj hB).symm
        have eB1 : B1 = .blk vb vcap := by rw [k1] at hB1; exact (Option.some.inj hB1).symm
        subst eB
        subst eB1
        rcases hr0 with ⟨q, _⟩ | ⟨b', cap', cur, ty, q, hb, hcz, hxl, hmx, hrel⟩
        · cases q
        rcases hr1 with ⟨q1, _⟩ | ⟨vb', vcap', varr, vty, q1, hvb, hvz, hvl, hvm, hvrel⟩
        · cases q1
        cases q
        cases q1
        rw [Nat.zero_add] at hcap kcap
        subst hcap
        subst kcap
        have hvs0 : LRel R [] (e.enc y) (varr.toList.take e.sz) := by simpa using hvrel
        obtain ⟨vs, hvs⟩ : ∃ vs, vs = varr.toList.take e.sz := ⟨_, rfl⟩
        rw [← hvs] at hvs0
        have hvlen : vs.length = e.sz := by rw [← hvs0.len, e.enc_len]
        have hone1 : ∀ v ∈ vs, v.oneCell' = true := lrel_one hvs0 (e.enc_cell y)
        have hcell : ∀ j v, vs[j]? = some v → w.cell? ⟨vb, 0 * e.sz + j, none⟩ = some v := fun j v hj => by
          rw [Nat.zero_mul, Nat.zero_add, cell_at hvb, ← Array.getElem?_toList]
          rw [hvs, List.getElem?_take] at hj
          split at hj
          · exact hj
          · cases hj
        have hcur1 : ∀ v ∈ cur.toList.take (n * e.sz), v.oneCell' = true := by
          rw [hn]
          exact lrel_one hrel (flat_cell e xs)
        have hbne : vb ≠ b := fun q => by
          subst q
          exact own_apart H0.nodup hne hg hB hg1 hB1 vb (by simp [ownC]) (by simp [ownC])
        have hvw : vb < w.heap.size := (Array.getElem?_eq_some_iff.1 hvb).1
        have hnew : ∀ row : Array Value, row.toList.take ((n + 1) * e.sz) = cur.toList.take (i * e.sz) ++ vs ++ (cur.toList.take (n * e.sz)).drop (i * e.sz) →
            LRel R [] ((xs.take i ++ y :: xs.drop i).flatMap e.enc) (row.toList.take ((xs.take i ++ y :: xs.drop i).length * e.sz)) := fun row hrow => by
          have hl1 : (xs.take i ++ y :: xs.drop i).length = n + 1 := by simp; omega
          rw [hl1, hrow, List.flatMap_append, List.flatMap_cons, ← List.append_assoc]
          have e1 : cur.toList.take (i * e.sz) = (cur.toList.take (n * e.sz)).take (i * e.sz) := by
            rw [List.take_take, Nat.min_eq_left (Nat.mul_le_mul_right _ hi)]
          rw [e1, flat_take, flat_drop, hn]
          exact ((hrel.take _).app hvs0).app (hrel.drop _)
        have hl1 : (xs.take i ++ y :: xs.drop i).length = n + 1 := by simp; omega
        rw [Nat.zero_mul] at *
        by_cases hroom : n + 1 ≤ c
        · refine (hS b n c vb 0 vc i cur ty vs w hlt hroom (by unfold maxLen at hm; omega) hbne hb hcz hcur1 hvlen (by simpa using hcell) hone1 vty varr.size (by simp [World.shape?, hvb]) (by simp [World.frozen?, hvb]) (by simp [World.frozen?, hvb])).mono ?_
          rintro e' w' ⟨rfl, row, hrow, hrz, rfl⟩
          obtain ⟨H1, hst⟩ := H0.move (c' := .rows e (xs.take i ++ y :: xs.drop i)) (B' := .blk b c) (w' := w.drew.setRow b row) hg hB (by simp [ownC]) (fun m _ hm => setRow_other w.drew b m _ (fun q => hm (by simp [ownC, q]))) (by simp)
            (.inr ⟨b, c, row, ty, rfl, setRow_heap w.drew b cur row ty (0, 0) hb, by rw [hrz, hcz], by rw [hl1]; exact hroom, hm, hnew row hrow⟩) rfl rfl rfl (Nat.le_succ _)
          refine ⟨_, R, _, _, _, rfl, H, ?_, H1, Ext.app _ _, hst⟩
          have h5 := Rel.sl (R := R) (μ := μ ++ [.blk b c]) (t := h.length) (e := e) (start := 0) (len := n + 1) (b := b) (cap := c) (c := c) (by rw [H0.rel.len]; simp) (by omega) hroom hm
          simpa using h5
        · refine (hG b n c vb 0 vc i cur ty vs w hlt (by omega) (by omega) ?_ hb hcz hcur1 hvlen hvw (by simpa using hcell) hone1).mono ?_
          · have := Nat.mul_le_mul (show n + 1 ≤ 1000000001 by omega) hby
            omega
          rintro e' w' ⟨G, row, rfl, hg1', hg2, hrow, hrz, hhp, hold, hws, q1, q2, q3, q4⟩
          have hgone := H0.set (c' := .gone) (w' := w) hg hB (gone_sub _ _) (fun _ _ _ => rfl) (Nat.le_refl _) trivial rfl rfl rfl
          obtain ⟨H1, hst⟩ := hgone.1.push (c := .rows e (xs.take i ++ y :: xs.drop i)) (B := .blk w.heap.size G) (w' := w') hold (by omega) (by simp [ownC]) (fun m hm => by simp [ownC] at hm; subst hm; exact ⟨Nat.le_refl _, by omega⟩)
            (.inr ⟨w.heap.size, G, row, E, rfl, hhp, hrz, by rw [hl1]; exact hg1', hg2, hnew row hrow⟩) q1 q2 q3 q4
          refine ⟨_, R, _, _, _, rfl, H, ?_, H1, Ext.app _ _, hgone.2.trans hst⟩
          have h5 := Rel.sl (R := R) (μ := μ ++ [.blk w.heap.size G]) (t := h.length) (e := e) (start := 0) (len := n + 1) (b := w.heap.size) (cap := G) (c := G) (by rw [H0.rel.len]; simp) (by omega) hg1' hg2
          simpa using h5
  · -- at the end
    obtain rfl : i = n := by omega
    have hK : appK P T T (.sl t e 0 i) (.sl u e 0 1) h (fun v h' => v = .sl h.length e 0 (i + 1) ∧ h' = h.set t .gone ++ [.rows e (xs ++ [y])]) := by
      unfold appK
      rw [hk]
      simp only [o, asE_self]
      refine ⟨⟨hsz, hzl⟩, hn, ?_⟩
      unfold appSrcK srcK
      simp only [o1, asE_self]
      refine ⟨by simp, by simp, ?_⟩
      rw [hn]
      refine ⟨⟨?_, ?_⟩, ?_⟩
      · have := Nat.mul_le_mul (show xs.length + ([y].drop 0 |>.take 1).length ≤ 1000000001 by simp; omega) hby
        unfold maxBytes
        omega
      · unfold maxBytes
        simp
        omega
      · simp
    have hfin : xs.take i ++ y :: xs.drop i = xs ++ [y] := by rw [hn, List.take_length, List.drop_length]
    rw [hfin] at H
    generalize hone : (1 : Nat) = ONE at hx
    cases hx with
    | sl0 => omega
    | sl k1 kcap kl km =>
      rename_i vb vcap vc
      subst hone
      have hx' : Rel R μ (.sl u e 0 1) (.slice (some ⟨vb, 0 * e.sz, none⟩) 1 vc) := .sl k1 kcap kl km
      generalize hN : i = N at hs
      cases hs with
      | sl0 h1 =>
        rename_i a
        rw [hN] at hK
        obtain ⟨v, w1, R', μ', h', av, hrun, ⟨rfl, rfl⟩, hrel, H1, hext, hst⟩ := appK_ok (ty := T) H0 (.sl0 h1) hx' hK
        subst hN
        refine (hE a 0 0 vb (0 * e.sz) vc v w w1 (Nat.le_refl _) (by omega) (fun _ => ⟨rfl, rfl⟩) hrun).mono ?_
        rintro e' w' ⟨rfl, rfl⟩
        exact ⟨_, R', μ', _, _, rfl, H, hrel, H1, hext, hst⟩
      | sl h1 hcap hl hm =>
        rename_i b cap c
        subst hN
        obtain ⟨v, w1, R', μ', h', av, hrun, ⟨rfl, rfl⟩, hrel, H1, hext, hst⟩ := appK_ok (ty := T) H0 (.sl h1 hcap hl hm) hx' hK
        refine (hE _ i c vb (0 * e.sz) vc v w w1 hl (by unfold maxLen at hm; omega) (fun q => by cases q) hrun).mono ?_
        rintro e' w' ⟨rfl, rfl⟩
        exact ⟨_, R', μ', _, _, rfl, H, hrel, H1, hext, hst⟩
theorem insS_slo (b n c vb vo vc i : Nat) (cur : Array Value) (ty : TypeId) (vs : List Value) (w : World) (hi : i < n) (hroom : n + 1 ≤ c) (hc63 : c ≤ 9223372036854775807) (hvb : vb ≠ b)
    (hb : w.heap[b]? = some (.cells cur ty (0, 0))) (hsz : cur.size = c * 4) (h1c : ∀ v ∈ cur.toList.take (n * 4), v.oneCell' = true)
    (hvl : vs.length = 4) (hvs : ∀ j v, vs[j]? = some v → w.cell? ⟨vb, vo + j, none⟩ = some v) (h1v : ∀ v ∈ vs, v.oneCell' = true)
    (tA : TypeId) (kA : Nat) (hsa : w.shape? vb = some (tA, kA)) (hfa : w.frozen? ⟨vb, vo, none⟩ = false) (hfe : w.frozen? ⟨vb, kA, none⟩ = false) :
    Calls Try.prog 25 #[.slice (some ⟨b, 0, none⟩) n c, .int .i64 i, .slice (some ⟨vb, vo, none⟩) 1 vc] w fun e w' => e = .returned (.slice (some ⟨b, 0, none⟩) (n + 1) c) ∧ ∃ row, row.toList.take ((n + 1) * 4) = cur.toList.take (i * 4) ++ vs ++ (cur.toList.take (n * 4)).drop (i * 4) ∧ row.size = cur.size ∧ w' = w.drew.setRow b row := by
  have hz1 : ¬ ((1 : Int) = 0) := by omega
  have hz2 : ¬ ((i : Int) = (n : Int)) := by omega
  have hw1 : IntKind.i64.wrap ((i : Int) + (1 : Int)) = (i : Int) + (1 : Int) := by rw [IntKind.wrap_i64]; omega
  have hb1 : (0 : Int) ≤ (i : Int) + (1 : Int) := by omega
  have hin : i ≤ n := by omega
  have htn : ((i : Int) + (1 : Int)).toNat = i + 1 := by omega
  have hb3 : (i : Int) ≤ (n : Int) + (1 : Int) := by omega
  have hb2 : ¬ (c = i + 1) := by omega
  have hb4 : ¬ (c = i) := by omega
  have hsz4 : (Try.prog.info? 37).map (·.size) = some 4 := by kernel_rfl
  have hu : Try.prog.underlying 24 = some (.slice 37) := Try.underlying24
  have hsb : ∃ tB kB, w.shape? b = some (tB, kB) ∧ kB ≠ 0 := by
    refine ⟨ty, cur.size, by simp [World.shape?, hb], by omega⟩
  obtain ⟨tB, kB, hsb, hkB⟩ := hsb
  have hov : ∀ lb cb, (callFunc 41 #[.slice (some ⟨vb, vo, none⟩) 1 vc, .slice (some ⟨b, (i + 1) * 4, none⟩) lb cb]).run Try.prog w = .ok (.value (.bool false)) w := fun lb cb => by
    rw [run_callFunc_extern Try.func41 (by kernel_rfl) (by kernel_rfl) (by kernel_rfl) (e := Extern.SlicesOverlaps.overlaps #[24, 24] #[4]) (by kernel_rfl),
      Lib.run_overlaps_apart w 24 4 37 hu 4 Try.sizeOf37 ⟨vb, vo, none⟩ ⟨b, (i + 1) * 4, none⟩ 1 vc lb cb hvb tA tB kA kB hsa hsb hkB hfa hfe]
    rfl
  have mixed := mixed
  obtain ⟨cs, hcs⟩ : ∃ cs, cs = (cur.toList.take (n * 4)).drop (i * 4) := ⟨_, rfl⟩
  have hcl : cs.length = (n - i) * 4 := by
    rw [hcs, List.length_drop, List.length_take, Array.length_toList, hsz, Nat.min_eq_left (Nat.mul_le_mul_right _ (by omega)), Nat.sub_mul]
  have hg1 : w.drew.heap[b]? = some (.cells cur ty (0, 0)) := hb
  obtain ⟨r1, hr1⟩ : ∃ r1, r1 = (cur.toList.take ((i + 1) * 4) ++ cs ++ cur.toList.drop ((i + 1) * 4 + cs.length)).toArray := ⟨_, rfl⟩
  have hcp1 : ∀ ty' dc sc, (Builtin.copy_ #[24, 24] ty' #[.slice (some ⟨b, (i + 1) * 4, none⟩) (n - i) dc, .slice (some ⟨b, i * 4, none⟩) (n + 1 - i) sc]).run Try.prog w.drew = .ok (goInt (Nat.min (n + 1 - i) (n - i))) (w.drew.setRow b r1) := fun ty' dc sc => by
    rw [hr1]
    refine run_copy_rowK _ w.drew _ _ ty' 37 b ((i + 1) * 4) (n - i) dc ⟨b, i * 4, none⟩ (n + 1 - i) sc cur ty cs 4 hu hsz4 hg1 ?_ ?_ ?_ ?_
    · rw [hcl, show Nat.min (n + 1 - i) (n - i) = n - i by simp only [Nat.min_def]; split <;> omega]
    · intro j v hj
      rw [Addr.add_lit]
      rw [hcs, List.getElem?_drop] at hj
      have hlt : i * 4 + j < n * 4 := by
        rcases Nat.lt_or_ge (i * 4 + j) (n * 4) with q | q
        · exact q
        · rw [List.getElem?_take_eq_none q] at hj; cases hj
      rw [List.getElem?_take_of_lt hlt] at hj
      simp only [World.cell?, hg1]
      simpa using hj
    · rw [hcl, hsz]; omega
    · intro v hv
      rw [hcs] at hv
      exact h1c v (List.mem_of_mem_drop hv)
  have hg2 : (w.drew.setRow b r1).heap[b]? = some (.cells r1 ty (0, 0)) := setRow_heap _ _ _ _ _ _ hg1
  have hr1z : r1.size = cur.size := by
    rw [hr1]
    simp only [List.size_toArray, List.length_append, List.length_take, List.length_drop, Array.length_toList, hcl, hsz]
    omega
  obtain ⟨r2, hr2⟩ : ∃ r2, r2 = (r1.toList.take (i * 4) ++ vs ++ r1.toList.drop (i * 4 + vs.length)).toArray := ⟨_, rfl⟩
  have hcp2 : ∀ ty' dc, (Builtin.copy_ #[24, 24] ty' #[.slice (some ⟨b, i * 4, none⟩) (n + 1 - i) dc, .slice (some ⟨vb, vo, none⟩) 1 vc]).run Try.prog (w.drew.setRow b r1) = .ok (goInt (Nat.min 1 (n + 1 - i))) (w.drew.setRow b r2) := fun ty' dc => by
    rw [← setRow_setRow w.drew b r1 r2, hr2]
    refine run_copy_rowK _ _ _ _ ty' 37 b (i * 4) (n + 1 - i) dc ⟨vb, vo, none⟩ 1 vc r1 ty vs 4 hu hsz4 hg2 ?_ ?_ ?_ h1v
    · rw [hvl, show Nat.min 1 (n + 1 - i) = 1 by simp only [Nat.min_def]; split <;> omega, Nat.one_mul]
    · intro j v hj
      rw [Addr.add_lit]
      have q := hvs j v hj
      have e : (w.drew.setRow b r1).heap[vb]? = w.heap[vb]? := by rw [setRow_other _ _ _ _ hvb]; rfl
      simp only [World.cell?] at q ⊢
      rw [e]
      exact q
    · rw [hvl, hr1z, hsz]; omega
  have hz2r : r2.size = cur.size := by
    rw [hr2]
    simp only [List.size_toArray, List.length_append, List.length_take, List.length_drop, Array.length_toList, hvl, hr1z, hsz]
    omega
  have hfin : r2.toList.take ((n + 1) * 4) = cur.toList.take (i * 4) ++ vs ++ (cur.toList.take (n * 4)).drop (i * 4) := by
    rw [← hcs, hr2, hr1]
    simp only []
    exact ins_list (by rw [Array.length_toList, hsz]; exact Nat.mul_le_mul_right _ hroom) (Nat.mul_le_mul_right _ hin) hcl hvl
  clear hr1 hr2 hcs
  go_enter Try.func25, Try.ntmps25
  go_wp2_with (simp only [hov])
  go_region_law_o (refine step_copy_runI rfl _ _ 24 24 rfl _ _ (by simp [Act.eval, Act.put]) (by simp [Act.eval, Act.put]) (hcp1 _ _ _) ?_)
  go_wp2_with (at_builtin; refine wpList_copy_runI _ rfl _ _ 24 24 rfl _ _ rfl rfl (hcp2 _ _) ?_)
  go_ret
  exact ⟨rfl, r2, hfin, hz2r, rfl⟩
theorem insG_slo (b n c vb vo vc i : Nat) (cur : Array Value) (ty : TypeId) (vs : List Value) (w : World) (hi : i < n) (hnc : n ≤ c) (hroom : c < n + 1) (hbig : (n + 1) * 32 ≤ 140737488355328)
    (hb : w.heap[b]? = some (.cells cur ty (0, 0))) (hsz : cur.size = c * 4) (h1c : ∀ v ∈ cur.toList.take (n * 4), v.oneCell' = true)
    (hvl : vs.length = 4) (hvw : vb < w.heap.size) (hvs : ∀ j v, vs[j]? = some v → w.cell? ⟨vb, vo + j, none⟩ = some v) (h1v : ∀ v ∈ vs, v.oneCell' = true) :
    Calls Try.prog 25 #[.slice (some ⟨b, 0, none⟩) n c, .int .i64 i, .slice (some ⟨vb, vo, none⟩) 1 vc] w fun e w' => ∃ G row, e = .returned (.slice (some ⟨w.heap.size, 0, none⟩) (n + 1) G) ∧ n + 1 ≤ G ∧ G ≤ maxLen ∧
      row.toList.take ((n + 1) * 4) = cur.toList.take (i * 4) ++ vs ++ (cur.toList.take (n * 4)).drop (i * 4) ∧ row.size = G * 4 ∧ w'.heap[w.heap.size]? = some (.cells row 37 (0, 0)) ∧
      (∀ m, m < w.heap.size → w'.heap[m]? = w.heap[m]?) ∧ w'.heap.size = w.heap.size + 1 ∧ w'.os = w.os ∧ w'.tape = w.tape ∧ w'.output = w.output ∧ w.drawn ≤ w'.drawn := by
  have mixed := mixed
  obtain ⟨i0, z, hi0, hz0, hzs⟩ := zero_info (P := Try.prog) (el := 37) (e := .slo) (by unfold zlenT; rw [ze_37]; rfl)
  have hib : i0.bytes = 32 := by
    have q := by_37
    unfold bytesT at q
    rw [hi0] at q
    exact q
  have hsz4 : (Try.prog.info? 37).map (·.size) = some 4 := by kernel_rfl
  have his : i0.size = 4 := by rw [hi0] at hsz4; simpa using hsz4
  have hzs : z.cells.size = 4 := hzs
  have hu : Try.prog.underlying 24 = some (.slice 37) := Try.underlying24
  have hz1 : ¬ ((1 : Int) = 0) := by omega
  have hz2 : ¬ ((i : Int) = (n : Int)) := by omega
  have hz3 : (c : Int) < (n : Int) + (1 : Int) := by omega
  have hbw : b < w.heap.size := (Array.getElem?_eq_some_iff.1 hb).1
  have hkk : (n : Int) + (1 : Int) - (i : Int) = ((n + 1 - i : Nat) : Int) := by omega
  have hik : i + (n + 1 - i) = n + 1 := by omega
  have hcn : c = n := by omega
  have hink : i * 4 ≤ n * 4 := Nat.mul_le_mul_right _ (by omega)
  have hold : (Builtin.firstCells i0.size i (.slice (some ⟨b, 0, none⟩) i c)).run Try.prog w.drew = .ok (cur.toList.take (i * 4)).toArray w.drew := by
    rw [his]
    refine run_firstCells_some w.drew 4 i ⟨b, 0, none⟩ i c (cur.toList.take (i * 4)) (by rw [List.length_take, Array.length_toList, hsz]; omega) fun j v hj => ?_
    rw [addr_add, Nat.zero_add]
    show w.cell? _ = _
    rw [cell_at hb, ← Array.getElem?_toList]
    rw [List.getElem?_take] at hj
    split at hj
    · exact hj
    · simp at hj
  obtain ⟨G, hG⟩ : ∃ G, G = grownCap w (n + 1) c 37 := ⟨_, rfl⟩
  obtain ⟨ROW, hROW⟩ : ∃ ROW : Array Value, ROW = (cur.toList.take (i * 4)).toArray ++ Builtin.zeroCells z.cells (n + 1 - i) ++ Builtin.zeroCells z.cells (G - (n + 1)) := ⟨_, rfl⟩
  have hrz : ∀ ty', (Builtin.append_ #[24, 3] ty' #[.slice (some ⟨b, 0, none⟩) i c, .int .i64 ((n : Int) + (1 : Int) - (i : Int))]).run Try.prog w =
      .ok (.slice (some ⟨w.heap.size, 0, none⟩) (n + 1) G) (w.drew.alloc (.cells ROW 37)) := fun ty' => by
    have h := Lib.run_append_grow_zeros w 24 3 ty' 37 i0 z .i64 .i64 hu Try.underlying3 hi0 hz0 (some ⟨b, 0, none⟩) i c (cur.toList.take (i * 4)) hold (n + 1 - i) (by omega) (by omega) (by omega) (by omega) (by rw [hib]; omega) (by rw [hib, hik]; exact growslice_fits hroom hbig)
    rw [hik, ← hG, ← hROW] at h
    rw [hkk]
    exact h
  have hGn : n + 1 ≤ G := by rw [hG]; exact grownCap_ge w _ _ _
  have hGM : G ≤ maxLen := by rw [hG]; exact grownCap_le_maxLen w _ _ _ (by unfold maxLen; omega)
  have hG63 : G ≤ 9223372036854775807 := by unfold maxLen at hGM; omega
  have hRl : ROW.size = G * 4 := by
    rw [hROW]
    simp only [Array.size_append, List.size_toArray, List.length_take, Array.length_toList, Builtin.zeroCells, Array.size_map, Array.size_range, hzs, hsz]
    omega
  obtain ⟨cs, hcs⟩ : ∃ cs, cs = (cur.toList.take (n * 4)).drop (i * 4) := ⟨_, rfl⟩
  have hcl : cs.length = (n - i) * 4 := by
    rw [hcs, List.length_drop, List.length_take, Array.length_toList, hsz, Nat.min_eq_left (Nat.mul_le_mul_right _ (by omega)), Nat.sub_mul]
  obtain ⟨r1, hr1⟩ : ∃ r1, r1 = (ROW.toList.take (i * 4) ++ vs ++ ROW.toList.drop (i * 4 + vs.length)).toArray := ⟨_, rfl⟩
  obtain ⟨r2, hr2⟩ : ∃ r2, r2 = (r1.toList.take ((i + 1) * 4) ++ cs ++ r1.toList.drop ((i + 1) * 4 + cs.length)).toArray := ⟨_, rfl⟩
  have hr1z : r1.size = G * 4 := by
    rw [hr1]
    simp only [List.size_toArray, List.length_append, List.length_take, List.length_drop, Array.length_toList, hvl, hRl]
    omega
  have hr2z : r2.size = G * 4 := by
    rw [hr2]
    simp only [List.size_toArray, List.length_append, List.length_take, List.length_drop, Array.length_toList, hcl, hr1z]
    omega
  obtain ⟨N, hN⟩ : ∃ N, N = w.heap.size := ⟨_, rfl⟩
  have hcpA : ∀ (W : World), W.heap = (w.alloc (.cells ROW 37)).heap → ∀ ty' dc, (Builtin.copy_ #[24, 24] ty' #[.slice (some ⟨w.heap.size, i * 4, none⟩) (n + 1 - i) dc, .slice (some ⟨vb, vo, none⟩) 1 vc]).run Try.prog W = .ok (goInt (Nat.min 1 (n + 1 - i))) (W.setRow w.heap.size r1) := fun W hW ty' dc => by
    have hg : W.heap[w.heap.size]? = some (.cells ROW 37 (0, 0)) := by rw [hW]; exact heap_alloc_new w _
    rw [hr1]
    refine run_copy_rowK _ W _ _ ty' 37 w.heap.size (i * 4) (n + 1 - i) dc ⟨vb, vo, none⟩ 1 vc ROW 37 vs 4 hu hsz4 hg ?_ ?_ ?_ h1v
    · rw [hvl, show Nat.min 1 (n + 1 - i) = 1 by simp only [Nat.min_def]; split <;> omega, Nat.one_mul]
    · intro j v hj
      rw [Addr.add_lit]
      have q := hvs j v hj
      have e : W.heap[vb]? = w.heap[vb]? := by rw [hW]; exact RowKit.Below.heap_alloc w _ vb hvw
      simp only [World.cell?] at q ⊢
      rw [e]
      exact q
    · rw [hvl, hRl]; omega
  have hcpB : ∀ (W : World), W.heap = ((w.alloc (.cells ROW 37)).setRow w.heap.size r1).heap → ∀ ty' dc sc, (Builtin.copy_ #[24, 24] ty' #[.slice (some ⟨w.heap.size, (i + 1) * 4, none⟩) (n - i) dc, .slice (some ⟨b, i * 4, none⟩) (n - i) sc]).run Try.prog W = .ok (goInt (Nat.min (n - i) (n - i))) (W.setRow w.heap.size r2) := fun W hW ty' dc sc => by
    have hg : W.heap[w.heap.size]? = some (.cells r1 37 (0, 0)) := by rw [hW]; exact setRow_heap _ _ _ _ _ _ (heap_alloc_new w _)
    rw [hr2]
    refine run_copy_rowK _ W _ _ ty' 37 w.heap.size ((i + 1) * 4) (n - i) dc ⟨b, i * 4, none⟩ (n - i) sc r1 37 cs 4 hu hsz4 hg ?_ ?_ ?_ ?_
    · rw [hcl, show Nat.min (n - i) (n - i) = n - i by simp only [Nat.min_def]; split <;> omega]
    · intro j v hj
      rw [Addr.add_lit]
      rw [hcs, List.getElem?_drop] at hj
      have hlt : i * 4 + j < n * 4 := by
        rcases Nat.lt_or_ge (i * 4 + j) (n * 4) with q | q
        · exact q
        · rw [List.getElem?_take_eq_none q] at hj; cases hj
      rw [List.getElem?_take_of_lt hlt] at hj
      have e : W.heap[b]? = w.heap[b]? := by
        rw [hW, setRow_other _ _ _ _ (by omega)]; exact RowKit.Below.heap_alloc w _ b hbw
      simp only [World.cell?, e, hb]
      simpa using hj
    · rw [hcl, hr1z]; omega
    · intro v hv
      rw [hcs] at hv
      exact h1c v (List.mem_of_mem_drop hv)
  have hfin : r2.toList.take ((n + 1) * 4) = cur.toList.take (i * 4) ++ vs ++ (cur.toList.take (n * 4)).drop (i * 4) := by
    rw [← hcs, hr2, hr1, hROW]
    exact insG_list (by rw [List.length_take, Array.length_toList, hsz]; omega) hvl (by rw [hcl]; omega)
  clear hkk hik hold hROW hG hRl hr1 hr2 hcs hcn hink
  have hin : i ≤ n := by omega
  have hw1 : IntKind.i64.wrap ((i : Int) + (1 : Int)) = (i : Int) + (1 : Int) := by rw [IntKind.wrap_i64]; omega
  have hb1 : (0 : Int) ≤ (i : Int) + (1 : Int) := by omega
  have htn : ((i : Int) + (1 : Int)).toNat = i + 1 := by omega
  have hb3 : (i : Int) ≤ (n : Int) := by omega
  have hGi : ¬ (G = i) := by omega
  have hGim : ¬ (G = i + 1) := by omega
  have hci : ¬ (c = i) := by omega
  have hbN : b ≠ w.heap.size := by omega
  have hA := hcpA ((w.alloc (.cells ROW 37)).drew) rfl
  have hB := hcpB (((w.alloc (.cells ROW 37)).drew.setRow w.heap.size r1).drew) rfl
  clear hcpA hcpB
  go_enter Try.func25, Try.ntmps25
  go_wp2_with (first
    | (at_builtin; refine Lib.wpList_append_run _ rfl _ _ _ _ rfl _ _ rfl rfl _ _ (hrz _) ?_)
    | (at_builtin; refine wpList_copy_runI _ rfl _ _ 24 24 rfl _ _ rfl rfl (hA _ _) ?_))
  go_region_law_o (refine step_copy_runI rfl _ _ 24 24 rfl (.slice (some ⟨w.heap.size, (i + 1) * 4, none⟩) (n - i) (G - (i + 1))) (.slice (some ⟨b, i * 4, none⟩) (n - i) (c - i)) (by simp [Act.eval, Act.put]) (by simp [Act.eval, Act.put]) (hB 3 (G - (i + 1)) (c - i)) ?_)
  go_wp2
  go_ret
  refine ⟨G, r2, rfl, hGn, hGM, hfin, hr2z, ?_, fun m hm => ?_, ?_, rfl, rfl, rfl, ?_⟩
  · exact setRow_heap _ _ r1 _ _ _ (setRow_heap _ _ ROW _ _ _ (heap_alloc_new w _))
  · rw [setRow_other _ _ _ _ (by omega)]
    show ((w.alloc (.cells ROW 37)).setRow w.heap.size r1).heap[m]? = _
    rw [setRow_other _ _ _ _ (by omega)]
    exact RowKit.Below.heap_alloc w _ m hm
  · simp
  · simp; omega
theorem insE_slo (s : Option Addr) (n c vb vo vc : Nat) (v : Value) (w w1 : World) (hnc : n ≤ c) (hc63 : c ≤ 9223372036854775807) (hnil : s = none → n = 0 ∧ c = 0)
    (hrun : (Builtin.append_ #[24, 24] 24 #[.slice s n c, .slice (some ⟨vb, vo, none⟩) 1 vc]).run Try.prog w = .ok v w1) :
    Calls Try.prog 25 #[.slice s n c, .int .i64 n, .slice (some ⟨vb, vo, none⟩) 1 vc] w fun e w' => e = .returned v ∧ w' = w1 := by
  have mixed := mixed
  have hz1 : ¬ ((1 : Int) = 0) := by omega
  go_enter Try.func25, Try.ntmps25
  cases s with
  | none =>
    obtain ⟨rfl, rfl⟩ := hnil rfl
    go_wp2_with (at_builtin; refine Lib.wpList_append_run _ rfl _ _ _ _ rfl _ _ rfl rfl _ _ hrun ?_)
    go_ret
    exact ⟨rfl, rfl⟩
  | some a =>
    obtain ⟨ab, ao, asp⟩ := a
    go_wp2_with (at_builtin; refine Lib.wpList_append_run _ rfl _ _ _ _ rfl _ _ rfl rfl _ _ hrun ?_)
    all_goals (go_ret; exact ⟨rfl, rfl⟩)
theorem c_ins_slo {h : List Ch} {K : KT} {t u n : Nat} {xs : List Slo} {y : Slo} {i : Nat} (H : K (.sl h.length .slo 0 (n + 1)) (h.set t .gone ++ [.rows .slo (xs.take i ++ y :: xs.drop i)])) (o : hth h t = .rows .slo xs) (o1 : hth h u = .rows .slo [y]) (s1 : n = xs.length) (s2 : i ≤ n) (s3 : xs.length ≤ 1000000000) (s4 : t ≠ u) : Does Try.prog 25 [.sl t .slo 0 n, .int .i64 (i : Int), .sl u .slo 0 1] h K :=
  ins_ok (e := .slo) ⟨_, fn_25, rfl, rfl⟩ (T := 24) (E := 37) kd_24 sz_37 (by unfold zlenT; rw [ze_37]; rfl) (by rw [by_37]; decide) insE_slo insS_slo (by rw [by_37]; exact insG_slo) s1 s2 s3 s4 o o1 H
abbrev i_ins_slo := Ctr.mk (i := 0) (g := 25) @c_ins_slo
attribute [instance] i_ins_slo
end Go.V

set_option maxRecDepth 100000
set_option maxHeartbeats 1000000
namespace Go.Proofs
open Go.Shelf Go.Sort
shelf_lay_g SlLaysM.n5 Slgm 5 at Try 26 as Try.mSortZ
end Go.Proofs
namespace Go.V
open Go.Proofs Go.Sort
/-- the integers in order -/
def sortZ (l : List Int) : List Int := l.mergeSort fun x y => decide (x ≤ y)
theorem sortZ_len (l : List Int) : (sortZ l).length = l.length := List.length_mergeSort _
theorem sortZ_perm (l : List Int) : (sortZ l).Perm l := List.mergeSort_perm _ _
theorem ints_of {R : RO} : ∀ {xs : List Int} {l : List Value}, LRel R [] (xs.flatMap (Ety.enc .int)) l → l = xs.map (Value.int .i64)
  | [], _, h => by cases h; rfl
  | x :: xs, _, h => by
    rw [List.flatMap_cons] at h
    cases h with
    | cons h1 h2 =>
      cases h1
      rw [ints_of (xs := xs) h2]
      rfl
theorem of_ints {R : RO} : ∀ (xs : List Int), LRel R [] (xs.flatMap (Ety.enc .int)) (xs.map (Value.int .i64))
  | [] => .nil
  | _ :: xs => .cons .int (of_ints xs)
theorem sort_int {P : Program} {g : FuncId} (hr : Here P g)
    (hc : ∀ (blk off cap : Nat) (ss : List Int) (w : World), Holds (Value.int .i64) w blk off ss.toArray → blk < w.heap.size → ss.length < 4611686018427387904 →
      Calls P g #[.slice (some ⟨blk, off, none⟩) ss.length cap] w fun e w' => e = .returned (.tuple #[]) ∧ ∃ n os, w' = grow (putRow (Value.int .i64) (Sort.ahead w n) blk off (ss.mergeSort fun x y => decide (x ≤ y)).toArray) os)
    (hc0 : ∀ (p : Option Addr) (cap : Nat) (w : World), Calls P g #[.slice p 0 cap] w fun e w' => e = .returned (.tuple #[]) ∧ w' = w)
    {h : List Ch} {K : KT} {t : Nat} {xs : List Int} {n : Nat} (hn : n = xs.length) (hx : xs.length ≤ 1099511627776) (H : K (.tup []) (h.set t (.rows .int (sortZ xs)))) (o : hth h t = .rows .int xs) : Does P g [.sl t .int 0 n] h K := by
  refine ⟨hr, fun R μ w vs hv H0 => ?_⟩
  have hg := hth_get o (by simp)
  cases hv with
  | cons hv h2 =>
  cases h2
  have hz : n = 0 → K (.tup []) h := fun e => by
    rw [e] at hn
    have : xs = [] := List.eq_nil_of_length_eq_zero hn.symm
    subst this
    have hs : sortZ [] = [] := List.eq_nil_of_length_eq_zero (sortZ_len [])
    rw [hs, ← o, set_hth rfl (by rw [o]; simp)] at H
    exact H
  generalize hN : n = N at hv
  cases hv with
  | sl0 hl =>
    refine (hc0 _ _ _).mono ?_
    rintro e w' ⟨rfl, rfl⟩
    exact ⟨_, R, μ, h, .tup [], rfl, hz hN, .tup .nil, H0, Ext.refl _, Step.refl _ _ _⟩
  | sl h1 hcap hl hm =>
    rename_i b cap c
    obtain ⟨B, hB, hr1, hown⟩ := H0.rel.get hg
    have : B = .blk b cap := by rw [h1] at hB; exact (Option.some.inj hB).symm
    subst this
    rcases hr1 with ⟨hx, _⟩ | ⟨b', cap', arr, ty, hx, hb, hsz, hlen, hmx, hrel⟩
    · cases hx
    · cases hx
      rw [show Ety.sz .int = 1 from rfl, Nat.mul_one] at hrel hsz
      have ht := ints_of hrel
      have hH := holds_of_blockI hb ht
      have hbl : b < w.heap.size := (Array.getElem?_eq_some_iff.1 hb).1
      subst hN
      subst hn
      rw [Nat.zero_mul]
      refine (hc b 0 c xs w hH hbl (by omega)).mono ?_
      rintro e w' ⟨rfl, m, os, rfl⟩
      have hg2 := grownBy_sortedI (w := w) (g := b) (n := m) (os := os) (sortZ xs).toArray
      obtain ⟨g1, g2, g3, g4, g5⟩ := hg2
      obtain ⟨H1, hst⟩ := H0.set (w' := grow (putRow (Value.int .i64) (Sort.ahead w m) b 0 (sortZ xs).toArray) os) (c' := .rows .int (sortZ xs)) hg hB (by simp [ownC]) (fun k hk hne => g5 k hk (fun e => hne (by simp only [ownC, List.mem_singleton]; exact Option.some.inj e))) g4
        (.inr ⟨b, cap, _, ty, rfl, heap_sortedI _ hb, by simp only [putCells, Array.size_mapIdx, hsz]; exact (Nat.mul_one _).symm, by rw [sortZ_len]; exact hlen, hmx, by
          rw [show Ety.sz .int = 1 from rfl, Nat.mul_one, take_putCellsI arr _ (by rw [sortZ_len]; omega)]
          exact of_ints _⟩) rfl rfl rfl
      exact ⟨_, R, μ, _, .tup [], rfl, H, .tup .nil, H1, Ext.refl _, hst⟩
theorem c_sortz {h : List Ch} {K : KT} {t : Nat} {xs : List Int} {n : Nat} (H : K (.tup []) (h.set t (.rows .int (sortZ xs)))) (o : hth h t = .rows .int xs) (s1 : n = xs.length) (s2 : xs.length ≤ 1099511627776) : Does Try.prog 26 [.sl t .int 0 n] h K :=
  sort_int ⟨_, fn_26, rfl, rfl⟩ (AnyM.slices_Sort_int Try.mSortZ) (AnyM.slices_Sort_int_none Try.mSortZ) s1 s2 H o
abbrev i_sortz := Ctr.mk (i := 0) (g := 26) @c_sortz
attribute [instance] i_sortz
end Go.V

set_option maxRecDepth 100000
namespace Go.V
/-- the same of each key, in the same order -/
def KE (f : Int → Int) (xs ys : List Int) : Prop := ∀ k, xs.filter (fun a => decide (f a = k)) = ys.filter fun a => decide (f a = k)
theorem KE.refl {f : Int → Int} {xs : List Int} : KE f xs xs := fun _ => rfl
theorem KE.symm {f : Int → Int} {xs ys : List Int} (h : KE f xs ys) : KE f ys xs := fun k => (h k).symm
theorem KE.trans {f : Int → Int} {xs ys zs : List Int} (h : KE f xs ys) (g : KE f ys zs) : KE f xs zs := fun k => (h k).trans (g k)
theorem KE.app {f : Int → Int} {xs ys xs' ys' : List Int} (h : KE f xs ys) (g : KE f xs' ys') : KE f (xs ++ xs') (ys ++ ys') := fun k => by rw [List.filter_append, List.filter_append, h k, g k]
theorem KE.mem {f : Int → Int} {xs ys : List Int} (h : KE f xs ys) {a : Int} (ha : a ∈ xs) : a ∈ ys := by
  have := h (f a)
  have h1 : a ∈ xs.filter fun b => decide (f b = f a) := List.mem_filter.2 ⟨ha, by simp⟩
  rw [this] at h1
  exact (List.mem_filter.1 h1).1
theorem KE.cancel {f : Int → Int} {a b xs ys : List Int} (h : KE f (a ++ xs ++ b) (a ++ ys ++ b)) : KE f xs ys := fun k => by
  have := h k
  rw [List.filter_append, List.filter_append, List.filter_append, List.filter_append] at this
  exact List.append_cancel_left (List.append_cancel_right this)
theorem KE.cons {f : Int → Int} {a : Int} {xs ys : List Int} (h : KE f xs ys) : KE f (a :: xs) (a :: ys) := KE.app (xs := [a]) (ys := [a]) KE.refl h
theorem KE.two {f : Int → Int} {u v : Int} {B : List Int} (h : f u ≠ f v) : KE f (u :: v :: B) (v :: u :: B) := fun k => by
  by_cases hu : f u = k
  · have hv : f v ≠ k := fun e => h (hu.trans e.symm)
    simp [List.filter_cons, hu, hv]
  · simp only [List.filter_cons, hu, decide_false, Bool.false_eq_true, if_false]
/-- two neighbours change places -/
def swA (k : Nat) (zs : List Int) : List Int := (zs.set (k + 1) (zs.getD k 0)).set k (zs.getD (k + 1) 0)
theorem swA_cons {k : Nat} {x : Int} {zs : List Int} : swA (k + 1) (x :: zs) = x :: swA k zs := by unfold swA; simp
theorem KE_swap {f : Int → Int} : ∀ {k : Nat} {zs : List Int}, k + 1 < zs.length → f (zs.getD k 0) ≠ f (zs.getD (k + 1) 0) → KE f zs (swA k zs)
  | 0, [], h, _ => by simp at h
  | 0, [_], h, _ => by simp at h
  | 0, u :: v :: B, _, hk => KE.two hk
  | k + 1, [], h, _ => by simp at h
  | k + 1, x :: zs, h, hk => by
    rw [swA_cons]
    exact KE.cons (KE_swap (by simpa using h) (by simpa using hk))
theorem swA_len {k : Nat} {zs : List Int} : (swA k zs).length = zs.length := by unfold swA; simp
theorem swA_get {k : Nat} {zs : List Int} (h : k + 1 < zs.length) (i : Nat) : (swA k zs).getD i 0 = if i = k then zs.getD (k + 1) 0 else if i = k + 1 then zs.getD k 0 else zs.getD i 0 := by
  unfold swA
  by_cases e1 : i = k
  · subst e1
    rw [if_pos rfl, List.getD_eq_getElem?_getD, List.getElem?_set_self (by rw [List.length_set]; omega)]; rfl
  · rw [if_neg e1, List.getD_eq_getElem?_getD, List.getElem?_set_ne (by omega)]
    by_cases e2 : i = k + 1
    · subst e2
      rw [if_pos rfl, List.getElem?_set_self h]; rfl
    · rw [if_neg e2, List.getElem?_set_ne (by omega), List.getD_eq_getElem?_getD]
/-- insertion of one ahead of its equals -/
def insF (f : Int → Int) (x : Int) : List Int → List Int
  | [] => [x]
  | y :: ys => if f x ≤ f y then x :: y :: ys else y :: insF f x ys
def srt (f : Int → Int) : List Int → List Int
  | [] => []
  | x :: xs => insF f x (srt f xs)
def Srt (f : Int → Int) (l : List Int) : Prop := l.Pairwise fun a b => f a ≤ f b
theorem insF_KE {f : Int → Int} {x : Int} : ∀ {l : List Int}, KE f (insF f x l) (x :: l)
  | [] => KE.refl
  | y :: ys => by
    unfold insF
    split
    · exact KE.refl
    · exact (KE.cons insF_KE).trans (KE.two (by omega))
theorem srt_KE {f : Int → Int} : ∀ {l : List Int}, KE f (srt f l) l
  | [] => KE.refl
  | _ :: _ => insF_KE.trans (KE.cons srt_KE)
theorem insF_Srt {f : Int → Int} {x : Int} : ∀ {l : List Int}, Srt f l → Srt f (insF f x l)
  | [], _ => List.pairwise_singleton ..
  | y :: ys, h => by
    have h' := List.pairwise_cons.1 h
    unfold insF
    split
    · refine List.pairwise_cons.2 ⟨fun b hb => ?_, h⟩
      rcases List.mem_cons.1 hb with rfl | hb
      · assumption
      · have := h'.1 b hb; omega
    · refine List.pairwise_cons.2 ⟨fun b hb => ?_, insF_Srt h'.2⟩
      rcases List.mem_cons.1 (KE.mem insF_KE hb) with rfl | hb
      · omega
      · exact h'.1 b hb
theorem srt_Srt {f : Int → Int} : ∀ {l : List Int}, Srt f (srt f l)
  | [] => List.Pairwise.nil
  | _ :: _ => insF_Srt srt_Srt
theorem srt_uniq {f : Int → Int} : ∀ {xs ys : List Int}, Srt f xs → Srt f ys → KE f xs ys → xs = ys
  | [], [], _, _, _ => rfl
  | [], y :: ys, _, _, h => absurd (h.symm.mem (List.mem_cons_self)) (by simp)
  | x :: xs, [], _, _, h => absurd (h.mem (List.mem_cons_self)) (by simp)
  | x :: xs, y :: ys, hx, hy, h => by
    have hx' := List.pairwise_cons.1 hx
    have hy' := List.pairwise_cons.1 hy
    have e1 : f y ≤ f x := by
      rcases List.mem_cons.1 (h.mem (List.mem_cons_self (a := x))) with e | e
      · rw [e]; exact Int.le_refl _
      · exact hy'.1 _ e
    have e2 : f x ≤ f y := by
      rcases List.mem_cons.1 (h.symm.mem (List.mem_cons_self (a := y))) with e | e
      · rw [e]; exact Int.le_refl _
      · exact hx'.1 _ e
    have e : f x = f y := by omega
    have hk := h (f x)
    rw [List.filter_cons, List.filter_cons, if_pos (by simp), if_pos (by simp [e])] at hk
    obtain ⟨exy, _⟩ := List.cons.inj hk
    subst exy
    rw [srt_uniq hx'.2 hy'.2 (KE.cancel (a := [x]) (b := []) (by simpa using h))]
/-- the part from a to b is sorted, the rest stays -/
def srtR (f : Int → Int) (a b : Nat) (xs : List Int) : List Int := xs.take a ++ srt f ((xs.take b).drop a) ++ xs.drop b
theorem cut3 {a b : Nat} {xs : List Int} (hab : a ≤ b) : xs.take a ++ (xs.take b).drop a ++ xs.drop b = xs := by
  have e : xs.take a = (xs.take b).take a := by rw [List.take_take, Nat.min_eq_left hab]
  rw [e, List.take_append_drop, List.take_append_drop]
theorem srtR_uniq {f : Int → Int} {a b : Nat} {xs zs : List Int} (hab : a ≤ b) (hl : zs.length = xs.length) (hk : KE f xs zs) (h1 : zs.take a = xs.take a) (h2 : zs.drop b = xs.drop b)
    (hs : ∀ p q, a ≤ p → p < q → q < b → q < zs.length → f (zs.getD p 0) ≤ f (zs.getD q 0)) : zs = srtR f a b xs := by
  have hS : Srt f ((zs.take b).drop a) := by
    refine List.pairwise_iff_getElem.2 fun i j hi hj hij => ?_
    rw [List.length_drop, List.length_take] at hj
    have := hs (a + i) (a + j) (by omega) (by omega) (by omega) (by omega)
    rw [List.getElem_drop, List.getElem_take, List.getElem_drop, List.getElem_take]
    rw [List.getD_eq_getElem?_getD, List.getD_eq_getElem?_getD, List.getElem?_eq_getElem (by omega), List.getElem?_eq_getElem (by omega)] at this
    exact this
  have hK : KE f ((xs.take b).drop a) ((zs.take b).drop a) := by
    refine KE.cancel (a := xs.take a) (b := xs.drop b) ?_
    rw [cut3 hab]
    conv => rhs; rw [← h1, ← h2, cut3 hab]
    exact hk
  unfold srtR
  rw [srt_uniq srt_Srt hS (srt_KE.trans hK), ← h1, ← h2, cut3 hab]
end Go.V
