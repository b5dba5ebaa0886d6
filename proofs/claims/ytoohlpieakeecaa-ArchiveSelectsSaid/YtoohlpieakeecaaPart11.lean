/-
  T
  slices.SortFunc at elements of whatever kind: the shelf's contract over the abstract memory.
  Sets of integers as lists of ranges: the plain law.
-/
import Derived.Test.YtoohlpieakeecaaPart10
import Derived.Test.YtoohlpieakeecaaProg
import Derived.KernelRfl
import Derived.Shelf.SlSortCmp.WholeK
import Derived.Shelf.SlSortCmp.NoneTotal
import Derived.Sort.OwnSorted
set_option linter.unusedVariables false
set_option linter.unusedSimpArgs false
namespace Go.V
open Go.Proofs
theorem kd_2 : kdT Try.prog 2 = .int .i64 := by kernel_rfl
theorem sz_2 : szT Try.prog 2 = 1 := by kernel_rfl
theorem by_2 : bytesT Try.prog 2 = 8 := by kernel_rfl
theorem ze_2 : zeroT Try.prog 2 = some [.int .i64 0] := by kernel_rfl
theorem kd_3 : kdT Try.prog 3 = .int .i64 := by kernel_rfl
theorem sz_3 : szT Try.prog 3 = 1 := by kernel_rfl
theorem by_3 : bytesT Try.prog 3 = 8 := by kernel_rfl
theorem ze_3 : zeroT Try.prog 3 = some [.int .i64 0] := by kernel_rfl
theorem kd_4 : kdT Try.prog 4 = .bool := by kernel_rfl
theorem sz_4 : szT Try.prog 4 = 1 := by kernel_rfl
theorem by_4 : bytesT Try.prog 4 = 1 := by kernel_rfl
theorem ze_4 : zeroT Try.prog 4 = some [.bool false] := by kernel_rfl
theorem kd_5 : kdT Try.prog 5 = .int .u8 := by kernel_rfl
theorem sz_5 : szT Try.prog 5 = 1 := by kernel_rfl
theorem by_5 : bytesT Try.prog 5 = 1 := by kernel_rfl
theorem ze_5 : zeroT Try.prog 5 = some [.int .u8 0] := by kernel_rfl
theorem kd_6 : kdT Try.prog 6 = .int .u8 := by kernel_rfl
theorem sz_6 : szT Try.prog 6 = 1 := by kernel_rfl
theorem by_6 : bytesT Try.prog 6 = 1 := by kernel_rfl
theorem ze_6 : zeroT Try.prog 6 = some [.int .u8 0] := by kernel_rfl
theorem kd_7 : kdT Try.prog 7 = .struct := by kernel_rfl
theorem sz_7 : szT Try.prog 7 = 4 := by kernel_rfl
theorem by_7 : bytesT Try.prog 7 = 24 := by kernel_rfl
theorem ze_7 : zeroT Try.prog 7 = some [.int .i64 0, .int .i64 0, .bool false, .int .u8 0] := by kernel_rfl
theorem pl_7 : placesT Try.prog 7 = some [(0, 1), (1, 1), (2, 1), (3, 1)] := by kernel_rfl
theorem fl_7_0 : fldT Try.prog 7 0 = some (0, 2) := by kernel_rfl
theorem fl_7_1 : fldT Try.prog 7 1 = some (1, 3) := by kernel_rfl
theorem fl_7_2 : fldT Try.prog 7 2 = some (2, 4) := by kernel_rfl
theorem fl_7_3 : fldT Try.prog 7 3 = some (3, 6) := by kernel_rfl
theorem kd_8 : kdT Try.prog 8 = .struct := by kernel_rfl
theorem sz_8 : szT Try.prog 8 = 4 := by kernel_rfl
theorem by_8 : bytesT Try.prog 8 = 24 := by kernel_rfl
theorem ze_8 : zeroT Try.prog 8 = some [.int .i64 0, .int .i64 0, .bool false, .int .u8 0] := by kernel_rfl
theorem pl_8 : placesT Try.prog 8 = some [(0, 1), (1, 1), (2, 1), (3, 1)] := by kernel_rfl
theorem fl_8_0 : fldT Try.prog 8 0 = some (0, 2) := by kernel_rfl
theorem fl_8_1 : fldT Try.prog 8 1 = some (1, 3) := by kernel_rfl
theorem fl_8_2 : fldT Try.prog 8 2 = some (2, 4) := by kernel_rfl
theorem fl_8_3 : fldT Try.prog 8 3 = some (3, 6) := by kernel_rfl
theorem kd_9 : kdT Try.prog 9 = .str := by kernel_rfl
theorem sz_9 : szT Try.prog 9 = 1 := by kernel_rfl
theorem by_9 : bytesT Try.prog 9 = 16 := by kernel_rfl
theorem ze_9 : zeroT Try.prog 9 = some [.str []] := by kernel_rfl
theorem kd_10 : kdT Try.prog 10 = .str := by kernel_rfl
theorem sz_10 : szT Try.prog 10 = 1 := by kernel_rfl
theorem by_10 : bytesT Try.prog 10 = 16 := by kernel_rfl
theorem ze_10 : zeroT Try.prog 10 = some [.str []] := by kernel_rfl
theorem kd_11 : kdT Try.prog 11 = .str := by kernel_rfl
theorem sz_11 : szT Try.prog 11 = 1 := by kernel_rfl
theorem by_11 : bytesT Try.prog 11 = 16 := by kernel_rfl
theorem ze_11 : zeroT Try.prog 11 = some [.str []] := by kernel_rfl
theorem kd_12 : kdT Try.prog 12 = .int .u64 := by kernel_rfl
theorem sz_12 : szT Try.prog 12 = 1 := by kernel_rfl
theorem by_12 : bytesT Try.prog 12 = 8 := by kernel_rfl
theorem ze_12 : zeroT Try.prog 12 = some [.int .u64 0] := by kernel_rfl
theorem kd_13 : kdT Try.prog 13 = .struct := by kernel_rfl
theorem sz_13 : szT Try.prog 13 = 2 := by kernel_rfl
theorem by_13 : bytesT Try.prog 13 = 24 := by kernel_rfl
theorem ze_13 : zeroT Try.prog 13 = some [.str [], .int .u64 0] := by kernel_rfl
theorem pl_13 : placesT Try.prog 13 = some [(0, 1), (1, 1)] := by kernel_rfl
theorem fl_13_0 : fldT Try.prog 13 0 = some (0, 9) := by kernel_rfl
theorem fl_13_1 : fldT Try.prog 13 1 = some (1, 12) := by kernel_rfl
theorem kd_14 : kdT Try.prog 14 = .struct := by kernel_rfl
theorem sz_14 : szT Try.prog 14 = 2 := by kernel_rfl
theorem by_14 : bytesT Try.prog 14 = 24 := by kernel_rfl
theorem ze_14 : zeroT Try.prog 14 = some [.str [], .int .u64 0] := by kernel_rfl
theorem pl_14 : placesT Try.prog 14 = some [(0, 1), (1, 1)] := by kernel_rfl
theorem fl_14_0 : fldT Try.prog 14 0 = some (0, 9) := by kernel_rfl
theorem fl_14_1 : fldT Try.prog 14 1 = some (1, 12) := by kernel_rfl
theorem kd_15 : kdT Try.prog 15 = .ptr := by kernel_rfl
theorem sz_15 : szT Try.prog 15 = 1 := by kernel_rfl
theorem by_15 : bytesT Try.prog 15 = 8 := by kernel_rfl
theorem ze_15 : zeroT Try.prog 15 = some [.lit (.pointer none)] := by kernel_rfl
theorem kd_16 : kdT Try.prog 16 = .ptr := by kernel_rfl
theorem sz_16 : szT Try.prog 16 = 1 := by kernel_rfl
theorem by_16 : bytesT Try.prog 16 = 8 := by kernel_rfl
theorem ze_16 : zeroT Try.prog 16 = some [.lit (.pointer none)] := by kernel_rfl
theorem kd_17 : kdT Try.prog 17 = .ptr := by kernel_rfl
theorem sz_17 : szT Try.prog 17 = 1 := by kernel_rfl
theorem by_17 : bytesT Try.prog 17 = 8 := by kernel_rfl
theorem ze_17 : zeroT Try.prog 17 = some [.lit (.pointer none)] := by kernel_rfl
theorem kd_18 : kdT Try.prog 18 = .struct := by kernel_rfl
theorem sz_18 : szT Try.prog 18 = 1 := by kernel_rfl
theorem by_18 : bytesT Try.prog 18 = 8 := by kernel_rfl
theorem ze_18 : zeroT Try.prog 18 = some [.lit (.pointer none)] := by kernel_rfl
theorem pl_18 : placesT Try.prog 18 = some [(0, 1)] := by kernel_rfl
theorem fl_18_0 : fldT Try.prog 18 0 = some (0, 17) := by kernel_rfl
theorem kd_19 : kdT Try.prog 19 = .struct := by kernel_rfl
theorem sz_19 : szT Try.prog 19 = 1 := by kernel_rfl
theorem by_19 : bytesT Try.prog 19 = 8 := by kernel_rfl
theorem ze_19 : zeroT Try.prog 19 = some [.lit (.pointer none)] := by kernel_rfl
theorem pl_19 : placesT Try.prog 19 = some [(0, 1)] := by kernel_rfl
theorem fl_19_0 : fldT Try.prog 19 0 = some (0, 17) := by kernel_rfl
theorem kd_20 : kdT Try.prog 20 = .iface := by kernel_rfl
theorem sz_20 : szT Try.prog 20 = 1 := by kernel_rfl
theorem by_20 : bytesT Try.prog 20 = 16 := by kernel_rfl
theorem ze_20 : zeroT Try.prog 20 = some [.lit .nilIface] := by kernel_rfl
theorem kd_21 : kdT Try.prog 21 = .int .i32 := by kernel_rfl
theorem sz_21 : szT Try.prog 21 = 1 := by kernel_rfl
theorem by_21 : bytesT Try.prog 21 = 4 := by kernel_rfl
theorem ze_21 : zeroT Try.prog 21 = some [.int .i32 0] := by kernel_rfl
theorem kd_22 : kdT Try.prog 22 = .slice 3 := by kernel_rfl
theorem sz_22 : szT Try.prog 22 = 1 := by kernel_rfl
theorem by_22 : bytesT Try.prog 22 = 24 := by kernel_rfl
theorem ze_22 : zeroT Try.prog 22 = some [.lit (.slice none 0 0)] := by kernel_rfl
theorem kd_24 : kdT Try.prog 24 = .ptr := by kernel_rfl
theorem sz_24 : szT Try.prog 24 = 1 := by kernel_rfl
theorem by_24 : bytesT Try.prog 24 = 8 := by kernel_rfl
theorem ze_24 : zeroT Try.prog 24 = some [.lit (.pointer none)] := by kernel_rfl
theorem kd_26 : kdT Try.prog 26 = .slice 35 := by kernel_rfl
theorem sz_26 : szT Try.prog 26 = 1 := by kernel_rfl
theorem by_26 : bytesT Try.prog 26 = 24 := by kernel_rfl
theorem ze_26 : zeroT Try.prog 26 = some [.lit (.slice none 0 0)] := by kernel_rfl
theorem kd_27 : kdT Try.prog 27 = .int .i64 := by kernel_rfl
theorem sz_27 : szT Try.prog 27 = 1 := by kernel_rfl
theorem by_27 : bytesT Try.prog 27 = 8 := by kernel_rfl
theorem ze_27 : zeroT Try.prog 27 = some [.int .i64 0] := by kernel_rfl
theorem kd_29 : kdT Try.prog 29 = .slice 5 := by kernel_rfl
theorem sz_29 : szT Try.prog 29 = 1 := by kernel_rfl
theorem by_29 : bytesT Try.prog 29 = 24 := by kernel_rfl
theorem ze_29 : zeroT Try.prog 29 = some [.lit (.slice none 0 0)] := by kernel_rfl
theorem kd_30 : kdT Try.prog 30 = .struct := by kernel_rfl
theorem sz_30 : szT Try.prog 30 = 4 := by kernel_rfl
theorem by_30 : bytesT Try.prog 30 = 48 := by kernel_rfl
theorem ze_30 : zeroT Try.prog 30 = some [.int .i64 0, .int .i64 0, .int .i64 0, .lit (.slice none 0 0)] := by kernel_rfl
theorem pl_30 : placesT Try.prog 30 = some [(0, 1), (1, 1), (2, 1), (3, 1)] := by kernel_rfl
theorem fl_30_0 : fldT Try.prog 30 0 = some (0, 3) := by kernel_rfl
theorem fl_30_1 : fldT Try.prog 30 1 = some (1, 3) := by kernel_rfl
theorem fl_30_2 : fldT Try.prog 30 2 = some (2, 3) := by kernel_rfl
theorem fl_30_3 : fldT Try.prog 30 3 = some (3, 29) := by kernel_rfl
theorem kd_31 : kdT Try.prog 31 = .struct := by kernel_rfl
theorem sz_31 : szT Try.prog 31 = 4 := by kernel_rfl
theorem by_31 : bytesT Try.prog 31 = 48 := by kernel_rfl
theorem ze_31 : zeroT Try.prog 31 = some [.int .i64 0, .int .i64 0, .int .i64 0, .lit (.slice none 0 0)] := by kernel_rfl
theorem pl_31 : placesT Try.prog 31 = some [(0, 1), (1, 1), (2, 1), (3, 1)] := by kernel_rfl
theorem fl_31_0 : fldT Try.prog 31 0 = some (0, 3) := by kernel_rfl
theorem fl_31_1 : fldT Try.prog 31 1 = some (1, 3) := by kernel_rfl
theorem fl_31_2 : fldT Try.prog 31 2 = some (2, 3) := by kernel_rfl
theorem fl_31_3 : fldT Try.prog 31 3 = some (3, 29) := by kernel_rfl
theorem kd_34 : kdT Try.prog 34 = .struct := by kernel_rfl
theorem sz_34 : szT Try.prog 34 = 2 := by kernel_rfl
theorem by_34 : bytesT Try.prog 34 = 16 := by kernel_rfl
theorem ze_34 : zeroT Try.prog 34 = some [.int .i64 0, .int .i64 0] := by kernel_rfl
theorem pl_34 : placesT Try.prog 34 = some [(0, 1), (1, 1)] := by kernel_rfl
theorem fl_34_0 : fldT Try.prog 34 0 = some (0, 3) := by kernel_rfl
theorem fl_34_1 : fldT Try.prog 34 1 = some (1, 3) := by kernel_rfl
theorem kd_35 : kdT Try.prog 35 = .struct := by kernel_rfl
theorem sz_35 : szT Try.prog 35 = 2 := by kernel_rfl
theorem by_35 : bytesT Try.prog 35 = 16 := by kernel_rfl
theorem ze_35 : zeroT Try.prog 35 = some [.int .i64 0, .int .i64 0] := by kernel_rfl
theorem pl_35 : placesT Try.prog 35 = some [(0, 1), (1, 1)] := by kernel_rfl
theorem fs_35 : fldsT Try.prog 35 = some [(0, 3), (1, 3)] := by kernel_rfl
theorem fl_35_0 : fldT Try.prog 35 0 = some (0, 3) := by kernel_rfl
theorem fl_35_1 : fldT Try.prog 35 1 = some (1, 3) := by kernel_rfl
theorem kd_40 : kdT Try.prog 40 = .slice 31 := by kernel_rfl
theorem sz_40 : szT Try.prog 40 = 1 := by kernel_rfl
theorem by_40 : bytesT Try.prog 40 = 24 := by kernel_rfl
theorem ze_40 : zeroT Try.prog 40 = some [.lit (.slice none 0 0)] := by kernel_rfl
theorem kd_46 : kdT Try.prog 46 = .slice 77 := by kernel_rfl
theorem sz_46 : szT Try.prog 46 = 1 := by kernel_rfl
theorem by_46 : bytesT Try.prog 46 = 24 := by kernel_rfl
theorem ze_46 : zeroT Try.prog 46 = some [.lit (.slice none 0 0)] := by kernel_rfl
theorem kd_55 : kdT Try.prog 55 = .slice 63 := by kernel_rfl
theorem sz_55 : szT Try.prog 55 = 1 := by kernel_rfl
theorem by_55 : bytesT Try.prog 55 = 24 := by kernel_rfl
theorem ze_55 : zeroT Try.prog 55 = some [.lit (.slice none 0 0)] := by kernel_rfl
theorem kd_56 : kdT Try.prog 56 = .struct := by kernel_rfl
theorem sz_56 : szT Try.prog 56 = 2 := by kernel_rfl
theorem by_56 : bytesT Try.prog 56 = 32 := by kernel_rfl
theorem ze_56 : zeroT Try.prog 56 = some [.bool false, .lit (.slice none 0 0)] := by kernel_rfl
theorem pl_56 : placesT Try.prog 56 = some [(0, 1), (1, 1)] := by kernel_rfl
theorem fl_56_0 : fldT Try.prog 56 0 = some (0, 4) := by kernel_rfl
theorem fl_56_1 : fldT Try.prog 56 1 = some (1, 55) := by kernel_rfl
theorem kd_57 : kdT Try.prog 57 = .struct := by kernel_rfl
theorem sz_57 : szT Try.prog 57 = 2 := by kernel_rfl
theorem by_57 : bytesT Try.prog 57 = 32 := by kernel_rfl
theorem ze_57 : zeroT Try.prog 57 = some [.bool false, .lit (.slice none 0 0)] := by kernel_rfl
theorem pl_57 : placesT Try.prog 57 = some [(0, 1), (1, 1)] := by kernel_rfl
theorem fl_57_0 : fldT Try.prog 57 0 = some (0, 4) := by kernel_rfl
theorem fl_57_1 : fldT Try.prog 57 1 = some (1, 55) := by kernel_rfl
theorem kd_61 : kdT Try.prog 61 = .slice 66 := by kernel_rfl
theorem sz_61 : szT Try.prog 61 = 1 := by kernel_rfl
theorem by_61 : bytesT Try.prog 61 = 24 := by kernel_rfl
theorem ze_61 : zeroT Try.prog 61 = some [.lit (.slice none 0 0)] := by kernel_rfl
theorem kd_62 : kdT Try.prog 62 = .struct := by kernel_rfl
theorem sz_62 : szT Try.prog 62 = 2 := by kernel_rfl
theorem by_62 : bytesT Try.prog 62 = 32 := by kernel_rfl
theorem ze_62 : zeroT Try.prog 62 = some [.int .i64 0, .lit (.slice none 0 0)] := by kernel_rfl
theorem pl_62 : placesT Try.prog 62 = some [(0, 1), (1, 1)] := by kernel_rfl
theorem fl_62_0 : fldT Try.prog 62 0 = some (0, 3) := by kernel_rfl
theorem fl_62_1 : fldT Try.prog 62 1 = some (1, 61) := by kernel_rfl
theorem kd_63 : kdT Try.prog 63 = .struct := by kernel_rfl
theorem sz_63 : szT Try.prog 63 = 2 := by kernel_rfl
theorem by_63 : bytesT Try.prog 63 = 32 := by kernel_rfl
theorem ze_63 : zeroT Try.prog 63 = some [.int .i64 0, .lit (.slice none 0 0)] := by kernel_rfl
theorem pl_63 : placesT Try.prog 63 = some [(0, 1), (1, 1)] := by kernel_rfl
theorem fl_63_0 : fldT Try.prog 63 0 = some (0, 3) := by kernel_rfl
theorem fl_63_1 : fldT Try.prog 63 1 = some (1, 61) := by kernel_rfl
theorem kd_65 : kdT Try.prog 65 = .struct := by kernel_rfl
theorem sz_65 : szT Try.prog 65 = 5 := by kernel_rfl
theorem by_65 : bytesT Try.prog 65 = 56 := by kernel_rfl
theorem ze_65 : zeroT Try.prog 65 = some [.int .i64 0, .int .i64 0, .int .i64 0, .int .i64 0, .lit (.slice none 0 0)] := by kernel_rfl
theorem pl_65 : placesT Try.prog 65 = some [(0, 1), (1, 4)] := by kernel_rfl
theorem fl_65_0 : fldT Try.prog 65 0 = some (0, 3) := by kernel_rfl
theorem fl_65_1 : fldT Try.prog 65 1 = some (1, 31) := by kernel_rfl
theorem kd_66 : kdT Try.prog 66 = .struct := by kernel_rfl
theorem sz_66 : szT Try.prog 66 = 5 := by kernel_rfl
theorem by_66 : bytesT Try.prog 66 = 56 := by kernel_rfl
theorem ze_66 : zeroT Try.prog 66 = some [.int .i64 0, .int .i64 0, .int .i64 0, .int .i64 0, .lit (.slice none 0 0)] := by kernel_rfl
theorem pl_66 : placesT Try.prog 66 = some [(0, 1), (1, 4)] := by kernel_rfl
theorem fl_66_0 : fldT Try.prog 66 0 = some (0, 3) := by kernel_rfl
theorem fl_66_1 : fldT Try.prog 66 1 = some (1, 31) := by kernel_rfl
theorem kd_67 : kdT Try.prog 67 = .ptr := by kernel_rfl
theorem sz_67 : szT Try.prog 67 = 1 := by kernel_rfl
theorem by_67 : bytesT Try.prog 67 = 8 := by kernel_rfl
theorem ze_67 : zeroT Try.prog 67 = some [.lit (.pointer none)] := by kernel_rfl
theorem kd_73 : kdT Try.prog 73 = .int .u64 := by kernel_rfl
theorem sz_73 : szT Try.prog 73 = 1 := by kernel_rfl
theorem by_73 : bytesT Try.prog 73 = 8 := by kernel_rfl
theorem ze_73 : zeroT Try.prog 73 = some [.int .u64 0] := by kernel_rfl
theorem kd_76 : kdT Try.prog 76 = .struct := by kernel_rfl
theorem sz_76 : szT Try.prog 76 = 5 := by kernel_rfl
theorem by_76 : bytesT Try.prog 76 = 56 := by kernel_rfl
theorem ze_76 : zeroT Try.prog 76 = some [.int .i64 0, .int .i64 0, .int .i64 0, .lit (.slice none 0 0), .int .i64 0] := by kernel_rfl
theorem pl_76 : placesT Try.prog 76 = some [(0, 4), (4, 1)] := by kernel_rfl
theorem fl_76_0 : fldT Try.prog 76 0 = some (0, 31) := by kernel_rfl
theorem fl_76_1 : fldT Try.prog 76 1 = some (4, 3) := by kernel_rfl
theorem kd_77 : kdT Try.prog 77 = .struct := by kernel_rfl
theorem sz_77 : szT Try.prog 77 = 5 := by kernel_rfl
theorem by_77 : bytesT Try.prog 77 = 56 := by kernel_rfl
theorem ze_77 : zeroT Try.prog 77 = some [.int .i64 0, .int .i64 0, .int .i64 0, .lit (.slice none 0 0), .int .i64 0] := by kernel_rfl
theorem pl_77 : placesT Try.prog 77 = some [(0, 4), (4, 1)] := by kernel_rfl
theorem fl_77_0 : fldT Try.prog 77 0 = some (0, 31) := by kernel_rfl
theorem fl_77_1 : fldT Try.prog 77 1 = some (4, 3) := by kernel_rfl
theorem kd_103 : kdT Try.prog 103 = .int .u64 := by kernel_rfl
theorem sz_103 : szT Try.prog 103 = 1 := by kernel_rfl
theorem by_103 : bytesT Try.prog 103 = 8 := by kernel_rfl
theorem ze_103 : zeroT Try.prog 103 = some [.int .u64 0] := by kernel_rfl
theorem kd_106 : kdT Try.prog 106 = .int .i64 := by kernel_rfl
theorem sz_106 : szT Try.prog 106 = 1 := by kernel_rfl
theorem by_106 : bytesT Try.prog 106 = 8 := by kernel_rfl
theorem ze_106 : zeroT Try.prog 106 = some [.int .i64 0] := by kernel_rfl
theorem kd_113 : kdT Try.prog 113 = .int .u32 := by kernel_rfl
theorem sz_113 : szT Try.prog 113 = 1 := by kernel_rfl
theorem by_113 : bytesT Try.prog 113 = 4 := by kernel_rfl
theorem ze_113 : zeroT Try.prog 113 = some [.int .u32 0] := by kernel_rfl
theorem kd_115 : kdT Try.prog 115 = .int .u64 := by kernel_rfl
theorem sz_115 : szT Try.prog 115 = 1 := by kernel_rfl
theorem by_115 : bytesT Try.prog 115 = 8 := by kernel_rfl
theorem ze_115 : zeroT Try.prog 115 = some [.int .u64 0] := by kernel_rfl
theorem kd_119 : kdT Try.prog 119 = .ptr := by kernel_rfl
theorem sz_119 : szT Try.prog 119 = 1 := by kernel_rfl
theorem by_119 : bytesT Try.prog 119 = 8 := by kernel_rfl
theorem ze_119 : zeroT Try.prog 119 = some [.lit (.pointer none)] := by kernel_rfl
theorem kd_121 : kdT Try.prog 121 = .ptr := by kernel_rfl
theorem sz_121 : szT Try.prog 121 = 1 := by kernel_rfl
theorem by_121 : bytesT Try.prog 121 = 8 := by kernel_rfl
theorem ze_121 : zeroT Try.prog 121 = some [.lit (.pointer none)] := by kernel_rfl
theorem kd_125 : kdT Try.prog 125 = .struct := by kernel_rfl
theorem sz_125 : szT Try.prog 125 = 4 := by kernel_rfl
theorem by_125 : bytesT Try.prog 125 = 40 := by kernel_rfl
theorem ze_125 : zeroT Try.prog 125 = some [.lit (.pointer none), .lit (.pointer none), .lit (.pointer none), .str []] := by kernel_rfl
theorem pl_125 : placesT Try.prog 125 = some [(0, 1), (1, 1), (2, 1), (3, 1)] := by kernel_rfl
theorem fl_125_0 : fldT Try.prog 125 0 = some (0, 17) := by kernel_rfl
theorem fl_125_1 : fldT Try.prog 125 1 = some (1, 17) := by kernel_rfl
theorem fl_125_2 : fldT Try.prog 125 2 = some (2, 17) := by kernel_rfl
theorem fl_125_3 : fldT Try.prog 125 3 = some (3, 9) := by kernel_rfl
theorem kd_126 : kdT Try.prog 126 = .struct := by kernel_rfl
theorem sz_126 : szT Try.prog 126 = 4 := by kernel_rfl
theorem by_126 : bytesT Try.prog 126 = 40 := by kernel_rfl
theorem ze_126 : zeroT Try.prog 126 = some [.lit (.pointer none), .lit (.pointer none), .lit (.pointer none), .str []] := by kernel_rfl
theorem pl_126 : placesT Try.prog 126 = some [(0, 1), (1, 1), (2, 1), (3, 1)] := by kernel_rfl
theorem fl_126_0 : fldT Try.prog 126 0 = some (0, 17) := by kernel_rfl
theorem fl_126_1 : fldT Try.prog 126 1 = some (1, 17) := by kernel_rfl
theorem fl_126_2 : fldT Try.prog 126 2 = some (2, 17) := by kernel_rfl
theorem fl_126_3 : fldT Try.prog 126 3 = some (3, 9) := by kernel_rfl
theorem kd_127 : kdT Try.prog 127 = .array 0 16 := by kernel_rfl
theorem sz_127 : szT Try.prog 127 = 0 := by kernel_rfl
theorem by_127 : bytesT Try.prog 127 = 0 := by kernel_rfl
theorem ze_127 : zeroT Try.prog 127 = some [] := by kernel_rfl
theorem kd_128 : kdT Try.prog 128 = .struct := by kernel_rfl
theorem sz_128 : szT Try.prog 128 = 0 := by kernel_rfl
theorem by_128 : bytesT Try.prog 128 = 0 := by kernel_rfl
theorem ze_128 : zeroT Try.prog 128 = some [] := by kernel_rfl
theorem pl_128 : placesT Try.prog 128 = some [(0, 0)] := by kernel_rfl
theorem kd_129 : kdT Try.prog 129 = .struct := by kernel_rfl
theorem sz_129 : szT Try.prog 129 = 0 := by kernel_rfl
theorem by_129 : bytesT Try.prog 129 = 0 := by kernel_rfl
theorem ze_129 : zeroT Try.prog 129 = some [] := by kernel_rfl
theorem pl_129 : placesT Try.prog 129 = some [(0, 0)] := by kernel_rfl
theorem kd_130 : kdT Try.prog 130 = .int .u8 := by kernel_rfl
theorem sz_130 : szT Try.prog 130 = 1 := by kernel_rfl
theorem by_130 : bytesT Try.prog 130 = 1 := by kernel_rfl
theorem ze_130 : zeroT Try.prog 130 = some [.int .u8 0] := by kernel_rfl
theorem kd_131 : kdT Try.prog 131 = .int .u8 := by kernel_rfl
theorem sz_131 : szT Try.prog 131 = 1 := by kernel_rfl
theorem by_131 : bytesT Try.prog 131 = 1 := by kernel_rfl
theorem ze_131 : zeroT Try.prog 131 = some [.int .u8 0] := by kernel_rfl
theorem kd_133 : kdT Try.prog 133 = .ptr := by kernel_rfl
theorem sz_133 : szT Try.prog 133 = 1 := by kernel_rfl
theorem by_133 : bytesT Try.prog 133 = 8 := by kernel_rfl
theorem ze_133 : zeroT Try.prog 133 = some [.lit (.pointer none)] := by kernel_rfl
theorem kd_134 : kdT Try.prog 134 = .int .i32 := by kernel_rfl
theorem sz_134 : szT Try.prog 134 = 1 := by kernel_rfl
theorem by_134 : bytesT Try.prog 134 = 4 := by kernel_rfl
theorem ze_134 : zeroT Try.prog 134 = some [.int .i32 0] := by kernel_rfl
theorem kd_135 : kdT Try.prog 135 = .int .i32 := by kernel_rfl
theorem sz_135 : szT Try.prog 135 = 1 := by kernel_rfl
theorem by_135 : bytesT Try.prog 135 = 4 := by kernel_rfl
theorem ze_135 : zeroT Try.prog 135 = some [.int .i32 0] := by kernel_rfl
theorem kd_136 : kdT Try.prog 136 = .struct := by kernel_rfl
theorem sz_136 : szT Try.prog 136 = 11 := by kernel_rfl
theorem by_136 : bytesT Try.prog 136 = 48 := by kernel_rfl
theorem ze_136 : zeroT Try.prog 136 = some [.int .u64 0, .int .u64 0, .int .u32 0, .int .u8 0, .int .u8 0, .int .u8 0, .int .u8 0, .lit .nilFunc, .lit (.pointer none), .int .i32 0, .int .i32 0] := by kernel_rfl
theorem pl_136 : placesT Try.prog 136 = some [(0, 1), (1, 1), (2, 1), (3, 1), (4, 1), (5, 1), (6, 1), (7, 1), (8, 1), (9, 1), (10, 1)] := by kernel_rfl
theorem fl_136_0 : fldT Try.prog 136 0 = some (0, 12) := by kernel_rfl
theorem fl_136_1 : fldT Try.prog 136 1 = some (1, 12) := by kernel_rfl
theorem fl_136_2 : fldT Try.prog 136 2 = some (2, 113) := by kernel_rfl
theorem fl_136_3 : fldT Try.prog 136 3 = some (3, 130) := by kernel_rfl
theorem fl_136_4 : fldT Try.prog 136 4 = some (4, 5) := by kernel_rfl
theorem fl_136_5 : fldT Try.prog 136 5 = some (5, 5) := by kernel_rfl
theorem fl_136_6 : fldT Try.prog 136 6 = some (6, 131) := by kernel_rfl
theorem fl_136_7 : fldT Try.prog 136 7 = some (7, 132) := by kernel_rfl
theorem fl_136_8 : fldT Try.prog 136 8 = some (8, 133) := by kernel_rfl
theorem fl_136_9 : fldT Try.prog 136 9 = some (9, 134) := by kernel_rfl
theorem fl_136_10 : fldT Try.prog 136 10 = some (10, 135) := by kernel_rfl
theorem kd_137 : kdT Try.prog 137 = .struct := by kernel_rfl
theorem sz_137 : szT Try.prog 137 = 11 := by kernel_rfl
theorem by_137 : bytesT Try.prog 137 = 48 := by kernel_rfl
theorem ze_137 : zeroT Try.prog 137 = some [.int .u64 0, .int .u64 0, .int .u32 0, .int .u8 0, .int .u8 0, .int .u8 0, .int .u8 0, .lit .nilFunc, .lit (.pointer none), .int .i32 0, .int .i32 0] := by kernel_rfl
theorem pl_137 : placesT Try.prog 137 = some [(0, 1), (1, 1), (2, 1), (3, 1), (4, 1), (5, 1), (6, 1), (7, 1), (8, 1), (9, 1), (10, 1)] := by kernel_rfl
theorem fl_137_0 : fldT Try.prog 137 0 = some (0, 12) := by kernel_rfl
theorem fl_137_1 : fldT Try.prog 137 1 = some (1, 12) := by kernel_rfl
theorem fl_137_2 : fldT Try.prog 137 2 = some (2, 113) := by kernel_rfl
theorem fl_137_3 : fldT Try.prog 137 3 = some (3, 130) := by kernel_rfl
theorem fl_137_4 : fldT Try.prog 137 4 = some (4, 5) := by kernel_rfl
theorem fl_137_5 : fldT Try.prog 137 5 = some (5, 5) := by kernel_rfl
theorem fl_137_6 : fldT Try.prog 137 6 = some (6, 131) := by kernel_rfl
theorem fl_137_7 : fldT Try.prog 137 7 = some (7, 132) := by kernel_rfl
theorem fl_137_8 : fldT Try.prog 137 8 = some (8, 133) := by kernel_rfl
theorem fl_137_9 : fldT Try.prog 137 9 = some (9, 134) := by kernel_rfl
theorem fl_137_10 : fldT Try.prog 137 10 = some (10, 135) := by kernel_rfl
instance : ETab := ⟨fun t => if t = 22 then some .int else if t = 29 then some .byte else if t = 26 then some .rng else if t = 40 then some .itm else if t = 61 then some .ent else if t = 46 then some .ren else none, fun t => none⟩
theorem et_22 : ETab.of 22 = some .int := rfl
theorem et_29 : ETab.of 29 = some .byte := rfl
theorem et_26 : ETab.of 26 = some .rng := rfl
theorem et_40 : ETab.of 40 = some .itm := rfl
theorem et_61 : ETab.of 61 = some .ent := rfl
theorem et_46 : ETab.of 46 = some .ren := rfl
theorem mixed : Try.prog.follows .mixedOrders = true := by kernel_rfl
theorem fn_6 : Try.prog.funcs[6]? = some Try.f6 := by kernel_rfl -- spacecraft/spacecraftlaw52.ArchiveSelects
theorem fn_8 : Try.prog.funcs[8]? = some Try.f8 := by kernel_rfl -- spacecraft/spacecraftlaw52.alive
theorem fn_9 : Try.prog.funcs[9]? = some Try.f9 := by kernel_rfl -- spacecraft/archive.New
theorem fn_10 : Try.prog.funcs[10]? = some Try.f10 := by kernel_rfl -- (*spacecraft/archive.Archive).Add
theorem fn_13 : Try.prog.funcs[13]? = some Try.f13 := by kernel_rfl -- (*spacecraft/archive.Archive).Gaps
theorem fn_14 : Try.prog.funcs[14]? = some Try.f14 := by kernel_rfl -- (*spacecraft/archive.Archive).Len
theorem fn_17 : Try.prog.funcs[17]? = some Try.f17 := by kernel_rfl -- spacecraft/spacecraftlaw52.few
theorem fn_18 : Try.prog.funcs[18]? = some Try.f18 := by kernel_rfl -- spacecraft/spacecraftref07.Same
theorem fn_19 : Try.prog.funcs[19]? = some Try.f19 := by kernel_rfl -- spacecraft/spacecraftref52.Lists
theorem fn_20 : Try.prog.funcs[20]? = some Try.f20 := by kernel_rfl -- (*spacecraft/archive.Archive).Items
theorem fn_21 : Try.prog.funcs[21]? = some Try.f21 := by kernel_rfl -- spacecraft/spacecraftref52.Add
theorem fn_25 : Try.prog.funcs[25]? = some Try.f25 := by kernel_rfl -- (*spacecraft/archive.Archive).Between
theorem fn_26 : Try.prog.funcs[26]? = some Try.f26 := by kernel_rfl -- spacecraft/spacecraftref52.Between
theorem fn_27 : Try.prog.funcs[27]? = some Try.f27 := by kernel_rfl -- (*spacecraft/archive.Archive).valid
theorem fn_28 : Try.prog.funcs[28]? = some Try.f28 := by kernel_rfl -- spacecraft/archive.right
theorem fn_29 : Try.prog.funcs[29]? = some Try.f29 := by kernel_rfl -- (*spacecraft/archive.Archive).find
theorem fn_30 : Try.prog.funcs[30]? = some Try.f30 := by kernel_rfl -- slices.Insert[[]spacecraft/archive.process,spacecraft/archive.process]
theorem fn_31 : Try.prog.funcs[31]? = some Try.f31 := by kernel_rfl -- spacecraft/archive.duplicate
theorem fn_32 : Try.prog.funcs[32]? = some Try.f32 := by kernel_rfl -- spacecraft/archive.extended
theorem fn_33 : Try.prog.funcs[33]? = some Try.f33 := by kernel_rfl -- bytes.Equal
theorem fn_34 : Try.prog.funcs[34]? = some Try.f34 := by kernel_rfl -- slices.Insert[[]spacecraft/archive.entry,spacecraft/archive.entry]
theorem fn_37 : Try.prog.funcs[37]? = some Try.f37 := by kernel_rfl -- (*spacecraft/archive.Archive).entries
theorem fn_38 : Try.prog.funcs[38]? = some Try.f38 := by kernel_rfl -- spacecraft/ranges.Add
theorem fn_39 : Try.prog.funcs[39]? = some Try.f39 := by kernel_rfl -- spacecraft/ranges.Remove
theorem fn_40 : Try.prog.funcs[40]? = some Try.f40 := by kernel_rfl -- spacecraft/spacecraftref52.Same
theorem fn_41 : Try.prog.funcs[41]? = some Try.f41 := by kernel_rfl -- spacecraft/spacecraftref52.Extend
theorem fn_43 : Try.prog.funcs[43]? = some Try.f43 := by kernel_rfl -- spacecraft/spacecraftref52.sorted
theorem fn_46 : Try.prog.funcs[46]? = some Try.f46 := by kernel_rfl -- slices.SortStableFunc[[]spacecraft/api.Item,spacecraft/api.Item]
theorem fn_47 : Try.prog.funcs[47]? = some Try.f47 := by kernel_rfl -- (*spacecraft/archive.Archive).Between$1
theorem fn_50 : Try.prog.funcs[50]? = some Try.f50 := by kernel_rfl -- slices.Clone[[]byte,byte]
theorem fn_51 : Try.prog.funcs[51]? = some Try.f51 := by kernel_rfl -- spacecraft/serial.Distance
theorem fn_54 : Try.prog.funcs[54]? = some Try.f54 := by kernel_rfl -- spacecraft/ranges.normal
theorem fn_55 : Try.prog.funcs[55]? = some Try.f55 := by kernel_rfl -- slices.Clone[[]spacecraft/api.Range,spacecraft/api.Range]
theorem fn_56 : Try.prog.funcs[56]? = some Try.f56 := by kernel_rfl -- spacecraft/spacecraftref52.before
theorem fn_57 : Try.prog.funcs[57]? = some Try.f57 := by kernel_rfl -- slices.stableCmpFunc[spacecraft/api.Item]
theorem fn_59 : Try.prog.funcs[59]? = some Try.f59 := by kernel_rfl -- spacecraft/serial.Valid
theorem fn_60 : Try.prog.funcs[60]? = some Try.f60 := by kernel_rfl -- spacecraft/serial.Add
theorem fn_62 : Try.prog.funcs[62]? = some Try.f62 := by kernel_rfl -- slices.DeleteFunc[[]spacecraft/api.Range,spacecraft/api.Range]
theorem fn_63 : Try.prog.funcs[63]? = some Try.f63 := by kernel_rfl -- spacecraft/ranges.normal$1
theorem fn_64 : Try.prog.funcs[64]? = some Try.f64 := by kernel_rfl -- slices.SortFunc[[]spacecraft/api.Range,spacecraft/api.Range]
theorem fn_67 : Try.prog.funcs[67]? = some Try.f67 := by kernel_rfl -- slices.insertionSortCmpFunc[spacecraft/api.Item]
theorem fn_68 : Try.prog.funcs[68]? = some Try.f68 := by kernel_rfl -- slices.symMergeCmpFunc[spacecraft/api.Item]
theorem fn_71 : Try.prog.funcs[71]? = some Try.f71 := by kernel_rfl -- slices.IndexFunc[[]spacecraft/api.Range,spacecraft/api.Range]
theorem fn_75 : Try.prog.funcs[75]? = some Try.f75 := by kernel_rfl -- slices.rotateCmpFunc[spacecraft/api.Item]
theorem fn_86 : Try.prog.funcs[86]? = some Try.f86 := by kernel_rfl -- slices.swapRangeCmpFunc[spacecraft/api.Item]
attribute [go_sem] kd_2 sz_2 by_2 ze_2 kd_3 sz_3 by_3 ze_3 kd_4 sz_4 by_4 ze_4 kd_5 sz_5 by_5 ze_5 kd_6 sz_6 by_6 ze_6 kd_7 sz_7 by_7 ze_7 pl_7 fl_7_0 fl_7_1 fl_7_2 fl_7_3 kd_8 sz_8 by_8 ze_8 pl_8 fl_8_0 fl_8_1 fl_8_2 fl_8_3 kd_9 sz_9 by_9 ze_9 kd_10 sz_10 by_10 ze_10 kd_11 sz_11 by_11 ze_11 kd_12 sz_12 by_12 ze_12 kd_13 sz_13 by_13 ze_13 pl_13 fl_13_0 fl_13_1 kd_14 sz_14 by_14 ze_14 pl_14 fl_14_0 fl_14_1 kd_15 sz_15 by_15 ze_15 kd_16 sz_16 by_16 ze_16 kd_17 sz_17 by_17 ze_17 kd_18 sz_18 by_18 ze_18 pl_18 fl_18_0 kd_19 sz_19 by_19 ze_19 pl_19 fl_19_0 kd_20 sz_20 by_20 ze_20 kd_21 sz_21 by_21 ze_21 kd_22 sz_22 by_22 ze_22 kd_24 sz_24 by_24 ze_24 kd_26 sz_26 by_26 ze_26 kd_27 sz_27 by_27 ze_27 kd_29 sz_29 by_29 ze_29 kd_30 sz_30 by_30 ze_30 pl_30 fl_30_0 fl_30_1 fl_30_2 fl_30_3 kd_31 sz_31 by_31 ze_31 pl_31 fl_31_0 fl_31_1 fl_31_2 fl_31_3 kd_34 sz_34 by_34 ze_34 pl_34 fl_34_0 fl_34_1 kd_35 sz_35 by_35 ze_35 pl_35 fs_35 fl_35_0 fl_35_1 kd_40 sz_40 by_40 ze_40 kd_46 sz_46 by_46 ze_46 kd_55 sz_55 by_55 ze_55 kd_56 sz_56 by_56 ze_56 pl_56 fl_56_0 fl_56_1 kd_57 sz_57 by_57 ze_57 pl_57 fl_57_0 fl_57_1 kd_61 sz_61 by_61 ze_61 kd_62 sz_62 by_62 ze_62 pl_62 fl_62_0 fl_62_1 kd_63 sz_63 by_63 ze_63 pl_63 fl_63_0 fl_63_1 kd_65 sz_65 by_65 ze_65 pl_65 fl_65_0 fl_65_1 kd_66 sz_66 by_66 ze_66 pl_66 fl_66_0 fl_66_1 kd_67 sz_67 by_67 ze_67 kd_73 sz_73 by_73 ze_73 kd_76 sz_76 by_76 ze_76 pl_76 fl_76_0 fl_76_1 kd_77 sz_77 by_77 ze_77 pl_77 fl_77_0 fl_77_1 kd_103 sz_103 by_103 ze_103 kd_106 sz_106 by_106 ze_106 kd_113 sz_113 by_113 ze_113 kd_115 sz_115 by_115 ze_115 kd_119 sz_119 by_119 ze_119 kd_121 sz_121 by_121 ze_121 kd_125 sz_125 by_125 ze_125 pl_125 fl_125_0 fl_125_1 fl_125_2 fl_125_3 kd_126 sz_126 by_126 ze_126 pl_126 fl_126_0 fl_126_1 fl_126_2 fl_126_3 kd_127 sz_127 by_127 ze_127 kd_128 sz_128 by_128 ze_128 pl_128 kd_129 sz_129 by_129 ze_129 pl_129 kd_130 sz_130 by_130 ze_130 kd_131 sz_131 by_131 ze_131 kd_133 sz_133 by_133 ze_133 kd_134 sz_134 by_134 ze_134 kd_135 sz_135 by_135 ze_135 kd_136 sz_136 by_136 ze_136 pl_136 fl_136_0 fl_136_1 fl_136_2 fl_136_3 fl_136_4 fl_136_5 fl_136_6 fl_136_7 fl_136_8 fl_136_9 fl_136_10 kd_137 sz_137 by_137 ze_137 pl_137 fl_137_0 fl_137_1 fl_137_2 fl_137_3 fl_137_4 fl_137_5 fl_137_6 fl_137_7 fl_137_8 fl_137_9 fl_137_10 et_22 et_29 et_26 et_40 et_61 et_46
end Go.V

namespace Go.V
open Go.Sort Go.Shelf Go.RowKit Go.Proofs

theorem rel_int {R : RO} {μ : List Bind} {k k' : IntKind} {n m : Int} (h : Rel R μ (.int k n) (.int k' m)) : m = n := by cases h; rfl
/-- two lists, element by element -/
inductive All2 {α β : Type} (r : α → β → Prop) : List α → List β → Prop
  | nil : All2 r [] []
  | cons {a b l m} (h : r a b) (hs : All2 r l m) : All2 r (a :: l) (b :: m)
theorem All2.len {α β : Type} {r : α → β → Prop} : ∀ {l : List α} {m : List β}, All2 r l m → l.length = m.length
  | _, _, .nil => rfl
  | _, _, .cons _ hs => by simp [All2.len hs]
theorem All2.perm {α β : Type} {r : α → β → Prop} {d d' : List β} (hp : d.Perm d') : ∀ {xs : List α}, All2 r xs d → ∃ ys, xs.Perm ys ∧ All2 r ys d' := by
  induction hp with
  | nil => intro xs h; cases h; exact ⟨[], .nil, .nil⟩
  | cons b _ ih =>
    intro xs h
    cases h with
    | cons h1 h2 =>
      obtain ⟨ys, p1, p2⟩ := ih h2
      exact ⟨_ :: ys, p1.cons _, .cons h1 p2⟩
  | swap b c l =>
    intro xs h
    cases h with
    | cons h1 h2 =>
      cases h2 with
      | cons h3 h4 => exact ⟨_, List.Perm.swap _ _ _, .cons h3 (.cons h1 h4)⟩
  | trans _ _ ih1 ih2 =>
    intro xs h
    obtain ⟨ys, p1, p2⟩ := ih1 h
    obtain ⟨zs, p3, p4⟩ := ih2 p2
    exact ⟨zs, p1.trans p3, p4⟩
theorem All2.get {α β : Type} {r : α → β → Prop} : ∀ {l : List α} {m : List β}, All2 r l m → ∀ (i : Nat) (h1 : i < l.length) (h2 : i < m.length), r l[i] m[i]
  | _, _, .nil, i, h1, _ => by simp at h1
  | _, _, .cons h _, 0, _, _ => h
  | _, _, .cons _ hs, i + 1, h1, h2 => All2.get hs i (by simpa using h1) (by simpa using h2)
theorem flat_split {R : RO} {e : Ety} {α : Type} {enc : α → List Value} (hdec : ∀ (x : e.T) (cs : List Value), LRel R [] (e.enc x) cs → ∃ a, enc a = cs) : ∀ {xs : List e.T} {cs : List Value}, LRel R [] (xs.flatMap e.enc) cs → ∃ d : List α, cs = d.flatMap enc ∧ All2 (fun x a => LRel R [] (e.enc x) (enc a)) xs d
  | [], cs, h => by cases h; exact ⟨[], rfl, .nil⟩
  | x :: xs, cs, h => by
    rw [List.flatMap_cons] at h
    have h1 := h.take (e.enc x).length
    rw [List.take_left] at h1
    have h2 := h.drop (e.enc x).length
    rw [List.drop_left] at h2
    obtain ⟨a, ha⟩ := hdec x _ h1
    obtain ⟨d, hd, hall⟩ := flat_split hdec h2
    refine ⟨a :: d, ?_, .cons (by rw [ha]; exact h1) hall⟩
    rw [List.flatMap_cons, ← hd, ha, List.take_append_drop]
theorem flat_join {R : RO} {e : Ety} {α : Type} {enc : α → List Value} : ∀ {xs : List e.T} {d : List α}, All2 (fun x a => LRel R [] (e.enc x) (enc a)) xs d → LRel R [] (xs.flatMap e.enc) (d.flatMap enc)
  | _, _, .nil => .nil
  | _, _, .cons h hs => by
    rw [List.flatMap_cons, List.flatMap_cons]
    exact h.app (flat_join hs)
section
variable {α : Type} [Inhabited α] {enc : α → List Value} {k : Nat}
theorem flatMap_get (hk : ∀ x, (enc x).length = k) (k0 : 0 < k) : ∀ (l : List α) (t : Nat), t < l.length * k → (l.flatMap enc)[t]? = (enc (l.getD (t / k) default))[t % k]?
  | [], t, h => by simp at h
  | x :: l, t, h => by
    rw [List.flatMap_cons]
    by_cases ht : t < k
    · rw [List.getElem?_append_left (by rw [hk]; exact ht), Nat.div_eq_of_lt ht, Nat.mod_eq_of_lt ht]
      rfl
    · have h1 : t - k < l.length * k := by
        rw [List.length_cons, Nat.succ_mul] at h
        omega
      rw [List.getElem?_append_right (by rw [hk]; omega), hk, flatMap_get hk k0 l _ h1]
      have e1 : t / k = (t - k) / k + 1 := by
        rw [Nat.div_eq t k, if_pos ⟨k0, by omega⟩]
      have e2 : t % k = (t - k) % k := by
        rw [Nat.mod_eq t k, if_pos ⟨k0, by omega⟩]
      rw [e1, e2]
      rfl
omit [Inhabited α] in
theorem flatMap_len (hk : ∀ x, (enc x).length = k) : ∀ l : List α, (l.flatMap enc).length = l.length * k
  | [] => by simp
  | x :: l => by rw [List.flatMap_cons, List.length_append, hk, flatMap_len hk l, List.length_cons, Nat.succ_mul]; omega
theorem flatK_list (hk : ∀ x, (enc x).length = k) (k0 : 0 < k) (d : Array α) : (flatK enc k d).toList = d.toList.flatMap enc := by
  apply List.ext_getElem?
  intro t
  by_cases h : t < d.size * k
  · rw [flatMap_get hk k0 d.toList t (by simpa using h)]
    have h1 := get_flatK enc k d t h
    have hs : t < (flatK enc k d).size := by rw [size_flatK]; exact h
    rw [getElem!_pos (flatK enc k d) t hs] at h1
    have h2 : (flatK enc k d).toList[t]? = some (flatK enc k d)[t] := by rw [Array.getElem?_toList, Array.getElem?_eq_getElem hs]
    rw [h2, h1]
    have hd : t / k < d.size := Nat.div_lt_of_lt_mul (by rw [Nat.mul_comm]; exact h)
    rw [getElem!_pos d (t / k) hd]
    have e3 : d.toList.getD (t / k) default = d[t / k] := by
      rw [List.getD_eq_getElem?_getD, List.getElem?_eq_getElem (by simpa using hd)]
      simp
    rw [e3]
    have hm : t % k < (enc d[t / k]).length := by rw [hk]; exact Nat.mod_lt _ k0
    rw [getElem!_pos (enc d[t / k]) (t % k) hm, List.getElem?_eq_getElem hm]
  · rw [List.getElem?_eq_none (by rw [Array.length_toList, size_flatK]; omega), List.getElem?_eq_none (by rw [flatMap_len hk]; simp; omega)]
theorem holdsK_of {w : World} {g : Nat} {cur : Array Value} {ty : TypeId} {d : List α} (hk : ∀ x, (enc x).length = k) (k0 : 0 < k) (hb : w.heap[g]? = some (.cells cur ty (0, 0))) (ht : cur.toList.take (d.length * k) = d.flatMap enc) : HoldsK enc k w g 0 d.toArray := by
  intro j hj
  rw [size_flatK] at hj
  have hj' : j < d.length * k := by simpa using hj
  have h2 : (flatK enc k d.toArray).toList = d.flatMap enc := flatK_list hk k0 _
  have h1 : (cur.toList.take (d.length * k))[j]? = (flatK enc k d.toArray).toList[j]? := by rw [ht, h2]
  have hjs : j < (flatK enc k d.toArray).size := by rw [size_flatK]; exact hj
  rw [List.getElem?_take_of_lt hj', Array.getElem?_toList, Array.getElem?_toList, Array.getElem?_eq_getElem hjs] at h1
  refine ⟨?_, by simp [World.frozen?, hb]⟩
  simp only [World.cell?, hb, Nat.zero_add, Option.isSome_none, Bool.false_eq_true, if_false]
  rw [h1, getElem!_pos (flatK enc k d.toArray) j hjs]
  rfl
theorem heapK_sorted {w : World} {g n : Nat} {os : Array Obj} {cur : Array Value} {ty : TypeId} {fr : Nat × Nat} (d : Array α) (hb : w.heap[g]? = some (.cells cur ty fr)) :
    (sortWorldK enc k w g 0 n d os).heap[g]? = some (.cells (putCells id 0 (flatK enc k d) cur) ty fr) := by
  have hg : g < w.heap.size := (Array.getElem?_eq_some_iff.1 hb).1
  unfold sortWorldK putRowK
  rw [heap_grow_old _ _ (by simpa using hg)]
  simp [putRow, mapBlock, Sort.ahead, Array.getElem?_modify, hb, onCells]
theorem grownByK_sorted {w : World} {g n : Nat} {os : Array Obj} (d : Array α) : w.grownBy (sortWorldK enc k w g 0 n d os) (some g) := by
  unfold sortWorldK putRowK
  refine ⟨rfl, rfl, rfl, by simp, fun i hi hne => ?_⟩
  rw [heap_grow_old _ _ (by simpa using hi)]
  have : g ≠ i := fun e => hne (by rw [e])
  simp [putRow, mapBlock, Sort.ahead, Array.getElem?_modify, this]
theorem takeK_putCells (hk : ∀ x, (enc x).length = k) (k0 : 0 < k) (cur : Array Value) (d : List α) (h : d.length * k ≤ cur.size) : (putCells id 0 (flatK enc k d.toArray) cur).toList.take (d.length * k) = d.flatMap enc := by
  have h2 : (flatK enc k d.toArray).toList = d.flatMap enc := flatK_list hk k0 _
  have hsz : (flatK enc k d.toArray).size = d.length * k := by rw [size_flatK]; simp
  apply List.ext_getElem?
  intro j
  by_cases hj : j < d.length * k
  · rw [List.getElem?_take_of_lt hj, Array.getElem?_toList, ← h2, Array.getElem?_toList]
    have h3 : j < (flatK enc k d.toArray).size := by rw [hsz]; exact hj
    rw [Array.getElem?_eq_getElem h3]
    have h5 : (flatK enc k d.toArray)[j]! = (flatK enc k d.toArray)[j] := getElem!_pos (flatK enc k d.toArray) j h3
    simp [putCells, hj, show j < cur.size by omega, h5]
  · rw [List.getElem?_take_eq_none (by omega), List.getElem?_eq_none (by rw [flatMap_len hk]; omega)]
end
theorem sort_cmpK {P : Program} {g : FuncId} (hr : Here P g) {e : Ety} {α : Type} [Inhabited α] {enc : α → List Value} (hk : ∀ a, (enc a).length = e.sz) {fc : FuncId} {cf : α → α → Int} {lt : e.T → e.T → Bool}
    (hdec : ∀ (R : RO) (x : e.T) (cs : List Value), LRel R [] (e.enc x) cs → ∃ a, enc a = cs)
    (hlt : ∀ (R : RO) (x y : e.T) (a b : α), LRel R [] (e.enc x) (enc a) → LRel R [] (e.enc y) (enc b) → ltOf cf a b = lt x y)
    (hc : ∀ (blk off cap : Nat) (d : Array α) (w : World), HoldsK enc e.sz w blk off d → blk < w.heap.size → d.size < 4611686018427387904 →
      Calls P g #[.slice (some ⟨blk, off, none⟩) d.size cap, .func (.func fc) #[] #[]] w fun e' w' => e' = .returned (.tuple #[]) ∧ ∃ d' n os, PermIn 0 d.size d d' ∧ SortedIn (ltOf cf) 0 d.size d' ∧ w' = sortWorldK enc e.sz w blk off n d' os)
    (hc0 : ∀ (p : Option Addr) (cap : Nat) (w : World), Calls P g #[.slice p 0 cap, .func (.func fc) #[] #[]] w fun e w' => e = .returned (.tuple #[]) ∧ w' = w)
    {h : List Ch} {K : KT} {t : Nat} {xs : List e.T} {n : Nat} (hn : n = xs.length) (hx : xs.length ≤ 1099511627776)
    (H : ∀ ys : List e.T, ys.Perm xs → (ys.Pairwise fun x y => lt y x = false) → K (.tup []) (h.set t (.rows e ys))) (o : hth h t = .rows e xs) : Does P g [.sl t e 0 n, .fn fc []] h K := by
  refine ⟨hr, fun R μ w vs hv H0 => ?_⟩
  have hg := hth_get o (by simp)
  have k0 := e.sz_pos
  cases hv with
  | cons hv h2 =>
  cases h2 with
  | cons hf h3 =>
  cases h3
  cases hf with
  | @fn _ _ _ cvs hcv =>
  cases hcv
  have hz : n = 0 → K (.tup []) h := fun e1 => by
    rw [e1] at hn
    have : xs = [] := List.eq_nil_of_length_eq_zero hn.symm
    subst this
    have := H [] (.refl _) .nil
    rw [← o, set_hth rfl (by rw [o]; simp)] at this
    exact this
  generalize hN : n = N at hv
  cases hv with
  | sl0 hl =>
    refine (hc0 _ _ _).mono ?_
    rintro e w' ⟨rfl, rfl⟩
    exact ⟨_, R, μ, h, .tup [], rfl, hz hN, .tup .nil, H0, Ext.refl _, Step.refl _ _ _⟩
  | sl h1 hcap hl hm =>
    rename_i b cap c
    obtain ⟨B, hB, hr1, hown⟩ := H0.rel.get hg
    have : B = .blk b cap := by rw [h1] at hB; exact (Option.some.inj hB).symm
    subst this
    rcases hr1 with ⟨hx, _⟩ | ⟨b', cap', arr, ty, hx, hb, hsz, hlen, hmx, hrel⟩
    · cases hx
    · cases hx
      obtain ⟨d, hd, hall⟩ := flat_split (hdec R) hrel
      have hdl := hall.len
      rw [hdl] at hd
      have hH := holdsK_of hk k0 hb hd
      have hbl : b < w.heap.size := (Array.getElem?_eq_some_iff.1 hb).1
      subst hN
      subst hn
      rw [Nat.zero_mul, hdl]
      refine (hc b 0 c d.toArray w hH hbl (by simp; omega)).mono ?_
      rintro e' w' ⟨rfl, d', m, os, hp, hs, rfl⟩
      obtain ⟨p1, _, p3⟩ := hp
      have hperm : d'.toList.Perm d := by
        have e1 : d'.extract 0 d.toArray.size = d' := by rw [← p1, Array.extract_size]
        rw [e1, Array.extract_size] at p3
        exact p3
      obtain ⟨ys, hy1, hy2⟩ := All2.perm hperm.symm hall
      have hyl := hy2.len
      have hyx := hy1.length_eq
      have hpw : ys.Pairwise fun x y => lt y x = false := by
        rw [List.pairwise_iff_getElem]
        intro i j hi hj hij
        have hi' : i < d'.size := by rw [← Array.length_toList, ← hyl]; exact hi
        have hj' : j < d'.size := by rw [← Array.length_toList, ← hyl]; exact hj
        have q := hs i j (Nat.zero_le _) hij (by rw [← p1]; exact hj')
        rw [getElem!_pos d' i hi', getElem!_pos d' j hj'] at q
        have r1 := hy2.get i hi (by simpa using hi')
        have r2 := hy2.get j hj (by simpa using hj')
        rw [← hlt R _ _ _ _ r2 r1]
        simpa using q
      have hg2 := grownByK_sorted (enc := enc) (k := e.sz) (w := w) (g := b) (n := m) (os := os) d'
      obtain ⟨g1, g2, g3, g4, g5⟩ := hg2
      have hdd : d'.toList.toArray = d' := by simp
      obtain ⟨H1, hst⟩ := H0.set (w' := sortWorldK enc e.sz w b 0 m d' os) (c' := .rows e ys) hg hB (by simp [ownC]) (fun k hk hne => g5 k hk (fun e => hne (by simp only [ownC, List.mem_singleton]; exact Option.some.inj e))) g4
        (.inr ⟨b, cap, _, ty, rfl, heapK_sorted _ hb, by simp only [putCells, Array.size_mapIdx, hsz], by omega, hmx, by
          have h4 : d'.toList.length = ys.length := hyl.symm
          have h5 := takeK_putCells (k := e.sz) hk k0 arr d'.toList (by rw [h4, hsz]; exact Nat.mul_le_mul_right _ (by omega))
          rw [h4, hdd] at h5
          rw [h5]
          exact flat_join hy2⟩) rfl rfl rfl
      exact ⟨_, R, μ, _, .tup [], rfl, H ys hy1.symm hpw, .tup .nil, H1, Ext.refl _, hst⟩
end Go.V

set_option maxRecDepth 100000
namespace Go.V
abbrev rAt (l : List Rng) (k : Nat) : Rng := l.getD k Rng.zero
/-- n lies in one of the ranges -/
def memR (l : List Rng) (n : Int) : Prop := ∃ r ∈ l, r.from_ ≤ n ∧ n < r.to_
structure Vld (l : List Rng) : Prop where
  ne : ∀ r ∈ l, r.from_ < r.to_
  ap : l.Pairwise fun r s => r.to_ < s.from_
theorem Vld.nil : Vld [] := ⟨fun _ h => (by cases h), .nil⟩
theorem Vld.tail {r : Rng} {l : List Rng} (h : Vld (r :: l)) : Vld l := ⟨fun s hs => h.ne s (by simp [hs]), (List.pairwise_cons.1 h.ap).2⟩
theorem Vld.head {r : Rng} {l : List Rng} (h : Vld (r :: l)) : r.from_ < r.to_ ∧ ∀ s ∈ l, r.to_ < s.from_ := ⟨h.ne r (by simp), (List.pairwise_cons.1 h.ap).1⟩
theorem Vld.cons {r : Rng} {l : List Rng} (h1 : r.from_ < r.to_) (h2 : ∀ s ∈ l, r.to_ < s.from_) (h : Vld l) : Vld (r :: l) :=
  ⟨fun s hs => by rcases List.mem_cons.1 hs with rfl | hs; exact h1; exact h.ne s hs, List.pairwise_cons.2 ⟨h2, h.ap⟩⟩
theorem memR_cons {r : Rng} {l : List Rng} {n : Int} : memR (r :: l) n ↔ (r.from_ ≤ n ∧ n < r.to_) ∨ memR l n := by
  unfold memR
  constructor
  · rintro ⟨s, hs, h⟩
    rcases List.mem_cons.1 hs with rfl | hs
    · exact .inl h
    · exact .inr ⟨s, hs, h⟩
  · rintro (h | ⟨s, hs, h⟩)
    · exact ⟨r, by simp, h⟩
    · exact ⟨s, by simp [hs], h⟩
theorem memR_app {l m : List Rng} {n : Int} : memR (l ++ m) n ↔ memR l n ∨ memR m n := by
  unfold memR
  constructor
  · rintro ⟨s, hs, h⟩
    rcases List.mem_append.1 hs with hs | hs
    · exact .inl ⟨s, hs, h⟩
    · exact .inr ⟨s, hs, h⟩
  · rintro (⟨s, hs, h⟩ | ⟨s, hs, h⟩)
    · exact ⟨s, by simp [hs], h⟩
    · exact ⟨s, by simp [hs], h⟩
theorem memR_nil {n : Int} : ¬ memR [] n := by rintro ⟨_, h, _⟩; cases h
theorem memR_one {r : Rng} {n : Int} : memR [r] n ↔ r.from_ ≤ n ∧ n < r.to_ := by rw [memR_cons]; simp [memR_nil]
theorem memR_perm {l m : List Rng} (h : l.Perm m) {n : Int} : memR l n ↔ memR m n := by
  unfold memR
  constructor
  · rintro ⟨s, hs, q⟩; exact ⟨s, h.mem_iff.1 hs, q⟩
  · rintro ⟨s, hs, q⟩; exact ⟨s, h.mem_iff.2 hs, q⟩
theorem Vld.above {r : Rng} {l : List Rng} (h : Vld (r :: l)) {n : Int} (hn : memR l n) : r.to_ < n := by
  obtain ⟨s, hs, h1, _⟩ := hn
  have := h.head.2 s hs
  omega
theorem Vld.low {r : Rng} {l : List Rng} (h : Vld (r :: l)) {n : Int} (hn : memR (r :: l) n) : r.from_ ≤ n := by
  rcases memR_cons.1 hn with h1 | h1
  · exact h1.1
  · have := h.above h1
    have := h.head.1
    omega
/-- a set has one such list -/
theorem vld_one : ∀ {l m : List Rng}, Vld l → Vld m → (∀ n, memR l n ↔ memR m n) → l = m
  | [], [], _, _, _ => rfl
  | [], s :: m, _, h2, h => absurd ((h s.from_).2 (memR_cons.2 (.inl ⟨Int.le_refl _, h2.head.1⟩))) memR_nil
  | r :: l, [], h1, _, h => absurd ((h r.from_).1 (memR_cons.2 (.inl ⟨Int.le_refl _, h1.head.1⟩))) memR_nil
  | r :: l, s :: m, h1, h2, h => by
    have a1 := h1.head.1
    have a2 := h2.head.1
    have e1 : r.from_ = s.from_ := by
      have q1 := h2.low ((h r.from_).1 (memR_cons.2 (.inl ⟨Int.le_refl _, a1⟩)))
      have q2 := h1.low ((h s.from_).2 (memR_cons.2 (.inl ⟨Int.le_refl _, a2⟩)))
      omega
    have e2 : r.to_ = s.to_ := by
      rcases Int.lt_trichotomy r.to_ s.to_ with q | q | q
      · have := (h r.to_).2 (memR_cons.2 (.inl ⟨by omega, q⟩))
        rcases memR_cons.1 this with k | k
        · omega
        · have := h1.above k; omega
      · exact q
      · have := (h s.to_).1 (memR_cons.2 (.inl ⟨by omega, q⟩))
        rcases memR_cons.1 this with k | k
        · omega
        · have := h2.above k; omega
    have e : r = s := by cases r; cases s; simp_all
    subst e
    rw [vld_one h1.tail h2.tail fun n => ?_]
    have hn := h n
    rw [memR_cons, memR_cons] at hn
    constructor
    · intro k
      have := h1.above k
      rcases hn.1 (.inr k) with q | q
      · omega
      · exact q
    · intro k
      have := h2.above k
      rcases hn.2 (.inr k) with q | q
      · omega
      · exact q
/-! ### The reference's way -/
def insR : List Rng → Rng → List Rng
  | [], r => [r]
  | x :: l, r => if x.from_ ≤ r.to_ then insR l ⟨min r.from_ x.from_, max r.to_ x.to_⟩ else r :: x :: l
def insL : List Rng → Rng → List Rng
  | [], r => [r]
  | x :: l, r => if x.to_ < r.from_ then x :: insL l r else insR (x :: l) r
def insF (l : List Rng) (r : Rng) : List Rng := if r.to_ ≤ r.from_ then l else insL l r
def ofL (l : List Rng) : List Rng := l.foldl insF []
theorem insR_ok : ∀ {l : List Rng} {r : Rng}, Vld l → r.from_ < r.to_ → (∀ x ∈ l, r.from_ ≤ x.to_) → Vld (insR l r) ∧ (∀ n, memR (insR l r) n ↔ memR l n ∨ (r.from_ ≤ n ∧ n < r.to_)) ∧ ∀ b : Int, b < r.from_ → (∀ x ∈ l, b < x.from_) → ∀ x ∈ insR l r, b < x.from_
  | [], r, _, hr, _ => ⟨.cons hr (fun s hs => by cases hs) .nil, fun n => by simp [insR, memR_one, memR_nil], fun b hb _ x hx => by simp [insR] at hx; rw [hx]; exact hb⟩
  | x :: l, r, h, hr, ht => by
    have hx := h.head.1
    have hxr := ht x (by simp)
    unfold insR
    by_cases hc : x.from_ ≤ r.to_
    · rw [if_pos hc]
      have ih := insR_ok (l := l) (r := ⟨min r.from_ x.from_, max r.to_ x.to_⟩) h.tail (by simp only; omega) (fun y hy => by
        have := h.head.2 y hy
        have := h.tail.ne y hy
        simp only
        omega)
      refine ⟨ih.1, fun n => ?_, fun b hb hbx => ih.2.2 b (by have := hbx x (by simp); simp only; omega) fun y hy => hbx y (by simp [hy])⟩
      rw [ih.2.1 n, memR_cons]
      simp only
      constructor
      · rintro (q | q)
        · exact .inl (.inr q)
        · by_cases k : x.from_ ≤ n ∧ n < x.to_
          · exact .inl (.inl k)
          · exact .inr (by omega)
      · rintro ((q | q) | q)
        · exact .inr (by omega)
        · exact .inl q
        · exact .inr (by omega)
    · rw [if_neg hc]
      refine ⟨.cons hr (fun s hs => ?_) h, fun n => by rw [memR_cons]; exact Or.comm, fun b hb hbx y hy => ?_⟩
      · rcases List.mem_cons.1 hs with rfl | hs
        · omega
        · have := h.head.2 s hs
          omega
      · rcases List.mem_cons.1 hy with rfl | hy
        · exact hb
        · exact hbx y hy
theorem insL_ok : ∀ {l : List Rng} {r : Rng}, Vld l → r.from_ < r.to_ → Vld (insL l r) ∧ (∀ n, memR (insL l r) n ↔ memR l n ∨ (r.from_ ≤ n ∧ n < r.to_)) ∧ ∀ b : Int, b < r.from_ → (∀ x ∈ l, b < x.from_) → ∀ x ∈ insL l r, b < x.from_
  | [], r, _, hr => ⟨.cons hr (fun s hs => by cases hs) .nil, fun n => by simp [insL, memR_one, memR_nil], fun b hb _ x hx => by simp [insL] at hx; rw [hx]; exact hb⟩
  | x :: l, r, h, hr => by
    unfold insL
    by_cases hc : x.to_ < r.from_
    · rw [if_pos hc]
      have ih := insL_ok (l := l) (r := r) h.tail hr
      refine ⟨.cons h.head.1 (ih.2.2 _ hc h.head.2) ih.1, fun n => ?_, fun b hb hbx y hy => ?_⟩
      · rw [memR_cons, memR_cons, ih.2.1 n, or_assoc]
      · rcases List.mem_cons.1 hy with rfl | hy
        · exact hbx y (by simp)
        · exact ih.2.2 b hb (fun z hz => hbx z (by simp [hz])) y hy
    · rw [if_neg hc]
      exact insR_ok h hr fun y hy => by
        rcases List.mem_cons.1 hy with rfl | hy
        · omega
        · have := h.head.2 y hy
          have := h.tail.ne y hy
          omega
theorem insF_ok {l : List Rng} {r : Rng} (h : Vld l) : Vld (insF l r) ∧ ∀ n, memR (insF l r) n ↔ memR l n ∨ (r.from_ ≤ n ∧ n < r.to_) := by
  unfold insF
  by_cases hc : r.to_ ≤ r.from_
  · rw [if_pos hc]
    exact ⟨h, fun n => ⟨.inl, fun q => q.elim id fun k => by omega⟩⟩
  · rw [if_neg hc]
    have := insL_ok (r := r) h (by omega)
    exact ⟨this.1, this.2.1⟩
theorem fold_ok : ∀ (l : List Rng) {s : List Rng}, Vld s → Vld (l.foldl insF s) ∧ ∀ n, memR (l.foldl insF s) n ↔ memR s n ∨ memR l n
  | [], s, h => ⟨h, fun n => by simp [memR_nil]⟩
  | r :: l, s, h => by
    have h1 := insF_ok (r := r) h
    have h2 := fold_ok l h1.1
    refine ⟨h2.1, fun n => ?_⟩
    rw [List.foldl_cons, h2.2 n, h1.2 n, memR_cons, or_assoc]
theorem of_vld (l : List Rng) : Vld (ofL l) := (fold_ok l .nil).1
theorem of_mem (l : List Rng) (n : Int) : memR (ofL l) n ↔ memR l n := by
  unfold ofL
  rw [(fold_ok l .nil).2 n]
  simp [memR_nil]
theorem of_eq {l m : List Rng} (h : Vld m) (hm : ∀ n, memR m n ↔ memR l n) : m = ofL l := vld_one h (of_vld l) fun n => by rw [hm, of_mem]
theorem of_add (l : List Rng) (r : Rng) : ofL (l ++ [r]) = insF (ofL l) r := by unfold ofL; rw [List.foldl_append]; rfl
theorem insR_len : ∀ (l : List Rng) (r : Rng), (insR l r).length ≤ l.length + 1
  | [], _ => by simp [insR]
  | x :: l, r => by
    unfold insR
    split
    · have := insR_len l ⟨min r.from_ x.from_, max r.to_ x.to_⟩
      simp only [List.length_cons]; omega
    · simp
theorem insL_len : ∀ (l : List Rng) (r : Rng), (insL l r).length ≤ l.length + 1
  | [], _ => by simp [insL]
  | x :: l, r => by
    unfold insL
    split
    · have := insL_len l r
      simp only [List.length_cons]; omega
    · exact insR_len _ _
theorem insF_len (l : List Rng) (r : Rng) : (insF l r).length ≤ l.length + 1 := by
  unfold insF
  split
  · omega
  · exact insL_len l r
theorem of_len (l : List Rng) : (ofL l).length ≤ l.length := by
  have key : ∀ (l s : List Rng), (l.foldl insF s).length ≤ s.length + l.length := by
    intro l
    induction l with
    | nil => intro s; simp
    | cons r l ih =>
      intro s
      have h1 := ih (insF s r)
      have h2 := insF_len s r
      simp only [List.foldl_cons, List.length_cons]
      omega
  simpa [ofL] using key l []
/-! ### The program's way: sorted, then joined -/
def joinS (out : List Rng) (r : Rng) : List Rng :=
  if 0 < out.length ∧ r.from_ ≤ (rAt out (out.length - 1)).to_ then out.set (out.length - 1) ⟨(rAt out (out.length - 1)).from_, max (rAt out (out.length - 1)).to_ r.to_⟩ else out ++ [r]
theorem last_form {out : List Rng} (h : 0 < out.length) : ∃ pre x, out = pre ++ [x] := by
  rcases List.eq_nil_or_concat out with rfl | ⟨p, x, rfl⟩
  · simp at h
  · exact ⟨p, x, by simp⟩
theorem joinS_ok {out : List Rng} {r : Rng} (h : Vld out) (hr : r.from_ < r.to_) (hb : ∀ x ∈ out, x.from_ ≤ r.from_) :
    Vld (joinS out r) ∧ (∀ n, memR (joinS out r) n ↔ memR out n ∨ (r.from_ ≤ n ∧ n < r.to_)) ∧ ∀ x ∈ joinS out r, x.from_ ≤ r.from_ := by
  unfold joinS
  by_cases h0 : 0 < out.length
  · obtain ⟨pre, x, rfl⟩ := last_form h0
    have e1 : (pre ++ [x]).length - 1 = pre.length := by simp
    have e2 : rAt (pre ++ [x]) pre.length = x := by simp [rAt]
    rw [e1, e2]
    have hx := h.ne x (by simp)
    have hbx := hb x (by simp)
    have hpw := List.pairwise_append.1 h.ap
    by_cases hc : r.from_ ≤ x.to_
    · rw [if_pos ⟨h0, hc⟩]
      have e3 : (pre ++ [x]).set pre.length (⟨x.from_, max x.to_ r.to_⟩ : Rng) = pre ++ [⟨x.from_, max x.to_ r.to_⟩] := by simp
      rw [e3]
      refine ⟨⟨fun y hy => ?_, List.pairwise_append.2 ⟨hpw.1, by simp, fun a ha b hb' => ?_⟩⟩, fun n => ?_, fun y hy => ?_⟩
      · rcases List.mem_append.1 hy with hy | hy
        · exact h.ne y (by simp [hy])
        · simp at hy; rw [hy]; simp only; omega
      · simp at hb'; rw [hb']
        exact hpw.2.2 a ha x (by simp)
      · rw [memR_app, memR_app, memR_one, memR_one]
        simp only
        constructor
        · rintro (q | q)
          · exact .inl (.inl q)
          · by_cases k : x.from_ ≤ n ∧ n < x.to_
            · exact .inl (.inr k)
            · exact .inr (by omega)
        · rintro ((q | q) | q)
          · exact .inl q
          · exact .inr (by omega)
          · exact .inr (by omega)
      · rcases List.mem_append.1 hy with hy | hy
        · exact hb y (by simp [hy])
        · simp at hy; rw [hy]; exact hbx
    · rw [if_neg (fun q => hc q.2)]
      refine ⟨⟨fun y hy => ?_, List.pairwise_append.2 ⟨h.ap, by simp, fun a ha b hb' => ?_⟩⟩, fun n => by rw [memR_app, memR_one], fun y hy => ?_⟩
      · rcases List.mem_append.1 hy with hy | hy
        · exact h.ne y hy
        · simp at hy; rw [hy]; exact hr
      · simp at hb'; rw [hb']
        rcases List.mem_append.1 ha with ha | ha
        · have := hpw.2.2 a ha x (by simp)
          omega
        · simp at ha; rw [ha]; omega
      · rcases List.mem_append.1 hy with hy | hy
        · exact hb y hy
        · simp at hy; rw [hy]; exact Int.le_refl _
  · rw [if_neg (fun q => h0 q.1)]
    have : out = [] := by cases out with | nil => rfl | cons => simp at h0
    subst this
    exact ⟨.cons hr (fun s hs => by cases hs) .nil, fun n => by simp [memR_one, memR_nil], fun y hy => by simp at hy; rw [hy]; exact Int.le_refl _⟩
theorem join_ok : ∀ (l : List Rng) {out : List Rng}, Vld out → (∀ r ∈ l, r.from_ < r.to_) → (l.Pairwise fun r s => r.from_ ≤ s.from_) → (∀ x ∈ out, ∀ r ∈ l, x.from_ ≤ r.from_) →
    Vld (l.foldl joinS out) ∧ ∀ n, memR (l.foldl joinS out) n ↔ memR out n ∨ memR l n
  | [], out, h, _, _, _ => ⟨h, fun n => by simp [memR_nil]⟩
  | r :: l, out, h, hr, hp, hb => by
    rw [List.pairwise_cons] at hp
    have h1 := joinS_ok (r := r) h (hr r (by simp)) fun x hx => hb x hx r (by simp)
    have h2 := join_ok l h1.1 (fun s hs => hr s (by simp [hs])) hp.2 fun x hx s hs => Int.le_trans (h1.2.2 x hx) (hp.1 s hs)
    refine ⟨h2.1, fun n => ?_⟩
    rw [List.foldl_cons, h2.2 n, h1.2.1 n, memR_cons, or_assoc]
def neR (r : Rng) : Bool := decide (r.to_ ≤ r.from_)
theorem memR_filter (l : List Rng) (n : Int) : memR (l.filter fun r => !neR r) n ↔ memR l n := by
  unfold memR
  constructor
  · rintro ⟨r, hr, h⟩; exact ⟨r, (List.mem_filter.1 hr).1, h⟩
  · rintro ⟨r, hr, h⟩; exact ⟨r, List.mem_filter.2 ⟨hr, by simp [neR]; omega⟩, h⟩
theorem normal_eq {l d : List Rng} (hp : d.Perm (l.filter fun r => !neR r)) (hs : d.Pairwise fun r s => r.from_ ≤ s.from_) : d.foldl joinS [] = ofL l := by
  have h := join_ok d .nil (fun r hr => by
    have := (List.mem_filter.1 (hp.mem_iff.1 hr)).2
    simp [neR] at this
    omega) hs (fun x hx => by cases hx)
  refine of_eq h.1 fun n => ?_
  rw [h.2 n, memR_perm hp, memR_filter]
  simp [memR_nil]
/-! ### Removing -/
def lftR (x r : Rng) : Rng := ⟨x.from_, min x.to_ r.from_⟩
def rgtR (x r : Rng) : Rng := ⟨max x.from_ r.to_, x.to_⟩
def pieces (s : List Rng) (r : Rng) : List Rng := s.flatMap fun x => [lftR x r, rgtR x r]
def part (r x : Rng) : List Rng := (if (lftR x r).from_ < (lftR x r).to_ then [lftR x r] else []) ++ (if (rgtR x r).from_ < (rgtR x r).to_ then [rgtR x r] else [])
def remL (s : List Rng) (r : Rng) : List Rng := s.flatMap (part r)
theorem part_mem {r x y : Rng} (h : y ∈ part r x) : x.from_ ≤ y.from_ ∧ y.to_ ≤ x.to_ ∧ y.from_ < y.to_ := by
  unfold part lftR rgtR at h
  simp only [List.mem_append] at h
  rcases h with h | h <;> split at h <;> simp at h
  · rw [h]; simp only at *; omega
  · rw [h]; simp only at *; omega
theorem part_set {r x : Rng} (hx : x.from_ < x.to_) (hr : r.from_ < r.to_) (n : Int) : memR (part r x) n ↔ (x.from_ ≤ n ∧ n < x.to_) ∧ ¬ (r.from_ ≤ n ∧ n < r.to_) := by
  unfold part lftR rgtR
  rw [memR_app]
  simp only
  constructor
  · rintro (h | h)
    · split at h
      · rw [memR_one] at h; simp only at h; omega
      · exact absurd h memR_nil
    · split at h
      · rw [memR_one] at h; simp only at h; omega
      · exact absurd h memR_nil
  · rintro ⟨h1, h2⟩
    by_cases h3 : n < r.from_
    · left
      rw [if_pos (by omega), memR_one]
      simp only; omega
    · right
      rw [if_pos (by omega), memR_one]
      simp only; omega
theorem memR_flat {f : Rng → List Rng} {s : List Rng} {n : Int} : memR (s.flatMap f) n ↔ ∃ x ∈ s, memR (f x) n := by
  unfold memR
  constructor
  · rintro ⟨y, hy, h⟩
    obtain ⟨x, hx, hy⟩ := List.mem_flatMap.1 hy
    exact ⟨x, hx, y, hy, h⟩
  · rintro ⟨x, hx, y, hy, h⟩
    exact ⟨y, List.mem_flatMap.2 ⟨x, hx, hy⟩, h⟩
theorem rem_ok {s : List Rng} {r : Rng} (h : Vld s) (hr : r.from_ < r.to_) : Vld (remL s r) ∧ ∀ n, memR (remL s r) n ↔ memR s n ∧ ¬ (r.from_ ≤ n ∧ n < r.to_) := by
  refine ⟨⟨fun y hy => ?_, ?_⟩, fun n => ?_⟩
  · obtain ⟨x, _, hy⟩ := List.mem_flatMap.1 hy
    exact (part_mem hy).2.2
  · unfold remL
    rw [List.pairwise_flatMap]
    refine ⟨fun x hx => ?_, h.ap.imp fun {a b} hab y hy z hz => ?_⟩
    · have := h.ne x hx
      unfold part lftR rgtR
      split <;> split <;> simp_all
      omega
    · have := part_mem hy
      have := part_mem hz
      omega
  · unfold remL
    rw [memR_flat]
    constructor
    · rintro ⟨x, hx, q⟩
      rw [part_set (h.ne x hx) hr] at q
      exact ⟨⟨x, hx, q.1⟩, q.2⟩
    · rintro ⟨⟨x, hx, q⟩, k⟩
      exact ⟨x, hx, (part_set (h.ne x hx) hr n).2 ⟨q, k⟩⟩
theorem pieces_mem {s : List Rng} {r : Rng} (hr : r.from_ < r.to_) (n : Int) : memR (pieces s r) n ↔ memR s n ∧ ¬ (r.from_ ≤ n ∧ n < r.to_) := by
  unfold pieces
  rw [memR_flat]
  have key : ∀ x : Rng, memR [lftR x r, rgtR x r] n ↔ (x.from_ ≤ n ∧ n < x.to_) ∧ ¬ (r.from_ ≤ n ∧ n < r.to_) := by
    intro x
    rw [memR_cons, memR_one]
    unfold lftR rgtR
    simp only
    omega
  constructor
  · rintro ⟨x, hx, q⟩
    rw [key] at q
    exact ⟨⟨x, hx, q.1⟩, q.2⟩
  · rintro ⟨⟨x, hx, q⟩, k⟩
    exact ⟨x, hx, (key x).2 ⟨q, k⟩⟩
def remF (s : List Rng) (r : Rng) : List Rng := if r.to_ ≤ r.from_ then s else remL s r
theorem pieces_of {s : List Rng} {r : Rng} (h : Vld s) (hr : r.from_ < r.to_) : ofL (pieces s r) = remL s r :=
  (of_eq (rem_ok h hr).1 fun n => by rw [(rem_ok h hr).2 n, pieces_mem hr n]).symm
theorem part_le1 {r x : Rng} (h : ¬ (x.from_ < r.from_ ∧ r.to_ < x.to_)) : (part r x).length ≤ 1 := by
  unfold part lftR rgtR
  simp only
  split <;> split <;> simp <;> omega
theorem rem_len_out {r : Rng} : ∀ {s : List Rng}, (∀ y ∈ s, r.from_ ≤ y.from_) → (remL s r).length ≤ s.length
  | [], _ => by simp [remL]
  | x :: s, h => by
    have h1 := rem_len_out (r := r) (s := s) fun y hy => h y (by simp [hy])
    have h2 := h x (by simp)
    have h3 := part_le1 (r := r) (x := x) (by omega)
    unfold remL at *
    rw [List.flatMap_cons, List.length_append, List.length_cons]
    omega
theorem part_two (r x : Rng) : (part r x).length ≤ 2 := by
  unfold part
  split <;> split <;> simp
theorem rem_len {r : Rng} : ∀ {s : List Rng}, Vld s → r.from_ < r.to_ → (remL s r).length ≤ s.length + 1
  | [], _, _ => by simp [remL]
  | x :: s, h, hr => by
    by_cases hc : x.from_ < r.from_ ∧ r.to_ < x.to_
    · have h1 := rem_len_out (r := r) (s := s) fun y hy => by have := h.head.2 y hy; omega
      have h2 := part_two r x
      unfold remL at *
      rw [List.flatMap_cons, List.length_append, List.length_cons]
      omega
    · have h1 := rem_len (r := r) h.tail hr
      have h2 := part_le1 hc
      unfold remL at *
      rw [List.flatMap_cons, List.length_append, List.length_cons]
      omega
theorem remF_len {s : List Rng} {r : Rng} (h : Vld s) : (remF s r).length ≤ s.length + 1 := by
  unfold remF
  split
  · omega
  · exact rem_len h (by omega)
end Go.V
