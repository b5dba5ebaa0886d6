import Derived.Test.YtmfhicbbhncddaaVA
import Derived.Test.YtmfhicbbhncddaaProg
import Derived.KernelRfl
set_option linter.unusedVariables false
set_option linter.unusedSimpArgs false
namespace Go.V
open Go.Proofs
theorem kd_2 : kdT Try.prog 2 = .int .i64 := by kernel_rfl
theorem sz_2 : szT Try.prog 2 = 1 := by kernel_rfl
theorem by_2 : bytesT Try.prog 2 = 8 := by kernel_rfl
theorem ze_2 : zeroT Try.prog 2 = some [.int .i64 0] := by kernel_rfl
theorem kd_3 : kdT Try.prog 3 = .int .i64 := by kernel_rfl
theorem sz_3 : szT Try.prog 3 = 1 := by kernel_rfl
theorem by_3 : bytesT Try.prog 3 = 8 := by kernel_rfl
theorem ze_3 : zeroT Try.prog 3 = some [.int .i64 0] := by kernel_rfl
theorem kd_4 : kdT Try.prog 4 = .bool := by kernel_rfl
theorem sz_4 : szT Try.prog 4 = 1 := by kernel_rfl
theorem by_4 : bytesT Try.prog 4 = 1 := by kernel_rfl
theorem ze_4 : zeroT Try.prog 4 = some [.bool false] := by kernel_rfl
theorem kd_5 : kdT Try.prog 5 = .int .u8 := by kernel_rfl
theorem sz_5 : szT Try.prog 5 = 1 := by kernel_rfl
theorem by_5 : bytesT Try.prog 5 = 1 := by kernel_rfl
theorem ze_5 : zeroT Try.prog 5 = some [.int .u8 0] := by kernel_rfl
theorem kd_6 : kdT Try.prog 6 = .int .u8 := by kernel_rfl
theorem sz_6 : szT Try.prog 6 = 1 := by kernel_rfl
theorem by_6 : bytesT Try.prog 6 = 1 := by kernel_rfl
theorem ze_6 : zeroT Try.prog 6 = some [.int .u8 0] := by kernel_rfl
theorem kd_7 : kdT Try.prog 7 = .struct := by kernel_rfl
theorem sz_7 : szT Try.prog 7 = 4 := by kernel_rfl
theorem by_7 : bytesT Try.prog 7 = 24 := by kernel_rfl
theorem ze_7 : zeroT Try.prog 7 = some [.int .i64 0, .int .i64 0, .bool false, .int .u8 0] := by kernel_rfl
theorem pl_7 : placesT Try.prog 7 = some [(0, 1), (1, 1), (2, 1), (3, 1)] := by kernel_rfl
theorem fl_7_0 : fldT Try.prog 7 0 = some (0, 2) := by kernel_rfl
theorem fl_7_1 : fldT Try.prog 7 1 = some (1, 3) := by kernel_rfl
theorem fl_7_2 : fldT Try.prog 7 2 = some (2, 4) := by kernel_rfl
theorem fl_7_3 : fldT Try.prog 7 3 = some (3, 6) := by kernel_rfl
theorem kd_8 : kdT Try.prog 8 = .struct := by kernel_rfl
theorem sz_8 : szT Try.prog 8 = 4 := by kernel_rfl
theorem by_8 : bytesT Try.prog 8 = 24 := by kernel_rfl
theorem ze_8 : zeroT Try.prog 8 = some [.int .i64 0, .int .i64 0, .bool false, .int .u8 0] := by kernel_rfl
theorem pl_8 : placesT Try.prog 8 = some [(0, 1), (1, 1), (2, 1), (3, 1)] := by kernel_rfl
theorem fl_8_0 : fldT Try.prog 8 0 = some (0, 2) := by kernel_rfl
theorem fl_8_1 : fldT Try.prog 8 1 = some (1, 3) := by kernel_rfl
theorem fl_8_2 : fldT Try.prog 8 2 = some (2, 4) := by kernel_rfl
theorem fl_8_3 : fldT Try.prog 8 3 = some (3, 6) := by kernel_rfl
theorem kd_9 : kdT Try.prog 9 = .str := by kernel_rfl
theorem sz_9 : szT Try.prog 9 = 1 := by kernel_rfl
theorem by_9 : bytesT Try.prog 9 = 16 := by kernel_rfl
theorem ze_9 : zeroT Try.prog 9 = some [.str []] := by kernel_rfl
theorem kd_10 : kdT Try.prog 10 = .str := by kernel_rfl
theorem sz_10 : szT Try.prog 10 = 1 := by kernel_rfl
theorem by_10 : bytesT Try.prog 10 = 16 := by kernel_rfl
theorem ze_10 : zeroT Try.prog 10 = some [.str []] := by kernel_rfl
theorem kd_11 : kdT Try.prog 11 = .str := by kernel_rfl
theorem sz_11 : szT Try.prog 11 = 1 := by kernel_rfl
theorem by_11 : bytesT Try.prog 11 = 16 := by kernel_rfl
theorem ze_11 : zeroT Try.prog 11 = some [.str []] := by kernel_rfl
theorem kd_12 : kdT Try.prog 12 = .int .u64 := by kernel_rfl
theorem sz_12 : szT Try.prog 12 = 1 := by kernel_rfl
theorem by_12 : bytesT Try.prog 12 = 8 := by kernel_rfl
theorem ze_12 : zeroT Try.prog 12 = some [.int .u64 0] := by kernel_rfl
theorem kd_13 : kdT Try.prog 13 = .struct := by kernel_rfl
theorem sz_13 : szT Try.prog 13 = 2 := by kernel_rfl
theorem by_13 : bytesT Try.prog 13 = 24 := by kernel_rfl
theorem ze_13 : zeroT Try.prog 13 = some [.str [], .int .u64 0] := by kernel_rfl
theorem pl_13 : placesT Try.prog 13 = some [(0, 1), (1, 1)] := by kernel_rfl
theorem fl_13_0 : fldT Try.prog 13 0 = some (0, 9) := by kernel_rfl
theorem fl_13_1 : fldT Try.prog 13 1 = some (1, 12) := by kernel_rfl
theorem kd_14 : kdT Try.prog 14 = .struct := by kernel_rfl
theorem sz_14 : szT Try.prog 14 = 2 := by kernel_rfl
theorem by_14 : bytesT Try.prog 14 = 24 := by kernel_rfl
theorem ze_14 : zeroT Try.prog 14 = some [.str [], .int .u64 0] := by kernel_rfl
theorem pl_14 : placesT Try.prog 14 = some [(0, 1), (1, 1)] := by kernel_rfl
theorem fl_14_0 : fldT Try.prog 14 0 = some (0, 9) := by kernel_rfl
theorem fl_14_1 : fldT Try.prog 14 1 = some (1, 12) := by kernel_rfl
theorem kd_15 : kdT Try.prog 15 = .ptr := by kernel_rfl
theorem sz_15 : szT Try.prog 15 = 1 := by kernel_rfl
theorem by_15 : bytesT Try.prog 15 = 8 := by kernel_rfl
theorem ze_15 : zeroT Try.prog 15 = some [.lit (.pointer none)] := by kernel_rfl
theorem kd_16 : kdT Try.prog 16 = .ptr := by kernel_rfl
theorem sz_16 : szT Try.prog 16 = 1 := by kernel_rfl
theorem by_16 : bytesT Try.prog 16 = 8 := by kernel_rfl
theorem ze_16 : zeroT Try.prog 16 = some [.lit (.pointer none)] := by kernel_rfl
theorem kd_17 : kdT Try.prog 17 = .ptr := by kernel_rfl
theorem sz_17 : szT Try.prog 17 = 1 := by kernel_rfl
theorem by_17 : bytesT Try.prog 17 = 8 := by kernel_rfl
theorem ze_17 : zeroT Try.prog 17 = some [.lit (.pointer none)] := by kernel_rfl
theorem kd_18 : kdT Try.prog 18 = .struct := by kernel_rfl
theorem sz_18 : szT Try.prog 18 = 1 := by kernel_rfl
theorem by_18 : bytesT Try.prog 18 = 8 := by kernel_rfl
theorem ze_18 : zeroT Try.prog 18 = some [.lit (.pointer none)] := by kernel_rfl
theorem pl_18 : placesT Try.prog 18 = some [(0, 1)] := by kernel_rfl
theorem fl_18_0 : fldT Try.prog 18 0 = some (0, 17) := by kernel_rfl
theorem kd_19 : kdT Try.prog 19 = .struct := by kernel_rfl
theorem sz_19 : szT Try.prog 19 = 1 := by kernel_rfl
theorem by_19 : bytesT Try.prog 19 = 8 := by kernel_rfl
theorem ze_19 : zeroT Try.prog 19 = some [.lit (.pointer none)] := by kernel_rfl
theorem pl_19 : placesT Try.prog 19 = some [(0, 1)] := by kernel_rfl
theorem fl_19_0 : fldT Try.prog 19 0 = some (0, 17) := by kernel_rfl
theorem kd_20 : kdT Try.prog 20 = .iface := by kernel_rfl
theorem sz_20 : szT Try.prog 20 = 1 := by kernel_rfl
theorem by_20 : bytesT Try.prog 20 = 16 := by kernel_rfl
theorem ze_20 : zeroT Try.prog 20 = some [.lit .nilIface] := by kernel_rfl
theorem kd_21 : kdT Try.prog 21 = .int .i32 := by kernel_rfl
theorem sz_21 : szT Try.prog 21 = 1 := by kernel_rfl
theorem by_21 : bytesT Try.prog 21 = 4 := by kernel_rfl
theorem ze_21 : zeroT Try.prog 21 = some [.int .i32 0] := by kernel_rfl
theorem kd_22 : kdT Try.prog 22 = .slice 3 := by kernel_rfl
theorem sz_22 : szT Try.prog 22 = 1 := by kernel_rfl
theorem by_22 : bytesT Try.prog 22 = 24 := by kernel_rfl
theorem ze_22 : zeroT Try.prog 22 = some [.lit (.slice none 0 0)] := by kernel_rfl
theorem kd_23 : kdT Try.prog 23 = .slice 5 := by kernel_rfl
theorem sz_23 : szT Try.prog 23 = 1 := by kernel_rfl
theorem by_23 : bytesT Try.prog 23 = 24 := by kernel_rfl
theorem ze_23 : zeroT Try.prog 23 = some [.lit (.slice none 0 0)] := by kernel_rfl
theorem kd_24 : kdT Try.prog 24 = .struct := by kernel_rfl
theorem sz_24 : szT Try.prog 24 = 5 := by kernel_rfl
theorem by_24 : bytesT Try.prog 24 = 72 := by kernel_rfl
theorem ze_24 : zeroT Try.prog 24 = some [.int .i64 0, .int .i64 0, .int .i64 0, .lit (.slice none 0 0), .lit (.slice none 0 0)] := by kernel_rfl
theorem pl_24 : placesT Try.prog 24 = some [(0, 1), (1, 1), (2, 1), (3, 1), (4, 1)] := by kernel_rfl
theorem fl_24_0 : fldT Try.prog 24 0 = some (0, 3) := by kernel_rfl
theorem fl_24_1 : fldT Try.prog 24 1 = some (1, 3) := by kernel_rfl
theorem fl_24_2 : fldT Try.prog 24 2 = some (2, 3) := by kernel_rfl
theorem fl_24_3 : fldT Try.prog 24 3 = some (3, 22) := by kernel_rfl
theorem fl_24_4 : fldT Try.prog 24 4 = some (4, 23) := by kernel_rfl
theorem kd_25 : kdT Try.prog 25 = .struct := by kernel_rfl
theorem sz_25 : szT Try.prog 25 = 5 := by kernel_rfl
theorem by_25 : bytesT Try.prog 25 = 72 := by kernel_rfl
theorem ze_25 : zeroT Try.prog 25 = some [.int .i64 0, .int .i64 0, .int .i64 0, .lit (.slice none 0 0), .lit (.slice none 0 0)] := by kernel_rfl
theorem pl_25 : placesT Try.prog 25 = some [(0, 1), (1, 1), (2, 1), (3, 1), (4, 1)] := by kernel_rfl
theorem fl_25_0 : fldT Try.prog 25 0 = some (0, 3) := by kernel_rfl
theorem fl_25_1 : fldT Try.prog 25 1 = some (1, 3) := by kernel_rfl
theorem fl_25_2 : fldT Try.prog 25 2 = some (2, 3) := by kernel_rfl
theorem fl_25_3 : fldT Try.prog 25 3 = some (3, 22) := by kernel_rfl
theorem fl_25_4 : fldT Try.prog 25 4 = some (4, 23) := by kernel_rfl
theorem kd_27 : kdT Try.prog 27 = .int .i64 := by kernel_rfl
theorem sz_27 : szT Try.prog 27 = 1 := by kernel_rfl
theorem by_27 : bytesT Try.prog 27 = 8 := by kernel_rfl
theorem ze_27 : zeroT Try.prog 27 = some [.int .i64 0] := by kernel_rfl
theorem kd_44 : kdT Try.prog 44 = .ptr := by kernel_rfl
theorem sz_44 : szT Try.prog 44 = 1 := by kernel_rfl
theorem by_44 : bytesT Try.prog 44 = 8 := by kernel_rfl
theorem ze_44 : zeroT Try.prog 44 = some [.lit (.pointer none)] := by kernel_rfl
theorem kd_47 : kdT Try.prog 47 = .int .u64 := by kernel_rfl
theorem sz_47 : szT Try.prog 47 = 1 := by kernel_rfl
theorem by_47 : bytesT Try.prog 47 = 8 := by kernel_rfl
theorem ze_47 : zeroT Try.prog 47 = some [.int .u64 0] := by kernel_rfl
theorem kd_49 : kdT Try.prog 49 = .struct := by kernel_rfl
theorem sz_49 : szT Try.prog 49 = 5 := by kernel_rfl
theorem by_49 : bytesT Try.prog 49 = 48 := by kernel_rfl
theorem ze_49 : zeroT Try.prog 49 = some [.str [], .int .i64 0, .bool false, .int .i64 0, .int .i64 0] := by kernel_rfl
theorem pl_49 : placesT Try.prog 49 = some [(0, 1), (1, 1), (2, 1), (3, 1), (4, 1)] := by kernel_rfl
theorem fl_49_0 : fldT Try.prog 49 0 = some (0, 9) := by kernel_rfl
theorem fl_49_1 : fldT Try.prog 49 1 = some (1, 3) := by kernel_rfl
theorem fl_49_2 : fldT Try.prog 49 2 = some (2, 4) := by kernel_rfl
theorem fl_49_3 : fldT Try.prog 49 3 = some (3, 3) := by kernel_rfl
theorem fl_49_4 : fldT Try.prog 49 4 = some (4, 3) := by kernel_rfl
theorem kd_50 : kdT Try.prog 50 = .struct := by kernel_rfl
theorem sz_50 : szT Try.prog 50 = 5 := by kernel_rfl
theorem by_50 : bytesT Try.prog 50 = 48 := by kernel_rfl
theorem ze_50 : zeroT Try.prog 50 = some [.str [], .int .i64 0, .bool false, .int .i64 0, .int .i64 0] := by kernel_rfl
theorem pl_50 : placesT Try.prog 50 = some [(0, 1), (1, 1), (2, 1), (3, 1), (4, 1)] := by kernel_rfl
theorem fs_50 : fldsT Try.prog 50 = some [(0, 9), (1, 3), (2, 4), (3, 3), (4, 3)] := by kernel_rfl
theorem fl_50_0 : fldT Try.prog 50 0 = some (0, 9) := by kernel_rfl
theorem fl_50_1 : fldT Try.prog 50 1 = some (1, 3) := by kernel_rfl
theorem fl_50_2 : fldT Try.prog 50 2 = some (2, 4) := by kernel_rfl
theorem fl_50_3 : fldT Try.prog 50 3 = some (3, 3) := by kernel_rfl
theorem fl_50_4 : fldT Try.prog 50 4 = some (4, 3) := by kernel_rfl
theorem kd_59 : kdT Try.prog 59 = .ptr := by kernel_rfl
theorem sz_59 : szT Try.prog 59 = 1 := by kernel_rfl
theorem by_59 : bytesT Try.prog 59 = 8 := by kernel_rfl
theorem ze_59 : zeroT Try.prog 59 = some [.lit (.pointer none)] := by kernel_rfl
theorem kd_64 : kdT Try.prog 64 = .ptr := by kernel_rfl
theorem sz_64 : szT Try.prog 64 = 1 := by kernel_rfl
theorem by_64 : bytesT Try.prog 64 = 8 := by kernel_rfl
theorem ze_64 : zeroT Try.prog 64 = some [.lit (.pointer none)] := by kernel_rfl
theorem kd_65 : kdT Try.prog 65 = .struct := by kernel_rfl
theorem sz_65 : szT Try.prog 65 = 2 := by kernel_rfl
theorem by_65 : bytesT Try.prog 65 = 32 := by kernel_rfl
theorem ze_65 : zeroT Try.prog 65 = some [.lit (.slice none 0 0), .bool false] := by kernel_rfl
theorem pl_65 : placesT Try.prog 65 = some [(0, 1), (1, 1)] := by kernel_rfl
theorem fl_65_0 : fldT Try.prog 65 0 = some (0, 23) := by kernel_rfl
theorem fl_65_1 : fldT Try.prog 65 1 = some (1, 4) := by kernel_rfl
theorem kd_66 : kdT Try.prog 66 = .struct := by kernel_rfl
theorem sz_66 : szT Try.prog 66 = 2 := by kernel_rfl
theorem by_66 : bytesT Try.prog 66 = 32 := by kernel_rfl
theorem ze_66 : zeroT Try.prog 66 = some [.lit (.slice none 0 0), .bool false] := by kernel_rfl
theorem pl_66 : placesT Try.prog 66 = some [(0, 1), (1, 1)] := by kernel_rfl
theorem fl_66_0 : fldT Try.prog 66 0 = some (0, 23) := by kernel_rfl
theorem fl_66_1 : fldT Try.prog 66 1 = some (1, 4) := by kernel_rfl
theorem kd_67 : kdT Try.prog 67 = .array 29 50 := by kernel_rfl
theorem sz_67 : szT Try.prog 67 = 145 := by kernel_rfl
theorem by_67 : bytesT Try.prog 67 = 1392 := by kernel_rfl
theorem ze_67 : zeroT Try.prog 67 = some [.str [], .int .i64 0, .bool false, .int .i64 0, .int .i64 0, .str [], .int .i64 0, .bool false, .int .i64 0, .int .i64 0, .str [], .int .i64 0, .bool false, .int .i64 0, .int .i64 0, .str [], .int .i64 0, .bool false, .int .i64 0, .int .i64 0, .str [], .int .i64 0, .bool false, .int .i64 0, .int .i64 0, .str [], .int .i64 0, .bool false, .int .i64 0, .int .i64 0, .str [], .int .i64 0, .bool false, .int .i64 0, .int .i64 0, .str [], .int .i64 0, .bool false, .int .i64 0, .int .i64 0, .str [], .int .i64 0, .bool false, .int .i64 0, .int .i64 0, .str [], .int .i64 0, .bool false, .int .i64 0, .int .i64 0, .str [], .int .i64 0, .bool false, .int .i64 0, .int .i64 0, .str [], .int .i64 0, .bool false, .int .i64 0, .int .i64 0, .str [], .int .i64 0, .bool false, .int .i64 0, .int .i64 0, .str [], .int .i64 0, .bool false, .int .i64 0, .int .i64 0, .str [], .int .i64 0, .bool false, .int .i64 0, .int .i64 0, .str [], .int .i64 0, .bool false, .int .i64 0, .int .i64 0, .str [], .int .i64 0, .bool false, .int .i64 0, .int .i64 0, .str [], .int .i64 0, .bool false, .int .i64 0, .int .i64 0, .str [], .int .i64 0, .bool false, .int .i64 0, .int .i64 0, .str [], .int .i64 0, .bool false, .int .i64 0, .int .i64 0, .str [], .int .i64 0, .bool false, .int .i64 0, .int .i64 0, .str [], .int .i64 0, .bool false, .int .i64 0, .int .i64 0, .str [], .int .i64 0, .bool false, .int .i64 0, .int .i64 0, .str [], .int .i64 0, .bool false, .int .i64 0, .int .i64 0, .str [], .int .i64 0, .bool false, .int .i64 0, .int .i64 0, .str [], .int .i64 0, .bool false, .int .i64 0, .int .i64 0, .str [], .int .i64 0, .bool false, .int .i64 0, .int .i64 0, .str [], .int .i64 0, .bool false, .int .i64 0, .int .i64 0, .str [], .int .i64 0, .bool false, .int .i64 0, .int .i64 0] := by kernel_rfl
theorem kd_69 : kdT Try.prog 69 = .slice 9 := by kernel_rfl
theorem sz_69 : szT Try.prog 69 = 1 := by kernel_rfl
theorem by_69 : bytesT Try.prog 69 = 24 := by kernel_rfl
theorem ze_69 : zeroT Try.prog 69 = some [.lit (.slice none 0 0)] := by kernel_rfl
theorem kd_71 : kdT Try.prog 71 = .struct := by kernel_rfl
theorem sz_71 : szT Try.prog 71 = 2 := by kernel_rfl
theorem by_71 : bytesT Try.prog 71 = 32 := by kernel_rfl
theorem ze_71 : zeroT Try.prog 71 = some [.bool false, .lit (.slice none 0 0)] := by kernel_rfl
theorem pl_71 : placesT Try.prog 71 = some [(0, 1), (1, 1)] := by kernel_rfl
theorem fl_71_0 : fldT Try.prog 71 0 = some (0, 4) := by kernel_rfl
theorem fl_71_1 : fldT Try.prog 71 1 = some (1, 23) := by kernel_rfl
theorem kd_72 : kdT Try.prog 72 = .struct := by kernel_rfl
theorem sz_72 : szT Try.prog 72 = 2 := by kernel_rfl
theorem by_72 : bytesT Try.prog 72 = 32 := by kernel_rfl
theorem ze_72 : zeroT Try.prog 72 = some [.bool false, .lit (.slice none 0 0)] := by kernel_rfl
theorem pl_72 : placesT Try.prog 72 = some [(0, 1), (1, 1)] := by kernel_rfl
theorem fl_72_0 : fldT Try.prog 72 0 = some (0, 4) := by kernel_rfl
theorem fl_72_1 : fldT Try.prog 72 1 = some (1, 23) := by kernel_rfl
theorem kd_73 : kdT Try.prog 73 = .int .u64 := by kernel_rfl
theorem sz_73 : szT Try.prog 73 = 1 := by kernel_rfl
theorem by_73 : bytesT Try.prog 73 = 8 := by kernel_rfl
theorem ze_73 : zeroT Try.prog 73 = some [.int .u64 0] := by kernel_rfl
theorem kd_74 : kdT Try.prog 74 = .slice 22 := by kernel_rfl
theorem sz_74 : szT Try.prog 74 = 1 := by kernel_rfl
theorem by_74 : bytesT Try.prog 74 = 24 := by kernel_rfl
theorem ze_74 : zeroT Try.prog 74 = some [.lit (.slice none 0 0)] := by kernel_rfl
theorem kd_75 : kdT Try.prog 75 = .struct := by kernel_rfl
theorem sz_75 : szT Try.prog 75 = 3 := by kernel_rfl
theorem by_75 : bytesT Try.prog 75 = 32 := by kernel_rfl
theorem ze_75 : zeroT Try.prog 75 = some [.bool false, .bool false, .lit (.slice none 0 0)] := by kernel_rfl
theorem pl_75 : placesT Try.prog 75 = some [(0, 1), (1, 1), (2, 1)] := by kernel_rfl
theorem fl_75_0 : fldT Try.prog 75 0 = some (0, 4) := by kernel_rfl
theorem fl_75_1 : fldT Try.prog 75 1 = some (1, 4) := by kernel_rfl
theorem fl_75_2 : fldT Try.prog 75 2 = some (2, 23) := by kernel_rfl
theorem kd_76 : kdT Try.prog 76 = .struct := by kernel_rfl
theorem sz_76 : szT Try.prog 76 = 3 := by kernel_rfl
theorem by_76 : bytesT Try.prog 76 = 32 := by kernel_rfl
theorem ze_76 : zeroT Try.prog 76 = some [.bool false, .bool false, .lit (.slice none 0 0)] := by kernel_rfl
theorem pl_76 : placesT Try.prog 76 = some [(0, 1), (1, 1), (2, 1)] := by kernel_rfl
theorem fl_76_0 : fldT Try.prog 76 0 = some (0, 4) := by kernel_rfl
theorem fl_76_1 : fldT Try.prog 76 1 = some (1, 4) := by kernel_rfl
theorem fl_76_2 : fldT Try.prog 76 2 = some (2, 23) := by kernel_rfl
theorem kd_88 : kdT Try.prog 88 = .struct := by kernel_rfl
theorem sz_88 : szT Try.prog 88 = 4 := by kernel_rfl
theorem by_88 : bytesT Try.prog 88 = 40 := by kernel_rfl
theorem ze_88 : zeroT Try.prog 88 = some [.lit (.pointer none), .lit (.pointer none), .lit (.pointer none), .str []] := by kernel_rfl
theorem pl_88 : placesT Try.prog 88 = some [(0, 1), (1, 1), (2, 1), (3, 1)] := by kernel_rfl
theorem fl_88_0 : fldT Try.prog 88 0 = some (0, 17) := by kernel_rfl
theorem fl_88_1 : fldT Try.prog 88 1 = some (1, 17) := by kernel_rfl
theorem fl_88_2 : fldT Try.prog 88 2 = some (2, 17) := by kernel_rfl
theorem fl_88_3 : fldT Try.prog 88 3 = some (3, 9) := by kernel_rfl
theorem kd_89 : kdT Try.prog 89 = .struct := by kernel_rfl
theorem sz_89 : szT Try.prog 89 = 4 := by kernel_rfl
theorem by_89 : bytesT Try.prog 89 = 40 := by kernel_rfl
theorem ze_89 : zeroT Try.prog 89 = some [.lit (.pointer none), .lit (.pointer none), .lit (.pointer none), .str []] := by kernel_rfl
theorem pl_89 : placesT Try.prog 89 = some [(0, 1), (1, 1), (2, 1), (3, 1)] := by kernel_rfl
theorem fl_89_0 : fldT Try.prog 89 0 = some (0, 17) := by kernel_rfl
theorem fl_89_1 : fldT Try.prog 89 1 = some (1, 17) := by kernel_rfl
theorem fl_89_2 : fldT Try.prog 89 2 = some (2, 17) := by kernel_rfl
theorem fl_89_3 : fldT Try.prog 89 3 = some (3, 9) := by kernel_rfl
theorem kd_90 : kdT Try.prog 90 = .array 0 16 := by kernel_rfl
theorem sz_90 : szT Try.prog 90 = 0 := by kernel_rfl
theorem by_90 : bytesT Try.prog 90 = 0 := by kernel_rfl
theorem ze_90 : zeroT Try.prog 90 = some [] := by kernel_rfl
theorem kd_91 : kdT Try.prog 91 = .struct := by kernel_rfl
theorem sz_91 : szT Try.prog 91 = 0 := by kernel_rfl
theorem by_91 : bytesT Try.prog 91 = 0 := by kernel_rfl
theorem ze_91 : zeroT Try.prog 91 = some [] := by kernel_rfl
theorem pl_91 : placesT Try.prog 91 = some [(0, 0)] := by kernel_rfl
theorem kd_92 : kdT Try.prog 92 = .struct := by kernel_rfl
theorem sz_92 : szT Try.prog 92 = 0 := by kernel_rfl
theorem by_92 : bytesT Try.prog 92 = 0 := by kernel_rfl
theorem ze_92 : zeroT Try.prog 92 = some [] := by kernel_rfl
theorem pl_92 : placesT Try.prog 92 = some [(0, 0)] := by kernel_rfl
theorem kd_93 : kdT Try.prog 93 = .int .u32 := by kernel_rfl
theorem sz_93 : szT Try.prog 93 = 1 := by kernel_rfl
theorem by_93 : bytesT Try.prog 93 = 4 := by kernel_rfl
theorem ze_93 : zeroT Try.prog 93 = some [.int .u32 0] := by kernel_rfl
theorem kd_94 : kdT Try.prog 94 = .int .u8 := by kernel_rfl
theorem sz_94 : szT Try.prog 94 = 1 := by kernel_rfl
theorem by_94 : bytesT Try.prog 94 = 1 := by kernel_rfl
theorem ze_94 : zeroT Try.prog 94 = some [.int .u8 0] := by kernel_rfl
theorem kd_95 : kdT Try.prog 95 = .int .u8 := by kernel_rfl
theorem sz_95 : szT Try.prog 95 = 1 := by kernel_rfl
theorem by_95 : bytesT Try.prog 95 = 1 := by kernel_rfl
theorem ze_95 : zeroT Try.prog 95 = some [.int .u8 0] := by kernel_rfl
theorem kd_97 : kdT Try.prog 97 = .ptr := by kernel_rfl
theorem sz_97 : szT Try.prog 97 = 1 := by kernel_rfl
theorem by_97 : bytesT Try.prog 97 = 8 := by kernel_rfl
theorem ze_97 : zeroT Try.prog 97 = some [.lit (.pointer none)] := by kernel_rfl
theorem kd_98 : kdT Try.prog 98 = .int .i32 := by kernel_rfl
theorem sz_98 : szT Try.prog 98 = 1 := by kernel_rfl
theorem by_98 : bytesT Try.prog 98 = 4 := by kernel_rfl
theorem ze_98 : zeroT Try.prog 98 = some [.int .i32 0] := by kernel_rfl
theorem kd_99 : kdT Try.prog 99 = .int .i32 := by kernel_rfl
theorem sz_99 : szT Try.prog 99 = 1 := by kernel_rfl
theorem by_99 : bytesT Try.prog 99 = 4 := by kernel_rfl
theorem ze_99 : zeroT Try.prog 99 = some [.int .i32 0] := by kernel_rfl
theorem kd_100 : kdT Try.prog 100 = .struct := by kernel_rfl
theorem sz_100 : szT Try.prog 100 = 11 := by kernel_rfl
theorem by_100 : bytesT Try.prog 100 = 48 := by kernel_rfl
theorem ze_100 : zeroT Try.prog 100 = some [.int .u64 0, .int .u64 0, .int .u32 0, .int .u8 0, .int .u8 0, .int .u8 0, .int .u8 0, .lit .nilFunc, .lit (.pointer none), .int .i32 0, .int .i32 0] := by kernel_rfl
theorem pl_100 : placesT Try.prog 100 = some [(0, 1), (1, 1), (2, 1), (3, 1), (4, 1), (5, 1), (6, 1), (7, 1), (8, 1), (9, 1), (10, 1)] := by kernel_rfl
theorem fl_100_0 : fldT Try.prog 100 0 = some (0, 12) := by kernel_rfl
theorem fl_100_1 : fldT Try.prog 100 1 = some (1, 12) := by kernel_rfl
theorem fl_100_2 : fldT Try.prog 100 2 = some (2, 93) := by kernel_rfl
theorem fl_100_3 : fldT Try.prog 100 3 = some (3, 94) := by kernel_rfl
theorem fl_100_4 : fldT Try.prog 100 4 = some (4, 5) := by kernel_rfl
theorem fl_100_5 : fldT Try.prog 100 5 = some (5, 5) := by kernel_rfl
theorem fl_100_6 : fldT Try.prog 100 6 = some (6, 95) := by kernel_rfl
theorem fl_100_7 : fldT Try.prog 100 7 = some (7, 96) := by kernel_rfl
theorem fl_100_8 : fldT Try.prog 100 8 = some (8, 97) := by kernel_rfl
theorem fl_100_9 : fldT Try.prog 100 9 = some (9, 98) := by kernel_rfl
theorem fl_100_10 : fldT Try.prog 100 10 = some (10, 99) := by kernel_rfl
theorem kd_101 : kdT Try.prog 101 = .struct := by kernel_rfl
theorem sz_101 : szT Try.prog 101 = 11 := by kernel_rfl
theorem by_101 : bytesT Try.prog 101 = 48 := by kernel_rfl
theorem ze_101 : zeroT Try.prog 101 = some [.int .u64 0, .int .u64 0, .int .u32 0, .int .u8 0, .int .u8 0, .int .u8 0, .int .u8 0, .lit .nilFunc, .lit (.pointer none), .int .i32 0, .int .i32 0] := by kernel_rfl
theorem pl_101 : placesT Try.prog 101 = some [(0, 1), (1, 1), (2, 1), (3, 1), (4, 1), (5, 1), (6, 1), (7, 1), (8, 1), (9, 1), (10, 1)] := by kernel_rfl
theorem fl_101_0 : fldT Try.prog 101 0 = some (0, 12) := by kernel_rfl
theorem fl_101_1 : fldT Try.prog 101 1 = some (1, 12) := by kernel_rfl
theorem fl_101_2 : fldT Try.prog 101 2 = some (2, 93) := by kernel_rfl
theorem fl_101_3 : fldT Try.prog 101 3 = some (3, 94) := by kernel_rfl
theorem fl_101_4 : fldT Try.prog 101 4 = some (4, 5) := by kernel_rfl
theorem fl_101_5 : fldT Try.prog 101 5 = some (5, 5) := by kernel_rfl
theorem fl_101_6 : fldT Try.prog 101 6 = some (6, 95) := by kernel_rfl
theorem fl_101_7 : fldT Try.prog 101 7 = some (7, 96) := by kernel_rfl
theorem fl_101_8 : fldT Try.prog 101 8 = some (8, 97) := by kernel_rfl
theorem fl_101_9 : fldT Try.prog 101 9 = some (9, 98) := by kernel_rfl
theorem fl_101_10 : fldT Try.prog 101 10 = some (10, 99) := by kernel_rfl
instance : ETab := ⟨fun t => if t = 22 then some .int else if t = 23 then some .byte else if t = 69 then some .str else if t = 74 then some .ints else none⟩
theorem et_22 : ETab.of 22 = some .int := rfl
theorem et_23 : ETab.of 23 = some .byte := rfl
theorem et_69 : ETab.of 69 = some .str := rfl
theorem et_74 : ETab.of 74 = some .ints := rfl
theorem mixed : Try.prog.follows .mixedOrders = true := by kernel_rfl
theorem fn_2 : Try.prog.funcs[2]? = some Try.f2 := by kernel_rfl -- gosem.cut.init
theorem fn_3 : Try.prog.funcs[3]? = some Try.f3 := by kernel_rfl -- spacecraft/spacecraftlaw39.CommandEncodes
theorem fn_4 : Try.prog.funcs[4]? = some Try.f4 := by kernel_rfl -- spacecraft/spacecraftlaw39.CommandDecodes
theorem fn_5 : Try.prog.funcs[5]? = some Try.f5 := by kernel_rfl -- spacecraft/spacecraftlaw39.CommandApart
theorem fn_6 : Try.prog.funcs[6]? = some Try.f6 := by kernel_rfl -- spacecraft/spacecraftlaw39.CommandBack
theorem fn_7 : Try.prog.funcs[7]? = some Try.f7 := by kernel_rfl -- spacecraft/spacecraftlaw39.CommandTable
theorem fn_8 : Try.prog.funcs[8]? = some Try.f8 := by kernel_rfl -- spacecraft/spacecraftlaw39.light
theorem fn_9 : Try.prog.funcs[9]? = some Try.f9 := by kernel_rfl -- spacecraft/command.Encode
theorem fn_10 : Try.prog.funcs[10]? = some Try.f10 := by kernel_rfl -- spacecraft/spacecraftref39.Valid
theorem fn_11 : Try.prog.funcs[11]? = some Try.f11 := by kernel_rfl -- spacecraft/command.Valid
theorem fn_12 : Try.prog.funcs[12]? = some Try.f12 := by kernel_rfl -- spacecraft/spacecraftlaw39.awake
theorem fn_13 : Try.prog.funcs[13]? = some Try.f13 := by kernel_rfl -- spacecraft/spacecraftref39.Encode
theorem fn_14 : Try.prog.funcs[14]? = some Try.f14 := by kernel_rfl -- spacecraft/command.Decode
theorem fn_15 : Try.prog.funcs[15]? = some Try.f15 := by kernel_rfl -- spacecraft/spacecraftref39.Decode
theorem fn_16 : Try.prog.funcs[16]? = some Try.f16 := by kernel_rfl -- spacecraft/spacecraftref39.Same
theorem fn_17 : Try.prog.funcs[17]? = some Try.f17 := by kernel_rfl -- spacecraft/command.Permitted
theorem fn_18 : Try.prog.funcs[18]? = some Try.f18 := by kernel_rfl -- spacecraft/command.Service
theorem fn_19 : Try.prog.funcs[19]? = some Try.f19 := by kernel_rfl -- spacecraft/command.Name
theorem fn_20 : Try.prog.funcs[20]? = some Try.f20 := by kernel_rfl -- spacecraft/command.Args
theorem fn_21 : Try.prog.funcs[21]? = some Try.f21 := by kernel_rfl -- spacecraft/spacecraftref39.Args
theorem fn_22 : Try.prog.funcs[22]? = some Try.f22 := by kernel_rfl -- spacecraft/spacecraftref39.Permitted
theorem fn_23 : Try.prog.funcs[23]? = some Try.f23 := by kernel_rfl -- spacecraft/spacecraftref39.Name
theorem fn_24 : Try.prog.funcs[24]? = some Try.f24 := by kernel_rfl -- spacecraft/spacecraftref39.Service
theorem fn_25 : Try.prog.funcs[25]? = some Try.f25 := by kernel_rfl -- spacecraft/octets.NewWriter
theorem fn_26 : Try.prog.funcs[26]? = some Try.f26 := by kernel_rfl -- (*spacecraft/octets.Writer).Uint
theorem fn_27 : Try.prog.funcs[27]? = some Try.f27 := by kernel_rfl -- (*spacecraft/octets.Writer).Int
theorem fn_28 : Try.prog.funcs[28]? = some Try.f28 := by kernel_rfl -- spacecraft/command.find
theorem fn_29 : Try.prog.funcs[29]? = some Try.f29 := by kernel_rfl -- (*spacecraft/octets.Writer).Blob
theorem fn_30 : Try.prog.funcs[30]? = some Try.f30 := by kernel_rfl -- (*spacecraft/octets.Writer).Bytes
theorem fn_31 : Try.prog.funcs[31]? = some Try.f31 := by kernel_rfl -- spacecraft/spacecraftref39.row
theorem fn_32 : Try.prog.funcs[32]? = some Try.f32 := by kernel_rfl -- spacecraft/spacecraftref03.Uint
theorem fn_33 : Try.prog.funcs[33]? = some Try.f33 := by kernel_rfl -- spacecraft/spacecraftref03.Int
theorem fn_34 : Try.prog.funcs[34]? = some Try.f34 := by kernel_rfl -- spacecraft/spacecraftref03.Blob
theorem fn_35 : Try.prog.funcs[35]? = some Try.f35 := by kernel_rfl -- spacecraft/octets.NewReader
theorem fn_36 : Try.prog.funcs[36]? = some Try.f36 := by kernel_rfl -- (*spacecraft/octets.Reader).Uint
theorem fn_37 : Try.prog.funcs[37]? = some Try.f37 := by kernel_rfl -- (*spacecraft/octets.Reader).Int
theorem fn_38 : Try.prog.funcs[38]? = some Try.f38 := by kernel_rfl -- (*spacecraft/octets.Reader).Blob
theorem fn_39 : Try.prog.funcs[39]? = some Try.f39 := by kernel_rfl -- (*spacecraft/octets.Reader).End
theorem fn_40 : Try.prog.funcs[40]? = some Try.f40 := by kernel_rfl -- bytes.Equal
theorem fn_41 : Try.prog.funcs[41]? = some Try.f41 := by kernel_rfl -- (*spacecraft/spacecraftref03.Reader).Uint
theorem fn_42 : Try.prog.funcs[42]? = some Try.f42 := by kernel_rfl -- (*spacecraft/spacecraftref03.Reader).Int
theorem fn_43 : Try.prog.funcs[43]? = some Try.f43 := by kernel_rfl -- (*spacecraft/spacecraftref03.Reader).Blob
theorem fn_44 : Try.prog.funcs[44]? = some Try.f44 := by kernel_rfl -- spacecraft/command.table
theorem fn_45 : Try.prog.funcs[45]? = some Try.f45 := by kernel_rfl -- spacecraft/spacecraftref39.Names
theorem fn_46 : Try.prog.funcs[46]? = some Try.f46 := by kernel_rfl -- (*spacecraft/octets.Writer).ok
theorem fn_47 : Try.prog.funcs[47]? = some Try.f47 := by kernel_rfl -- spacecraft/octets.zigzag
theorem fn_48 : Try.prog.funcs[48]? = some Try.f48 := by kernel_rfl -- spacecraft/spacecraftref03.Zigzag
theorem fn_49 : Try.prog.funcs[49]? = some Try.f49 := by kernel_rfl -- (*spacecraft/octets.Reader).ok
theorem fn_50 : Try.prog.funcs[50]? = some Try.f50 := by kernel_rfl -- (*spacecraft/octets.Reader).fail
theorem fn_51 : Try.prog.funcs[51]? = some Try.f51 := by kernel_rfl -- (*spacecraft/octets.Reader).group
theorem fn_52 : Try.prog.funcs[52]? = some Try.f52 := by kernel_rfl -- (*spacecraft/octets.Reader).Count
theorem fn_53 : Try.prog.funcs[53]? = some Try.f53 := by kernel_rfl -- spacecraft/spacecraftref03.TakeUint
theorem fn_54 : Try.prog.funcs[54]? = some Try.f54 := by kernel_rfl -- (*spacecraft/spacecraftref03.Reader).next
theorem fn_55 : Try.prog.funcs[55]? = some Try.f55 := by kernel_rfl -- spacecraft/spacecraftref03.TakeInt
theorem fn_56 : Try.prog.funcs[56]? = some Try.f56 := by kernel_rfl -- spacecraft/spacecraftref03.TakeBlob
theorem fn_57 : Try.prog.funcs[57]? = some Try.f57 := by kernel_rfl -- spacecraft/spacecraftref03.TakeCount
attribute [go_sem] kd_2 sz_2 by_2 ze_2 kd_3 sz_3 by_3 ze_3 kd_4 sz_4 by_4 ze_4 kd_5 sz_5 by_5 ze_5 kd_6 sz_6 by_6 ze_6 kd_7 sz_7 by_7 ze_7 pl_7 fl_7_0 fl_7_1 fl_7_2 fl_7_3 kd_8 sz_8 by_8 ze_8 pl_8 fl_8_0 fl_8_1 fl_8_2 fl_8_3 kd_9 sz_9 by_9 ze_9 kd_10 sz_10 by_10 ze_10 kd_11 sz_11 by_11 ze_11 kd_12 sz_12 by_12 ze_12 kd_13 sz_13 by_13 ze_13 pl_13 fl_13_0 fl_13_1 kd_14 sz_14 by_14 ze_14 pl_14 fl_14_0 fl_14_1 kd_15 sz_15 by_15 ze_15 kd_16 sz_16 by_16 ze_16 kd_17 sz_17 by_17 ze_17 kd_18 sz_18 by_18 ze_18 pl_18 fl_18_0 kd_19 sz_19 by_19 ze_19 pl_19 fl_19_0 kd_20 sz_20 by_20 ze_20 kd_21 sz_21 by_21 ze_21 kd_22 sz_22 by_22 ze_22 kd_23 sz_23 by_23 ze_23 kd_24 sz_24 by_24 ze_24 pl_24 fl_24_0 fl_24_1 fl_24_2 fl_24_3 fl_24_4 kd_25 sz_25 by_25 ze_25 pl_25 fl_25_0 fl_25_1 fl_25_2 fl_25_3 fl_25_4 kd_27 sz_27 by_27 ze_27 kd_44 sz_44 by_44 ze_44 kd_47 sz_47 by_47 ze_47 kd_49 sz_49 by_49 ze_49 pl_49 fl_49_0 fl_49_1 fl_49_2 fl_49_3 fl_49_4 kd_50 sz_50 by_50 ze_50 pl_50 fs_50 fl_50_0 fl_50_1 fl_50_2 fl_50_3 fl_50_4 kd_59 sz_59 by_59 ze_59 kd_64 sz_64 by_64 ze_64 kd_65 sz_65 by_65 ze_65 pl_65 fl_65_0 fl_65_1 kd_66 sz_66 by_66 ze_66 pl_66 fl_66_0 fl_66_1 kd_67 sz_67 by_67 ze_67 kd_69 sz_69 by_69 ze_69 kd_71 sz_71 by_71 ze_71 pl_71 fl_71_0 fl_71_1 kd_72 sz_72 by_72 ze_72 pl_72 fl_72_0 fl_72_1 kd_73 sz_73 by_73 ze_73 kd_74 sz_74 by_74 ze_74 kd_75 sz_75 by_75 ze_75 pl_75 fl_75_0 fl_75_1 fl_75_2 kd_76 sz_76 by_76 ze_76 pl_76 fl_76_0 fl_76_1 fl_76_2 kd_88 sz_88 by_88 ze_88 pl_88 fl_88_0 fl_88_1 fl_88_2 fl_88_3 kd_89 sz_89 by_89 ze_89 pl_89 fl_89_0 fl_89_1 fl_89_2 fl_89_3 kd_90 sz_90 by_90 ze_90 kd_91 sz_91 by_91 ze_91 pl_91 kd_92 sz_92 by_92 ze_92 pl_92 kd_93 sz_93 by_93 ze_93 kd_94 sz_94 by_94 ze_94 kd_95 sz_95 by_95 ze_95 kd_97 sz_97 by_97 ze_97 kd_98 sz_98 by_98 ze_98 kd_99 sz_99 by_99 ze_99 kd_100 sz_100 by_100 ze_100 pl_100 fl_100_0 fl_100_1 fl_100_2 fl_100_3 fl_100_4 fl_100_5 fl_100_6 fl_100_7 fl_100_8 fl_100_9 fl_100_10 kd_101 sz_101 by_101 ze_101 pl_101 fl_101_0 fl_101_1 fl_101_2 fl_101_3 fl_101_4 fl_101_5 fl_101_6 fl_101_7 fl_101_8 fl_101_9 fl_101_10 et_22 et_23 et_69 et_74
end Go.V
