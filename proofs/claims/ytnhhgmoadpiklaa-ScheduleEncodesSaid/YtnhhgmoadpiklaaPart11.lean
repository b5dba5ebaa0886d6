/-
  T
-/
import Derived.Test.YtnhhgmoadpiklaaPart10
import Derived.Test.YtnhhgmoadpiklaaProg
import Derived.KernelRfl
set_option linter.unusedVariables false
set_option linter.unusedSimpArgs false
namespace Go.V
open Go.Proofs
theorem kd_2 : kdT Try.prog 2 = .int .i64 := by kernel_rfl
theorem sz_2 : szT Try.prog 2 = 1 := by kernel_rfl
theorem by_2 : bytesT Try.prog 2 = 8 := by kernel_rfl
theorem ze_2 : zeroT Try.prog 2 = some [.int .i64 0] := by kernel_rfl
theorem kd_3 : kdT Try.prog 3 = .int .i64 := by kernel_rfl
theorem sz_3 : szT Try.prog 3 = 1 := by kernel_rfl
theorem by_3 : bytesT Try.prog 3 = 8 := by kernel_rfl
theorem ze_3 : zeroT Try.prog 3 = some [.int .i64 0] := by kernel_rfl
theorem kd_4 : kdT Try.prog 4 = .bool := by kernel_rfl
theorem sz_4 : szT Try.prog 4 = 1 := by kernel_rfl
theorem by_4 : bytesT Try.prog 4 = 1 := by kernel_rfl
theorem ze_4 : zeroT Try.prog 4 = some [.bool false] := by kernel_rfl
theorem kd_5 : kdT Try.prog 5 = .int .u8 := by kernel_rfl
theorem sz_5 : szT Try.prog 5 = 1 := by kernel_rfl
theorem by_5 : bytesT Try.prog 5 = 1 := by kernel_rfl
theorem ze_5 : zeroT Try.prog 5 = some [.int .u8 0] := by kernel_rfl
theorem kd_6 : kdT Try.prog 6 = .int .u8 := by kernel_rfl
theorem sz_6 : szT Try.prog 6 = 1 := by kernel_rfl
theorem by_6 : bytesT Try.prog 6 = 1 := by kernel_rfl
theorem ze_6 : zeroT Try.prog 6 = some [.int .u8 0] := by kernel_rfl
theorem kd_7 : kdT Try.prog 7 = .struct := by kernel_rfl
theorem sz_7 : szT Try.prog 7 = 4 := by kernel_rfl
theorem by_7 : bytesT Try.prog 7 = 24 := by kernel_rfl
theorem ze_7 : zeroT Try.prog 7 = some [.int .i64 0, .int .i64 0, .bool false, .int .u8 0] := by kernel_rfl
theorem pl_7 : placesT Try.prog 7 = some [(0, 1), (1, 1), (2, 1), (3, 1)] := by kernel_rfl
theorem fl_7_0 : fldT Try.prog 7 0 = some (0, 2) := by kernel_rfl
theorem fl_7_1 : fldT Try.prog 7 1 = some (1, 3) := by kernel_rfl
theorem fl_7_2 : fldT Try.prog 7 2 = some (2, 4) := by kernel_rfl
theorem fl_7_3 : fldT Try.prog 7 3 = some (3, 6) := by kernel_rfl
theorem kd_8 : kdT Try.prog 8 = .struct := by kernel_rfl
theorem sz_8 : szT Try.prog 8 = 4 := by kernel_rfl
theorem by_8 : bytesT Try.prog 8 = 24 := by kernel_rfl
theorem ze_8 : zeroT Try.prog 8 = some [.int .i64 0, .int .i64 0, .bool false, .int .u8 0] := by kernel_rfl
theorem pl_8 : placesT Try.prog 8 = some [(0, 1), (1, 1), (2, 1), (3, 1)] := by kernel_rfl
theorem fl_8_0 : fldT Try.prog 8 0 = some (0, 2) := by kernel_rfl
theorem fl_8_1 : fldT Try.prog 8 1 = some (1, 3) := by kernel_rfl
theorem fl_8_2 : fldT Try.prog 8 2 = some (2, 4) := by kernel_rfl
theorem fl_8_3 : fldT Try.prog 8 3 = some (3, 6) := by kernel_rfl
theorem kd_9 : kdT Try.prog 9 = .str := by kernel_rfl
theorem sz_9 : szT Try.prog 9 = 1 := by kernel_rfl
theorem by_9 : bytesT Try.prog 9 = 16 := by kernel_rfl
theorem ze_9 : zeroT Try.prog 9 = some [.str []] := by kernel_rfl
theorem kd_10 : kdT Try.prog 10 = .str := by kernel_rfl
theorem sz_10 : szT Try.prog 10 = 1 := by kernel_rfl
theorem by_10 : bytesT Try.prog 10 = 16 := by kernel_rfl
theorem ze_10 : zeroT Try.prog 10 = some [.str []] := by kernel_rfl
theorem kd_11 : kdT Try.prog 11 = .str := by kernel_rfl
theorem sz_11 : szT Try.prog 11 = 1 := by kernel_rfl
theorem by_11 : bytesT Try.prog 11 = 16 := by kernel_rfl
theorem ze_11 : zeroT Try.prog 11 = some [.str []] := by kernel_rfl
theorem kd_12 : kdT Try.prog 12 = .int .u64 := by kernel_rfl
theorem sz_12 : szT Try.prog 12 = 1 := by kernel_rfl
theorem by_12 : bytesT Try.prog 12 = 8 := by kernel_rfl
theorem ze_12 : zeroT Try.prog 12 = some [.int .u64 0] := by kernel_rfl
theorem kd_13 : kdT Try.prog 13 = .struct := by kernel_rfl
theorem sz_13 : szT Try.prog 13 = 2 := by kernel_rfl
theorem by_13 : bytesT Try.prog 13 = 24 := by kernel_rfl
theorem ze_13 : zeroT Try.prog 13 = some [.str [], .int .u64 0] := by kernel_rfl
theorem pl_13 : placesT Try.prog 13 = some [(0, 1), (1, 1)] := by kernel_rfl
theorem fl_13_0 : fldT Try.prog 13 0 = some (0, 9) := by kernel_rfl
theorem fl_13_1 : fldT Try.prog 13 1 = some (1, 12) := by kernel_rfl
theorem kd_14 : kdT Try.prog 14 = .struct := by kernel_rfl
theorem sz_14 : szT Try.prog 14 = 2 := by kernel_rfl
theorem by_14 : bytesT Try.prog 14 = 24 := by kernel_rfl
theorem ze_14 : zeroT Try.prog 14 = some [.str [], .int .u64 0] := by kernel_rfl
theorem pl_14 : placesT Try.prog 14 = some [(0, 1), (1, 1)] := by kernel_rfl
theorem fl_14_0 : fldT Try.prog 14 0 = some (0, 9) := by kernel_rfl
theorem fl_14_1 : fldT Try.prog 14 1 = some (1, 12) := by kernel_rfl
theorem kd_15 : kdT Try.prog 15 = .ptr := by kernel_rfl
theorem sz_15 : szT Try.prog 15 = 1 := by kernel_rfl
theorem by_15 : bytesT Try.prog 15 = 8 := by kernel_rfl
theorem ze_15 : zeroT Try.prog 15 = some [.lit (.pointer none)] := by kernel_rfl
theorem kd_16 : kdT Try.prog 16 = .ptr := by kernel_rfl
theorem sz_16 : szT Try.prog 16 = 1 := by kernel_rfl
theorem by_16 : bytesT Try.prog 16 = 8 := by kernel_rfl
theorem ze_16 : zeroT Try.prog 16 = some [.lit (.pointer none)] := by kernel_rfl
theorem kd_17 : kdT Try.prog 17 = .ptr := by kernel_rfl
theorem sz_17 : szT Try.prog 17 = 1 := by kernel_rfl
theorem by_17 : bytesT Try.prog 17 = 8 := by kernel_rfl
theorem ze_17 : zeroT Try.prog 17 = some [.lit (.pointer none)] := by kernel_rfl
theorem kd_18 : kdT Try.prog 18 = .struct := by kernel_rfl
theorem sz_18 : szT Try.prog 18 = 1 := by kernel_rfl
theorem by_18 : bytesT Try.prog 18 = 8 := by kernel_rfl
theorem ze_18 : zeroT Try.prog 18 = some [.lit (.pointer none)] := by kernel_rfl
theorem pl_18 : placesT Try.prog 18 = some [(0, 1)] := by kernel_rfl
theorem fl_18_0 : fldT Try.prog 18 0 = some (0, 17) := by kernel_rfl
theorem kd_19 : kdT Try.prog 19 = .struct := by kernel_rfl
theorem sz_19 : szT Try.prog 19 = 1 := by kernel_rfl
theorem by_19 : bytesT Try.prog 19 = 8 := by kernel_rfl
theorem ze_19 : zeroT Try.prog 19 = some [.lit (.pointer none)] := by kernel_rfl
theorem pl_19 : placesT Try.prog 19 = some [(0, 1)] := by kernel_rfl
theorem fl_19_0 : fldT Try.prog 19 0 = some (0, 17) := by kernel_rfl
theorem kd_20 : kdT Try.prog 20 = .iface := by kernel_rfl
theorem sz_20 : szT Try.prog 20 = 1 := by kernel_rfl
theorem by_20 : bytesT Try.prog 20 = 16 := by kernel_rfl
theorem ze_20 : zeroT Try.prog 20 = some [.lit .nilIface] := by kernel_rfl
theorem kd_21 : kdT Try.prog 21 = .int .i32 := by kernel_rfl
theorem sz_21 : szT Try.prog 21 = 1 := by kernel_rfl
theorem by_21 : bytesT Try.prog 21 = 4 := by kernel_rfl
theorem ze_21 : zeroT Try.prog 21 = some [.int .i32 0] := by kernel_rfl
theorem kd_22 : kdT Try.prog 22 = .slice 38 := by kernel_rfl
theorem sz_22 : szT Try.prog 22 = 1 := by kernel_rfl
theorem by_22 : bytesT Try.prog 22 = 24 := by kernel_rfl
theorem ze_22 : zeroT Try.prog 22 = some [.lit (.slice none 0 0)] := by kernel_rfl
theorem kd_23 : kdT Try.prog 23 = .ptr := by kernel_rfl
theorem sz_23 : szT Try.prog 23 = 1 := by kernel_rfl
theorem by_23 : bytesT Try.prog 23 = 8 := by kernel_rfl
theorem ze_23 : zeroT Try.prog 23 = some [.lit (.pointer none)] := by kernel_rfl
theorem kd_27 : kdT Try.prog 27 = .slice 48 := by kernel_rfl
theorem sz_27 : szT Try.prog 27 = 1 := by kernel_rfl
theorem by_27 : bytesT Try.prog 27 = 24 := by kernel_rfl
theorem ze_27 : zeroT Try.prog 27 = some [.lit (.slice none 0 0)] := by kernel_rfl
theorem kd_28 : kdT Try.prog 28 = .slice 3 := by kernel_rfl
theorem sz_28 : szT Try.prog 28 = 1 := by kernel_rfl
theorem by_28 : bytesT Try.prog 28 = 24 := by kernel_rfl
theorem ze_28 : zeroT Try.prog 28 = some [.lit (.slice none 0 0)] := by kernel_rfl
theorem kd_29 : kdT Try.prog 29 = .struct := by kernel_rfl
theorem sz_29 : szT Try.prog 29 = 5 := by kernel_rfl
theorem by_29 : bytesT Try.prog 29 = 72 := by kernel_rfl
theorem ze_29 : zeroT Try.prog 29 = some [.int .i64 0, .int .i64 0, .int .i64 0, .lit (.slice none 0 0), .lit (.slice none 0 0)] := by kernel_rfl
theorem pl_29 : placesT Try.prog 29 = some [(0, 1), (1, 1), (2, 1), (3, 1), (4, 1)] := by kernel_rfl
theorem fl_29_0 : fldT Try.prog 29 0 = some (0, 3) := by kernel_rfl
theorem fl_29_1 : fldT Try.prog 29 1 = some (1, 3) := by kernel_rfl
theorem fl_29_2 : fldT Try.prog 29 2 = some (2, 3) := by kernel_rfl
theorem fl_29_3 : fldT Try.prog 29 3 = some (3, 27) := by kernel_rfl
theorem fl_29_4 : fldT Try.prog 29 4 = some (4, 28) := by kernel_rfl
theorem kd_30 : kdT Try.prog 30 = .struct := by kernel_rfl
theorem sz_30 : szT Try.prog 30 = 5 := by kernel_rfl
theorem by_30 : bytesT Try.prog 30 = 72 := by kernel_rfl
theorem ze_30 : zeroT Try.prog 30 = some [.int .i64 0, .int .i64 0, .int .i64 0, .lit (.slice none 0 0), .lit (.slice none 0 0)] := by kernel_rfl
theorem pl_30 : placesT Try.prog 30 = some [(0, 1), (1, 1), (2, 1), (3, 1), (4, 1)] := by kernel_rfl
theorem fl_30_0 : fldT Try.prog 30 0 = some (0, 3) := by kernel_rfl
theorem fl_30_1 : fldT Try.prog 30 1 = some (1, 3) := by kernel_rfl
theorem fl_30_2 : fldT Try.prog 30 2 = some (2, 3) := by kernel_rfl
theorem fl_30_3 : fldT Try.prog 30 3 = some (3, 27) := by kernel_rfl
theorem fl_30_4 : fldT Try.prog 30 4 = some (4, 28) := by kernel_rfl
theorem kd_33 : kdT Try.prog 33 = .ptr := by kernel_rfl
theorem sz_33 : szT Try.prog 33 = 1 := by kernel_rfl
theorem by_33 : bytesT Try.prog 33 = 8 := by kernel_rfl
theorem ze_33 : zeroT Try.prog 33 = some [.lit (.pointer none)] := by kernel_rfl
theorem kd_34 : kdT Try.prog 34 = .slice 5 := by kernel_rfl
theorem sz_34 : szT Try.prog 34 = 1 := by kernel_rfl
theorem by_34 : bytesT Try.prog 34 = 24 := by kernel_rfl
theorem ze_34 : zeroT Try.prog 34 = some [.lit (.slice none 0 0)] := by kernel_rfl
theorem kd_35 : kdT Try.prog 35 = .struct := by kernel_rfl
theorem sz_35 : szT Try.prog 35 = 5 := by kernel_rfl
theorem by_35 : bytesT Try.prog 35 = 72 := by kernel_rfl
theorem ze_35 : zeroT Try.prog 35 = some [.int .i64 0, .int .i64 0, .int .i64 0, .lit (.slice none 0 0), .lit (.slice none 0 0)] := by kernel_rfl
theorem pl_35 : placesT Try.prog 35 = some [(0, 1), (1, 1), (2, 1), (3, 1), (4, 1)] := by kernel_rfl
theorem fl_35_0 : fldT Try.prog 35 0 = some (0, 3) := by kernel_rfl
theorem fl_35_1 : fldT Try.prog 35 1 = some (1, 3) := by kernel_rfl
theorem fl_35_2 : fldT Try.prog 35 2 = some (2, 3) := by kernel_rfl
theorem fl_35_3 : fldT Try.prog 35 3 = some (3, 28) := by kernel_rfl
theorem fl_35_4 : fldT Try.prog 35 4 = some (4, 34) := by kernel_rfl
theorem kd_36 : kdT Try.prog 36 = .struct := by kernel_rfl
theorem sz_36 : szT Try.prog 36 = 5 := by kernel_rfl
theorem by_36 : bytesT Try.prog 36 = 72 := by kernel_rfl
theorem ze_36 : zeroT Try.prog 36 = some [.int .i64 0, .int .i64 0, .int .i64 0, .lit (.slice none 0 0), .lit (.slice none 0 0)] := by kernel_rfl
theorem pl_36 : placesT Try.prog 36 = some [(0, 1), (1, 1), (2, 1), (3, 1), (4, 1)] := by kernel_rfl
theorem fl_36_0 : fldT Try.prog 36 0 = some (0, 3) := by kernel_rfl
theorem fl_36_1 : fldT Try.prog 36 1 = some (1, 3) := by kernel_rfl
theorem fl_36_2 : fldT Try.prog 36 2 = some (2, 3) := by kernel_rfl
theorem fl_36_3 : fldT Try.prog 36 3 = some (3, 28) := by kernel_rfl
theorem fl_36_4 : fldT Try.prog 36 4 = some (4, 34) := by kernel_rfl
theorem kd_37 : kdT Try.prog 37 = .struct := by kernel_rfl
theorem sz_37 : szT Try.prog 37 = 10 := by kernel_rfl
theorem by_37 : bytesT Try.prog 37 = 112 := by kernel_rfl
theorem ze_37 : zeroT Try.prog 37 = some [.int .u8 0, .int .i64 0, .int .i64 0, .int .i64 0, .bool false, .int .i64 0, .int .i64 0, .int .i64 0, .lit (.slice none 0 0), .lit (.slice none 0 0)] := by kernel_rfl
theorem pl_37 : placesT Try.prog 37 = some [(0, 1), (1, 1), (2, 1), (3, 1), (4, 1), (5, 5)] := by kernel_rfl
theorem fl_37_0 : fldT Try.prog 37 0 = some (0, 5) := by kernel_rfl
theorem fl_37_1 : fldT Try.prog 37 1 = some (1, 3) := by kernel_rfl
theorem fl_37_2 : fldT Try.prog 37 2 = some (2, 3) := by kernel_rfl
theorem fl_37_3 : fldT Try.prog 37 3 = some (3, 3) := by kernel_rfl
theorem fl_37_4 : fldT Try.prog 37 4 = some (4, 4) := by kernel_rfl
theorem fl_37_5 : fldT Try.prog 37 5 = some (5, 36) := by kernel_rfl
theorem kd_38 : kdT Try.prog 38 = .struct := by kernel_rfl
theorem sz_38 : szT Try.prog 38 = 10 := by kernel_rfl
theorem by_38 : bytesT Try.prog 38 = 112 := by kernel_rfl
theorem ze_38 : zeroT Try.prog 38 = some [.int .u8 0, .int .i64 0, .int .i64 0, .int .i64 0, .bool false, .int .i64 0, .int .i64 0, .int .i64 0, .lit (.slice none 0 0), .lit (.slice none 0 0)] := by kernel_rfl
theorem pl_38 : placesT Try.prog 38 = some [(0, 1), (1, 1), (2, 1), (3, 1), (4, 1), (5, 5)] := by kernel_rfl
theorem fl_38_0 : fldT Try.prog 38 0 = some (0, 5) := by kernel_rfl
theorem fl_38_1 : fldT Try.prog 38 1 = some (1, 3) := by kernel_rfl
theorem fl_38_2 : fldT Try.prog 38 2 = some (2, 3) := by kernel_rfl
theorem fl_38_3 : fldT Try.prog 38 3 = some (3, 3) := by kernel_rfl
theorem fl_38_4 : fldT Try.prog 38 4 = some (4, 4) := by kernel_rfl
theorem fl_38_5 : fldT Try.prog 38 5 = some (5, 36) := by kernel_rfl
theorem kd_42 : kdT Try.prog 42 = .slice 46 := by kernel_rfl
theorem sz_42 : szT Try.prog 42 = 1 := by kernel_rfl
theorem by_42 : bytesT Try.prog 42 = 24 := by kernel_rfl
theorem ze_42 : zeroT Try.prog 42 = some [.lit (.slice none 0 0)] := by kernel_rfl
theorem kd_43 : kdT Try.prog 43 = .int .i64 := by kernel_rfl
theorem sz_43 : szT Try.prog 43 = 1 := by kernel_rfl
theorem by_43 : bytesT Try.prog 43 = 8 := by kernel_rfl
theorem ze_43 : zeroT Try.prog 43 = some [.int .i64 0] := by kernel_rfl
theorem kd_46 : kdT Try.prog 46 = .int .u16 := by kernel_rfl
theorem sz_46 : szT Try.prog 46 = 1 := by kernel_rfl
theorem by_46 : bytesT Try.prog 46 = 2 := by kernel_rfl
theorem ze_46 : zeroT Try.prog 46 = some [.int .u16 0] := by kernel_rfl
theorem kd_47 : kdT Try.prog 47 = .struct := by kernel_rfl
theorem sz_47 : szT Try.prog 47 = 8 := by kernel_rfl
theorem by_47 : bytesT Try.prog 47 = 96 := by kernel_rfl
theorem ze_47 : zeroT Try.prog 47 = some [.int .i64 0, .int .i64 0, .int .i64 0, .int .i64 0, .int .i64 0, .int .i64 0, .lit (.slice none 0 0), .lit (.slice none 0 0)] := by kernel_rfl
theorem pl_47 : placesT Try.prog 47 = some [(0, 1), (1, 1), (2, 1), (3, 5)] := by kernel_rfl
theorem fl_47_0 : fldT Try.prog 47 0 = some (0, 3) := by kernel_rfl
theorem fl_47_1 : fldT Try.prog 47 1 = some (1, 3) := by kernel_rfl
theorem fl_47_2 : fldT Try.prog 47 2 = some (2, 3) := by kernel_rfl
theorem fl_47_3 : fldT Try.prog 47 3 = some (3, 36) := by kernel_rfl
theorem kd_48 : kdT Try.prog 48 = .struct := by kernel_rfl
theorem sz_48 : szT Try.prog 48 = 8 := by kernel_rfl
theorem by_48 : bytesT Try.prog 48 = 96 := by kernel_rfl
theorem ze_48 : zeroT Try.prog 48 = some [.int .i64 0, .int .i64 0, .int .i64 0, .int .i64 0, .int .i64 0, .int .i64 0, .lit (.slice none 0 0), .lit (.slice none 0 0)] := by kernel_rfl
theorem pl_48 : placesT Try.prog 48 = some [(0, 1), (1, 1), (2, 1), (3, 5)] := by kernel_rfl
theorem fl_48_0 : fldT Try.prog 48 0 = some (0, 3) := by kernel_rfl
theorem fl_48_1 : fldT Try.prog 48 1 = some (1, 3) := by kernel_rfl
theorem fl_48_2 : fldT Try.prog 48 2 = some (2, 3) := by kernel_rfl
theorem fl_48_3 : fldT Try.prog 48 3 = some (3, 36) := by kernel_rfl
theorem kd_51 : kdT Try.prog 51 = .array 16 4 := by kernel_rfl
theorem sz_51 : szT Try.prog 51 = 16 := by kernel_rfl
theorem by_51 : bytesT Try.prog 51 = 16 := by kernel_rfl
theorem ze_51 : zeroT Try.prog 51 = some [.bool false, .bool false, .bool false, .bool false, .bool false, .bool false, .bool false, .bool false, .bool false, .bool false, .bool false, .bool false, .bool false, .bool false, .bool false, .bool false] := by kernel_rfl
theorem kd_52 : kdT Try.prog 52 = .slice 72 := by kernel_rfl
theorem sz_52 : szT Try.prog 52 = 1 := by kernel_rfl
theorem by_52 : bytesT Try.prog 52 = 24 := by kernel_rfl
theorem ze_52 : zeroT Try.prog 52 = some [.lit (.slice none 0 0)] := by kernel_rfl
theorem kd_53 : kdT Try.prog 53 = .struct := by kernel_rfl
theorem sz_53 : szT Try.prog 53 = 21 := by kernel_rfl
theorem by_53 : bytesT Try.prog 53 = 72 := by kernel_rfl
theorem ze_53 : zeroT Try.prog 53 = some [.bool false, .int .i64 0, .int .i64 0, .int .i64 0, .bool false, .bool false, .bool false, .bool false, .bool false, .bool false, .bool false, .bool false, .bool false, .bool false, .bool false, .bool false, .bool false, .bool false, .bool false, .bool false, .lit (.slice none 0 0)] := by kernel_rfl
theorem pl_53 : placesT Try.prog 53 = some [(0, 1), (1, 1), (2, 1), (3, 1), (4, 16), (20, 1)] := by kernel_rfl
theorem fl_53_0 : fldT Try.prog 53 0 = some (0, 4) := by kernel_rfl
theorem fl_53_1 : fldT Try.prog 53 1 = some (1, 3) := by kernel_rfl
theorem fl_53_2 : fldT Try.prog 53 2 = some (2, 3) := by kernel_rfl
theorem fl_53_3 : fldT Try.prog 53 3 = some (3, 3) := by kernel_rfl
theorem fl_53_4 : fldT Try.prog 53 4 = some (4, 51) := by kernel_rfl
theorem fl_53_5 : fldT Try.prog 53 5 = some (20, 52) := by kernel_rfl
theorem kd_54 : kdT Try.prog 54 = .struct := by kernel_rfl
theorem sz_54 : szT Try.prog 54 = 21 := by kernel_rfl
theorem by_54 : bytesT Try.prog 54 = 72 := by kernel_rfl
theorem ze_54 : zeroT Try.prog 54 = some [.bool false, .int .i64 0, .int .i64 0, .int .i64 0, .bool false, .bool false, .bool false, .bool false, .bool false, .bool false, .bool false, .bool false, .bool false, .bool false, .bool false, .bool false, .bool false, .bool false, .bool false, .bool false, .lit (.slice none 0 0)] := by kernel_rfl
theorem pl_54 : placesT Try.prog 54 = some [(0, 1), (1, 1), (2, 1), (3, 1), (4, 16), (20, 1)] := by kernel_rfl
theorem fl_54_0 : fldT Try.prog 54 0 = some (0, 4) := by kernel_rfl
theorem fl_54_1 : fldT Try.prog 54 1 = some (1, 3) := by kernel_rfl
theorem fl_54_2 : fldT Try.prog 54 2 = some (2, 3) := by kernel_rfl
theorem fl_54_3 : fldT Try.prog 54 3 = some (3, 3) := by kernel_rfl
theorem fl_54_4 : fldT Try.prog 54 4 = some (4, 51) := by kernel_rfl
theorem fl_54_5 : fldT Try.prog 54 5 = some (20, 52) := by kernel_rfl
theorem kd_72 : kdT Try.prog 72 = .struct := by kernel_rfl
theorem sz_72 : szT Try.prog 72 = 8 := by kernel_rfl
theorem by_72 : bytesT Try.prog 72 = 96 := by kernel_rfl
theorem ze_72 : zeroT Try.prog 72 = some [.int .i64 0, .int .i64 0, .int .i64 0, .int .i64 0, .int .i64 0, .int .i64 0, .lit (.slice none 0 0), .lit (.slice none 0 0)] := by kernel_rfl
theorem pl_72 : placesT Try.prog 72 = some [(0, 1), (1, 1), (2, 1), (3, 5)] := by kernel_rfl
theorem fl_72_0 : fldT Try.prog 72 0 = some (0, 3) := by kernel_rfl
theorem fl_72_1 : fldT Try.prog 72 1 = some (1, 3) := by kernel_rfl
theorem fl_72_2 : fldT Try.prog 72 2 = some (2, 3) := by kernel_rfl
theorem fl_72_3 : fldT Try.prog 72 3 = some (3, 36) := by kernel_rfl
theorem kd_84 : kdT Try.prog 84 = .ptr := by kernel_rfl
theorem sz_84 : szT Try.prog 84 = 1 := by kernel_rfl
theorem by_84 : bytesT Try.prog 84 = 8 := by kernel_rfl
theorem ze_84 : zeroT Try.prog 84 = some [.lit (.pointer none)] := by kernel_rfl
theorem kd_89 : kdT Try.prog 89 = .int .u64 := by kernel_rfl
theorem sz_89 : szT Try.prog 89 = 1 := by kernel_rfl
theorem by_89 : bytesT Try.prog 89 = 8 := by kernel_rfl
theorem ze_89 : zeroT Try.prog 89 = some [.int .u64 0] := by kernel_rfl
theorem kd_95 : kdT Try.prog 95 = .ptr := by kernel_rfl
theorem sz_95 : szT Try.prog 95 = 1 := by kernel_rfl
theorem by_95 : bytesT Try.prog 95 = 8 := by kernel_rfl
theorem ze_95 : zeroT Try.prog 95 = some [.lit (.pointer none)] := by kernel_rfl
theorem kd_103 : kdT Try.prog 103 = .struct := by kernel_rfl
theorem sz_103 : szT Try.prog 103 = 2 := by kernel_rfl
theorem by_103 : bytesT Try.prog 103 = 32 := by kernel_rfl
theorem ze_103 : zeroT Try.prog 103 = some [.lit (.slice none 0 0), .bool false] := by kernel_rfl
theorem pl_103 : placesT Try.prog 103 = some [(0, 1), (1, 1)] := by kernel_rfl
theorem fl_103_0 : fldT Try.prog 103 0 = some (0, 34) := by kernel_rfl
theorem fl_103_1 : fldT Try.prog 103 1 = some (1, 4) := by kernel_rfl
theorem kd_104 : kdT Try.prog 104 = .struct := by kernel_rfl
theorem sz_104 : szT Try.prog 104 = 2 := by kernel_rfl
theorem by_104 : bytesT Try.prog 104 = 32 := by kernel_rfl
theorem ze_104 : zeroT Try.prog 104 = some [.lit (.slice none 0 0), .bool false] := by kernel_rfl
theorem pl_104 : placesT Try.prog 104 = some [(0, 1), (1, 1)] := by kernel_rfl
theorem fl_104_0 : fldT Try.prog 104 0 = some (0, 34) := by kernel_rfl
theorem fl_104_1 : fldT Try.prog 104 1 = some (1, 4) := by kernel_rfl
theorem kd_108 : kdT Try.prog 108 = .struct := by kernel_rfl
theorem sz_108 : szT Try.prog 108 = 5 := by kernel_rfl
theorem by_108 : bytesT Try.prog 108 = 48 := by kernel_rfl
theorem ze_108 : zeroT Try.prog 108 = some [.str [], .int .i64 0, .bool false, .int .i64 0, .int .i64 0] := by kernel_rfl
theorem pl_108 : placesT Try.prog 108 = some [(0, 1), (1, 1), (2, 1), (3, 1), (4, 1)] := by kernel_rfl
theorem fl_108_0 : fldT Try.prog 108 0 = some (0, 9) := by kernel_rfl
theorem fl_108_1 : fldT Try.prog 108 1 = some (1, 3) := by kernel_rfl
theorem fl_108_2 : fldT Try.prog 108 2 = some (2, 4) := by kernel_rfl
theorem fl_108_3 : fldT Try.prog 108 3 = some (3, 3) := by kernel_rfl
theorem fl_108_4 : fldT Try.prog 108 4 = some (4, 3) := by kernel_rfl
theorem kd_109 : kdT Try.prog 109 = .struct := by kernel_rfl
theorem sz_109 : szT Try.prog 109 = 5 := by kernel_rfl
theorem by_109 : bytesT Try.prog 109 = 48 := by kernel_rfl
theorem ze_109 : zeroT Try.prog 109 = some [.str [], .int .i64 0, .bool false, .int .i64 0, .int .i64 0] := by kernel_rfl
theorem pl_109 : placesT Try.prog 109 = some [(0, 1), (1, 1), (2, 1), (3, 1), (4, 1)] := by kernel_rfl
theorem fs_109 : fldsT Try.prog 109 = some [(0, 9), (1, 3), (2, 4), (3, 3), (4, 3)] := by kernel_rfl
theorem fl_109_0 : fldT Try.prog 109 0 = some (0, 9) := by kernel_rfl
theorem fl_109_1 : fldT Try.prog 109 1 = some (1, 3) := by kernel_rfl
theorem fl_109_2 : fldT Try.prog 109 2 = some (2, 4) := by kernel_rfl
theorem fl_109_3 : fldT Try.prog 109 3 = some (3, 3) := by kernel_rfl
theorem fl_109_4 : fldT Try.prog 109 4 = some (4, 3) := by kernel_rfl
theorem kd_115 : kdT Try.prog 115 = .map 3 4 := by kernel_rfl
theorem sz_115 : szT Try.prog 115 = 1 := by kernel_rfl
theorem by_115 : bytesT Try.prog 115 = 8 := by kernel_rfl
theorem ze_115 : zeroT Try.prog 115 = some [.lit (.map none)] := by kernel_rfl
theorem kd_118 : kdT Try.prog 118 = .struct := by kernel_rfl
theorem sz_118 : szT Try.prog 118 = 2 := by kernel_rfl
theorem by_118 : bytesT Try.prog 118 = 32 := by kernel_rfl
theorem ze_118 : zeroT Try.prog 118 = some [.bool false, .lit (.slice none 0 0)] := by kernel_rfl
theorem pl_118 : placesT Try.prog 118 = some [(0, 1), (1, 1)] := by kernel_rfl
theorem fl_118_0 : fldT Try.prog 118 0 = some (0, 4) := by kernel_rfl
theorem fl_118_1 : fldT Try.prog 118 1 = some (1, 34) := by kernel_rfl
theorem kd_119 : kdT Try.prog 119 = .struct := by kernel_rfl
theorem sz_119 : szT Try.prog 119 = 2 := by kernel_rfl
theorem by_119 : bytesT Try.prog 119 = 32 := by kernel_rfl
theorem ze_119 : zeroT Try.prog 119 = some [.bool false, .lit (.slice none 0 0)] := by kernel_rfl
theorem pl_119 : placesT Try.prog 119 = some [(0, 1), (1, 1)] := by kernel_rfl
theorem fl_119_0 : fldT Try.prog 119 0 = some (0, 4) := by kernel_rfl
theorem fl_119_1 : fldT Try.prog 119 1 = some (1, 34) := by kernel_rfl
theorem kd_120 : kdT Try.prog 120 = .int .u64 := by kernel_rfl
theorem sz_120 : szT Try.prog 120 = 1 := by kernel_rfl
theorem by_120 : bytesT Try.prog 120 = 8 := by kernel_rfl
theorem ze_120 : zeroT Try.prog 120 = some [.int .u64 0] := by kernel_rfl
theorem kd_122 : kdT Try.prog 122 = .struct := by kernel_rfl
theorem sz_122 : szT Try.prog 122 = 3 := by kernel_rfl
theorem by_122 : bytesT Try.prog 122 = 32 := by kernel_rfl
theorem ze_122 : zeroT Try.prog 122 = some [.bool false, .bool false, .lit (.slice none 0 0)] := by kernel_rfl
theorem pl_122 : placesT Try.prog 122 = some [(0, 1), (1, 1), (2, 1)] := by kernel_rfl
theorem fl_122_0 : fldT Try.prog 122 0 = some (0, 4) := by kernel_rfl
theorem fl_122_1 : fldT Try.prog 122 1 = some (1, 4) := by kernel_rfl
theorem fl_122_2 : fldT Try.prog 122 2 = some (2, 34) := by kernel_rfl
theorem kd_123 : kdT Try.prog 123 = .struct := by kernel_rfl
theorem sz_123 : szT Try.prog 123 = 3 := by kernel_rfl
theorem by_123 : bytesT Try.prog 123 = 32 := by kernel_rfl
theorem ze_123 : zeroT Try.prog 123 = some [.bool false, .bool false, .lit (.slice none 0 0)] := by kernel_rfl
theorem pl_123 : placesT Try.prog 123 = some [(0, 1), (1, 1), (2, 1)] := by kernel_rfl
theorem fl_123_0 : fldT Try.prog 123 0 = some (0, 4) := by kernel_rfl
theorem fl_123_1 : fldT Try.prog 123 1 = some (1, 4) := by kernel_rfl
theorem fl_123_2 : fldT Try.prog 123 2 = some (2, 34) := by kernel_rfl
theorem kd_126 : kdT Try.prog 126 = .ptr := by kernel_rfl
theorem sz_126 : szT Try.prog 126 = 1 := by kernel_rfl
theorem by_126 : bytesT Try.prog 126 = 8 := by kernel_rfl
theorem ze_126 : zeroT Try.prog 126 = some [.lit (.pointer none)] := by kernel_rfl
theorem kd_136 : kdT Try.prog 136 = .array 29 109 := by kernel_rfl
theorem sz_136 : szT Try.prog 136 = 145 := by kernel_rfl
theorem by_136 : bytesT Try.prog 136 = 1392 := by kernel_rfl
theorem ze_136 : zeroT Try.prog 136 = some [.str [], .int .i64 0, .bool false, .int .i64 0, .int .i64 0, .str [], .int .i64 0, .bool false, .int .i64 0, .int .i64 0, .str [], .int .i64 0, .bool false, .int .i64 0, .int .i64 0, .str [], .int .i64 0, .bool false, .int .i64 0, .int .i64 0, .str [], .int .i64 0, .bool false, .int .i64 0, .int .i64 0, .str [], .int .i64 0, .bool false, .int .i64 0, .int .i64 0, .str [], .int .i64 0, .bool false, .int .i64 0, .int .i64 0, .str [], .int .i64 0, .bool false, .int .i64 0, .int .i64 0, .str [], .int .i64 0, .bool false, .int .i64 0, .int .i64 0, .str [], .int .i64 0, .bool false, .int .i64 0, .int .i64 0, .str [], .int .i64 0, .bool false, .int .i64 0, .int .i64 0, .str [], .int .i64 0, .bool false, .int .i64 0, .int .i64 0, .str [], .int .i64 0, .bool false, .int .i64 0, .int .i64 0, .str [], .int .i64 0, .bool false, .int .i64 0, .int .i64 0, .str [], .int .i64 0, .bool false, .int .i64 0, .int .i64 0, .str [], .int .i64 0, .bool false, .int .i64 0, .int .i64 0, .str [], .int .i64 0, .bool false, .int .i64 0, .int .i64 0, .str [], .int .i64 0, .bool false, .int .i64 0, .int .i64 0, .str [], .int .i64 0, .bool false, .int .i64 0, .int .i64 0, .str [], .int .i64 0, .bool false, .int .i64 0, .int .i64 0, .str [], .int .i64 0, .bool false, .int .i64 0, .int .i64 0, .str [], .int .i64 0, .bool false, .int .i64 0, .int .i64 0, .str [], .int .i64 0, .bool false, .int .i64 0, .int .i64 0, .str [], .int .i64 0, .bool false, .int .i64 0, .int .i64 0, .str [], .int .i64 0, .bool false, .int .i64 0, .int .i64 0, .str [], .int .i64 0, .bool false, .int .i64 0, .int .i64 0, .str [], .int .i64 0, .bool false, .int .i64 0, .int .i64 0, .str [], .int .i64 0, .bool false, .int .i64 0, .int .i64 0, .str [], .int .i64 0, .bool false, .int .i64 0, .int .i64 0] := by kernel_rfl
theorem kd_142 : kdT Try.prog 142 = .slice 28 := by kernel_rfl
theorem sz_142 : szT Try.prog 142 = 1 := by kernel_rfl
theorem by_142 : bytesT Try.prog 142 = 24 := by kernel_rfl
theorem ze_142 : zeroT Try.prog 142 = some [.lit (.slice none 0 0)] := by kernel_rfl
theorem kd_144 : kdT Try.prog 144 = .int .i64 := by kernel_rfl
theorem sz_144 : szT Try.prog 144 = 1 := by kernel_rfl
theorem by_144 : bytesT Try.prog 144 = 8 := by kernel_rfl
theorem ze_144 : zeroT Try.prog 144 = some [.int .i64 0] := by kernel_rfl
theorem kd_151 : kdT Try.prog 151 = .int .u32 := by kernel_rfl
theorem sz_151 : szT Try.prog 151 = 1 := by kernel_rfl
theorem by_151 : bytesT Try.prog 151 = 4 := by kernel_rfl
theorem ze_151 : zeroT Try.prog 151 = some [.int .u32 0] := by kernel_rfl
theorem kd_153 : kdT Try.prog 153 = .int .u64 := by kernel_rfl
theorem sz_153 : szT Try.prog 153 = 1 := by kernel_rfl
theorem by_153 : bytesT Try.prog 153 = 8 := by kernel_rfl
theorem ze_153 : zeroT Try.prog 153 = some [.int .u64 0] := by kernel_rfl
theorem kd_157 : kdT Try.prog 157 = .ptr := by kernel_rfl
theorem sz_157 : szT Try.prog 157 = 1 := by kernel_rfl
theorem by_157 : bytesT Try.prog 157 = 8 := by kernel_rfl
theorem ze_157 : zeroT Try.prog 157 = some [.lit (.pointer none)] := by kernel_rfl
theorem kd_159 : kdT Try.prog 159 = .ptr := by kernel_rfl
theorem sz_159 : szT Try.prog 159 = 1 := by kernel_rfl
theorem by_159 : bytesT Try.prog 159 = 8 := by kernel_rfl
theorem ze_159 : zeroT Try.prog 159 = some [.lit (.pointer none)] := by kernel_rfl
theorem kd_162 : kdT Try.prog 162 = .struct := by kernel_rfl
theorem sz_162 : szT Try.prog 162 = 4 := by kernel_rfl
theorem by_162 : bytesT Try.prog 162 = 40 := by kernel_rfl
theorem ze_162 : zeroT Try.prog 162 = some [.lit (.pointer none), .lit (.pointer none), .lit (.pointer none), .str []] := by kernel_rfl
theorem pl_162 : placesT Try.prog 162 = some [(0, 1), (1, 1), (2, 1), (3, 1)] := by kernel_rfl
theorem fl_162_0 : fldT Try.prog 162 0 = some (0, 17) := by kernel_rfl
theorem fl_162_1 : fldT Try.prog 162 1 = some (1, 17) := by kernel_rfl
theorem fl_162_2 : fldT Try.prog 162 2 = some (2, 17) := by kernel_rfl
theorem fl_162_3 : fldT Try.prog 162 3 = some (3, 9) := by kernel_rfl
theorem kd_163 : kdT Try.prog 163 = .struct := by kernel_rfl
theorem sz_163 : szT Try.prog 163 = 4 := by kernel_rfl
theorem by_163 : bytesT Try.prog 163 = 40 := by kernel_rfl
theorem ze_163 : zeroT Try.prog 163 = some [.lit (.pointer none), .lit (.pointer none), .lit (.pointer none), .str []] := by kernel_rfl
theorem pl_163 : placesT Try.prog 163 = some [(0, 1), (1, 1), (2, 1), (3, 1)] := by kernel_rfl
theorem fl_163_0 : fldT Try.prog 163 0 = some (0, 17) := by kernel_rfl
theorem fl_163_1 : fldT Try.prog 163 1 = some (1, 17) := by kernel_rfl
theorem fl_163_2 : fldT Try.prog 163 2 = some (2, 17) := by kernel_rfl
theorem fl_163_3 : fldT Try.prog 163 3 = some (3, 9) := by kernel_rfl
theorem kd_164 : kdT Try.prog 164 = .array 0 16 := by kernel_rfl
theorem sz_164 : szT Try.prog 164 = 0 := by kernel_rfl
theorem by_164 : bytesT Try.prog 164 = 0 := by kernel_rfl
theorem ze_164 : zeroT Try.prog 164 = some [] := by kernel_rfl
theorem kd_165 : kdT Try.prog 165 = .struct := by kernel_rfl
theorem sz_165 : szT Try.prog 165 = 0 := by kernel_rfl
theorem by_165 : bytesT Try.prog 165 = 0 := by kernel_rfl
theorem ze_165 : zeroT Try.prog 165 = some [] := by kernel_rfl
theorem pl_165 : placesT Try.prog 165 = some [(0, 0)] := by kernel_rfl
theorem kd_166 : kdT Try.prog 166 = .struct := by kernel_rfl
theorem sz_166 : szT Try.prog 166 = 0 := by kernel_rfl
theorem by_166 : bytesT Try.prog 166 = 0 := by kernel_rfl
theorem ze_166 : zeroT Try.prog 166 = some [] := by kernel_rfl
theorem pl_166 : placesT Try.prog 166 = some [(0, 0)] := by kernel_rfl
theorem kd_167 : kdT Try.prog 167 = .int .u8 := by kernel_rfl
theorem sz_167 : szT Try.prog 167 = 1 := by kernel_rfl
theorem by_167 : bytesT Try.prog 167 = 1 := by kernel_rfl
theorem ze_167 : zeroT Try.prog 167 = some [.int .u8 0] := by kernel_rfl
theorem kd_168 : kdT Try.prog 168 = .int .u8 := by kernel_rfl
theorem sz_168 : szT Try.prog 168 = 1 := by kernel_rfl
theorem by_168 : bytesT Try.prog 168 = 1 := by kernel_rfl
theorem ze_168 : zeroT Try.prog 168 = some [.int .u8 0] := by kernel_rfl
theorem kd_170 : kdT Try.prog 170 = .ptr := by kernel_rfl
theorem sz_170 : szT Try.prog 170 = 1 := by kernel_rfl
theorem by_170 : bytesT Try.prog 170 = 8 := by kernel_rfl
theorem ze_170 : zeroT Try.prog 170 = some [.lit (.pointer none)] := by kernel_rfl
theorem kd_171 : kdT Try.prog 171 = .int .i32 := by kernel_rfl
theorem sz_171 : szT Try.prog 171 = 1 := by kernel_rfl
theorem by_171 : bytesT Try.prog 171 = 4 := by kernel_rfl
theorem ze_171 : zeroT Try.prog 171 = some [.int .i32 0] := by kernel_rfl
theorem kd_172 : kdT Try.prog 172 = .int .i32 := by kernel_rfl
theorem sz_172 : szT Try.prog 172 = 1 := by kernel_rfl
theorem by_172 : bytesT Try.prog 172 = 4 := by kernel_rfl
theorem ze_172 : zeroT Try.prog 172 = some [.int .i32 0] := by kernel_rfl
theorem kd_173 : kdT Try.prog 173 = .struct := by kernel_rfl
theorem sz_173 : szT Try.prog 173 = 11 := by kernel_rfl
theorem by_173 : bytesT Try.prog 173 = 48 := by kernel_rfl
theorem ze_173 : zeroT Try.prog 173 = some [.int .u64 0, .int .u64 0, .int .u32 0, .int .u8 0, .int .u8 0, .int .u8 0, .int .u8 0, .lit .nilFunc, .lit (.pointer none), .int .i32 0, .int .i32 0] := by kernel_rfl
theorem pl_173 : placesT Try.prog 173 = some [(0, 1), (1, 1), (2, 1), (3, 1), (4, 1), (5, 1), (6, 1), (7, 1), (8, 1), (9, 1), (10, 1)] := by kernel_rfl
theorem fl_173_0 : fldT Try.prog 173 0 = some (0, 12) := by kernel_rfl
theorem fl_173_1 : fldT Try.prog 173 1 = some (1, 12) := by kernel_rfl
theorem fl_173_2 : fldT Try.prog 173 2 = some (2, 151) := by kernel_rfl
theorem fl_173_3 : fldT Try.prog 173 3 = some (3, 167) := by kernel_rfl
theorem fl_173_4 : fldT Try.prog 173 4 = some (4, 5) := by kernel_rfl
theorem fl_173_5 : fldT Try.prog 173 5 = some (5, 5) := by kernel_rfl
theorem fl_173_6 : fldT Try.prog 173 6 = some (6, 168) := by kernel_rfl
theorem fl_173_7 : fldT Try.prog 173 7 = some (7, 169) := by kernel_rfl
theorem fl_173_8 : fldT Try.prog 173 8 = some (8, 170) := by kernel_rfl
theorem fl_173_9 : fldT Try.prog 173 9 = some (9, 171) := by kernel_rfl
theorem fl_173_10 : fldT Try.prog 173 10 = some (10, 172) := by kernel_rfl
theorem kd_174 : kdT Try.prog 174 = .struct := by kernel_rfl
theorem sz_174 : szT Try.prog 174 = 11 := by kernel_rfl
theorem by_174 : bytesT Try.prog 174 = 48 := by kernel_rfl
theorem ze_174 : zeroT Try.prog 174 = some [.int .u64 0, .int .u64 0, .int .u32 0, .int .u8 0, .int .u8 0, .int .u8 0, .int .u8 0, .lit .nilFunc, .lit (.pointer none), .int .i32 0, .int .i32 0] := by kernel_rfl
theorem pl_174 : placesT Try.prog 174 = some [(0, 1), (1, 1), (2, 1), (3, 1), (4, 1), (5, 1), (6, 1), (7, 1), (8, 1), (9, 1), (10, 1)] := by kernel_rfl
theorem fl_174_0 : fldT Try.prog 174 0 = some (0, 12) := by kernel_rfl
theorem fl_174_1 : fldT Try.prog 174 1 = some (1, 12) := by kernel_rfl
theorem fl_174_2 : fldT Try.prog 174 2 = some (2, 151) := by kernel_rfl
theorem fl_174_3 : fldT Try.prog 174 3 = some (3, 167) := by kernel_rfl
theorem fl_174_4 : fldT Try.prog 174 4 = some (4, 5) := by kernel_rfl
theorem fl_174_5 : fldT Try.prog 174 5 = some (5, 5) := by kernel_rfl
theorem fl_174_6 : fldT Try.prog 174 6 = some (6, 168) := by kernel_rfl
theorem fl_174_7 : fldT Try.prog 174 7 = some (7, 169) := by kernel_rfl
theorem fl_174_8 : fldT Try.prog 174 8 = some (8, 170) := by kernel_rfl
theorem fl_174_9 : fldT Try.prog 174 9 = some (9, 171) := by kernel_rfl
theorem fl_174_10 : fldT Try.prog 174 10 = some (10, 172) := by kernel_rfl
instance : ETab := ⟨fun t => if t = 28 then some .int else if t = 34 then some .byte else if t = 142 then some .ints else if t = 27 then some .ent else if t = 52 then some .ent else if t = 22 then some .stp else if t = 42 then some .u16 else none, fun t => if t = 115 then some (.int, .bool) else none⟩
theorem et_28 : ETab.of 28 = some .int := rfl
theorem et_34 : ETab.of 34 = some .byte := rfl
theorem et_142 : ETab.of 142 = some .ints := rfl
theorem et_27 : ETab.of 27 = some .ent := rfl
theorem et_52 : ETab.of 52 = some .ent := rfl
theorem et_22 : ETab.of 22 = some .stp := rfl
theorem et_42 : ETab.of 42 = some .u16 := rfl
theorem mt_115 : ETab.mof 115 = some (.int, .bool) := rfl
theorem zv_4 : zeroV Try.prog 4 = some (.bool false) := by kernel_rfl
theorem mixed : Try.prog.follows .mixedOrders = true := by kernel_rfl
theorem fn_8 : Try.prog.funcs[8]? = some Try.f8 := by kernel_rfl -- spacecraft/spacecraftlaw42.ScheduleEncodes
theorem fn_9 : Try.prog.funcs[9]? = some Try.f9 := by kernel_rfl -- spacecraft/spacecraftlaw42.ScheduleDecodes
theorem fn_10 : Try.prog.funcs[10]? = some Try.f10 := by kernel_rfl -- spacecraft/schedule.New
theorem fn_12 : Try.prog.funcs[12]? = some Try.f12 := by kernel_rfl -- spacecraft/spacecraftlaw42.lives
theorem fn_15 : Try.prog.funcs[15]? = some Try.f15 := by kernel_rfl -- spacecraft/spacecraftref42.Same
theorem fn_16 : Try.prog.funcs[16]? = some Try.f16 := by kernel_rfl -- (*spacecraft/schedule.Schedule).Entries
theorem fn_17 : Try.prog.funcs[17]? = some Try.f17 := by kernel_rfl -- (*spacecraft/schedule.Schedule).Insert
theorem fn_18 : Try.prog.funcs[18]? = some Try.f18 := by kernel_rfl -- (*spacecraft/schedule.Schedule).Due
theorem fn_19 : Try.prog.funcs[19]? = some Try.f19 := by kernel_rfl -- (*spacecraft/schedule.Schedule).Delete
theorem fn_20 : Try.prog.funcs[20]? = some Try.f20 := by kernel_rfl -- (*spacecraft/schedule.Schedule).Shift
theorem fn_21 : Try.prog.funcs[21]? = some Try.f21 := by kernel_rfl -- (*spacecraft/schedule.Schedule).Enable
theorem fn_23 : Try.prog.funcs[23]? = some Try.f23 := by kernel_rfl -- spacecraft/spacecraftref42.Light
theorem fn_26 : Try.prog.funcs[26]? = some Try.f26 := by kernel_rfl -- spacecraft/schedule.Encode
theorem fn_27 : Try.prog.funcs[27]? = some Try.f27 := by kernel_rfl -- spacecraft/spacecraftref42.Encode
theorem fn_28 : Try.prog.funcs[28]? = some Try.f28 := by kernel_rfl -- spacecraft/schedule.Decode
theorem fn_29 : Try.prog.funcs[29]? = some Try.f29 := by kernel_rfl -- spacecraft/spacecraftref42.Decode
theorem fn_35 : Try.prog.funcs[35]? = some Try.f35 := by kernel_rfl -- spacecraft/spacecraftref39.Same
theorem fn_36 : Try.prog.funcs[36]? = some Try.f36 := by kernel_rfl -- (*spacecraft/schedule.Schedule).ok
theorem fn_37 : Try.prog.funcs[37]? = some Try.f37 := by kernel_rfl -- spacecraft/schedule.clone
theorem fn_38 : Try.prog.funcs[38]? = some Try.f38 := by kernel_rfl -- (*spacecraft/schedule.Schedule).pass
theorem fn_39 : Try.prog.funcs[39]? = some Try.f39 := by kernel_rfl -- spacecraft/schedule.group
theorem fn_40 : Try.prog.funcs[40]? = some Try.f40 := by kernel_rfl -- spacecraft/command.Valid
theorem fn_41 : Try.prog.funcs[41]? = some Try.f41 := by kernel_rfl -- (*spacecraft/schedule.Schedule).sort
theorem fn_42 : Try.prog.funcs[42]? = some Try.f42 := by kernel_rfl -- slices.Delete[[]spacecraft/schedule.item,spacecraft/schedule.item]
theorem fn_43 : Try.prog.funcs[43]? = some Try.f43 := by kernel_rfl -- slices.IndexFunc[[]spacecraft/schedule.item,spacecraft/schedule.item]
theorem fn_44 : Try.prog.funcs[44]? = some Try.f44 := by kernel_rfl -- (*spacecraft/schedule.Schedule).Delete$1
theorem fn_46 : Try.prog.funcs[46]? = some Try.f46 := by kernel_rfl -- spacecraft/schedule.check
theorem fn_47 : Try.prog.funcs[47]? = some Try.f47 := by kernel_rfl -- spacecraft/spacecraftref42.check
theorem fn_49 : Try.prog.funcs[49]? = some Try.f49 := by kernel_rfl -- spacecraft/octets.NewWriter
theorem fn_50 : Try.prog.funcs[50]? = some Try.f50 := by kernel_rfl -- (*spacecraft/octets.Writer).Int
theorem fn_51 : Try.prog.funcs[51]? = some Try.f51 := by kernel_rfl -- spacecraft/command.Encode
theorem fn_52 : Try.prog.funcs[52]? = some Try.f52 := by kernel_rfl -- (*spacecraft/octets.Writer).Uint
theorem fn_53 : Try.prog.funcs[53]? = some Try.f53 := by kernel_rfl -- (*spacecraft/octets.Writer).Blob
theorem fn_54 : Try.prog.funcs[54]? = some Try.f54 := by kernel_rfl -- (*spacecraft/octets.Writer).Bytes
theorem fn_55 : Try.prog.funcs[55]? = some Try.f55 := by kernel_rfl -- spacecraft/spacecraftref03.Int
theorem fn_56 : Try.prog.funcs[56]? = some Try.f56 := by kernel_rfl -- spacecraft/spacecraftref03.Blob
theorem fn_57 : Try.prog.funcs[57]? = some Try.f57 := by kernel_rfl -- spacecraft/spacecraftref39.Encode
theorem fn_58 : Try.prog.funcs[58]? = some Try.f58 := by kernel_rfl -- spacecraft/octets.NewReader
theorem fn_59 : Try.prog.funcs[59]? = some Try.f59 := by kernel_rfl -- (*spacecraft/octets.Reader).Count
theorem fn_60 : Try.prog.funcs[60]? = some Try.f60 := by kernel_rfl -- (*spacecraft/octets.Reader).Int
theorem fn_61 : Try.prog.funcs[61]? = some Try.f61 := by kernel_rfl -- (*spacecraft/octets.Reader).Uint
theorem fn_62 : Try.prog.funcs[62]? = some Try.f62 := by kernel_rfl -- spacecraft/command.Decode
theorem fn_63 : Try.prog.funcs[63]? = some Try.f63 := by kernel_rfl -- (*spacecraft/octets.Reader).Blob
theorem fn_64 : Try.prog.funcs[64]? = some Try.f64 := by kernel_rfl -- (*spacecraft/octets.Reader).End
theorem fn_65 : Try.prog.funcs[65]? = some Try.f65 := by kernel_rfl -- bytes.Equal
theorem fn_66 : Try.prog.funcs[66]? = some Try.f66 := by kernel_rfl -- (*spacecraft/spacecraftref03.Reader).Count
theorem fn_67 : Try.prog.funcs[67]? = some Try.f67 := by kernel_rfl -- (*spacecraft/spacecraftref03.Reader).Int
theorem fn_68 : Try.prog.funcs[68]? = some Try.f68 := by kernel_rfl -- (*spacecraft/spacecraftref03.Reader).Uint
theorem fn_69 : Try.prog.funcs[69]? = some Try.f69 := by kernel_rfl -- spacecraft/spacecraftref39.Decode
theorem fn_70 : Try.prog.funcs[70]? = some Try.f70 := by kernel_rfl -- (*spacecraft/spacecraftref03.Reader).Blob
theorem fn_72 : Try.prog.funcs[72]? = some Try.f72 := by kernel_rfl -- spacecraft/spacecraftref39.Valid
theorem fn_74 : Try.prog.funcs[74]? = some Try.f74 := by kernel_rfl -- slices.Clone[[]int,int]
theorem fn_75 : Try.prog.funcs[75]? = some Try.f75 := by kernel_rfl -- slices.Clone[[]byte,byte]
theorem fn_76 : Try.prog.funcs[76]? = some Try.f76 := by kernel_rfl -- spacecraft/command.find
theorem fn_77 : Try.prog.funcs[77]? = some Try.f77 := by kernel_rfl -- slices.SortFunc[[]spacecraft/schedule.item,spacecraft/schedule.item]
theorem fn_78 : Try.prog.funcs[78]? = some Try.f78 := by kernel_rfl -- (spacecraft/schedule.item).against
theorem fn_79 : Try.prog.funcs[79]? = some Try.f79 := by kernel_rfl -- spacecraft/schedule.valid
theorem fn_80 : Try.prog.funcs[80]? = some Try.f80 := by kernel_rfl -- spacecraft/spacecraftref42.Valid
theorem fn_82 : Try.prog.funcs[82]? = some Try.f82 := by kernel_rfl -- (*spacecraft/octets.Writer).ok
theorem fn_83 : Try.prog.funcs[83]? = some Try.f83 := by kernel_rfl -- spacecraft/octets.zigzag
theorem fn_84 : Try.prog.funcs[84]? = some Try.f84 := by kernel_rfl -- spacecraft/spacecraftref03.Zigzag
theorem fn_85 : Try.prog.funcs[85]? = some Try.f85 := by kernel_rfl -- spacecraft/spacecraftref03.Uint
theorem fn_86 : Try.prog.funcs[86]? = some Try.f86 := by kernel_rfl -- (*spacecraft/octets.Reader).ok
theorem fn_87 : Try.prog.funcs[87]? = some Try.f87 := by kernel_rfl -- (*spacecraft/octets.Reader).fail
theorem fn_88 : Try.prog.funcs[88]? = some Try.f88 := by kernel_rfl -- (*spacecraft/octets.Reader).group
theorem fn_89 : Try.prog.funcs[89]? = some Try.f89 := by kernel_rfl -- spacecraft/spacecraftref03.TakeCount
theorem fn_90 : Try.prog.funcs[90]? = some Try.f90 := by kernel_rfl -- (*spacecraft/spacecraftref03.Reader).next
theorem fn_91 : Try.prog.funcs[91]? = some Try.f91 := by kernel_rfl -- spacecraft/spacecraftref03.TakeInt
theorem fn_92 : Try.prog.funcs[92]? = some Try.f92 := by kernel_rfl -- spacecraft/spacecraftref03.TakeUint
theorem fn_93 : Try.prog.funcs[93]? = some Try.f93 := by kernel_rfl -- spacecraft/spacecraftref39.Args
theorem fn_94 : Try.prog.funcs[94]? = some Try.f94 := by kernel_rfl -- spacecraft/spacecraftref03.TakeBlob
theorem fn_95 : Try.prog.funcs[95]? = some Try.f95 := by kernel_rfl -- spacecraft/spacecraftref39.row
theorem fn_96 : Try.prog.funcs[96]? = some Try.f96 := by kernel_rfl -- spacecraft/command.table
theorem fn_99 : Try.prog.funcs[99]? = some Try.f99 := by kernel_rfl -- cmp.Or[int]
theorem fn_100 : Try.prog.funcs[100]? = some Try.f100 := by kernel_rfl -- cmp.Compare[int]
theorem fn_111 : Try.prog.funcs[111]? = some Try.f111 := by kernel_rfl -- cmp.isNaN[int]
attribute [go_sem] kd_2 sz_2 by_2 ze_2 kd_3 sz_3 by_3 ze_3 kd_4 sz_4 by_4 ze_4 kd_5 sz_5 by_5 ze_5 kd_6 sz_6 by_6 ze_6 kd_7 sz_7 by_7 ze_7 pl_7 fl_7_0 fl_7_1 fl_7_2 fl_7_3 kd_8 sz_8 by_8 ze_8 pl_8 fl_8_0 fl_8_1 fl_8_2 fl_8_3 kd_9 sz_9 by_9 ze_9 kd_10 sz_10 by_10 ze_10 kd_11 sz_11 by_11 ze_11 kd_12 sz_12 by_12 ze_12 kd_13 sz_13 by_13 ze_13 pl_13 fl_13_0 fl_13_1 kd_14 sz_14 by_14 ze_14 pl_14 fl_14_0 fl_14_1 kd_15 sz_15 by_15 ze_15 kd_16 sz_16 by_16 ze_16 kd_17 sz_17 by_17 ze_17 kd_18 sz_18 by_18 ze_18 pl_18 fl_18_0 kd_19 sz_19 by_19 ze_19 pl_19 fl_19_0 kd_20 sz_20 by_20 ze_20 kd_21 sz_21 by_21 ze_21 kd_22 sz_22 by_22 ze_22 kd_23 sz_23 by_23 ze_23 kd_27 sz_27 by_27 ze_27 kd_28 sz_28 by_28 ze_28 kd_29 sz_29 by_29 ze_29 pl_29 fl_29_0 fl_29_1 fl_29_2 fl_29_3 fl_29_4 kd_30 sz_30 by_30 ze_30 pl_30 fl_30_0 fl_30_1 fl_30_2 fl_30_3 fl_30_4 kd_33 sz_33 by_33 ze_33 kd_34 sz_34 by_34 ze_34 kd_35 sz_35 by_35 ze_35 pl_35 fl_35_0 fl_35_1 fl_35_2 fl_35_3 fl_35_4 kd_36 sz_36 by_36 ze_36 pl_36 fl_36_0 fl_36_1 fl_36_2 fl_36_3 fl_36_4 kd_37 sz_37 by_37 ze_37 pl_37 fl_37_0 fl_37_1 fl_37_2 fl_37_3 fl_37_4 fl_37_5 kd_38 sz_38 by_38 ze_38 pl_38 fl_38_0 fl_38_1 fl_38_2 fl_38_3 fl_38_4 fl_38_5 kd_42 sz_42 by_42 ze_42 kd_43 sz_43 by_43 ze_43 kd_46 sz_46 by_46 ze_46 kd_47 sz_47 by_47 ze_47 pl_47 fl_47_0 fl_47_1 fl_47_2 fl_47_3 kd_48 sz_48 by_48 ze_48 pl_48 fl_48_0 fl_48_1 fl_48_2 fl_48_3 kd_51 sz_51 by_51 ze_51 kd_52 sz_52 by_52 ze_52 kd_53 sz_53 by_53 ze_53 pl_53 fl_53_0 fl_53_1 fl_53_2 fl_53_3 fl_53_4 fl_53_5 kd_54 sz_54 by_54 ze_54 pl_54 fl_54_0 fl_54_1 fl_54_2 fl_54_3 fl_54_4 fl_54_5 kd_72 sz_72 by_72 ze_72 pl_72 fl_72_0 fl_72_1 fl_72_2 fl_72_3 kd_84 sz_84 by_84 ze_84 kd_89 sz_89 by_89 ze_89 kd_95 sz_95 by_95 ze_95 kd_103 sz_103 by_103 ze_103 pl_103 fl_103_0 fl_103_1 kd_104 sz_104 by_104 ze_104 pl_104 fl_104_0 fl_104_1 kd_108 sz_108 by_108 ze_108 pl_108 fl_108_0 fl_108_1 fl_108_2 fl_108_3 fl_108_4 kd_109 sz_109 by_109 ze_109 pl_109 fs_109 fl_109_0 fl_109_1 fl_109_2 fl_109_3 fl_109_4 kd_115 sz_115 by_115 ze_115 kd_118 sz_118 by_118 ze_118 pl_118 fl_118_0 fl_118_1 kd_119 sz_119 by_119 ze_119 pl_119 fl_119_0 fl_119_1 kd_120 sz_120 by_120 ze_120 kd_122 sz_122 by_122 ze_122 pl_122 fl_122_0 fl_122_1 fl_122_2 kd_123 sz_123 by_123 ze_123 pl_123 fl_123_0 fl_123_1 fl_123_2 kd_126 sz_126 by_126 ze_126 kd_136 sz_136 by_136 ze_136 kd_142 sz_142 by_142 ze_142 kd_144 sz_144 by_144 ze_144 kd_151 sz_151 by_151 ze_151 kd_153 sz_153 by_153 ze_153 kd_157 sz_157 by_157 ze_157 kd_159 sz_159 by_159 ze_159 kd_162 sz_162 by_162 ze_162 pl_162 fl_162_0 fl_162_1 fl_162_2 fl_162_3 kd_163 sz_163 by_163 ze_163 pl_163 fl_163_0 fl_163_1 fl_163_2 fl_163_3 kd_164 sz_164 by_164 ze_164 kd_165 sz_165 by_165 ze_165 pl_165 kd_166 sz_166 by_166 ze_166 pl_166 kd_167 sz_167 by_167 ze_167 kd_168 sz_168 by_168 ze_168 kd_170 sz_170 by_170 ze_170 kd_171 sz_171 by_171 ze_171 kd_172 sz_172 by_172 ze_172 kd_173 sz_173 by_173 ze_173 pl_173 fl_173_0 fl_173_1 fl_173_2 fl_173_3 fl_173_4 fl_173_5 fl_173_6 fl_173_7 fl_173_8 fl_173_9 fl_173_10 kd_174 sz_174 by_174 ze_174 pl_174 fl_174_0 fl_174_1 fl_174_2 fl_174_3 fl_174_4 fl_174_5 fl_174_6 fl_174_7 fl_174_8 fl_174_9 fl_174_10 et_28 et_34 et_142 et_27 et_52 et_22 et_42 mt_115 zv_4
end Go.V
