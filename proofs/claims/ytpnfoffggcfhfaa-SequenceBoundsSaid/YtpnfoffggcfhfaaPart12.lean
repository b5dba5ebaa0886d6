/-
  T
  octets.Writer: what its methods do.
  octets.Reader: what its methods do.
  octets.Reader: integers and byte strings.
  ref03: counts, byte strings, the Reader.
  ref03.Reader: Count.
  The contracts at sizes that are written out.
-/
import Derived.Test.YtpnfoffggcfhfaaPart11
import Derived.Test.YtpnfoffggcfhfaaProg
import Derived.KernelRfl
set_option linter.unusedVariables false
set_option linter.unusedSimpArgs false
namespace Go.V
open Go.Proofs
theorem kd_2 : kdT Try.prog 2 = .int .i64 := by kernel_rfl
theorem sz_2 : szT Try.prog 2 = 1 := by kernel_rfl
theorem by_2 : bytesT Try.prog 2 = 8 := by kernel_rfl
theorem ze_2 : zeroT Try.prog 2 = some [.int .i64 0] := by kernel_rfl
theorem kd_3 : kdT Try.prog 3 = .int .i64 := by kernel_rfl
theorem sz_3 : szT Try.prog 3 = 1 := by kernel_rfl
theorem by_3 : bytesT Try.prog 3 = 8 := by kernel_rfl
theorem ze_3 : zeroT Try.prog 3 = some [.int .i64 0] := by kernel_rfl
theorem kd_4 : kdT Try.prog 4 = .bool := by kernel_rfl
theorem sz_4 : szT Try.prog 4 = 1 := by kernel_rfl
theorem by_4 : bytesT Try.prog 4 = 1 := by kernel_rfl
theorem ze_4 : zeroT Try.prog 4 = some [.bool false] := by kernel_rfl
theorem kd_5 : kdT Try.prog 5 = .int .u8 := by kernel_rfl
theorem sz_5 : szT Try.prog 5 = 1 := by kernel_rfl
theorem by_5 : bytesT Try.prog 5 = 1 := by kernel_rfl
theorem ze_5 : zeroT Try.prog 5 = some [.int .u8 0] := by kernel_rfl
theorem kd_6 : kdT Try.prog 6 = .int .u8 := by kernel_rfl
theorem sz_6 : szT Try.prog 6 = 1 := by kernel_rfl
theorem by_6 : bytesT Try.prog 6 = 1 := by kernel_rfl
theorem ze_6 : zeroT Try.prog 6 = some [.int .u8 0] := by kernel_rfl
theorem kd_7 : kdT Try.prog 7 = .struct := by kernel_rfl
theorem sz_7 : szT Try.prog 7 = 4 := by kernel_rfl
theorem by_7 : bytesT Try.prog 7 = 24 := by kernel_rfl
theorem ze_7 : zeroT Try.prog 7 = some [.int .i64 0, .int .i64 0, .bool false, .int .u8 0] := by kernel_rfl
theorem pl_7 : placesT Try.prog 7 = some [(0, 1), (1, 1), (2, 1), (3, 1)] := by kernel_rfl
theorem fl_7_0 : fldT Try.prog 7 0 = some (0, 2) := by kernel_rfl
theorem fl_7_1 : fldT Try.prog 7 1 = some (1, 3) := by kernel_rfl
theorem fl_7_2 : fldT Try.prog 7 2 = some (2, 4) := by kernel_rfl
theorem fl_7_3 : fldT Try.prog 7 3 = some (3, 6) := by kernel_rfl
theorem kd_8 : kdT Try.prog 8 = .struct := by kernel_rfl
theorem sz_8 : szT Try.prog 8 = 4 := by kernel_rfl
theorem by_8 : bytesT Try.prog 8 = 24 := by kernel_rfl
theorem ze_8 : zeroT Try.prog 8 = some [.int .i64 0, .int .i64 0, .bool false, .int .u8 0] := by kernel_rfl
theorem pl_8 : placesT Try.prog 8 = some [(0, 1), (1, 1), (2, 1), (3, 1)] := by kernel_rfl
theorem fl_8_0 : fldT Try.prog 8 0 = some (0, 2) := by kernel_rfl
theorem fl_8_1 : fldT Try.prog 8 1 = some (1, 3) := by kernel_rfl
theorem fl_8_2 : fldT Try.prog 8 2 = some (2, 4) := by kernel_rfl
theorem fl_8_3 : fldT Try.prog 8 3 = some (3, 6) := by kernel_rfl
theorem kd_9 : kdT Try.prog 9 = .str := by kernel_rfl
theorem sz_9 : szT Try.prog 9 = 1 := by kernel_rfl
theorem by_9 : bytesT Try.prog 9 = 16 := by kernel_rfl
theorem ze_9 : zeroT Try.prog 9 = some [.str []] := by kernel_rfl
theorem kd_10 : kdT Try.prog 10 = .str := by kernel_rfl
theorem sz_10 : szT Try.prog 10 = 1 := by kernel_rfl
theorem by_10 : bytesT Try.prog 10 = 16 := by kernel_rfl
theorem ze_10 : zeroT Try.prog 10 = some [.str []] := by kernel_rfl
theorem kd_11 : kdT Try.prog 11 = .str := by kernel_rfl
theorem sz_11 : szT Try.prog 11 = 1 := by kernel_rfl
theorem by_11 : bytesT Try.prog 11 = 16 := by kernel_rfl
theorem ze_11 : zeroT Try.prog 11 = some [.str []] := by kernel_rfl
theorem kd_12 : kdT Try.prog 12 = .int .u64 := by kernel_rfl
theorem sz_12 : szT Try.prog 12 = 1 := by kernel_rfl
theorem by_12 : bytesT Try.prog 12 = 8 := by kernel_rfl
theorem ze_12 : zeroT Try.prog 12 = some [.int .u64 0] := by kernel_rfl
theorem kd_13 : kdT Try.prog 13 = .struct := by kernel_rfl
theorem sz_13 : szT Try.prog 13 = 2 := by kernel_rfl
theorem by_13 : bytesT Try.prog 13 = 24 := by kernel_rfl
theorem ze_13 : zeroT Try.prog 13 = some [.str [], .int .u64 0] := by kernel_rfl
theorem pl_13 : placesT Try.prog 13 = some [(0, 1), (1, 1)] := by kernel_rfl
theorem fl_13_0 : fldT Try.prog 13 0 = some (0, 9) := by kernel_rfl
theorem fl_13_1 : fldT Try.prog 13 1 = some (1, 12) := by kernel_rfl
theorem kd_14 : kdT Try.prog 14 = .struct := by kernel_rfl
theorem sz_14 : szT Try.prog 14 = 2 := by kernel_rfl
theorem by_14 : bytesT Try.prog 14 = 24 := by kernel_rfl
theorem ze_14 : zeroT Try.prog 14 = some [.str [], .int .u64 0] := by kernel_rfl
theorem pl_14 : placesT Try.prog 14 = some [(0, 1), (1, 1)] := by kernel_rfl
theorem fl_14_0 : fldT Try.prog 14 0 = some (0, 9) := by kernel_rfl
theorem fl_14_1 : fldT Try.prog 14 1 = some (1, 12) := by kernel_rfl
theorem kd_15 : kdT Try.prog 15 = .ptr := by kernel_rfl
theorem sz_15 : szT Try.prog 15 = 1 := by kernel_rfl
theorem by_15 : bytesT Try.prog 15 = 8 := by kernel_rfl
theorem ze_15 : zeroT Try.prog 15 = some [.lit (.pointer none)] := by kernel_rfl
theorem kd_16 : kdT Try.prog 16 = .ptr := by kernel_rfl
theorem sz_16 : szT Try.prog 16 = 1 := by kernel_rfl
theorem by_16 : bytesT Try.prog 16 = 8 := by kernel_rfl
theorem ze_16 : zeroT Try.prog 16 = some [.lit (.pointer none)] := by kernel_rfl
theorem kd_17 : kdT Try.prog 17 = .ptr := by kernel_rfl
theorem sz_17 : szT Try.prog 17 = 1 := by kernel_rfl
theorem by_17 : bytesT Try.prog 17 = 8 := by kernel_rfl
theorem ze_17 : zeroT Try.prog 17 = some [.lit (.pointer none)] := by kernel_rfl
theorem kd_18 : kdT Try.prog 18 = .struct := by kernel_rfl
theorem sz_18 : szT Try.prog 18 = 1 := by kernel_rfl
theorem by_18 : bytesT Try.prog 18 = 8 := by kernel_rfl
theorem ze_18 : zeroT Try.prog 18 = some [.lit (.pointer none)] := by kernel_rfl
theorem pl_18 : placesT Try.prog 18 = some [(0, 1)] := by kernel_rfl
theorem fl_18_0 : fldT Try.prog 18 0 = some (0, 17) := by kernel_rfl
theorem kd_19 : kdT Try.prog 19 = .struct := by kernel_rfl
theorem sz_19 : szT Try.prog 19 = 1 := by kernel_rfl
theorem by_19 : bytesT Try.prog 19 = 8 := by kernel_rfl
theorem ze_19 : zeroT Try.prog 19 = some [.lit (.pointer none)] := by kernel_rfl
theorem pl_19 : placesT Try.prog 19 = some [(0, 1)] := by kernel_rfl
theorem fl_19_0 : fldT Try.prog 19 0 = some (0, 17) := by kernel_rfl
theorem kd_20 : kdT Try.prog 20 = .iface := by kernel_rfl
theorem sz_20 : szT Try.prog 20 = 1 := by kernel_rfl
theorem by_20 : bytesT Try.prog 20 = 16 := by kernel_rfl
theorem ze_20 : zeroT Try.prog 20 = some [.lit .nilIface] := by kernel_rfl
theorem kd_21 : kdT Try.prog 21 = .int .i32 := by kernel_rfl
theorem sz_21 : szT Try.prog 21 = 1 := by kernel_rfl
theorem by_21 : bytesT Try.prog 21 = 4 := by kernel_rfl
theorem ze_21 : zeroT Try.prog 21 = some [.int .i32 0] := by kernel_rfl
theorem kd_23 : kdT Try.prog 23 = .ptr := by kernel_rfl
theorem sz_23 : szT Try.prog 23 = 1 := by kernel_rfl
theorem by_23 : bytesT Try.prog 23 = 8 := by kernel_rfl
theorem ze_23 : zeroT Try.prog 23 = some [.lit (.pointer none)] := by kernel_rfl
theorem kd_24 : kdT Try.prog 24 = .int .i64 := by kernel_rfl
theorem sz_24 : szT Try.prog 24 = 1 := by kernel_rfl
theorem by_24 : bytesT Try.prog 24 = 8 := by kernel_rfl
theorem ze_24 : zeroT Try.prog 24 = some [.int .i64 0] := by kernel_rfl
theorem kd_27 : kdT Try.prog 27 = .slice 34 := by kernel_rfl
theorem sz_27 : szT Try.prog 27 = 1 := by kernel_rfl
theorem by_27 : bytesT Try.prog 27 = 24 := by kernel_rfl
theorem ze_27 : zeroT Try.prog 27 = some [.lit (.slice none 0 0)] := by kernel_rfl
theorem kd_28 : kdT Try.prog 28 = .slice 3 := by kernel_rfl
theorem sz_28 : szT Try.prog 28 = 1 := by kernel_rfl
theorem by_28 : bytesT Try.prog 28 = 24 := by kernel_rfl
theorem ze_28 : zeroT Try.prog 28 = some [.lit (.slice none 0 0)] := by kernel_rfl
theorem kd_29 : kdT Try.prog 29 = .slice 5 := by kernel_rfl
theorem sz_29 : szT Try.prog 29 = 1 := by kernel_rfl
theorem by_29 : bytesT Try.prog 29 = 24 := by kernel_rfl
theorem ze_29 : zeroT Try.prog 29 = some [.lit (.slice none 0 0)] := by kernel_rfl
theorem kd_30 : kdT Try.prog 30 = .struct := by kernel_rfl
theorem sz_30 : szT Try.prog 30 = 5 := by kernel_rfl
theorem by_30 : bytesT Try.prog 30 = 72 := by kernel_rfl
theorem ze_30 : zeroT Try.prog 30 = some [.int .i64 0, .int .i64 0, .int .i64 0, .lit (.slice none 0 0), .lit (.slice none 0 0)] := by kernel_rfl
theorem pl_30 : placesT Try.prog 30 = some [(0, 1), (1, 1), (2, 1), (3, 1), (4, 1)] := by kernel_rfl
theorem fl_30_0 : fldT Try.prog 30 0 = some (0, 3) := by kernel_rfl
theorem fl_30_1 : fldT Try.prog 30 1 = some (1, 3) := by kernel_rfl
theorem fl_30_2 : fldT Try.prog 30 2 = some (2, 3) := by kernel_rfl
theorem fl_30_3 : fldT Try.prog 30 3 = some (3, 28) := by kernel_rfl
theorem fl_30_4 : fldT Try.prog 30 4 = some (4, 29) := by kernel_rfl
theorem kd_31 : kdT Try.prog 31 = .struct := by kernel_rfl
theorem sz_31 : szT Try.prog 31 = 5 := by kernel_rfl
theorem by_31 : bytesT Try.prog 31 = 72 := by kernel_rfl
theorem ze_31 : zeroT Try.prog 31 = some [.int .i64 0, .int .i64 0, .int .i64 0, .lit (.slice none 0 0), .lit (.slice none 0 0)] := by kernel_rfl
theorem pl_31 : placesT Try.prog 31 = some [(0, 1), (1, 1), (2, 1), (3, 1), (4, 1)] := by kernel_rfl
theorem fl_31_0 : fldT Try.prog 31 0 = some (0, 3) := by kernel_rfl
theorem fl_31_1 : fldT Try.prog 31 1 = some (1, 3) := by kernel_rfl
theorem fl_31_2 : fldT Try.prog 31 2 = some (2, 3) := by kernel_rfl
theorem fl_31_3 : fldT Try.prog 31 3 = some (3, 28) := by kernel_rfl
theorem fl_31_4 : fldT Try.prog 31 4 = some (4, 29) := by kernel_rfl
theorem kd_33 : kdT Try.prog 33 = .struct := by kernel_rfl
theorem sz_33 : szT Try.prog 33 = 11 := by kernel_rfl
theorem by_33 : bytesT Try.prog 33 = 120 := by kernel_rfl
theorem ze_33 : zeroT Try.prog 33 = some [.int .i64 0, .int .i64 0, .int .i64 0, .int .i64 0, .int .i64 0, .int .i64 0, .int .i64 0, .int .i64 0, .int .i64 0, .lit (.slice none 0 0), .lit (.slice none 0 0)] := by kernel_rfl
theorem pl_33 : placesT Try.prog 33 = some [(0, 1), (1, 1), (2, 1), (3, 1), (4, 1), (5, 1), (6, 5)] := by kernel_rfl
theorem fl_33_0 : fldT Try.prog 33 0 = some (0, 3) := by kernel_rfl
theorem fl_33_1 : fldT Try.prog 33 1 = some (1, 3) := by kernel_rfl
theorem fl_33_2 : fldT Try.prog 33 2 = some (2, 3) := by kernel_rfl
theorem fl_33_3 : fldT Try.prog 33 3 = some (3, 3) := by kernel_rfl
theorem fl_33_4 : fldT Try.prog 33 4 = some (4, 3) := by kernel_rfl
theorem fl_33_5 : fldT Try.prog 33 5 = some (5, 3) := by kernel_rfl
theorem fl_33_6 : fldT Try.prog 33 6 = some (6, 31) := by kernel_rfl
theorem kd_34 : kdT Try.prog 34 = .struct := by kernel_rfl
theorem sz_34 : szT Try.prog 34 = 11 := by kernel_rfl
theorem by_34 : bytesT Try.prog 34 = 120 := by kernel_rfl
theorem ze_34 : zeroT Try.prog 34 = some [.int .i64 0, .int .i64 0, .int .i64 0, .int .i64 0, .int .i64 0, .int .i64 0, .int .i64 0, .int .i64 0, .int .i64 0, .lit (.slice none 0 0), .lit (.slice none 0 0)] := by kernel_rfl
theorem pl_34 : placesT Try.prog 34 = some [(0, 1), (1, 1), (2, 1), (3, 1), (4, 1), (5, 1), (6, 5)] := by kernel_rfl
theorem fl_34_0 : fldT Try.prog 34 0 = some (0, 3) := by kernel_rfl
theorem fl_34_1 : fldT Try.prog 34 1 = some (1, 3) := by kernel_rfl
theorem fl_34_2 : fldT Try.prog 34 2 = some (2, 3) := by kernel_rfl
theorem fl_34_3 : fldT Try.prog 34 3 = some (3, 3) := by kernel_rfl
theorem fl_34_4 : fldT Try.prog 34 4 = some (4, 3) := by kernel_rfl
theorem fl_34_5 : fldT Try.prog 34 5 = some (5, 3) := by kernel_rfl
theorem fl_34_6 : fldT Try.prog 34 6 = some (6, 31) := by kernel_rfl
theorem kd_35 : kdT Try.prog 35 = .ptr := by kernel_rfl
theorem sz_35 : szT Try.prog 35 = 1 := by kernel_rfl
theorem by_35 : bytesT Try.prog 35 = 8 := by kernel_rfl
theorem ze_35 : zeroT Try.prog 35 = some [.lit (.pointer none)] := by kernel_rfl
theorem kd_39 : kdT Try.prog 39 = .slice 31 := by kernel_rfl
theorem sz_39 : szT Try.prog 39 = 1 := by kernel_rfl
theorem by_39 : bytesT Try.prog 39 = 24 := by kernel_rfl
theorem ze_39 : zeroT Try.prog 39 = some [.lit (.slice none 0 0)] := by kernel_rfl
theorem kd_44 : kdT Try.prog 44 = .slice 4 := by kernel_rfl
theorem sz_44 : szT Try.prog 44 = 1 := by kernel_rfl
theorem by_44 : bytesT Try.prog 44 = 24 := by kernel_rfl
theorem ze_44 : zeroT Try.prog 44 = some [.lit (.slice none 0 0)] := by kernel_rfl
theorem kd_56 : kdT Try.prog 56 = .struct := by kernel_rfl
theorem sz_56 : szT Try.prog 56 = 4 := by kernel_rfl
theorem by_56 : bytesT Try.prog 56 = 32 := by kernel_rfl
theorem ze_56 : zeroT Try.prog 56 = some [.int .i64 0, .int .i64 0, .bool false, .int .i64 0] := by kernel_rfl
theorem pl_56 : placesT Try.prog 56 = some [(0, 1), (1, 1), (2, 1), (3, 1)] := by kernel_rfl
theorem fl_56_0 : fldT Try.prog 56 0 = some (0, 3) := by kernel_rfl
theorem fl_56_1 : fldT Try.prog 56 1 = some (1, 3) := by kernel_rfl
theorem fl_56_2 : fldT Try.prog 56 2 = some (2, 4) := by kernel_rfl
theorem fl_56_3 : fldT Try.prog 56 3 = some (3, 3) := by kernel_rfl
theorem kd_57 : kdT Try.prog 57 = .struct := by kernel_rfl
theorem sz_57 : szT Try.prog 57 = 4 := by kernel_rfl
theorem by_57 : bytesT Try.prog 57 = 32 := by kernel_rfl
theorem ze_57 : zeroT Try.prog 57 = some [.int .i64 0, .int .i64 0, .bool false, .int .i64 0] := by kernel_rfl
theorem pl_57 : placesT Try.prog 57 = some [(0, 1), (1, 1), (2, 1), (3, 1)] := by kernel_rfl
theorem fs_57 : fldsT Try.prog 57 = some [(0, 3), (1, 3), (2, 4), (3, 3)] := by kernel_rfl
theorem fl_57_0 : fldT Try.prog 57 0 = some (0, 3) := by kernel_rfl
theorem fl_57_1 : fldT Try.prog 57 1 = some (1, 3) := by kernel_rfl
theorem fl_57_2 : fldT Try.prog 57 2 = some (2, 4) := by kernel_rfl
theorem fl_57_3 : fldT Try.prog 57 3 = some (3, 3) := by kernel_rfl
theorem kd_58 : kdT Try.prog 58 = .slice 57 := by kernel_rfl
theorem sz_58 : szT Try.prog 58 = 1 := by kernel_rfl
theorem by_58 : bytesT Try.prog 58 = 24 := by kernel_rfl
theorem ze_58 : zeroT Try.prog 58 = some [.lit (.slice none 0 0)] := by kernel_rfl
theorem kd_59 : kdT Try.prog 59 = .slice 65 := by kernel_rfl
theorem sz_59 : szT Try.prog 59 = 1 := by kernel_rfl
theorem by_59 : bytesT Try.prog 59 = 24 := by kernel_rfl
theorem ze_59 : zeroT Try.prog 59 = some [.lit (.slice none 0 0)] := by kernel_rfl
theorem kd_60 : kdT Try.prog 60 = .struct := by kernel_rfl
theorem sz_60 : szT Try.prog 60 = 3 := by kernel_rfl
theorem by_60 : bytesT Try.prog 60 = 40 := by kernel_rfl
theorem ze_60 : zeroT Try.prog 60 = some [.bool false, .int .i64 0, .lit (.slice none 0 0)] := by kernel_rfl
theorem pl_60 : placesT Try.prog 60 = some [(0, 1), (1, 1), (2, 1)] := by kernel_rfl
theorem fl_60_0 : fldT Try.prog 60 0 = some (0, 4) := by kernel_rfl
theorem fl_60_1 : fldT Try.prog 60 1 = some (1, 3) := by kernel_rfl
theorem fl_60_2 : fldT Try.prog 60 2 = some (2, 59) := by kernel_rfl
theorem kd_61 : kdT Try.prog 61 = .struct := by kernel_rfl
theorem sz_61 : szT Try.prog 61 = 3 := by kernel_rfl
theorem by_61 : bytesT Try.prog 61 = 40 := by kernel_rfl
theorem ze_61 : zeroT Try.prog 61 = some [.bool false, .int .i64 0, .lit (.slice none 0 0)] := by kernel_rfl
theorem pl_61 : placesT Try.prog 61 = some [(0, 1), (1, 1), (2, 1)] := by kernel_rfl
theorem fl_61_0 : fldT Try.prog 61 0 = some (0, 4) := by kernel_rfl
theorem fl_61_1 : fldT Try.prog 61 1 = some (1, 3) := by kernel_rfl
theorem fl_61_2 : fldT Try.prog 61 2 = some (2, 59) := by kernel_rfl
theorem kd_64 : kdT Try.prog 64 = .struct := by kernel_rfl
theorem sz_64 : szT Try.prog 64 = 7 := by kernel_rfl
theorem by_64 : bytesT Try.prog 64 = 72 := by kernel_rfl
theorem ze_64 : zeroT Try.prog 64 = some [.int .i64 0, .int .i64 0, .lit (.slice none 0 0), .bool false, .int .i64 0, .bool false, .int .i64 0] := by kernel_rfl
theorem pl_64 : placesT Try.prog 64 = some [(0, 1), (1, 1), (2, 1), (3, 1), (4, 1), (5, 1), (6, 1)] := by kernel_rfl
theorem fl_64_0 : fldT Try.prog 64 0 = some (0, 3) := by kernel_rfl
theorem fl_64_1 : fldT Try.prog 64 1 = some (1, 3) := by kernel_rfl
theorem fl_64_2 : fldT Try.prog 64 2 = some (2, 27) := by kernel_rfl
theorem fl_64_3 : fldT Try.prog 64 3 = some (3, 4) := by kernel_rfl
theorem fl_64_4 : fldT Try.prog 64 4 = some (4, 3) := by kernel_rfl
theorem fl_64_5 : fldT Try.prog 64 5 = some (5, 4) := by kernel_rfl
theorem fl_64_6 : fldT Try.prog 64 6 = some (6, 3) := by kernel_rfl
theorem kd_65 : kdT Try.prog 65 = .struct := by kernel_rfl
theorem sz_65 : szT Try.prog 65 = 7 := by kernel_rfl
theorem by_65 : bytesT Try.prog 65 = 72 := by kernel_rfl
theorem ze_65 : zeroT Try.prog 65 = some [.int .i64 0, .int .i64 0, .lit (.slice none 0 0), .bool false, .int .i64 0, .bool false, .int .i64 0] := by kernel_rfl
theorem pl_65 : placesT Try.prog 65 = some [(0, 1), (1, 1), (2, 1), (3, 1), (4, 1), (5, 1), (6, 1)] := by kernel_rfl
theorem fl_65_0 : fldT Try.prog 65 0 = some (0, 3) := by kernel_rfl
theorem fl_65_1 : fldT Try.prog 65 1 = some (1, 3) := by kernel_rfl
theorem fl_65_2 : fldT Try.prog 65 2 = some (2, 27) := by kernel_rfl
theorem fl_65_3 : fldT Try.prog 65 3 = some (3, 4) := by kernel_rfl
theorem fl_65_4 : fldT Try.prog 65 4 = some (4, 3) := by kernel_rfl
theorem fl_65_5 : fldT Try.prog 65 5 = some (5, 4) := by kernel_rfl
theorem fl_65_6 : fldT Try.prog 65 6 = some (6, 3) := by kernel_rfl
theorem kd_69 : kdT Try.prog 69 = .ptr := by kernel_rfl
theorem sz_69 : szT Try.prog 69 = 1 := by kernel_rfl
theorem by_69 : bytesT Try.prog 69 = 8 := by kernel_rfl
theorem ze_69 : zeroT Try.prog 69 = some [.lit (.pointer none)] := by kernel_rfl
theorem kd_71 : kdT Try.prog 71 = .ptr := by kernel_rfl
theorem sz_71 : szT Try.prog 71 = 1 := by kernel_rfl
theorem by_71 : bytesT Try.prog 71 = 8 := by kernel_rfl
theorem ze_71 : zeroT Try.prog 71 = some [.lit (.pointer none)] := by kernel_rfl
theorem kd_75 : kdT Try.prog 75 = .int .u64 := by kernel_rfl
theorem sz_75 : szT Try.prog 75 = 1 := by kernel_rfl
theorem by_75 : bytesT Try.prog 75 = 8 := by kernel_rfl
theorem ze_75 : zeroT Try.prog 75 = some [.int .u64 0] := by kernel_rfl
theorem kd_81 : kdT Try.prog 81 = .ptr := by kernel_rfl
theorem sz_81 : szT Try.prog 81 = 1 := by kernel_rfl
theorem by_81 : bytesT Try.prog 81 = 8 := by kernel_rfl
theorem ze_81 : zeroT Try.prog 81 = some [.lit (.pointer none)] := by kernel_rfl
theorem kd_88 : kdT Try.prog 88 = .struct := by kernel_rfl
theorem sz_88 : szT Try.prog 88 = 2 := by kernel_rfl
theorem by_88 : bytesT Try.prog 88 = 32 := by kernel_rfl
theorem ze_88 : zeroT Try.prog 88 = some [.lit (.slice none 0 0), .bool false] := by kernel_rfl
theorem pl_88 : placesT Try.prog 88 = some [(0, 1), (1, 1)] := by kernel_rfl
theorem fl_88_0 : fldT Try.prog 88 0 = some (0, 29) := by kernel_rfl
theorem fl_88_1 : fldT Try.prog 88 1 = some (1, 4) := by kernel_rfl
theorem kd_89 : kdT Try.prog 89 = .struct := by kernel_rfl
theorem sz_89 : szT Try.prog 89 = 2 := by kernel_rfl
theorem by_89 : bytesT Try.prog 89 = 32 := by kernel_rfl
theorem ze_89 : zeroT Try.prog 89 = some [.lit (.slice none 0 0), .bool false] := by kernel_rfl
theorem pl_89 : placesT Try.prog 89 = some [(0, 1), (1, 1)] := by kernel_rfl
theorem fl_89_0 : fldT Try.prog 89 0 = some (0, 29) := by kernel_rfl
theorem fl_89_1 : fldT Try.prog 89 1 = some (1, 4) := by kernel_rfl
theorem kd_91 : kdT Try.prog 91 = .ptr := by kernel_rfl
theorem sz_91 : szT Try.prog 91 = 1 := by kernel_rfl
theorem by_91 : bytesT Try.prog 91 = 8 := by kernel_rfl
theorem ze_91 : zeroT Try.prog 91 = some [.lit (.pointer none)] := by kernel_rfl
theorem kd_92 : kdT Try.prog 92 = .struct := by kernel_rfl
theorem sz_92 : szT Try.prog 92 = 2 := by kernel_rfl
theorem by_92 : bytesT Try.prog 92 = 48 := by kernel_rfl
theorem ze_92 : zeroT Try.prog 92 = some [.lit (.slice none 0 0), .lit (.slice none 0 0)] := by kernel_rfl
theorem pl_92 : placesT Try.prog 92 = some [(0, 1), (1, 1)] := by kernel_rfl
theorem fl_92_0 : fldT Try.prog 92 0 = some (0, 28) := by kernel_rfl
theorem fl_92_1 : fldT Try.prog 92 1 = some (1, 58) := by kernel_rfl
theorem kd_93 : kdT Try.prog 93 = .struct := by kernel_rfl
theorem sz_93 : szT Try.prog 93 = 2 := by kernel_rfl
theorem by_93 : bytesT Try.prog 93 = 48 := by kernel_rfl
theorem ze_93 : zeroT Try.prog 93 = some [.lit (.slice none 0 0), .lit (.slice none 0 0)] := by kernel_rfl
theorem pl_93 : placesT Try.prog 93 = some [(0, 1), (1, 1)] := by kernel_rfl
theorem fl_93_0 : fldT Try.prog 93 0 = some (0, 28) := by kernel_rfl
theorem fl_93_1 : fldT Try.prog 93 1 = some (1, 58) := by kernel_rfl
theorem kd_94 : kdT Try.prog 94 = .struct := by kernel_rfl
theorem sz_94 : szT Try.prog 94 = 3 := by kernel_rfl
theorem by_94 : bytesT Try.prog 94 = 56 := by kernel_rfl
theorem ze_94 : zeroT Try.prog 94 = some [.bool false, .lit (.slice none 0 0), .lit (.slice none 0 0)] := by kernel_rfl
theorem pl_94 : placesT Try.prog 94 = some [(0, 1), (1, 2)] := by kernel_rfl
theorem fl_94_0 : fldT Try.prog 94 0 = some (0, 4) := by kernel_rfl
theorem fl_94_1 : fldT Try.prog 94 1 = some (1, 93) := by kernel_rfl
theorem kd_95 : kdT Try.prog 95 = .struct := by kernel_rfl
theorem sz_95 : szT Try.prog 95 = 3 := by kernel_rfl
theorem by_95 : bytesT Try.prog 95 = 56 := by kernel_rfl
theorem ze_95 : zeroT Try.prog 95 = some [.bool false, .lit (.slice none 0 0), .lit (.slice none 0 0)] := by kernel_rfl
theorem pl_95 : placesT Try.prog 95 = some [(0, 1), (1, 2)] := by kernel_rfl
theorem fl_95_0 : fldT Try.prog 95 0 = some (0, 4) := by kernel_rfl
theorem fl_95_1 : fldT Try.prog 95 1 = some (1, 93) := by kernel_rfl
theorem kd_102 : kdT Try.prog 102 = .ptr := by kernel_rfl
theorem sz_102 : szT Try.prog 102 = 1 := by kernel_rfl
theorem by_102 : bytesT Try.prog 102 = 8 := by kernel_rfl
theorem ze_102 : zeroT Try.prog 102 = some [.lit (.pointer none)] := by kernel_rfl
theorem kd_104 : kdT Try.prog 104 = .struct := by kernel_rfl
theorem sz_104 : szT Try.prog 104 = 2 := by kernel_rfl
theorem by_104 : bytesT Try.prog 104 = 32 := by kernel_rfl
theorem ze_104 : zeroT Try.prog 104 = some [.bool false, .lit (.slice none 0 0)] := by kernel_rfl
theorem pl_104 : placesT Try.prog 104 = some [(0, 1), (1, 1)] := by kernel_rfl
theorem fl_104_0 : fldT Try.prog 104 0 = some (0, 4) := by kernel_rfl
theorem fl_104_1 : fldT Try.prog 104 1 = some (1, 29) := by kernel_rfl
theorem kd_105 : kdT Try.prog 105 = .struct := by kernel_rfl
theorem sz_105 : szT Try.prog 105 = 2 := by kernel_rfl
theorem by_105 : bytesT Try.prog 105 = 32 := by kernel_rfl
theorem ze_105 : zeroT Try.prog 105 = some [.bool false, .lit (.slice none 0 0)] := by kernel_rfl
theorem pl_105 : placesT Try.prog 105 = some [(0, 1), (1, 1)] := by kernel_rfl
theorem fl_105_0 : fldT Try.prog 105 0 = some (0, 4) := by kernel_rfl
theorem fl_105_1 : fldT Try.prog 105 1 = some (1, 29) := by kernel_rfl
theorem kd_107 : kdT Try.prog 107 = .int .u64 := by kernel_rfl
theorem sz_107 : szT Try.prog 107 = 1 := by kernel_rfl
theorem by_107 : bytesT Try.prog 107 = 8 := by kernel_rfl
theorem ze_107 : zeroT Try.prog 107 = some [.int .u64 0] := by kernel_rfl
theorem kd_109 : kdT Try.prog 109 = .struct := by kernel_rfl
theorem sz_109 : szT Try.prog 109 = 5 := by kernel_rfl
theorem by_109 : bytesT Try.prog 109 = 48 := by kernel_rfl
theorem ze_109 : zeroT Try.prog 109 = some [.str [], .int .i64 0, .bool false, .int .i64 0, .int .i64 0] := by kernel_rfl
theorem pl_109 : placesT Try.prog 109 = some [(0, 1), (1, 1), (2, 1), (3, 1), (4, 1)] := by kernel_rfl
theorem fl_109_0 : fldT Try.prog 109 0 = some (0, 9) := by kernel_rfl
theorem fl_109_1 : fldT Try.prog 109 1 = some (1, 3) := by kernel_rfl
theorem fl_109_2 : fldT Try.prog 109 2 = some (2, 4) := by kernel_rfl
theorem fl_109_3 : fldT Try.prog 109 3 = some (3, 3) := by kernel_rfl
theorem fl_109_4 : fldT Try.prog 109 4 = some (4, 3) := by kernel_rfl
theorem kd_110 : kdT Try.prog 110 = .struct := by kernel_rfl
theorem sz_110 : szT Try.prog 110 = 5 := by kernel_rfl
theorem by_110 : bytesT Try.prog 110 = 48 := by kernel_rfl
theorem ze_110 : zeroT Try.prog 110 = some [.str [], .int .i64 0, .bool false, .int .i64 0, .int .i64 0] := by kernel_rfl
theorem pl_110 : placesT Try.prog 110 = some [(0, 1), (1, 1), (2, 1), (3, 1), (4, 1)] := by kernel_rfl
theorem fs_110 : fldsT Try.prog 110 = some [(0, 9), (1, 3), (2, 4), (3, 3), (4, 3)] := by kernel_rfl
theorem fl_110_0 : fldT Try.prog 110 0 = some (0, 9) := by kernel_rfl
theorem fl_110_1 : fldT Try.prog 110 1 = some (1, 3) := by kernel_rfl
theorem fl_110_2 : fldT Try.prog 110 2 = some (2, 4) := by kernel_rfl
theorem fl_110_3 : fldT Try.prog 110 3 = some (3, 3) := by kernel_rfl
theorem fl_110_4 : fldT Try.prog 110 4 = some (4, 3) := by kernel_rfl
theorem kd_115 : kdT Try.prog 115 = .struct := by kernel_rfl
theorem sz_115 : szT Try.prog 115 = 3 := by kernel_rfl
theorem by_115 : bytesT Try.prog 115 = 32 := by kernel_rfl
theorem ze_115 : zeroT Try.prog 115 = some [.bool false, .bool false, .lit (.slice none 0 0)] := by kernel_rfl
theorem pl_115 : placesT Try.prog 115 = some [(0, 1), (1, 1), (2, 1)] := by kernel_rfl
theorem fl_115_0 : fldT Try.prog 115 0 = some (0, 4) := by kernel_rfl
theorem fl_115_1 : fldT Try.prog 115 1 = some (1, 4) := by kernel_rfl
theorem fl_115_2 : fldT Try.prog 115 2 = some (2, 29) := by kernel_rfl
theorem kd_116 : kdT Try.prog 116 = .struct := by kernel_rfl
theorem sz_116 : szT Try.prog 116 = 3 := by kernel_rfl
theorem by_116 : bytesT Try.prog 116 = 32 := by kernel_rfl
theorem ze_116 : zeroT Try.prog 116 = some [.bool false, .bool false, .lit (.slice none 0 0)] := by kernel_rfl
theorem pl_116 : placesT Try.prog 116 = some [(0, 1), (1, 1), (2, 1)] := by kernel_rfl
theorem fl_116_0 : fldT Try.prog 116 0 = some (0, 4) := by kernel_rfl
theorem fl_116_1 : fldT Try.prog 116 1 = some (1, 4) := by kernel_rfl
theorem fl_116_2 : fldT Try.prog 116 2 = some (2, 29) := by kernel_rfl
theorem kd_124 : kdT Try.prog 124 = .ptr := by kernel_rfl
theorem sz_124 : szT Try.prog 124 = 1 := by kernel_rfl
theorem by_124 : bytesT Try.prog 124 = 8 := by kernel_rfl
theorem ze_124 : zeroT Try.prog 124 = some [.lit (.pointer none)] := by kernel_rfl
theorem kd_129 : kdT Try.prog 129 = .array 29 110 := by kernel_rfl
theorem sz_129 : szT Try.prog 129 = 145 := by kernel_rfl
theorem by_129 : bytesT Try.prog 129 = 1392 := by kernel_rfl
theorem ze_129 : zeroT Try.prog 129 = some [.str [], .int .i64 0, .bool false, .int .i64 0, .int .i64 0, .str [], .int .i64 0, .bool false, .int .i64 0, .int .i64 0, .str [], .int .i64 0, .bool false, .int .i64 0, .int .i64 0, .str [], .int .i64 0, .bool false, .int .i64 0, .int .i64 0, .str [], .int .i64 0, .bool false, .int .i64 0, .int .i64 0, .str [], .int .i64 0, .bool false, .int .i64 0, .int .i64 0, .str [], .int .i64 0, .bool false, .int .i64 0, .int .i64 0, .str [], .int .i64 0, .bool false, .int .i64 0, .int .i64 0, .str [], .int .i64 0, .bool false, .int .i64 0, .int .i64 0, .str [], .int .i64 0, .bool false, .int .i64 0, .int .i64 0, .str [], .int .i64 0, .bool false, .int .i64 0, .int .i64 0, .str [], .int .i64 0, .bool false, .int .i64 0, .int .i64 0, .str [], .int .i64 0, .bool false, .int .i64 0, .int .i64 0, .str [], .int .i64 0, .bool false, .int .i64 0, .int .i64 0, .str [], .int .i64 0, .bool false, .int .i64 0, .int .i64 0, .str [], .int .i64 0, .bool false, .int .i64 0, .int .i64 0, .str [], .int .i64 0, .bool false, .int .i64 0, .int .i64 0, .str [], .int .i64 0, .bool false, .int .i64 0, .int .i64 0, .str [], .int .i64 0, .bool false, .int .i64 0, .int .i64 0, .str [], .int .i64 0, .bool false, .int .i64 0, .int .i64 0, .str [], .int .i64 0, .bool false, .int .i64 0, .int .i64 0, .str [], .int .i64 0, .bool false, .int .i64 0, .int .i64 0, .str [], .int .i64 0, .bool false, .int .i64 0, .int .i64 0, .str [], .int .i64 0, .bool false, .int .i64 0, .int .i64 0, .str [], .int .i64 0, .bool false, .int .i64 0, .int .i64 0, .str [], .int .i64 0, .bool false, .int .i64 0, .int .i64 0, .str [], .int .i64 0, .bool false, .int .i64 0, .int .i64 0, .str [], .int .i64 0, .bool false, .int .i64 0, .int .i64 0, .str [], .int .i64 0, .bool false, .int .i64 0, .int .i64 0] := by kernel_rfl
theorem kd_139 : kdT Try.prog 139 = .ptr := by kernel_rfl
theorem sz_139 : szT Try.prog 139 = 1 := by kernel_rfl
theorem by_139 : bytesT Try.prog 139 = 8 := by kernel_rfl
theorem ze_139 : zeroT Try.prog 139 = some [.lit (.pointer none)] := by kernel_rfl
theorem kd_143 : kdT Try.prog 143 = .slice 28 := by kernel_rfl
theorem sz_143 : szT Try.prog 143 = 1 := by kernel_rfl
theorem by_143 : bytesT Try.prog 143 = 24 := by kernel_rfl
theorem ze_143 : zeroT Try.prog 143 = some [.lit (.slice none 0 0)] := by kernel_rfl
theorem kd_147 : kdT Try.prog 147 = .struct := by kernel_rfl
theorem sz_147 : szT Try.prog 147 = 4 := by kernel_rfl
theorem by_147 : bytesT Try.prog 147 = 40 := by kernel_rfl
theorem ze_147 : zeroT Try.prog 147 = some [.lit (.pointer none), .lit (.pointer none), .lit (.pointer none), .str []] := by kernel_rfl
theorem pl_147 : placesT Try.prog 147 = some [(0, 1), (1, 1), (2, 1), (3, 1)] := by kernel_rfl
theorem fl_147_0 : fldT Try.prog 147 0 = some (0, 17) := by kernel_rfl
theorem fl_147_1 : fldT Try.prog 147 1 = some (1, 17) := by kernel_rfl
theorem fl_147_2 : fldT Try.prog 147 2 = some (2, 17) := by kernel_rfl
theorem fl_147_3 : fldT Try.prog 147 3 = some (3, 9) := by kernel_rfl
theorem kd_148 : kdT Try.prog 148 = .struct := by kernel_rfl
theorem sz_148 : szT Try.prog 148 = 4 := by kernel_rfl
theorem by_148 : bytesT Try.prog 148 = 40 := by kernel_rfl
theorem ze_148 : zeroT Try.prog 148 = some [.lit (.pointer none), .lit (.pointer none), .lit (.pointer none), .str []] := by kernel_rfl
theorem pl_148 : placesT Try.prog 148 = some [(0, 1), (1, 1), (2, 1), (3, 1)] := by kernel_rfl
theorem fl_148_0 : fldT Try.prog 148 0 = some (0, 17) := by kernel_rfl
theorem fl_148_1 : fldT Try.prog 148 1 = some (1, 17) := by kernel_rfl
theorem fl_148_2 : fldT Try.prog 148 2 = some (2, 17) := by kernel_rfl
theorem fl_148_3 : fldT Try.prog 148 3 = some (3, 9) := by kernel_rfl
theorem kd_149 : kdT Try.prog 149 = .array 0 16 := by kernel_rfl
theorem sz_149 : szT Try.prog 149 = 0 := by kernel_rfl
theorem by_149 : bytesT Try.prog 149 = 0 := by kernel_rfl
theorem ze_149 : zeroT Try.prog 149 = some [] := by kernel_rfl
theorem kd_150 : kdT Try.prog 150 = .struct := by kernel_rfl
theorem sz_150 : szT Try.prog 150 = 0 := by kernel_rfl
theorem by_150 : bytesT Try.prog 150 = 0 := by kernel_rfl
theorem ze_150 : zeroT Try.prog 150 = some [] := by kernel_rfl
theorem pl_150 : placesT Try.prog 150 = some [(0, 0)] := by kernel_rfl
theorem kd_151 : kdT Try.prog 151 = .struct := by kernel_rfl
theorem sz_151 : szT Try.prog 151 = 0 := by kernel_rfl
theorem by_151 : bytesT Try.prog 151 = 0 := by kernel_rfl
theorem ze_151 : zeroT Try.prog 151 = some [] := by kernel_rfl
theorem pl_151 : placesT Try.prog 151 = some [(0, 0)] := by kernel_rfl
theorem kd_152 : kdT Try.prog 152 = .int .u32 := by kernel_rfl
theorem sz_152 : szT Try.prog 152 = 1 := by kernel_rfl
theorem by_152 : bytesT Try.prog 152 = 4 := by kernel_rfl
theorem ze_152 : zeroT Try.prog 152 = some [.int .u32 0] := by kernel_rfl
theorem kd_153 : kdT Try.prog 153 = .int .u8 := by kernel_rfl
theorem sz_153 : szT Try.prog 153 = 1 := by kernel_rfl
theorem by_153 : bytesT Try.prog 153 = 1 := by kernel_rfl
theorem ze_153 : zeroT Try.prog 153 = some [.int .u8 0] := by kernel_rfl
theorem kd_154 : kdT Try.prog 154 = .int .u8 := by kernel_rfl
theorem sz_154 : szT Try.prog 154 = 1 := by kernel_rfl
theorem by_154 : bytesT Try.prog 154 = 1 := by kernel_rfl
theorem ze_154 : zeroT Try.prog 154 = some [.int .u8 0] := by kernel_rfl
theorem kd_156 : kdT Try.prog 156 = .ptr := by kernel_rfl
theorem sz_156 : szT Try.prog 156 = 1 := by kernel_rfl
theorem by_156 : bytesT Try.prog 156 = 8 := by kernel_rfl
theorem ze_156 : zeroT Try.prog 156 = some [.lit (.pointer none)] := by kernel_rfl
theorem kd_157 : kdT Try.prog 157 = .int .i32 := by kernel_rfl
theorem sz_157 : szT Try.prog 157 = 1 := by kernel_rfl
theorem by_157 : bytesT Try.prog 157 = 4 := by kernel_rfl
theorem ze_157 : zeroT Try.prog 157 = some [.int .i32 0] := by kernel_rfl
theorem kd_158 : kdT Try.prog 158 = .int .i32 := by kernel_rfl
theorem sz_158 : szT Try.prog 158 = 1 := by kernel_rfl
theorem by_158 : bytesT Try.prog 158 = 4 := by kernel_rfl
theorem ze_158 : zeroT Try.prog 158 = some [.int .i32 0] := by kernel_rfl
theorem kd_159 : kdT Try.prog 159 = .struct := by kernel_rfl
theorem sz_159 : szT Try.prog 159 = 11 := by kernel_rfl
theorem by_159 : bytesT Try.prog 159 = 48 := by kernel_rfl
theorem ze_159 : zeroT Try.prog 159 = some [.int .u64 0, .int .u64 0, .int .u32 0, .int .u8 0, .int .u8 0, .int .u8 0, .int .u8 0, .lit .nilFunc, .lit (.pointer none), .int .i32 0, .int .i32 0] := by kernel_rfl
theorem pl_159 : placesT Try.prog 159 = some [(0, 1), (1, 1), (2, 1), (3, 1), (4, 1), (5, 1), (6, 1), (7, 1), (8, 1), (9, 1), (10, 1)] := by kernel_rfl
theorem fl_159_0 : fldT Try.prog 159 0 = some (0, 12) := by kernel_rfl
theorem fl_159_1 : fldT Try.prog 159 1 = some (1, 12) := by kernel_rfl
theorem fl_159_2 : fldT Try.prog 159 2 = some (2, 152) := by kernel_rfl
theorem fl_159_3 : fldT Try.prog 159 3 = some (3, 153) := by kernel_rfl
theorem fl_159_4 : fldT Try.prog 159 4 = some (4, 5) := by kernel_rfl
theorem fl_159_5 : fldT Try.prog 159 5 = some (5, 5) := by kernel_rfl
theorem fl_159_6 : fldT Try.prog 159 6 = some (6, 154) := by kernel_rfl
theorem fl_159_7 : fldT Try.prog 159 7 = some (7, 155) := by kernel_rfl
theorem fl_159_8 : fldT Try.prog 159 8 = some (8, 156) := by kernel_rfl
theorem fl_159_9 : fldT Try.prog 159 9 = some (9, 157) := by kernel_rfl
theorem fl_159_10 : fldT Try.prog 159 10 = some (10, 158) := by kernel_rfl
theorem kd_160 : kdT Try.prog 160 = .struct := by kernel_rfl
theorem sz_160 : szT Try.prog 160 = 11 := by kernel_rfl
theorem by_160 : bytesT Try.prog 160 = 48 := by kernel_rfl
theorem ze_160 : zeroT Try.prog 160 = some [.int .u64 0, .int .u64 0, .int .u32 0, .int .u8 0, .int .u8 0, .int .u8 0, .int .u8 0, .lit .nilFunc, .lit (.pointer none), .int .i32 0, .int .i32 0] := by kernel_rfl
theorem pl_160 : placesT Try.prog 160 = some [(0, 1), (1, 1), (2, 1), (3, 1), (4, 1), (5, 1), (6, 1), (7, 1), (8, 1), (9, 1), (10, 1)] := by kernel_rfl
theorem fl_160_0 : fldT Try.prog 160 0 = some (0, 12) := by kernel_rfl
theorem fl_160_1 : fldT Try.prog 160 1 = some (1, 12) := by kernel_rfl
theorem fl_160_2 : fldT Try.prog 160 2 = some (2, 152) := by kernel_rfl
theorem fl_160_3 : fldT Try.prog 160 3 = some (3, 153) := by kernel_rfl
theorem fl_160_4 : fldT Try.prog 160 4 = some (4, 5) := by kernel_rfl
theorem fl_160_5 : fldT Try.prog 160 5 = some (5, 5) := by kernel_rfl
theorem fl_160_6 : fldT Try.prog 160 6 = some (6, 154) := by kernel_rfl
theorem fl_160_7 : fldT Try.prog 160 7 = some (7, 155) := by kernel_rfl
theorem fl_160_8 : fldT Try.prog 160 8 = some (8, 156) := by kernel_rfl
theorem fl_160_9 : fldT Try.prog 160 9 = some (9, 157) := by kernel_rfl
theorem fl_160_10 : fldT Try.prog 160 10 = some (10, 158) := by kernel_rfl
instance : ETab := ⟨fun t => if t = 28 then some .int else if t = 29 then some .byte else if t = 44 then some .bool else if t = 143 then some .ints else if t = 39 then some .cmd else if t = 27 then some .stp else if t = 59 then some .prg else if t = 58 then some .pdf else none, fun t => none⟩
theorem et_28 : ETab.of 28 = some .int := rfl
theorem et_29 : ETab.of 29 = some .byte := rfl
theorem et_44 : ETab.of 44 = some .bool := rfl
theorem et_143 : ETab.of 143 = some .ints := rfl
theorem et_39 : ETab.of 39 = some .cmd := rfl
theorem et_27 : ETab.of 27 = some .stp := rfl
theorem et_59 : ETab.of 59 = some .prg := rfl
theorem et_58 : ETab.of 58 = some .pdf := rfl
theorem mixed : Try.prog.follows .mixedOrders = true := by kernel_rfl
theorem fn_3 : Try.prog.funcs[3]? = some Try.f3 := by kernel_rfl -- spacecraft/spacecraftlaw43.SequenceBounds
theorem fn_4 : Try.prog.funcs[4]? = some Try.f4 := by kernel_rfl -- spacecraft/spacecraftlaw43.SequenceResources
theorem fn_5 : Try.prog.funcs[5]? = some Try.f5 := by kernel_rfl -- spacecraft/spacecraftlaw43.SequenceNone
theorem fn_8 : Try.prog.funcs[8]? = some Try.f8 := by kernel_rfl -- spacecraft/spacecraftlaw43.alive
theorem fn_9 : Try.prog.funcs[9]? = some Try.f9 := by kernel_rfl -- spacecraft/spacecraftlaw43.pool
theorem fn_10 : Try.prog.funcs[10]? = some Try.f10 := by kernel_rfl -- spacecraft/spacecraftlaw43.ping
theorem fn_11 : Try.prog.funcs[11]? = some Try.f11 := by kernel_rfl -- spacecraft/sequence.New
theorem fn_12 : Try.prog.funcs[12]? = some Try.f12 := by kernel_rfl -- (*spacecraft/sequence.Engine).Load
theorem fn_13 : Try.prog.funcs[13]? = some Try.f13 := by kernel_rfl -- (*spacecraft/sequence.Engine).Start
theorem fn_14 : Try.prog.funcs[14]? = some Try.f14 := by kernel_rfl -- (*spacecraft/sequence.Engine).Tick
theorem fn_15 : Try.prog.funcs[15]? = some Try.f15 := by kernel_rfl -- spacecraft/spacecraftlaw43.ints
theorem fn_16 : Try.prog.funcs[16]? = some Try.f16 := by kernel_rfl -- (*spacecraft/sequence.Engine).Running
theorem fn_17 : Try.prog.funcs[17]? = some Try.f17 := by kernel_rfl -- (*spacecraft/sequence.Engine).Stop
theorem fn_18 : Try.prog.funcs[18]? = some Try.f18 := by kernel_rfl -- (*spacecraft/sequence.Engine).Clone
theorem fn_20 : Try.prog.funcs[20]? = some Try.f20 := by kernel_rfl -- spacecraft/sequence.Encode
theorem fn_25 : Try.prog.funcs[25]? = some Try.f25 := by kernel_rfl -- spacecraft/spacecraftref39.Same
theorem fn_26 : Try.prog.funcs[26]? = some Try.f26 := by kernel_rfl -- spacecraft/params.New
theorem fn_27 : Try.prog.funcs[27]? = some Try.f27 := by kernel_rfl -- (*spacecraft/sequence.Engine).valid
theorem fn_28 : Try.prog.funcs[28]? = some Try.f28 := by kernel_rfl -- spacecraft/sequence.whole
theorem fn_29 : Try.prog.funcs[29]? = some Try.f29 := by kernel_rfl -- (*spacecraft/sequence.Engine).find
theorem fn_30 : Try.prog.funcs[30]? = some Try.f30 := by kernel_rfl -- spacecraft/sequence.copied
theorem fn_31 : Try.prog.funcs[31]? = some Try.f31 := by kernel_rfl -- slices.Insert[[]spacecraft/sequence.program,spacecraft/sequence.program]
theorem fn_32 : Try.prog.funcs[32]? = some Try.f32 := by kernel_rfl -- (*spacecraft/sequence.Engine).advance
theorem fn_33 : Try.prog.funcs[33]? = some Try.f33 := by kernel_rfl -- (*spacecraft/sequence.program).run
theorem fn_35 : Try.prog.funcs[35]? = some Try.f35 := by kernel_rfl -- spacecraft/octets.NewWriter
theorem fn_36 : Try.prog.funcs[36]? = some Try.f36 := by kernel_rfl -- (*spacecraft/octets.Writer).Int
theorem fn_37 : Try.prog.funcs[37]? = some Try.f37 := by kernel_rfl -- (*spacecraft/octets.Writer).Uint
theorem fn_38 : Try.prog.funcs[38]? = some Try.f38 := by kernel_rfl -- spacecraft/command.Encode
theorem fn_39 : Try.prog.funcs[39]? = some Try.f39 := by kernel_rfl -- (*spacecraft/octets.Writer).Blob
theorem fn_40 : Try.prog.funcs[40]? = some Try.f40 := by kernel_rfl -- (*spacecraft/octets.Writer).Bytes
theorem fn_52 : Try.prog.funcs[52]? = some Try.f52 := by kernel_rfl -- spacecraft/params.inRange
theorem fn_53 : Try.prog.funcs[53]? = some Try.f53 := by kernel_rfl -- (*spacecraft/params.table[spacecraft/api.ParamDef]).append
theorem fn_54 : Try.prog.funcs[54]? = some Try.f54 := by kernel_rfl -- spacecraft/sequence.right
theorem fn_55 : Try.prog.funcs[55]? = some Try.f55 := by kernel_rfl -- slices.Clone[[]spacecraft/api.Step,spacecraft/api.Step]
theorem fn_56 : Try.prog.funcs[56]? = some Try.f56 := by kernel_rfl -- spacecraft/sequence.duplicate
theorem fn_60 : Try.prog.funcs[60]? = some Try.f60 := by kernel_rfl -- (*spacecraft/octets.Writer).ok
theorem fn_61 : Try.prog.funcs[61]? = some Try.f61 := by kernel_rfl -- spacecraft/octets.zigzag
theorem fn_62 : Try.prog.funcs[62]? = some Try.f62 := by kernel_rfl -- spacecraft/command.Valid
theorem fn_63 : Try.prog.funcs[63]? = some Try.f63 := by kernel_rfl -- spacecraft/command.find
theorem fn_81 : Try.prog.funcs[81]? = some Try.f81 := by kernel_rfl -- spacecraft/sequence.zero
theorem fn_82 : Try.prog.funcs[82]? = some Try.f82 := by kernel_rfl -- spacecraft/sequence.compares
theorem fn_83 : Try.prog.funcs[83]? = some Try.f83 := by kernel_rfl -- slices.Clone[[]int,int]
theorem fn_84 : Try.prog.funcs[84]? = some Try.f84 := by kernel_rfl -- slices.Clone[[]byte,byte]
theorem fn_87 : Try.prog.funcs[87]? = some Try.f87 := by kernel_rfl -- spacecraft/command.table
attribute [go_sem] kd_2 sz_2 by_2 ze_2 kd_3 sz_3 by_3 ze_3 kd_4 sz_4 by_4 ze_4 kd_5 sz_5 by_5 ze_5 kd_6 sz_6 by_6 ze_6 kd_7 sz_7 by_7 ze_7 pl_7 fl_7_0 fl_7_1 fl_7_2 fl_7_3 kd_8 sz_8 by_8 ze_8 pl_8 fl_8_0 fl_8_1 fl_8_2 fl_8_3 kd_9 sz_9 by_9 ze_9 kd_10 sz_10 by_10 ze_10 kd_11 sz_11 by_11 ze_11 kd_12 sz_12 by_12 ze_12 kd_13 sz_13 by_13 ze_13 pl_13 fl_13_0 fl_13_1 kd_14 sz_14 by_14 ze_14 pl_14 fl_14_0 fl_14_1 kd_15 sz_15 by_15 ze_15 kd_16 sz_16 by_16 ze_16 kd_17 sz_17 by_17 ze_17 kd_18 sz_18 by_18 ze_18 pl_18 fl_18_0 kd_19 sz_19 by_19 ze_19 pl_19 fl_19_0 kd_20 sz_20 by_20 ze_20 kd_21 sz_21 by_21 ze_21 kd_23 sz_23 by_23 ze_23 kd_24 sz_24 by_24 ze_24 kd_27 sz_27 by_27 ze_27 kd_28 sz_28 by_28 ze_28 kd_29 sz_29 by_29 ze_29 kd_30 sz_30 by_30 ze_30 pl_30 fl_30_0 fl_30_1 fl_30_2 fl_30_3 fl_30_4 kd_31 sz_31 by_31 ze_31 pl_31 fl_31_0 fl_31_1 fl_31_2 fl_31_3 fl_31_4 kd_33 sz_33 by_33 ze_33 pl_33 fl_33_0 fl_33_1 fl_33_2 fl_33_3 fl_33_4 fl_33_5 fl_33_6 kd_34 sz_34 by_34 ze_34 pl_34 fl_34_0 fl_34_1 fl_34_2 fl_34_3 fl_34_4 fl_34_5 fl_34_6 kd_35 sz_35 by_35 ze_35 kd_39 sz_39 by_39 ze_39 kd_44 sz_44 by_44 ze_44 kd_56 sz_56 by_56 ze_56 pl_56 fl_56_0 fl_56_1 fl_56_2 fl_56_3 kd_57 sz_57 by_57 ze_57 pl_57 fs_57 fl_57_0 fl_57_1 fl_57_2 fl_57_3 kd_58 sz_58 by_58 ze_58 kd_59 sz_59 by_59 ze_59 kd_60 sz_60 by_60 ze_60 pl_60 fl_60_0 fl_60_1 fl_60_2 kd_61 sz_61 by_61 ze_61 pl_61 fl_61_0 fl_61_1 fl_61_2 kd_64 sz_64 by_64 ze_64 pl_64 fl_64_0 fl_64_1 fl_64_2 fl_64_3 fl_64_4 fl_64_5 fl_64_6 kd_65 sz_65 by_65 ze_65 pl_65 fl_65_0 fl_65_1 fl_65_2 fl_65_3 fl_65_4 fl_65_5 fl_65_6 kd_69 sz_69 by_69 ze_69 kd_71 sz_71 by_71 ze_71 kd_75 sz_75 by_75 ze_75 kd_81 sz_81 by_81 ze_81 kd_88 sz_88 by_88 ze_88 pl_88 fl_88_0 fl_88_1 kd_89 sz_89 by_89 ze_89 pl_89 fl_89_0 fl_89_1 kd_91 sz_91 by_91 ze_91 kd_92 sz_92 by_92 ze_92 pl_92 fl_92_0 fl_92_1 kd_93 sz_93 by_93 ze_93 pl_93 fl_93_0 fl_93_1 kd_94 sz_94 by_94 ze_94 pl_94 fl_94_0 fl_94_1 kd_95 sz_95 by_95 ze_95 pl_95 fl_95_0 fl_95_1 kd_102 sz_102 by_102 ze_102 kd_104 sz_104 by_104 ze_104 pl_104 fl_104_0 fl_104_1 kd_105 sz_105 by_105 ze_105 pl_105 fl_105_0 fl_105_1 kd_107 sz_107 by_107 ze_107 kd_109 sz_109 by_109 ze_109 pl_109 fl_109_0 fl_109_1 fl_109_2 fl_109_3 fl_109_4 kd_110 sz_110 by_110 ze_110 pl_110 fs_110 fl_110_0 fl_110_1 fl_110_2 fl_110_3 fl_110_4 kd_115 sz_115 by_115 ze_115 pl_115 fl_115_0 fl_115_1 fl_115_2 kd_116 sz_116 by_116 ze_116 pl_116 fl_116_0 fl_116_1 fl_116_2 kd_124 sz_124 by_124 ze_124 kd_129 sz_129 by_129 ze_129 kd_139 sz_139 by_139 ze_139 kd_143 sz_143 by_143 ze_143 kd_147 sz_147 by_147 ze_147 pl_147 fl_147_0 fl_147_1 fl_147_2 fl_147_3 kd_148 sz_148 by_148 ze_148 pl_148 fl_148_0 fl_148_1 fl_148_2 fl_148_3 kd_149 sz_149 by_149 ze_149 kd_150 sz_150 by_150 ze_150 pl_150 kd_151 sz_151 by_151 ze_151 pl_151 kd_152 sz_152 by_152 ze_152 kd_153 sz_153 by_153 ze_153 kd_154 sz_154 by_154 ze_154 kd_156 sz_156 by_156 ze_156 kd_157 sz_157 by_157 ze_157 kd_158 sz_158 by_158 ze_158 kd_159 sz_159 by_159 ze_159 pl_159 fl_159_0 fl_159_1 fl_159_2 fl_159_3 fl_159_4 fl_159_5 fl_159_6 fl_159_7 fl_159_8 fl_159_9 fl_159_10 kd_160 sz_160 by_160 ze_160 pl_160 fl_160_0 fl_160_1 fl_160_2 fl_160_3 fl_160_4 fl_160_5 fl_160_6 fl_160_7 fl_160_8 fl_160_9 fl_160_10 et_28 et_29 et_44 et_143 et_39 et_27 et_59 et_58
end Go.V

set_option maxRecDepth 100000
set_option maxHeartbeats 1000000
namespace Go.V
open Go.Proofs
/-- a Writer: what was appended -/
def Wr (xs : List UInt8) : List Ch := [.cells [.bool true, .sl 1 .byte 0 xs.length], .rows .byte xs]
attribute [go_sem] Wr
theorem b_wok (xs : List UInt8) : DoesK Try.prog 1 60 [.ptr 0 0] [.pack (Wr xs)] (EndF 1 (.bool true) ([.pack (Wr xs)] ++ [])) := by
  refine DoesK.close ?_
  refine w_body (rs := [.tmp 2]) (tm := [.ptr 0 0, .any, .any, .any, .any, .any, .any, .any, .any, .any, .any]) fn_60 rfl rfl rfl rfl fun R hR => ?_
  (all_goals (try ((first | (with_reducible refine wp_id ?_) | (with_reducible refine does_id ?_) | (with_reducible refine ops_id ?_)); refine walk ?_; (repeat' (first | exact trivial | with_reducible refine And.intro ?_ ?_)); all_goals (repeat (first | (with_reducible refine ImpB.mk fun hb => ?_) | (with_reducible refine ImpK.mk fun hK => ?_) | (with_reducible refine ImpF.mk fun hF => ?_) | (with_reducible refine ImpQ.mk fun hp => ?_) | (with_reducible refine AllE.mk fun p => ?_) | (with_reducible refine AllR.mk fun rest => ?_) | (with_reducible refine AllK.mk fun K => ?_))))); repeat' (with_reducible refine And.intro ?_ ?_))
  (focus (refine ⟨_, _, gh_close (t := 0) (ts := [1]) (l := Wr xs) ⟨⟨_, _, rfl⟩, ?_, by simp⟩, [0], rfl, ?_⟩; all_goals (refine fitq ?_ ?_ ?_ <;> try exact trivial); (try any_goals (refine ⟨?_, ?_⟩)); (try any_goals (with_reducible rfl))))
theorem c_wok {h : List Ch} {K : KT} {t : Nat} {xs : List UInt8} (H : K (.bool true) h) (o : hth h t = .pack (Wr xs)) : Does Try.prog 60 [.ptr t 0] h K :=
  frame_look (b_wok xs) o (by simp) (fitC_pack _) (br_cons (br_ptr rfl) br_nil) (.inl rfl) (fun _ => rfl) rfl H
abbrev i_wok := Ctr.mk (i := 0) (g := 60) @c_wok
attribute [instance] i_wok
theorem b_zz (n : Int) (hn : I64 n) : DoesK Try.prog 0 61 [.int .i64 n] [] (EndF 0 (.int .u64 (zz n)) []) := by
  refine DoesK.close ?_
  refine w_body (rs := [.tmp 2]) (tm := [.int .i64 n, .any, .any, .any, .any, .any, .any, .any, .any, .any]) fn_61 rfl rfl rfl rfl fun R hR => ?_
  (all_goals (try ((first | (with_reducible refine wp_id ?_) | (with_reducible refine does_id ?_) | (with_reducible refine ops_id ?_)); refine walk ?_; (repeat' (first | exact trivial | with_reducible refine And.intro ?_ ?_)); all_goals (repeat (first | (with_reducible refine ImpB.mk fun hb => ?_) | (with_reducible refine ImpK.mk fun hK => ?_) | (with_reducible refine ImpF.mk fun hF => ?_) | (with_reducible refine ImpQ.mk fun hp => ?_) | (with_reducible refine AllE.mk fun p => ?_) | (with_reducible refine AllR.mk fun rest => ?_) | (with_reducible refine AllK.mk fun K => ?_))))); repeat' (with_reducible refine And.intro ?_ ?_))
  (focus (refine ⟨_, _, Gh.refl, [], rfl, ?_⟩; (refine fitq ?_ ?_ ?_ <;> try exact trivial); (try any_goals (refine ⟨?_, ?_⟩)); (try any_goals (with_reducible rfl))))
  rw [zz_bits n hn]
theorem c_zz {h : List Ch} {K : KT} {n : Int} (H : K (.int .u64 (zz n)) h) (s1 : I64 n) : Does Try.prog 61 [.int .i64 n] h K :=
  frame_pure (b_zz n s1) (br_cons br_int br_nil) (.inl rfl) (fun _ => rfl) H
abbrev i_zz := Ctr.mk (i := 0) (g := 61) @c_zz
attribute [instance] i_zz
theorem b_newW : DoesK Try.prog 0 35 [] [] (EndF 0 (.ptr 0 0) [.pack (Wr [])]) := by
  refine DoesK.close ?_
  refine w_body (rs := [.tmp 0]) (tm := [.any, .any, .any]) fn_35 rfl rfl rfl rfl fun R hR => ?_
  (all_goals (try ((first | (with_reducible refine wp_id ?_) | (with_reducible refine does_id ?_) | (with_reducible refine ops_id ?_)); refine walk ?_; (repeat' (first | exact trivial | with_reducible refine And.intro ?_ ?_)); all_goals (repeat (first | (with_reducible refine ImpB.mk fun hb => ?_) | (with_reducible refine ImpK.mk fun hK => ?_) | (with_reducible refine ImpF.mk fun hF => ?_) | (with_reducible refine ImpQ.mk fun hp => ?_) | (with_reducible refine AllE.mk fun p => ?_) | (with_reducible refine AllR.mk fun rest => ?_) | (with_reducible refine AllK.mk fun K => ?_))))); repeat' (with_reducible refine And.intro ?_ ?_))
  refine ⟨_, _, (gh_adoptC (t := 0) (i := 1) (vs := [.bool true, .lit (.slice none 0 0)]) .byte rfl trivial).trans (gh_close (t := 0) (ts := [1]) (l := Wr []) ⟨⟨_, _, rfl⟩, ?fh, by simp⟩), [0], rfl, ?ft⟩
  case ft => (refine fitq ?_ ?_ ?_ <;> try exact trivial)
  case fh => simp only [go_sem, decide_true, decide_false, Int.reduceToNat, Nat.min_eq_left, Nat.min_eq_right, Int.reducePow, Nat.reducePow, Int.reduceLE, Int.reduceLT, Int.reduceMul, Int.reduceAdd, Int.reduceSub, Int.reduceNeg, Bool.not_true, Bool.not_false, Bool.not_not, ↓reduceIte, Nat.reduceAdd, Nat.reduceSub, Nat.reduceMul, Nat.reduceEqDiff, reduceCtorEq, Nat.reduceLT, Nat.reduceLeDiff, Nat.reduceGT]
theorem c_newW {h : List Ch} {K : KT} (H : K (.ptr h.length 0) (h ++ [.pack (Wr [])])) : Does Try.prog 35 [] h K :=
  frame_new b_newW br_nil (.inl rfl) (fun _ => rfl) rfl H
abbrev i_newW := Ctr.mk (i := 0) (g := 35) @c_newW
attribute [instance] i_newW
theorem b_wint (xs : List UInt8) (n : Int) (hn : I64 n) (hl : xs.length ≤ 1099511627776) : DoesK Try.prog 1 36 [.ptr 0 0, .int .i64 n] [.pack (Wr xs)] (EndF 1 (.ptr 0 0) ([.pack (Wr (xs ++ encI n))] ++ [])) := by
  refine DoesK.close ?_
  refine w_body (rs := [.tmp 4]) (tm := [.ptr 0 0, .int .i64 n, .any, .any, .any, .any, .any, .any, .any, .any, .any, .any, .any, .any, .any, .any, .any, .any, .any, .any, .any, .any, .any, .any, .any, .any, .any, .any, .any, .any, .any, .any, .any, .any, .any, .any, .any, .any, .any]) fn_36 rfl rfl rfl rfl fun R hR => ?_
  (all_goals (try ((first | (with_reducible refine wp_id ?_) | (with_reducible refine does_id ?_) | (with_reducible refine ops_id ?_)); refine walk ?_; (repeat' (first | exact trivial | with_reducible refine And.intro ?_ ?_)); all_goals (repeat (first | (with_reducible refine ImpB.mk fun hb => ?_) | (with_reducible refine ImpK.mk fun hK => ?_) | (with_reducible refine ImpF.mk fun hF => ?_) | (with_reducible refine ImpQ.mk fun hp => ?_) | (with_reducible refine AllE.mk fun p => ?_) | (with_reducible refine AllR.mk fun rest => ?_) | (with_reducible refine AllK.mk fun K => ?_))))); repeat' (with_reducible refine And.intro ?_ ?_))
  any_goals ((try (refine w_seq fun K hK => ?_)); (try (refine w_block ?_)); refine w_loop (A := List UInt8 × Nat) (fun p => p.1 ++ vint p.2 = encI n) (fun p => p.2) (fun p => [(5, .int .u64 p.2)]) (fun p => [(0, .pack (Wr (xs ++ p.1)))]) (([], zz n)) (ws := ?ws1) (tk := ?tk1) ?hw1 ?ht1 ?hi ?h0 ?LH1; (case hw1 => simp only [go_sem, decide_true, decide_false, Int.reduceToNat, Nat.min_eq_left, Nat.min_eq_right, Int.reducePow, Nat.reducePow, Int.reduceLE, Int.reduceLT, Int.reduceMul, Int.reduceAdd, Int.reduceSub, Int.reduceNeg, Bool.not_true, Bool.not_false, Bool.not_not, ↓reduceIte, Nat.reduceAdd, Nat.reduceSub, Nat.reduceMul, Nat.reduceEqDiff, reduceCtorEq, Nat.reduceLT, Nat.reduceLeDiff, Nat.reduceGT]; exact rfl); (case ht1 => simp only [go_sem, decide_true, decide_false, Int.reduceToNat, Nat.min_eq_left, Nat.min_eq_right, Int.reducePow, Nat.reducePow, Int.reduceLE, Int.reduceLT, Int.reduceMul, Int.reduceAdd, Int.reduceSub, Int.reduceNeg, Bool.not_true, Bool.not_false, Bool.not_not, ↓reduceIte, Nat.reduceAdd, Nat.reduceSub, Nat.reduceMul, Nat.reduceEqDiff, reduceCtorEq, Nat.reduceLT, Nat.reduceLeDiff, Nat.reduceGT]; exact rfl); (case' LH1 => rintro ⟨pre, z⟩ E t hx hE ht; simp only [go_sem] at ht; subst ht; simp only [go_sem]; try dsimp only at hx))
  (all_goals (try ((first | (with_reducible refine wp_id ?_) | (with_reducible refine does_id ?_) | (with_reducible refine ops_id ?_)); refine walk ?_; (repeat' (first | exact trivial | with_reducible refine And.intro ?_ ?_)); all_goals (repeat (first | (with_reducible refine ImpB.mk fun hb => ?_) | (with_reducible refine ImpK.mk fun hK => ?_) | (with_reducible refine ImpF.mk fun hF => ?_) | (with_reducible refine ImpQ.mk fun hp => ?_) | (with_reducible refine AllE.mk fun p => ?_) | (with_reducible refine AllR.mk fun rest => ?_) | (with_reducible refine AllK.mk fun K => ?_))))); repeat' (with_reducible refine And.intro ?_ ?_))
  (all_goals (repeat (first | (clear hK; clear K) | (clear hE; clear E) | (clear hF; clear F) | (clear hR; clear R))); all_goals (try simp only [decide_eq_true_eq, decide_eq_false_iff_not, Bool.not_eq_true', Bool.not_eq_false', Bool.not_eq_true, Bool.not_eq_false, decide_not, decide_true, decide_false, Bool.decide_and, Bool.and_eq_true, Bool.or_eq_true, Bool.and_eq_false_imp, Decidable.not_not] at *); all_goals (try omega); all_goals (try (first | exact u8w_lo _ | exact u8w_hi _ | exact (bits8 _ _ _).1 | exact (bits8 _ _ _).2 | exact Int.natCast_nonneg _ | exact u8_ltI _)))
  case hi => rfl
  case h0 => (focus (refine ⟨_, _, Gh.refl, [0], rfl, ?_⟩; (refine fitq ?_ ?_ ?_ <;> try exact trivial); (try any_goals (refine ⟨?_, ?_⟩)); (try any_goals (with_reducible rfl))))
  all_goals try (first | exact u8w_lo _ | exact u8w_hi _ | exact (bits8 _ _ _).1 | exact (bits8 _ _ _).2 | exact Int.natCast_nonneg _ | exact u8_ltI _)
  all_goals
    have hle := congrArg List.length hx
    have h10 := encI_le n hn
    have hvp := vint_pos z
    simp only [List.length_append] at hle
    try omega
  · rw [or_128_u8 _ (by omega)]
    have hz : ¬ z < 128 := by omega
    rw [vint_big hz] at hx
    refine ⟨(pre ++ [UInt8.ofNat (z % 128 + 128)], z / 128), ⟨by simpa using hx, by dsimp only; omega⟩, ?_⟩
    (focus (refine ⟨_, _, gh_close (t := 0) (ts := [3]) (l := Wr (xs ++ (pre ++ [UInt8.ofNat (z % 128 + 128)]))) ⟨⟨_, _, rfl⟩, ?_, by simp⟩, [0], rfl, ?_⟩; all_goals (refine fitq ?_ ?_ ?_ <;> try exact trivial); (try any_goals (refine ⟨?_, ?_⟩)); (try any_goals (with_reducible rfl))))
    · omega
    · rw [List.append_assoc]
    · rw [Int.fdiv_eq_ediv_of_nonneg _ (by omega)]; omega
  · have hz : z < 128 := by omega
    rw [vint_small hz] at hx
    rw [← hx]
    (focus (refine ⟨_, _, gh_close (t := 0) (ts := [3]) (l := Wr (xs ++ (pre ++ [UInt8.ofNat z]))) ⟨⟨_, _, rfl⟩, ?_, by simp⟩, [0], rfl, ?_⟩; all_goals (refine fitq ?_ ?_ ?_ <;> try exact trivial); (try any_goals (refine ⟨?_, ?_⟩)); (try any_goals (with_reducible rfl))))
    · omega
    · rw [wrap_u8, show ((z : Int) % 256).toNat = z from by omega]; simp
theorem c_wint {h : List Ch} {K : KT} {t : Nat} {xs : List UInt8} {n : Int} (H : K (.ptr t 0) (h.set t (.pack (Wr (xs ++ encI n))))) (o : hth h t = .pack (Wr xs)) (s1 : I64 n) (s2 : xs.length ≤ 1099511627776) : Does Try.prog 36 [.ptr t 0, .int .i64 n] h K :=
  frame_obj0 (ret' := .ptr t 0) (b_wint xs n s1 s2) o (by simp) (fitC_pack _) (br_cons (br_ptr rfl) (br_cons br_int br_nil)) (.inl rfl) (fun _ => rfl) rfl H
abbrev i_wint := Ctr.mk (i := 0) (g := 36) @c_wint
attribute [instance] i_wint
theorem b_wuint (xs : List UInt8) (n : Nat) (size : Nat) (h1 : 1 ≤ size) (h8 : size ≤ 8) (hl : xs.length ≤ 1099511627776) : DoesK Try.prog 1 37 [.ptr 0 0, .int .u64 n, .int .i64 size] [.pack (Wr xs)] (EndF 1 (.ptr 0 0) ([.pack (Wr (xs ++ be n size))] ++ [])) := by
  refine DoesK.close ?_
  refine w_body (rs := [.tmp 6]) (tm := [.ptr 0 0, .int .u64 n, .int .i64 size, .any, .any, .any, .any, .any, .any, .any, .any, .any, .any, .any, .any, .any, .any, .any, .any, .any, .any, .any, .any, .any, .any, .any, .any, .any, .any, .any, .any, .any, .any, .any, .any, .any, .any, .any, .any]) fn_37 rfl rfl rfl rfl fun R hR => ?_
  (all_goals (try ((first | (with_reducible refine wp_id ?_) | (with_reducible refine does_id ?_) | (with_reducible refine ops_id ?_)); refine walk ?_; (repeat' (first | exact trivial | with_reducible refine And.intro ?_ ?_)); all_goals (repeat (first | (with_reducible refine ImpB.mk fun hb => ?_) | (with_reducible refine ImpK.mk fun hK => ?_) | (with_reducible refine ImpF.mk fun hF => ?_) | (with_reducible refine ImpQ.mk fun hp => ?_) | (with_reducible refine AllE.mk fun p => ?_) | (with_reducible refine AllR.mk fun rest => ?_) | (with_reducible refine AllK.mk fun K => ?_))))); repeat' (with_reducible refine And.intro ?_ ?_))
  (all_goals try (exfalso; (try simp only [decide_eq_true_eq, decide_eq_false_iff_not, Bool.not_eq_true', Bool.not_eq_false', Bool.not_eq_true, Bool.not_eq_false, decide_not, decide_true, decide_false, Bool.decide_and, Bool.and_eq_true, Bool.or_eq_true, Bool.and_eq_false_imp, Decidable.not_not] at *); omega))
  any_goals ((try (refine w_seq fun K hK => ?_)); (try (refine w_block ?_)); refine w_loop (A := List UInt8 × Nat) (fun p => p.1 ++ be n p.2 = be n size ∧ p.2 ≤ size) (fun p => p.2) (fun p => [(7, .int .i64 ((p.2 : Int) - 1))]) (fun p => [(0, .pack (Wr (xs ++ p.1)))]) (([], size)) (ws := ?ws2) (tk := ?tk2) ?hw2 ?ht2 ?hi ?h0 ?LH2; (case hw2 => simp only [go_sem, decide_true, decide_false, Int.reduceToNat, Nat.min_eq_left, Nat.min_eq_right, Int.reducePow, Nat.reducePow, Int.reduceLE, Int.reduceLT, Int.reduceMul, Int.reduceAdd, Int.reduceSub, Int.reduceNeg, Bool.not_true, Bool.not_false, Bool.not_not, ↓reduceIte, Nat.reduceAdd, Nat.reduceSub, Nat.reduceMul, Nat.reduceEqDiff, reduceCtorEq, Nat.reduceLT, Nat.reduceLeDiff, Nat.reduceGT]; exact rfl); (case ht2 => simp only [go_sem, decide_true, decide_false, Int.reduceToNat, Nat.min_eq_left, Nat.min_eq_right, Int.reducePow, Nat.reducePow, Int.reduceLE, Int.reduceLT, Int.reduceMul, Int.reduceAdd, Int.reduceSub, Int.reduceNeg, Bool.not_true, Bool.not_false, Bool.not_not, ↓reduceIte, Nat.reduceAdd, Nat.reduceSub, Nat.reduceMul, Nat.reduceEqDiff, reduceCtorEq, Nat.reduceLT, Nat.reduceLeDiff, Nat.reduceGT]; exact rfl); (case' LH2 => rintro ⟨pre, j⟩ E t hx hE ht; simp only [go_sem] at ht; subst ht; simp only [go_sem]; try dsimp only at hx))
  case' LH2 => refine w_open 0 rfl rfl ?_
  (all_goals (try ((first | (with_reducible refine wp_id ?_) | (with_reducible refine does_id ?_) | (with_reducible refine ops_id ?_)); refine walk ?_; (repeat' (first | exact trivial | with_reducible refine And.intro ?_ ?_)); all_goals (repeat (first | (with_reducible refine ImpB.mk fun hb => ?_) | (with_reducible refine ImpK.mk fun hK => ?_) | (with_reducible refine ImpF.mk fun hF => ?_) | (with_reducible refine ImpQ.mk fun hp => ?_) | (with_reducible refine AllE.mk fun p => ?_) | (with_reducible refine AllR.mk fun rest => ?_) | (with_reducible refine AllK.mk fun K => ?_))))); repeat' (with_reducible refine And.intro ?_ ?_))
  (all_goals (repeat (first | (clear hK; clear K) | (clear hE; clear E) | (clear hF; clear F) | (clear hR; clear R))); all_goals (try simp only [decide_eq_true_eq, decide_eq_false_iff_not, Bool.not_eq_true', Bool.not_eq_false', Bool.not_eq_true, Bool.not_eq_false, decide_not, decide_true, decide_false, Bool.decide_and, Bool.and_eq_true, Bool.or_eq_true, Bool.and_eq_false_imp, Decidable.not_not] at *); all_goals (try omega); all_goals (try (first | exact u8w_lo _ | exact u8w_hi _ | exact (bits8 _ _ _).1 | exact (bits8 _ _ _).2 | exact Int.natCast_nonneg _ | exact u8_ltI _)))
  all_goals try (first | exact u8w_lo _ | exact u8w_hi _ | exact (bits8 _ _ _).1 | exact (bits8 _ _ _).2 | exact Int.natCast_nonneg _ | exact u8_ltI _)
  all_goals
    try have hle := congrArg List.length hx.1
    try simp only [List.length_append, be_len] at *
    try omega
  · obtain ⟨k, rfl⟩ : ∃ k, j = k + 1 := ⟨j - 1, by omega⟩
    have hby : UInt8.ofNat (IntKind.u8.wrap ((n : Int).fdiv (2 ^ min (IntKind.i64.wrap (8 * (((k + 1 : Nat) : Int) - 1))).toNat 64))).toNat = UInt8.ofNat (n / 256 ^ k % 256) := by
      rw [wrap_i64 _ (by omega) (by omega), show 8 * (((k + 1 : Nat) : Int) - 1) = 8 * (k : Int) from by omega]
      rcases be_step n k with h | h
      · rw [h]
      · omega
    rw [hby]
    refine ⟨(pre ++ [UInt8.ofNat (n / 256 ^ k % 256)], k), ⟨⟨by rw [← hx.1]; simp [be], by dsimp only; omega⟩, by dsimp only; omega⟩, ?_⟩
    (focus (refine ⟨_, _, gh_close (t := 0) (ts := [3]) (l := Wr (xs ++ (pre ++ [UInt8.ofNat (n / 256 ^ k % 256)]))) ⟨⟨_, _, rfl⟩, ?_, by simp⟩, [0], rfl, ?_⟩; all_goals (refine fitq ?_ ?_ ?_ <;> try exact trivial); (try any_goals (refine ⟨?_, ?_⟩)); (try any_goals (with_reducible rfl))))
    all_goals (first | with_reducible rfl | omega | ((simp (disch := omega) only [wrap_i64]); first | done | omega) | (simp only [List.append_assoc, List.cons_append, List.nil_append]; done))
  · rw [wrap_i64 _ (by omega) (by omega)]; omega
  · have hj : j = 0 := by omega
    subst hj
    have hp : pre = be n size := by simpa [be] using hx.1
    subst hp
    (focus (refine ⟨_, _, gh_close (t := 0) (ts := [1]) (l := Wr (xs ++ be n size)) ⟨⟨_, _, rfl⟩, ?_, by simp⟩, [0], rfl, ?_⟩; all_goals (refine fitq ?_ ?_ ?_ <;> try exact trivial); (try any_goals (refine ⟨?_, ?_⟩)); (try any_goals (with_reducible rfl))))
    all_goals (try simp only [List.length_append, be_len]; try omega)
  · rfl
  · (focus (refine ⟨_, _, Gh.refl, [0], rfl, ?_⟩; (refine fitq ?_ ?_ ?_ <;> try exact trivial); (try any_goals (refine ⟨?_, ?_⟩)); (try any_goals (with_reducible rfl))))
    (simp (disch := omega) only [wrap_i64])
theorem c_wuint {h : List Ch} {K : KT} {t : Nat} {xs : List UInt8} {n size : Nat} (H : K (.ptr t 0) (h.set t (.pack (Wr (xs ++ be n size))))) (o : hth h t = .pack (Wr xs)) (s1 : 1 ≤ size) (s2 : size ≤ 8) (s3 : xs.length ≤ 1099511627776) : Does Try.prog 37 [.ptr t 0, .int .u64 n, .int .i64 size] h K :=
  frame_obj0 (ret' := .ptr t 0) (b_wuint xs n size s1 s2 s3) o (by simp) (fitC_pack _) (br_cons (br_ptr rfl) (br_cons br_int (br_cons br_int br_nil))) (.inl rfl) (fun _ => rfl) rfl H
theorem b_wblob (xs bs : List UInt8) (hl : xs.length ≤ 1099511627776) (hb : bs.length ≤ 1099511627776) : DoesK Try.prog 1 39 [.ptr 0 0, .ro .byte bs] [.pack (Wr xs)] (EndF 1 (.ptr 0 0) ([.pack (Wr (xs ++ encI bs.length ++ bs))] ++ [])) := by
  refine DoesK.close ?_
  refine w_body (rs := [.tmp 4]) (tm := [.ptr 0 0, .ro .byte bs, .any, .any, .any, .any, .any, .any, .any, .any, .any, .any, .any, .any, .any, .any, .any, .any, .any, .any, .any, .any]) fn_39 rfl rfl rfl rfl fun R hR => ?_
  (all_goals (try ((first | (with_reducible refine wp_id ?_) | (with_reducible refine does_id ?_) | (with_reducible refine ops_id ?_)); refine walk ?_; (repeat' (first | exact trivial | with_reducible refine And.intro ?_ ?_)); all_goals (repeat (first | (with_reducible refine ImpB.mk fun hb => ?_) | (with_reducible refine ImpK.mk fun hK => ?_) | (with_reducible refine ImpF.mk fun hF => ?_) | (with_reducible refine ImpQ.mk fun hp => ?_) | (with_reducible refine AllE.mk fun p => ?_) | (with_reducible refine AllR.mk fun rest => ?_) | (with_reducible refine AllK.mk fun K => ?_))))); repeat' (with_reducible refine And.intro ?_ ?_))
  (all_goals (repeat (first | (clear hK; clear K) | (clear hE; clear E) | (clear hF; clear F) | (clear hR; clear R))); all_goals (try simp only [decide_eq_true_eq, decide_eq_false_iff_not, Bool.not_eq_true', Bool.not_eq_false', Bool.not_eq_true, Bool.not_eq_false, decide_not, decide_true, decide_false, Bool.decide_and, Bool.and_eq_true, Bool.or_eq_true, Bool.and_eq_false_imp, Decidable.not_not] at *); all_goals (try omega); all_goals (try (first | exact u8w_lo _ | exact u8w_hi _ | exact (bits8 _ _ _).1 | exact (bits8 _ _ _).2 | exact Int.natCast_nonneg _ | exact u8_ltI _)))
  · have := encI_le bs.length (by constructor <;> omega); omega
  · (focus (refine ⟨_, _, gh_close (t := 0) (ts := [2]) (l := Wr (xs ++ encI bs.length ++ bs)) ⟨⟨_, _, rfl⟩, ?_, by simp⟩, [0], rfl, ?_⟩; all_goals (refine fitq ?_ ?_ ?_ <;> try exact trivial); (try any_goals (refine ⟨?_, ?_⟩)); (try any_goals (with_reducible rfl))))
  · constructor <;> omega
theorem c_wblob {h : List Ch} {K : KT} {t : Nat} {xs bs : List UInt8} {a : AV} (H : K (.ptr t 0) (h.set t (.pack (Wr (xs ++ encI bs.length ++ bs))))) (o : hth h t = .pack (Wr xs)) (b1 : brA [t] h (.ro .byte bs) a) (s1 : xs.length ≤ 1099511627776) (s2 : bs.length ≤ 1099511627776) : Does Try.prog 39 [.ptr t 0, a] h K :=
  frame_obj0 (ret' := .ptr t 0) (b_wblob xs bs s1 s2) o (by simp) (fitC_pack _) (br_cons (br_ptr rfl) (br_cons b1 br_nil)) (.inr rfl) (fun _ => rfl) rfl H
abbrev i_wblob := Ctr.mk (i := 0) (g := 39) @c_wblob
attribute [instance] i_wblob
theorem b_wbytes (xs : List UInt8) (hl : xs.length ≤ 1099511627776) : DoesK Try.prog 1 40 [.ptr 0 0] [.pack (Wr xs)] (EndF 1 (.sl 1 .byte 0 xs.length) ([.pack (Wr xs)] ++ [.rows .byte xs])) := by
  refine DoesK.close ?_
  refine w_body (rs := [.tmp 2]) (tm := [.ptr 0 0, .any, .any, .any, .any, .any, .any, .any, .any, .any, .any, .any]) fn_40 rfl rfl rfl rfl fun R hR => ?_
  (all_goals (try ((first | (with_reducible refine wp_id ?_) | (with_reducible refine does_id ?_) | (with_reducible refine ops_id ?_)); refine walk ?_; (repeat' (first | exact trivial | with_reducible refine And.intro ?_ ?_)); all_goals (repeat (first | (with_reducible refine ImpB.mk fun hb => ?_) | (with_reducible refine ImpK.mk fun hK => ?_) | (with_reducible refine ImpF.mk fun hF => ?_) | (with_reducible refine ImpQ.mk fun hp => ?_) | (with_reducible refine AllE.mk fun p => ?_) | (with_reducible refine AllR.mk fun rest => ?_) | (with_reducible refine AllK.mk fun K => ?_))))); repeat' (with_reducible refine And.intro ?_ ?_))
  (all_goals (repeat (first | (clear hK; clear K) | (clear hE; clear E) | (clear hF; clear F) | (clear hR; clear R))); all_goals (try simp only [decide_eq_true_eq, decide_eq_false_iff_not, Bool.not_eq_true', Bool.not_eq_false', Bool.not_eq_true, Bool.not_eq_false, decide_not, decide_true, decide_false, Bool.decide_and, Bool.and_eq_true, Bool.or_eq_true, Bool.and_eq_false_imp, Decidable.not_not] at *); all_goals (try omega); all_goals (try (first | exact u8w_lo _ | exact u8w_hi _ | exact (bits8 _ _ _).1 | exact (bits8 _ _ _).2 | exact Int.natCast_nonneg _ | exact u8_ltI _)))
  all_goals try simp only [List.take_length] at *
  all_goals try omega
  · (focus (refine ⟨_, _, gh_close (t := 0) (ts := [2]) (l := Wr xs) ⟨⟨_, _, rfl⟩, ?_, by simp⟩, [0, 3], rfl, ?_⟩; all_goals (refine fitq ?_ ?_ ?_ <;> try exact trivial); (try any_goals (refine ⟨?_, ?_⟩)); (try any_goals (with_reducible rfl))))
end Go.V

set_option maxRecDepth 100000
set_option maxHeartbeats 1000000
namespace Go.V
open Go.Proofs
def RdS (ys : List UInt8) : List Ch := [.cells [.bool true, .bool false, .ro .byte ys]]
def RdN : List Ch := [.cells [.bool true, .bool true, .ro .byte []]]
/-- a Reader: what is left to read; none: a read failed -/
def Rd : Option (List UInt8) → List Ch
  | some ys => RdS ys
  | none => RdN
attribute [go_sem] RdS RdN
end Go.V

set_option maxRecDepth 100000
set_option maxHeartbeats 1000000
namespace Go.V
open Go.Proofs
theorem Rd_some (ys : List UInt8) : Rd (some ys) = RdS ys := rfl
theorem Rd_none : Rd none = RdN := rfl
attribute [local go_sem] Rd_some Rd_none
end Go.V

set_option maxRecDepth 100000
set_option maxHeartbeats 1000000
namespace Go.V
open Go.Proofs
/-- ref03.Reader -/
def FdS (ys : List UInt8) (b : Bool) : List Ch := [.cells [.ro .byte ys, .bool b]]
attribute [go_sem] FdS
def Fd : Option (List UInt8) → List Ch
  | some ys => FdS ys false
  | none => FdS [] true
theorem Fd_some (ys : List UInt8) : Fd (some ys) = FdS ys false := rfl
theorem Fd_none : Fd none = FdS [] true := rfl
attribute [local go_sem] Fd_some Fd_none
end Go.V

set_option maxRecDepth 100000
set_option maxHeartbeats 1000000
namespace Go.V
open Go.Proofs
attribute [local go_sem] Fd_some Fd_none
end Go.V

set_option maxRecDepth 100000
namespace Go.V
open Go.Proofs
theorem c_wuint1 {h : List Ch} {K : KT} {t : Nat} {xs : List UInt8} {n : Nat} (H : K (.ptr t 0) (h.set t (.pack (Wr (xs ++ be n 1))))) (o : hth h t = .pack (Wr xs)) (s3 : xs.length ≤ 1099511627776) : Does Try.prog 37 [.ptr t 0, .int .u64 n, .int .i64 1] h K :=
  c_wuint (size := 1) H o (by decide) (by decide) s3
abbrev i_wuint1 := Ctr.mk (i := 0) (g := 37) @c_wuint1
attribute [instance] i_wuint1
theorem c_wuint2 {h : List Ch} {K : KT} {t : Nat} {xs : List UInt8} {n : Nat} (H : K (.ptr t 0) (h.set t (.pack (Wr (xs ++ be n 2))))) (o : hth h t = .pack (Wr xs)) (s3 : xs.length ≤ 1099511627776) : Does Try.prog 37 [.ptr t 0, .int .u64 n, .int .i64 2] h K :=
  c_wuint (size := 2) H o (by decide) (by decide) s3
abbrev i_wuint2 := Ctr.mk (i := 1) (g := 37) @c_wuint2
attribute [instance] i_wuint2
end Go.V
