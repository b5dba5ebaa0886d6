/-
  T
  octets.Writer: what its methods do.
-/
import Derived.Test.YtpnfoffggcfhfaaPart07
import Derived.Test.YtpnfoffggcfhfaaProg
import Derived.KernelRfl
set_option linter.unusedVariables false
set_option linter.unusedSimpArgs false
namespace Go.V
open Go.Proofs
theorem kd_3 : kdT Try.prog 3 = .int .i64 := by kernel_rfl
theorem sz_3 : szT Try.prog 3 = 1 := by kernel_rfl
theorem by_3 : bytesT Try.prog 3 = 8 := by kernel_rfl
theorem ze_3 : zeroT Try.prog 3 = some [.int .i64 0] := by kernel_rfl
theorem kd_4 : kdT Try.prog 4 = .bool := by kernel_rfl
theorem sz_4 : szT Try.prog 4 = 1 := by kernel_rfl
theorem kd_5 : kdT Try.prog 5 = .int .u8 := by kernel_rfl
theorem sz_5 : szT Try.prog 5 = 1 := by kernel_rfl
theorem by_5 : bytesT Try.prog 5 = 1 := by kernel_rfl
theorem ze_5 : zeroT Try.prog 5 = some [.int .u8 0] := by kernel_rfl
theorem kd_9 : kdT Try.prog 9 = .str := by kernel_rfl
theorem kd_27 : kdT Try.prog 27 = .slice 34 := by kernel_rfl
theorem kd_28 : kdT Try.prog 28 = .slice 3 := by kernel_rfl
theorem sz_28 : szT Try.prog 28 = 1 := by kernel_rfl
theorem ze_28 : zeroT Try.prog 28 = some [.lit (.slice none 0 0)] := by kernel_rfl
theorem kd_29 : kdT Try.prog 29 = .slice 5 := by kernel_rfl
theorem sz_29 : szT Try.prog 29 = 1 := by kernel_rfl
theorem kd_31 : kdT Try.prog 31 = .struct := by kernel_rfl
theorem sz_31 : szT Try.prog 31 = 5 := by kernel_rfl
theorem by_31 : bytesT Try.prog 31 = 72 := by kernel_rfl
theorem ze_31 : zeroT Try.prog 31 = some [.int .i64 0, .int .i64 0, .int .i64 0, .lit (.slice none 0 0), .lit (.slice none 0 0)] := by kernel_rfl
theorem pl_31 : placesT Try.prog 31 = some [(0, 1), (1, 1), (2, 1), (3, 1), (4, 1)] := by kernel_rfl
theorem fl_31_0 : fldT Try.prog 31 0 = some (0, 3) := by kernel_rfl
theorem fl_31_1 : fldT Try.prog 31 1 = some (1, 3) := by kernel_rfl
theorem fl_31_2 : fldT Try.prog 31 2 = some (2, 3) := by kernel_rfl
theorem fl_31_3 : fldT Try.prog 31 3 = some (3, 28) := by kernel_rfl
theorem fl_31_4 : fldT Try.prog 31 4 = some (4, 29) := by kernel_rfl
theorem kd_34 : kdT Try.prog 34 = .struct := by kernel_rfl
theorem sz_34 : szT Try.prog 34 = 11 := by kernel_rfl
theorem by_34 : bytesT Try.prog 34 = 120 := by kernel_rfl
theorem ze_34 : zeroT Try.prog 34 = some [.int .i64 0, .int .i64 0, .int .i64 0, .int .i64 0, .int .i64 0, .int .i64 0, .int .i64 0, .int .i64 0, .int .i64 0, .lit (.slice none 0 0), .lit (.slice none 0 0)] := by kernel_rfl
theorem pl_34 : placesT Try.prog 34 = some [(0, 1), (1, 1), (2, 1), (3, 1), (4, 1), (5, 1), (6, 5)] := by kernel_rfl
theorem fl_34_0 : fldT Try.prog 34 0 = some (0, 3) := by kernel_rfl
theorem fl_34_1 : fldT Try.prog 34 1 = some (1, 3) := by kernel_rfl
theorem fl_34_2 : fldT Try.prog 34 2 = some (2, 3) := by kernel_rfl
theorem fl_34_3 : fldT Try.prog 34 3 = some (3, 3) := by kernel_rfl
theorem fl_34_4 : fldT Try.prog 34 4 = some (4, 3) := by kernel_rfl
theorem fl_34_5 : fldT Try.prog 34 5 = some (5, 3) := by kernel_rfl
theorem fl_34_6 : fldT Try.prog 34 6 = some (6, 31) := by kernel_rfl
theorem kd_35 : kdT Try.prog 35 = .ptr := by kernel_rfl
theorem kd_39 : kdT Try.prog 39 = .slice 31 := by kernel_rfl
theorem kd_57 : kdT Try.prog 57 = .struct := by kernel_rfl
theorem sz_57 : szT Try.prog 57 = 4 := by kernel_rfl
theorem by_57 : bytesT Try.prog 57 = 32 := by kernel_rfl
theorem ze_57 : zeroT Try.prog 57 = some [.int .i64 0, .int .i64 0, .bool false, .int .i64 0] := by kernel_rfl
theorem pl_57 : placesT Try.prog 57 = some [(0, 1), (1, 1), (2, 1), (3, 1)] := by kernel_rfl
theorem fl_57_0 : fldT Try.prog 57 0 = some (0, 3) := by kernel_rfl
theorem fl_57_1 : fldT Try.prog 57 1 = some (1, 3) := by kernel_rfl
theorem fl_57_2 : fldT Try.prog 57 2 = some (2, 4) := by kernel_rfl
theorem fl_57_3 : fldT Try.prog 57 3 = some (3, 3) := by kernel_rfl
theorem kd_58 : kdT Try.prog 58 = .slice 57 := by kernel_rfl
theorem sz_58 : szT Try.prog 58 = 1 := by kernel_rfl
theorem kd_59 : kdT Try.prog 59 = .slice 65 := by kernel_rfl
theorem sz_59 : szT Try.prog 59 = 1 := by kernel_rfl
theorem kd_61 : kdT Try.prog 61 = .struct := by kernel_rfl
theorem ze_61 : zeroT Try.prog 61 = some [.bool false, .int .i64 0, .lit (.slice none 0 0)] := by kernel_rfl
theorem pl_61 : placesT Try.prog 61 = some [(0, 1), (1, 1), (2, 1)] := by kernel_rfl
theorem fl_61_0 : fldT Try.prog 61 0 = some (0, 4) := by kernel_rfl
theorem fl_61_1 : fldT Try.prog 61 1 = some (1, 3) := by kernel_rfl
theorem fl_61_2 : fldT Try.prog 61 2 = some (2, 59) := by kernel_rfl
theorem kd_65 : kdT Try.prog 65 = .struct := by kernel_rfl
theorem sz_65 : szT Try.prog 65 = 7 := by kernel_rfl
theorem by_65 : bytesT Try.prog 65 = 72 := by kernel_rfl
theorem ze_65 : zeroT Try.prog 65 = some [.int .i64 0, .int .i64 0, .lit (.slice none 0 0), .bool false, .int .i64 0, .bool false, .int .i64 0] := by kernel_rfl
theorem pl_65 : placesT Try.prog 65 = some [(0, 1), (1, 1), (2, 1), (3, 1), (4, 1), (5, 1), (6, 1)] := by kernel_rfl
theorem fl_65_0 : fldT Try.prog 65 0 = some (0, 3) := by kernel_rfl
theorem fl_65_1 : fldT Try.prog 65 1 = some (1, 3) := by kernel_rfl
theorem fl_65_2 : fldT Try.prog 65 2 = some (2, 27) := by kernel_rfl
theorem fl_65_3 : fldT Try.prog 65 3 = some (3, 4) := by kernel_rfl
theorem fl_65_4 : fldT Try.prog 65 4 = some (4, 3) := by kernel_rfl
theorem fl_65_5 : fldT Try.prog 65 5 = some (5, 4) := by kernel_rfl
theorem fl_65_6 : fldT Try.prog 65 6 = some (6, 3) := by kernel_rfl
theorem kd_71 : kdT Try.prog 71 = .ptr := by kernel_rfl
theorem kd_75 : kdT Try.prog 75 = .int .u64 := by kernel_rfl
theorem kd_81 : kdT Try.prog 81 = .ptr := by kernel_rfl
theorem kd_89 : kdT Try.prog 89 = .struct := by kernel_rfl
theorem sz_89 : szT Try.prog 89 = 2 := by kernel_rfl
theorem ze_89 : zeroT Try.prog 89 = some [.lit (.slice none 0 0), .bool false] := by kernel_rfl
theorem pl_89 : placesT Try.prog 89 = some [(0, 1), (1, 1)] := by kernel_rfl
theorem fl_89_0 : fldT Try.prog 89 0 = some (0, 29) := by kernel_rfl
theorem fl_89_1 : fldT Try.prog 89 1 = some (1, 4) := by kernel_rfl
theorem fl_93_0 : fldT Try.prog 93 0 = some (0, 28) := by kernel_rfl
theorem fl_93_1 : fldT Try.prog 93 1 = some (1, 58) := by kernel_rfl
theorem kd_95 : kdT Try.prog 95 = .struct := by kernel_rfl
theorem ze_95 : zeroT Try.prog 95 = some [.bool false, .lit (.slice none 0 0), .lit (.slice none 0 0)] := by kernel_rfl
theorem pl_95 : placesT Try.prog 95 = some [(0, 1), (1, 2)] := by kernel_rfl
theorem fl_95_1 : fldT Try.prog 95 1 = some (1, 93) := by kernel_rfl
theorem kd_105 : kdT Try.prog 105 = .struct := by kernel_rfl
theorem ze_105 : zeroT Try.prog 105 = some [.bool false, .lit (.slice none 0 0)] := by kernel_rfl
theorem pl_105 : placesT Try.prog 105 = some [(0, 1), (1, 1)] := by kernel_rfl
theorem fl_105_0 : fldT Try.prog 105 0 = some (0, 4) := by kernel_rfl
theorem fl_105_1 : fldT Try.prog 105 1 = some (1, 29) := by kernel_rfl
theorem kd_110 : kdT Try.prog 110 = .struct := by kernel_rfl
theorem sz_110 : szT Try.prog 110 = 5 := by kernel_rfl
theorem ze_110 : zeroT Try.prog 110 = some [.str [], .int .i64 0, .bool false, .int .i64 0, .int .i64 0] := by kernel_rfl
theorem pl_110 : placesT Try.prog 110 = some [(0, 1), (1, 1), (2, 1), (3, 1), (4, 1)] := by kernel_rfl
theorem fl_110_1 : fldT Try.prog 110 1 = some (1, 3) := by kernel_rfl
theorem fl_110_2 : fldT Try.prog 110 2 = some (2, 4) := by kernel_rfl
theorem kd_116 : kdT Try.prog 116 = .struct := by kernel_rfl
theorem ze_116 : zeroT Try.prog 116 = some [.bool false, .bool false, .lit (.slice none 0 0)] := by kernel_rfl
theorem pl_116 : placesT Try.prog 116 = some [(0, 1), (1, 1), (2, 1)] := by kernel_rfl
theorem fl_116_0 : fldT Try.prog 116 0 = some (0, 4) := by kernel_rfl
theorem fl_116_1 : fldT Try.prog 116 1 = some (1, 4) := by kernel_rfl
theorem fl_116_2 : fldT Try.prog 116 2 = some (2, 29) := by kernel_rfl
theorem kd_129 : kdT Try.prog 129 = .array 29 110 := by kernel_rfl
theorem sz_129 : szT Try.prog 129 = 145 := by kernel_rfl
theorem ze_129 : zeroT Try.prog 129 = some [.str [], .int .i64 0, .bool false, .int .i64 0, .int .i64 0, .str [], .int .i64 0, .bool false, .int .i64 0, .int .i64 0, .str [], .int .i64 0, .bool false, .int .i64 0, .int .i64 0, .str [], .int .i64 0, .bool false, .int .i64 0, .int .i64 0, .str [], .int .i64 0, .bool false, .int .i64 0, .int .i64 0, .str [], .int .i64 0, .bool false, .int .i64 0, .int .i64 0, .str [], .int .i64 0, .bool false, .int .i64 0, .int .i64 0, .str [], .int .i64 0, .bool false, .int .i64 0, .int .i64 0, .str [], .int .i64 0, .bool false, .int .i64 0, .int .i64 0, .str [], .int .i64 0, .bool false, .int .i64 0, .int .i64 0, .str [], .int .i64 0, .bool false, .int .i64 0, .int .i64 0, .str [], .int .i64 0, .bool false, .int .i64 0, .int .i64 0, .str [], .int .i64 0, .bool false, .int .i64 0, .int .i64 0, .str [], .int .i64 0, .bool false, .int .i64 0, .int .i64 0, .str [], .int .i64 0, .bool false, .int .i64 0, .int .i64 0, .str [], .int .i64 0, .bool false, .int .i64 0, .int .i64 0, .str [], .int .i64 0, .bool false, .int .i64 0, .int .i64 0, .str [], .int .i64 0, .bool false, .int .i64 0, .int .i64 0, .str [], .int .i64 0, .bool false, .int .i64 0, .int .i64 0, .str [], .int .i64 0, .bool false, .int .i64 0, .int .i64 0, .str [], .int .i64 0, .bool false, .int .i64 0, .int .i64 0, .str [], .int .i64 0, .bool false, .int .i64 0, .int .i64 0, .str [], .int .i64 0, .bool false, .int .i64 0, .int .i64 0, .str [], .int .i64 0, .bool false, .int .i64 0, .int .i64 0, .str [], .int .i64 0, .bool false, .int .i64 0, .int .i64 0, .str [], .int .i64 0, .bool false, .int .i64 0, .int .i64 0, .str [], .int .i64 0, .bool false, .int .i64 0, .int .i64 0, .str [], .int .i64 0, .bool false, .int .i64 0, .int .i64 0, .str [], .int .i64 0, .bool false, .int .i64 0, .int .i64 0] := by kernel_rfl
theorem kd_143 : kdT Try.prog 143 = .slice 28 := by kernel_rfl
instance : ETab := ⟨fun t => if t = 28 then some .int else if t = 29 then some .byte else if t = 44 then some .bool else if t = 143 then some .ints else if t = 39 then some .cmd else if t = 27 then some .stp else if t = 59 then some .prg else if t = 58 then some .pdf else none, fun t => none⟩
theorem mixed : Try.prog.follows .mixedOrders = true := by kernel_rfl
theorem fn_6 : Try.prog.funcs[6]? = some Try.f6 := by kernel_rfl -- spacecraft/spacecraftlaw43.SequenceEncodes
theorem fn_7 : Try.prog.funcs[7]? = some Try.f7 := by kernel_rfl -- spacecraft/spacecraftlaw43.SequenceDecodes
theorem fn_8 : Try.prog.funcs[8]? = some Try.f8 := by kernel_rfl -- spacecraft/spacecraftlaw43.alive
theorem fn_9 : Try.prog.funcs[9]? = some Try.f9 := by kernel_rfl -- spacecraft/spacecraftlaw43.pool
theorem fn_10 : Try.prog.funcs[10]? = some Try.f10 := by kernel_rfl -- spacecraft/spacecraftlaw43.ping
theorem fn_11 : Try.prog.funcs[11]? = some Try.f11 := by kernel_rfl -- spacecraft/sequence.New
theorem fn_12 : Try.prog.funcs[12]? = some Try.f12 := by kernel_rfl -- (*spacecraft/sequence.Engine).Load
theorem fn_13 : Try.prog.funcs[13]? = some Try.f13 := by kernel_rfl -- (*spacecraft/sequence.Engine).Start
theorem fn_14 : Try.prog.funcs[14]? = some Try.f14 := by kernel_rfl -- (*spacecraft/sequence.Engine).Tick
theorem fn_15 : Try.prog.funcs[15]? = some Try.f15 := by kernel_rfl -- spacecraft/spacecraftlaw43.ints
theorem fn_16 : Try.prog.funcs[16]? = some Try.f16 := by kernel_rfl -- (*spacecraft/sequence.Engine).Running
theorem fn_19 : Try.prog.funcs[19]? = some Try.f19 := by kernel_rfl -- spacecraft/spacecraftlaw43.small
theorem fn_20 : Try.prog.funcs[20]? = some Try.f20 := by kernel_rfl -- spacecraft/sequence.Encode
theorem fn_21 : Try.prog.funcs[21]? = some Try.f21 := by kernel_rfl -- spacecraft/spacecraftref43.Encode
theorem fn_22 : Try.prog.funcs[22]? = some Try.f22 := by kernel_rfl -- spacecraft/sequence.Decode
theorem fn_23 : Try.prog.funcs[23]? = some Try.f23 := by kernel_rfl -- spacecraft/spacecraftlaw43.same
theorem fn_24 : Try.prog.funcs[24]? = some Try.f24 := by kernel_rfl -- spacecraft/spacecraftref43.Decode
theorem fn_25 : Try.prog.funcs[25]? = some Try.f25 := by kernel_rfl -- spacecraft/spacecraftref39.Same
theorem fn_26 : Try.prog.funcs[26]? = some Try.f26 := by kernel_rfl -- spacecraft/params.New
theorem fn_27 : Try.prog.funcs[27]? = some Try.f27 := by kernel_rfl -- (*spacecraft/sequence.Engine).valid
theorem fn_28 : Try.prog.funcs[28]? = some Try.f28 := by kernel_rfl -- spacecraft/sequence.whole
theorem fn_29 : Try.prog.funcs[29]? = some Try.f29 := by kernel_rfl -- (*spacecraft/sequence.Engine).find
theorem fn_30 : Try.prog.funcs[30]? = some Try.f30 := by kernel_rfl -- spacecraft/sequence.copied
theorem fn_31 : Try.prog.funcs[31]? = some Try.f31 := by kernel_rfl -- slices.Insert[[]spacecraft/sequence.program,spacecraft/sequence.program]
theorem fn_32 : Try.prog.funcs[32]? = some Try.f32 := by kernel_rfl -- (*spacecraft/sequence.Engine).advance
theorem fn_33 : Try.prog.funcs[33]? = some Try.f33 := by kernel_rfl -- (*spacecraft/sequence.program).run
theorem fn_35 : Try.prog.funcs[35]? = some Try.f35 := by kernel_rfl -- spacecraft/octets.NewWriter
theorem fn_36 : Try.prog.funcs[36]? = some Try.f36 := by kernel_rfl -- (*spacecraft/octets.Writer).Int
theorem fn_37 : Try.prog.funcs[37]? = some Try.f37 := by kernel_rfl -- (*spacecraft/octets.Writer).Uint
theorem fn_38 : Try.prog.funcs[38]? = some Try.f38 := by kernel_rfl -- spacecraft/command.Encode
theorem fn_39 : Try.prog.funcs[39]? = some Try.f39 := by kernel_rfl -- (*spacecraft/octets.Writer).Blob
theorem fn_40 : Try.prog.funcs[40]? = some Try.f40 := by kernel_rfl -- (*spacecraft/octets.Writer).Bytes
theorem fn_41 : Try.prog.funcs[41]? = some Try.f41 := by kernel_rfl -- spacecraft/spacecraftref43.Valid
theorem fn_42 : Try.prog.funcs[42]? = some Try.f42 := by kernel_rfl -- spacecraft/spacecraftref03.Int
theorem fn_43 : Try.prog.funcs[43]? = some Try.f43 := by kernel_rfl -- spacecraft/spacecraftref43.one
theorem fn_44 : Try.prog.funcs[44]? = some Try.f44 := by kernel_rfl -- spacecraft/octets.NewReader
theorem fn_45 : Try.prog.funcs[45]? = some Try.f45 := by kernel_rfl -- (*spacecraft/octets.Reader).Count
theorem fn_46 : Try.prog.funcs[46]? = some Try.f46 := by kernel_rfl -- spacecraft/sequence.read
theorem fn_47 : Try.prog.funcs[47]? = some Try.f47 := by kernel_rfl -- (*spacecraft/octets.Reader).End
theorem fn_48 : Try.prog.funcs[48]? = some Try.f48 := by kernel_rfl -- bytes.Equal
theorem fn_49 : Try.prog.funcs[49]? = some Try.f49 := by kernel_rfl -- spacecraft/spacecraftref43.Same
theorem fn_50 : Try.prog.funcs[50]? = some Try.f50 := by kernel_rfl -- (*spacecraft/spacecraftref03.Reader).Count
theorem fn_51 : Try.prog.funcs[51]? = some Try.f51 := by kernel_rfl -- spacecraft/spacecraftref43.take
theorem fn_52 : Try.prog.funcs[52]? = some Try.f52 := by kernel_rfl -- spacecraft/params.inRange
theorem fn_53 : Try.prog.funcs[53]? = some Try.f53 := by kernel_rfl -- (*spacecraft/params.table[spacecraft/api.ParamDef]).append
theorem fn_54 : Try.prog.funcs[54]? = some Try.f54 := by kernel_rfl -- spacecraft/sequence.right
theorem fn_55 : Try.prog.funcs[55]? = some Try.f55 := by kernel_rfl -- slices.Clone[[]spacecraft/api.Step,spacecraft/api.Step]
theorem fn_56 : Try.prog.funcs[56]? = some Try.f56 := by kernel_rfl -- spacecraft/sequence.duplicate
theorem fn_60 : Try.prog.funcs[60]? = some Try.f60 := by kernel_rfl -- (*spacecraft/octets.Writer).ok
theorem fn_61 : Try.prog.funcs[61]? = some Try.f61 := by kernel_rfl -- spacecraft/octets.zigzag
theorem fn_62 : Try.prog.funcs[62]? = some Try.f62 := by kernel_rfl -- spacecraft/command.Valid
theorem fn_63 : Try.prog.funcs[63]? = some Try.f63 := by kernel_rfl -- spacecraft/command.find
theorem fn_64 : Try.prog.funcs[64]? = some Try.f64 := by kernel_rfl -- spacecraft/spacecraftref43.Step
theorem fn_65 : Try.prog.funcs[65]? = some Try.f65 := by kernel_rfl -- spacecraft/spacecraftref03.Zigzag
theorem fn_66 : Try.prog.funcs[66]? = some Try.f66 := by kernel_rfl -- spacecraft/spacecraftref03.Blob
theorem fn_67 : Try.prog.funcs[67]? = some Try.f67 := by kernel_rfl -- spacecraft/spacecraftref39.Encode
theorem fn_68 : Try.prog.funcs[68]? = some Try.f68 := by kernel_rfl -- (*spacecraft/octets.Reader).Int
theorem fn_69 : Try.prog.funcs[69]? = some Try.f69 := by kernel_rfl -- (*spacecraft/octets.Reader).ok
theorem fn_70 : Try.prog.funcs[70]? = some Try.f70 := by kernel_rfl -- (*spacecraft/octets.Reader).fail
theorem fn_71 : Try.prog.funcs[71]? = some Try.f71 := by kernel_rfl -- (*spacecraft/octets.Reader).Uint
theorem fn_72 : Try.prog.funcs[72]? = some Try.f72 := by kernel_rfl -- spacecraft/command.Decode
theorem fn_73 : Try.prog.funcs[73]? = some Try.f73 := by kernel_rfl -- (*spacecraft/octets.Reader).Blob
theorem fn_74 : Try.prog.funcs[74]? = some Try.f74 := by kernel_rfl -- (*spacecraft/octets.Reader).Failed
theorem fn_75 : Try.prog.funcs[75]? = some Try.f75 := by kernel_rfl -- spacecraft/spacecraftref03.TakeCount
theorem fn_76 : Try.prog.funcs[76]? = some Try.f76 := by kernel_rfl -- (*spacecraft/spacecraftref03.Reader).next
theorem fn_77 : Try.prog.funcs[77]? = some Try.f77 := by kernel_rfl -- (*spacecraft/spacecraftref03.Reader).Uint
theorem fn_78 : Try.prog.funcs[78]? = some Try.f78 := by kernel_rfl -- spacecraft/spacecraftref39.Decode
theorem fn_79 : Try.prog.funcs[79]? = some Try.f79 := by kernel_rfl -- (*spacecraft/spacecraftref03.Reader).Blob
theorem fn_80 : Try.prog.funcs[80]? = some Try.f80 := by kernel_rfl -- (*spacecraft/spacecraftref03.Reader).Int
theorem fn_81 : Try.prog.funcs[81]? = some Try.f81 := by kernel_rfl -- spacecraft/sequence.zero
theorem fn_82 : Try.prog.funcs[82]? = some Try.f82 := by kernel_rfl -- spacecraft/sequence.compares
theorem fn_83 : Try.prog.funcs[83]? = some Try.f83 := by kernel_rfl -- slices.Clone[[]int,int]
theorem fn_84 : Try.prog.funcs[84]? = some Try.f84 := by kernel_rfl -- slices.Clone[[]byte,byte]
theorem fn_87 : Try.prog.funcs[87]? = some Try.f87 := by kernel_rfl -- spacecraft/command.table
theorem fn_88 : Try.prog.funcs[88]? = some Try.f88 := by kernel_rfl -- spacecraft/spacecraftref43.none
theorem fn_89 : Try.prog.funcs[89]? = some Try.f89 := by kernel_rfl -- spacecraft/spacecraftref39.Valid
theorem fn_90 : Try.prog.funcs[90]? = some Try.f90 := by kernel_rfl -- spacecraft/spacecraftref43.compares
theorem fn_91 : Try.prog.funcs[91]? = some Try.f91 := by kernel_rfl -- spacecraft/spacecraftref03.Uint
theorem fn_92 : Try.prog.funcs[92]? = some Try.f92 := by kernel_rfl -- (*spacecraft/octets.Reader).group
theorem fn_93 : Try.prog.funcs[93]? = some Try.f93 := by kernel_rfl -- spacecraft/spacecraftref03.TakeInt
theorem fn_94 : Try.prog.funcs[94]? = some Try.f94 := by kernel_rfl -- spacecraft/spacecraftref03.TakeUint
theorem fn_95 : Try.prog.funcs[95]? = some Try.f95 := by kernel_rfl -- spacecraft/spacecraftref39.Args
theorem fn_96 : Try.prog.funcs[96]? = some Try.f96 := by kernel_rfl -- spacecraft/spacecraftref03.TakeBlob
theorem fn_99 : Try.prog.funcs[99]? = some Try.f99 := by kernel_rfl -- spacecraft/spacecraftref39.row
attribute [go_sem] kd_3 sz_3 by_3 ze_3 kd_4 sz_4 kd_5 sz_5 by_5 ze_5 kd_9 kd_27 kd_28 sz_28 ze_28 kd_29 sz_29 kd_31 sz_31 by_31 ze_31 pl_31 fl_31_0 fl_31_1 fl_31_2 fl_31_3 fl_31_4 kd_34 sz_34 by_34 ze_34 pl_34 fl_34_0 fl_34_1 fl_34_2 fl_34_3 fl_34_4 fl_34_5 fl_34_6 kd_35 kd_39 kd_57 sz_57 by_57 ze_57 pl_57 fl_57_0 fl_57_1 fl_57_2 fl_57_3 kd_58 sz_58 kd_59 sz_59 kd_61 ze_61 pl_61 fl_61_0 fl_61_1 fl_61_2 kd_65 sz_65 by_65 ze_65 pl_65 fl_65_0 fl_65_1 fl_65_2 fl_65_3 fl_65_4 fl_65_5 fl_65_6 kd_71 kd_75 kd_81 kd_89 sz_89 ze_89 pl_89 fl_89_0 fl_89_1 fl_93_0 fl_93_1 kd_95 ze_95 pl_95 fl_95_1 kd_105 ze_105 pl_105 fl_105_0 fl_105_1 kd_110 sz_110 ze_110 pl_110 fl_110_1 fl_110_2 kd_116 ze_116 pl_116 fl_116_0 fl_116_1 fl_116_2 kd_129 sz_129 ze_129 kd_143
end Go.V

set_option maxRecDepth 100000
set_option maxHeartbeats 1000000
namespace Go.V
open Go.Proofs
/-- a Writer: what was appended -/
def Wr (xs : List UInt8) : List Ch := [.cells [.bool true, .sl 1 .byte 0 xs.length], .rows .byte xs]
attribute [go_sem] Wr
theorem b_wok (xs : List UInt8) : DoesK Try.prog 1 60 [.ptr 0 0] [.pack (Wr xs)] (EndF 1 (.bool true) ([.pack (Wr xs)] ++ [])) := by
  refine DoesK.close ?_
  refine w_body (rs := [.tmp 2]) (tm := [.ptr 0 0, .any, .any, .any, .any, .any, .any, .any, .any, .any, .any]) fn_60 rfl rfl rfl rfl fun R hR => ?_
  (all_goals (try ((first | (with_reducible refine wp_id ?_) | (with_reducible refine does_id ?_) | (with_reducible refine ops_id ?_)); refine walk ?_; (repeat' (first | exact trivial | with_reducible refine And.intro ?_ ?_)); all_goals (repeat (first | (with_reducible refine ImpB.mk fun hb => ?_) | (with_reducible refine ImpK.mk fun hK => ?_) | (with_reducible refine ImpF.mk fun hF => ?_) | (with_reducible refine ImpQ.mk fun hp => ?_) | (with_reducible refine AllE.mk fun p => ?_) | (with_reducible refine AllR.mk fun rest => ?_) | (with_reducible refine AllK.mk fun K => ?_))))); repeat' (with_reducible refine And.intro ?_ ?_))
  (focus (refine ⟨_, _, gh_close (t := 0) (ts := [1]) (l := Wr xs) ⟨⟨_, _, rfl⟩, ?_, by simp⟩, [0], rfl, ?_⟩; all_goals (refine ⟨?_, ?_, ?_⟩ <;> simp only [go_sem, List.range, List.range.loop, List.nodup_cons, List.nodup_nil, List.mem_cons, List.not_mem_nil, or_false, or_self, decide_true, decide_false, Int.reduceToNat, Nat.min_eq_left, Nat.min_eq_right, Int.reducePow, Nat.reducePow, Int.reduceLE, Int.reduceLT, Int.reduceMul, Int.reduceAdd, Int.reduceSub, Int.reduceNeg, Bool.not_true, Bool.not_false, Bool.not_not, ↓reduceIte, Nat.reduceAdd, Nat.reduceSub, Nat.reduceMul, Nat.reduceEqDiff, reduceCtorEq, Nat.reduceLT, Nat.reduceLeDiff, Nat.reduceGT]); (try any_goals (refine ⟨?_, ?_⟩)); (try any_goals (with_reducible rfl))))
theorem c_wok {h : List Ch} {K : KT} {t : Nat} {xs : List UInt8} (H : K (.bool true) h) (o : hth h t = .pack (Wr xs)) : Does Try.prog 60 [.ptr t 0] h K :=
  frame_look (b_wok xs) o (by simp) (fitC_pack _) (br_cons (br_ptr rfl) br_nil) (.inl rfl) (fun _ => rfl) rfl H
abbrev i_wok := Ctr.mk (i := 0) (g := 60) @c_wok
attribute [instance] i_wok
theorem b_zz (n : Int) (hn : I64 n) : DoesK Try.prog 0 61 [.int .i64 n] [] (EndF 0 (.int .u64 (zz n)) []) := by
  refine DoesK.close ?_
  refine w_body (rs := [.tmp 2]) (tm := [.int .i64 n, .any, .any, .any, .any, .any, .any, .any, .any, .any]) fn_61 rfl rfl rfl rfl fun R hR => ?_
  (all_goals (try ((first | (with_reducible refine wp_id ?_) | (with_reducible refine does_id ?_) | (with_reducible refine ops_id ?_)); refine walk ?_; (repeat' (first | exact trivial | with_reducible refine And.intro ?_ ?_)); all_goals (repeat (first | (with_reducible refine ImpB.mk fun hb => ?_) | (with_reducible refine ImpK.mk fun hK => ?_) | (with_reducible refine ImpF.mk fun hF => ?_) | (with_reducible refine ImpQ.mk fun hp => ?_) | (with_reducible refine AllE.mk fun p => ?_) | (with_reducible refine AllR.mk fun rest => ?_) | (with_reducible refine AllK.mk fun K => ?_))))); repeat' (with_reducible refine And.intro ?_ ?_))
  (focus (refine ⟨_, _, Gh.refl, [], rfl, ?_⟩; (refine ⟨?_, ?_, ?_⟩ <;> simp only [go_sem, List.range, List.range.loop, List.nodup_cons, List.nodup_nil, List.mem_cons, List.not_mem_nil, or_false, or_self, decide_true, decide_false, Int.reduceToNat, Nat.min_eq_left, Nat.min_eq_right, Int.reducePow, Nat.reducePow, Int.reduceLE, Int.reduceLT, Int.reduceMul, Int.reduceAdd, Int.reduceSub, Int.reduceNeg, Bool.not_true, Bool.not_false, Bool.not_not, ↓reduceIte, Nat.reduceAdd, Nat.reduceSub, Nat.reduceMul, Nat.reduceEqDiff, reduceCtorEq, Nat.reduceLT, Nat.reduceLeDiff, Nat.reduceGT]); (try any_goals (refine ⟨?_, ?_⟩)); (try any_goals (with_reducible rfl))))
  rw [zz_bits n hn]
theorem c_zz {h : List Ch} {K : KT} {n : Int} (H : K (.int .u64 (zz n)) h) (s1 : I64 n) : Does Try.prog 61 [.int .i64 n] h K :=
  frame_pure (b_zz n s1) (br_cons br_int br_nil) (.inl rfl) (fun _ => rfl) H
abbrev i_zz := Ctr.mk (i := 0) (g := 61) @c_zz
attribute [instance] i_zz
theorem b_newW : DoesK Try.prog 0 35 [] [] (EndF 0 (.ptr 0 0) [.pack (Wr [])]) := by
  refine DoesK.close ?_
  refine w_body (rs := [.tmp 0]) (tm := [.any, .any, .any]) fn_35 rfl rfl rfl rfl fun R hR => ?_
  (all_goals (try ((first | (with_reducible refine wp_id ?_) | (with_reducible refine does_id ?_) | (with_reducible refine ops_id ?_)); refine walk ?_; (repeat' (first | exact trivial | with_reducible refine And.intro ?_ ?_)); all_goals (repeat (first | (with_reducible refine ImpB.mk fun hb => ?_) | (with_reducible refine ImpK.mk fun hK => ?_) | (with_reducible refine ImpF.mk fun hF => ?_) | (with_reducible refine ImpQ.mk fun hp => ?_) | (with_reducible refine AllE.mk fun p => ?_) | (with_reducible refine AllR.mk fun rest => ?_) | (with_reducible refine AllK.mk fun K => ?_))))); repeat' (with_reducible refine And.intro ?_ ?_))
  refine ⟨_, _, (gh_adoptC (t := 0) (i := 1) (vs := [.bool true, .lit (.slice none 0 0)]) .byte rfl trivial).trans (gh_close (t := 0) (ts := [1]) (l := Wr []) ⟨⟨_, _, rfl⟩, ?fh, by simp⟩), [0], rfl, ?ft⟩
  case ft => (refine ⟨?_, ?_, ?_⟩ <;> simp only [go_sem, List.range, List.range.loop, List.nodup_cons, List.nodup_nil, List.mem_cons, List.not_mem_nil, or_false, or_self, decide_true, decide_false, Int.reduceToNat, Nat.min_eq_left, Nat.min_eq_right, Int.reducePow, Nat.reducePow, Int.reduceLE, Int.reduceLT, Int.reduceMul, Int.reduceAdd, Int.reduceSub, Int.reduceNeg, Bool.not_true, Bool.not_false, Bool.not_not, ↓reduceIte, Nat.reduceAdd, Nat.reduceSub, Nat.reduceMul, Nat.reduceEqDiff, reduceCtorEq, Nat.reduceLT, Nat.reduceLeDiff, Nat.reduceGT])
  case fh => simp only [go_sem, decide_true, decide_false, Int.reduceToNat, Nat.min_eq_left, Nat.min_eq_right, Int.reducePow, Nat.reducePow, Int.reduceLE, Int.reduceLT, Int.reduceMul, Int.reduceAdd, Int.reduceSub, Int.reduceNeg, Bool.not_true, Bool.not_false, Bool.not_not, ↓reduceIte, Nat.reduceAdd, Nat.reduceSub, Nat.reduceMul, Nat.reduceEqDiff, reduceCtorEq, Nat.reduceLT, Nat.reduceLeDiff, Nat.reduceGT]
theorem c_newW {h : List Ch} {K : KT} (H : K (.ptr h.length 0) (h ++ [.pack (Wr [])])) : Does Try.prog 35 [] h K :=
  frame_new b_newW br_nil (.inl rfl) (fun _ => rfl) rfl H
abbrev i_newW := Ctr.mk (i := 0) (g := 35) @c_newW
attribute [instance] i_newW
theorem b_wint (xs : List UInt8) (n : Int) (hn : I64 n) (hl : xs.length ≤ 1099511627776) : DoesK Try.prog 1 36 [.ptr 0 0, .int .i64 n] [.pack (Wr xs)] (EndF 1 (.ptr 0 0) ([.pack (Wr (xs ++ encI n))] ++ [])) := by
  refine DoesK.close ?_
  refine w_body (rs := [.tmp 4]) (tm := [.ptr 0 0, .int .i64 n, .any, .any, .any, .any, .any, .any, .any, .any, .any, .any, .any, .any, .any, .any, .any, .any, .any, .any, .any, .any, .any, .any, .any, .any, .any, .any, .any, .any, .any, .any, .any, .any, .any, .any, .any, .any, .any]) fn_36 rfl rfl rfl rfl fun R hR => ?_
  (all_goals (try ((first | (with_reducible refine wp_id ?_) | (with_reducible refine does_id ?_) | (with_reducible refine ops_id ?_)); refine walk ?_; (repeat' (first | exact trivial | with_reducible refine And.intro ?_ ?_)); all_goals (repeat (first | (with_reducible refine ImpB.mk fun hb => ?_) | (with_reducible refine ImpK.mk fun hK => ?_) | (with_reducible refine ImpF.mk fun hF => ?_) | (with_reducible refine ImpQ.mk fun hp => ?_) | (with_reducible refine AllE.mk fun p => ?_) | (with_reducible refine AllR.mk fun rest => ?_) | (with_reducible refine AllK.mk fun K => ?_))))); repeat' (with_reducible refine And.intro ?_ ?_))
  any_goals ((try (refine w_seq fun K hK => ?_)); (try (refine w_block ?_)); refine w_loop (A := List UInt8 × Nat) (fun p => p.1 ++ vint p.2 = encI n) (fun p => p.2) (fun p => [(5, .int .u64 p.2)]) (fun p => [(0, .pack (Wr (xs ++ p.1)))]) (([], zz n)) (ws := ?ws1) (tk := ?tk1) ?hw1 ?ht1 ?hi ?h0 ?LH1; (case hw1 => simp only [go_sem, decide_true, decide_false, Int.reduceToNat, Nat.min_eq_left, Nat.min_eq_right, Int.reducePow, Nat.reducePow, Int.reduceLE, Int.reduceLT, Int.reduceMul, Int.reduceAdd, Int.reduceSub, Int.reduceNeg, Bool.not_true, Bool.not_false, Bool.not_not, ↓reduceIte, Nat.reduceAdd, Nat.reduceSub, Nat.reduceMul, Nat.reduceEqDiff, reduceCtorEq, Nat.reduceLT, Nat.reduceLeDiff, Nat.reduceGT]; exact rfl); (case ht1 => simp only [go_sem, decide_true, decide_false, Int.reduceToNat, Nat.min_eq_left, Nat.min_eq_right, Int.reducePow, Nat.reducePow, Int.reduceLE, Int.reduceLT, Int.reduceMul, Int.reduceAdd, Int.reduceSub, Int.reduceNeg, Bool.not_true, Bool.not_false, Bool.not_not, ↓reduceIte, Nat.reduceAdd, Nat.reduceSub, Nat.reduceMul, Nat.reduceEqDiff, reduceCtorEq, Nat.reduceLT, Nat.reduceLeDiff, Nat.reduceGT]; exact rfl); (case' LH1 => rintro ⟨pre, z⟩ E t hx hE ht; simp only [go_sem] at ht; subst ht; simp only [go_sem]; try dsimp only at hx))
  (all_goals (try ((first | (with_reducible refine wp_id ?_) | (with_reducible refine does_id ?_) | (with_reducible refine ops_id ?_)); refine walk ?_; (repeat' (first | exact trivial | with_reducible refine And.intro ?_ ?_)); all_goals (repeat (first | (with_reducible refine ImpB.mk fun hb => ?_) | (with_reducible refine ImpK.mk fun hK => ?_) | (with_reducible refine ImpF.mk fun hF => ?_) | (with_reducible refine ImpQ.mk fun hp => ?_) | (with_reducible refine AllE.mk fun p => ?_) | (with_reducible refine AllR.mk fun rest => ?_) | (with_reducible refine AllK.mk fun K => ?_))))); repeat' (with_reducible refine And.intro ?_ ?_))
  (all_goals (repeat (first | (clear hK; clear K) | (clear hE; clear E) | (clear hF; clear F) | (clear hR; clear R))); all_goals (try simp only [decide_eq_true_eq, decide_eq_false_iff_not, Bool.not_eq_true', Bool.not_eq_false', Bool.not_eq_true, Bool.not_eq_false, decide_not, decide_true, decide_false, Bool.decide_and, Bool.and_eq_true, Bool.or_eq_true, Bool.and_eq_false_imp, Decidable.not_not] at *); all_goals (try omega); all_goals (try (first | exact u8w_lo _ | exact u8w_hi _ | exact (bits8 _ _ _).1 | exact (bits8 _ _ _).2 | exact Int.natCast_nonneg _ | exact u8_ltI _)))
  case hi => rfl
  case h0 => (focus (refine ⟨_, _, Gh.refl, [0], rfl, ?_⟩; (refine ⟨?_, ?_, ?_⟩ <;> simp only [go_sem, List.range, List.range.loop, List.nodup_cons, List.nodup_nil, List.mem_cons, List.not_mem_nil, or_false, or_self, decide_true, decide_false, Int.reduceToNat, Nat.min_eq_left, Nat.min_eq_right, Int.reducePow, Nat.reducePow, Int.reduceLE, Int.reduceLT, Int.reduceMul, Int.reduceAdd, Int.reduceSub, Int.reduceNeg, Bool.not_true, Bool.not_false, Bool.not_not, ↓reduceIte, Nat.reduceAdd, Nat.reduceSub, Nat.reduceMul, Nat.reduceEqDiff, reduceCtorEq, Nat.reduceLT, Nat.reduceLeDiff, Nat.reduceGT]); (try any_goals (refine ⟨?_, ?_⟩)); (try any_goals (with_reducible rfl))))
  all_goals try (first | exact u8w_lo _ | exact u8w_hi _ | exact (bits8 _ _ _).1 | exact (bits8 _ _ _).2 | exact Int.natCast_nonneg _ | exact u8_ltI _)
  all_goals
    have hle := congrArg List.length hx
    have h10 := encI_le n hn
    have hvp := vint_pos z
    simp only [List.length_append] at hle
    try omega
  · rw [or_128_u8 _ (by omega)]
    have hz : ¬ z < 128 := by omega
    rw [vint_big hz] at hx
    refine ⟨(pre ++ [UInt8.ofNat (z % 128 + 128)], z / 128), ⟨by simpa using hx, by dsimp only; omega⟩, ?_⟩
    (focus (refine ⟨_, _, gh_close (t := 0) (ts := [3]) (l := Wr (xs ++ (pre ++ [UInt8.ofNat (z % 128 + 128)]))) ⟨⟨_, _, rfl⟩, ?_, by simp⟩, [0], rfl, ?_⟩; all_goals (refine ⟨?_, ?_, ?_⟩ <;> simp only [go_sem, List.range, List.range.loop, List.nodup_cons, List.nodup_nil, List.mem_cons, List.not_mem_nil, or_false, or_self, decide_true, decide_false, Int.reduceToNat, Nat.min_eq_left, Nat.min_eq_right, Int.reducePow, Nat.reducePow, Int.reduceLE, Int.reduceLT, Int.reduceMul, Int.reduceAdd, Int.reduceSub, Int.reduceNeg, Bool.not_true, Bool.not_false, Bool.not_not, ↓reduceIte, Nat.reduceAdd, Nat.reduceSub, Nat.reduceMul, Nat.reduceEqDiff, reduceCtorEq, Nat.reduceLT, Nat.reduceLeDiff, Nat.reduceGT]); (try any_goals (refine ⟨?_, ?_⟩)); (try any_goals (with_reducible rfl))))
    · omega
    · rw [List.append_assoc]
    · rw [Int.fdiv_eq_ediv_of_nonneg _ (by omega)]; omega
  · have hz : z < 128 := by omega
    rw [vint_small hz] at hx
    rw [← hx]
    (focus (refine ⟨_, _, gh_close (t := 0) (ts := [3]) (l := Wr (xs ++ (pre ++ [UInt8.ofNat z]))) ⟨⟨_, _, rfl⟩, ?_, by simp⟩, [0], rfl, ?_⟩; all_goals (refine ⟨?_, ?_, ?_⟩ <;> simp only [go_sem, List.range, List.range.loop, List.nodup_cons, List.nodup_nil, List.mem_cons, List.not_mem_nil, or_false, or_self, decide_true, decide_false, Int.reduceToNat, Nat.min_eq_left, Nat.min_eq_right, Int.reducePow, Nat.reducePow, Int.reduceLE, Int.reduceLT, Int.reduceMul, Int.reduceAdd, Int.reduceSub, Int.reduceNeg, Bool.not_true, Bool.not_false, Bool.not_not, ↓reduceIte, Nat.reduceAdd, Nat.reduceSub, Nat.reduceMul, Nat.reduceEqDiff, reduceCtorEq, Nat.reduceLT, Nat.reduceLeDiff, Nat.reduceGT]); (try any_goals (refine ⟨?_, ?_⟩)); (try any_goals (with_reducible rfl))))
    · omega
    · rw [wrap_u8, show ((z : Int) % 256).toNat = z from by omega]; simp
theorem c_wint {h : List Ch} {K : KT} {t : Nat} {xs : List UInt8} {n : Int} (H : K (.ptr t 0) (h.set t (.pack (Wr (xs ++ encI n))))) (o : hth h t = .pack (Wr xs)) (s1 : I64 n) (s2 : xs.length ≤ 1099511627776) : Does Try.prog 36 [.ptr t 0, .int .i64 n] h K :=
  frame_obj0 (ret' := .ptr t 0) (b_wint xs n s1 s2) o (by simp) (fitC_pack _) (br_cons (br_ptr rfl) (br_cons br_int br_nil)) (.inl rfl) (fun _ => rfl) rfl H
abbrev i_wint := Ctr.mk (i := 0) (g := 36) @c_wint
attribute [instance] i_wint
theorem b_wuint (xs : List UInt8) (n : Nat) (size : Nat) (h1 : 1 ≤ size) (h8 : size ≤ 8) (hl : xs.length ≤ 1099511627776) : DoesK Try.prog 1 37 [.ptr 0 0, .int .u64 n, .int .i64 size] [.pack (Wr xs)] (EndF 1 (.ptr 0 0) ([.pack (Wr (xs ++ be n size))] ++ [])) := by
  refine DoesK.close ?_
  refine w_body (rs := [.tmp 6]) (tm := [.ptr 0 0, .int .u64 n, .int .i64 size, .any, .any, .any, .any, .any, .any, .any, .any, .any, .any, .any, .any, .any, .any, .any, .any, .any, .any, .any, .any, .any, .any, .any, .any, .any, .any, .any, .any, .any, .any, .any, .any, .any, .any, .any, .any]) fn_37 rfl rfl rfl rfl fun R hR => ?_
  (all_goals (try ((first | (with_reducible refine wp_id ?_) | (with_reducible refine does_id ?_) | (with_reducible refine ops_id ?_)); refine walk ?_; (repeat' (first | exact trivial | with_reducible refine And.intro ?_ ?_)); all_goals (repeat (first | (with_reducible refine ImpB.mk fun hb => ?_) | (with_reducible refine ImpK.mk fun hK => ?_) | (with_reducible refine ImpF.mk fun hF => ?_) | (with_reducible refine ImpQ.mk fun hp => ?_) | (with_reducible refine AllE.mk fun p => ?_) | (with_reducible refine AllR.mk fun rest => ?_) | (with_reducible refine AllK.mk fun K => ?_))))); repeat' (with_reducible refine And.intro ?_ ?_))
  (all_goals try (exfalso; (try simp only [decide_eq_true_eq, decide_eq_false_iff_not, Bool.not_eq_true', Bool.not_eq_false', Bool.not_eq_true, Bool.not_eq_false, decide_not, decide_true, decide_false, Bool.decide_and, Bool.and_eq_true, Bool.or_eq_true, Bool.and_eq_false_imp, Decidable.not_not] at *); omega))
  any_goals ((try (refine w_seq fun K hK => ?_)); (try (refine w_block ?_)); refine w_loop (A := List UInt8 × Nat) (fun p => p.1 ++ be n p.2 = be n size ∧ p.2 ≤ size) (fun p => p.2) (fun p => [(7, .int .i64 ((p.2 : Int) - 1))]) (fun p => [(0, .pack (Wr (xs ++ p.1)))]) (([], size)) (ws := ?ws2) (tk := ?tk2) ?hw2 ?ht2 ?hi ?h0 ?LH2; (case hw2 => simp only [go_sem, decide_true, decide_false, Int.reduceToNat, Nat.min_eq_left, Nat.min_eq_right, Int.reducePow, Nat.reducePow, Int.reduceLE, Int.reduceLT, Int.reduceMul, Int.reduceAdd, Int.reduceSub, Int.reduceNeg, Bool.not_true, Bool.not_false, Bool.not_not, ↓reduceIte, Nat.reduceAdd, Nat.reduceSub, Nat.reduceMul, Nat.reduceEqDiff, reduceCtorEq, Nat.reduceLT, Nat.reduceLeDiff, Nat.reduceGT]; exact rfl); (case ht2 => simp only [go_sem, decide_true, decide_false, Int.reduceToNat, Nat.min_eq_left, Nat.min_eq_right, Int.reducePow, Nat.reducePow, Int.reduceLE, Int.reduceLT, Int.reduceMul, Int.reduceAdd, Int.reduceSub, Int.reduceNeg, Bool.not_true, Bool.not_false, Bool.not_not, ↓reduceIte, Nat.reduceAdd, Nat.reduceSub, Nat.reduceMul, Nat.reduceEqDiff, reduceCtorEq, Nat.reduceLT, Nat.reduceLeDiff, Nat.reduceGT]; exact rfl); (case' LH2 => rintro ⟨pre, j⟩ E t hx hE ht; simp only [go_sem] at ht; subst ht; simp only [go_sem]; try dsimp only at hx))
  case' LH2 => refine w_open 0 rfl rfl ?_
  (all_goals (try ((first | (with_reducible refine wp_id ?_) | (with_reducible refine does_id ?_) | (with_reducible refine ops_id ?_)); refine walk ?_; (repeat' (first | exact trivial | with_reducible refine And.intro ?_ ?_)); all_goals (repeat (first | (with_reducible refine ImpB.mk fun hb => ?_) | (with_reducible refine ImpK.mk fun hK => ?_) | (with_reducible refine ImpF.mk fun hF => ?_) | (with_reducible refine ImpQ.mk fun hp => ?_) | (with_reducible refine AllE.mk fun p => ?_) | (with_reducible refine AllR.mk fun rest => ?_) | (with_reducible refine AllK.mk fun K => ?_))))); repeat' (with_reducible refine And.intro ?_ ?_))
  (all_goals (repeat (first | (clear hK; clear K) | (clear hE; clear E) | (clear hF; clear F) | (clear hR; clear R))); all_goals (try simp only [decide_eq_true_eq, decide_eq_false_iff_not, Bool.not_eq_true', Bool.not_eq_false', Bool.not_eq_true, Bool.not_eq_false, decide_not, decide_true, decide_false, Bool.decide_and, Bool.and_eq_true, Bool.or_eq_true, Bool.and_eq_false_imp, Decidable.not_not] at *); all_goals (try omega); all_goals (try (first | exact u8w_lo _ | exact u8w_hi _ | exact (bits8 _ _ _).1 | exact (bits8 _ _ _).2 | exact Int.natCast_nonneg _ | exact u8_ltI _)))
  all_goals try (first | exact u8w_lo _ | exact u8w_hi _ | exact (bits8 _ _ _).1 | exact (bits8 _ _ _).2 | exact Int.natCast_nonneg _ | exact u8_ltI _)
  all_goals
    try have hle := congrArg List.length hx.1
    try simp only [List.length_append, be_len] at *
    try omega
  · obtain ⟨k, rfl⟩ : ∃ k, j = k + 1 := ⟨j - 1, by omega⟩
    have hby : UInt8.ofNat (IntKind.u8.wrap ((n : Int).fdiv (2 ^ min (IntKind.i64.wrap (8 * (((k + 1 : Nat) : Int) - 1))).toNat 64))).toNat = UInt8.ofNat (n / 256 ^ k % 256) := by
      rw [wrap_i64 _ (by omega) (by omega), show 8 * (((k + 1 : Nat) : Int) - 1) = 8 * (k : Int) from by omega]
      rcases be_step n k with h | h
      · rw [h]
      · omega
    rw [hby]
    refine ⟨(pre ++ [UInt8.ofNat (n / 256 ^ k % 256)], k), ⟨⟨by rw [← hx.1]; simp [be], by dsimp only; omega⟩, by dsimp only; omega⟩, ?_⟩
    (focus (refine ⟨_, _, gh_close (t := 0) (ts := [3]) (l := Wr (xs ++ (pre ++ [UInt8.ofNat (n / 256 ^ k % 256)]))) ⟨⟨_, _, rfl⟩, ?_, by simp⟩, [0], rfl, ?_⟩; all_goals (refine ⟨?_, ?_, ?_⟩ <;> simp only [go_sem, List.range, List.range.loop, List.nodup_cons, List.nodup_nil, List.mem_cons, List.not_mem_nil, or_false, or_self, decide_true, decide_false, Int.reduceToNat, Nat.min_eq_left, Nat.min_eq_right, Int.reducePow, Nat.reducePow, Int.reduceLE, Int.reduceLT, Int.reduceMul, Int.reduceAdd, Int.reduceSub, Int.reduceNeg, Bool.not_true, Bool.not_false, Bool.not_not, ↓reduceIte, Nat.reduceAdd, Nat.reduceSub, Nat.reduceMul, Nat.reduceEqDiff, reduceCtorEq, Nat.reduceLT, Nat.reduceLeDiff, Nat.reduceGT]); (try any_goals (refine ⟨?_, ?_⟩)); (try any_goals (with_reducible rfl))))
    all_goals (first | with_reducible rfl | omega | ((simp (disch := omega) only [wrap_i64]); first | done | omega) | (simp only [List.append_assoc, List.cons_append, List.nil_append]; done))
  · rw [wrap_i64 _ (by omega) (by omega)]; omega
  · have hj : j = 0 := by omega
    subst hj
    have hp : pre = be n size := by simpa [be] using hx.1
    subst hp
    (focus (refine ⟨_, _, gh_close (t := 0) (ts := [1]) (l := Wr (xs ++ be n size)) ⟨⟨_, _, rfl⟩, ?_, by simp⟩, [0], rfl, ?_⟩; all_goals (refine ⟨?_, ?_, ?_⟩ <;> simp only [go_sem, List.range, List.range.loop, List.nodup_cons, List.nodup_nil, List.mem_cons, List.not_mem_nil, or_false, or_self, decide_true, decide_false, Int.reduceToNat, Nat.min_eq_left, Nat.min_eq_right, Int.reducePow, Nat.reducePow, Int.reduceLE, Int.reduceLT, Int.reduceMul, Int.reduceAdd, Int.reduceSub, Int.reduceNeg, Bool.not_true, Bool.not_false, Bool.not_not, ↓reduceIte, Nat.reduceAdd, Nat.reduceSub, Nat.reduceMul, Nat.reduceEqDiff, reduceCtorEq, Nat.reduceLT, Nat.reduceLeDiff, Nat.reduceGT]); (try any_goals (refine ⟨?_, ?_⟩)); (try any_goals (with_reducible rfl))))
    all_goals (try simp only [List.length_append, be_len]; try omega)
  · rfl
  · (focus (refine ⟨_, _, Gh.refl, [0], rfl, ?_⟩; (refine ⟨?_, ?_, ?_⟩ <;> simp only [go_sem, List.range, List.range.loop, List.nodup_cons, List.nodup_nil, List.mem_cons, List.not_mem_nil, or_false, or_self, decide_true, decide_false, Int.reduceToNat, Nat.min_eq_left, Nat.min_eq_right, Int.reducePow, Nat.reducePow, Int.reduceLE, Int.reduceLT, Int.reduceMul, Int.reduceAdd, Int.reduceSub, Int.reduceNeg, Bool.not_true, Bool.not_false, Bool.not_not, ↓reduceIte, Nat.reduceAdd, Nat.reduceSub, Nat.reduceMul, Nat.reduceEqDiff, reduceCtorEq, Nat.reduceLT, Nat.reduceLeDiff, Nat.reduceGT]); (try any_goals (refine ⟨?_, ?_⟩)); (try any_goals (with_reducible rfl))))
    (simp (disch := omega) only [wrap_i64])
theorem c_wuint {h : List Ch} {K : KT} {t : Nat} {xs : List UInt8} {n size : Nat} (H : K (.ptr t 0) (h.set t (.pack (Wr (xs ++ be n size))))) (o : hth h t = .pack (Wr xs)) (s1 : 1 ≤ size) (s2 : size ≤ 8) (s3 : xs.length ≤ 1099511627776) : Does Try.prog 37 [.ptr t 0, .int .u64 n, .int .i64 size] h K :=
  frame_obj0 (ret' := .ptr t 0) (b_wuint xs n size s1 s2 s3) o (by simp) (fitC_pack _) (br_cons (br_ptr rfl) (br_cons br_int (br_cons br_int br_nil))) (.inl rfl) (fun _ => rfl) rfl H
theorem b_wblob (xs bs : List UInt8) (hl : xs.length ≤ 1099511627776) (hb : bs.length ≤ 1099511627776) : DoesK Try.prog 1 39 [.ptr 0 0, .ro .byte bs] [.pack (Wr xs)] (EndF 1 (.ptr 0 0) ([.pack (Wr (xs ++ encI bs.length ++ bs))] ++ [])) := by
  refine DoesK.close ?_
  refine w_body (rs := [.tmp 4]) (tm := [.ptr 0 0, .ro .byte bs, .any, .any, .any, .any, .any, .any, .any, .any, .any, .any, .any, .any, .any, .any, .any, .any, .any, .any, .any, .any]) fn_39 rfl rfl rfl rfl fun R hR => ?_
  (all_goals (try ((first | (with_reducible refine wp_id ?_) | (with_reducible refine does_id ?_) | (with_reducible refine ops_id ?_)); refine walk ?_; (repeat' (first | exact trivial | with_reducible refine And.intro ?_ ?_)); all_goals (repeat (first | (with_reducible refine ImpB.mk fun hb => ?_) | (with_reducible refine ImpK.mk fun hK => ?_) | (with_reducible refine ImpF.mk fun hF => ?_) | (with_reducible refine ImpQ.mk fun hp => ?_) | (with_reducible refine AllE.mk fun p => ?_) | (with_reducible refine AllR.mk fun rest => ?_) | (with_reducible refine AllK.mk fun K => ?_))))); repeat' (with_reducible refine And.intro ?_ ?_))
  (all_goals (repeat (first | (clear hK; clear K) | (clear hE; clear E) | (clear hF; clear F) | (clear hR; clear R))); all_goals (try simp only [decide_eq_true_eq, decide_eq_false_iff_not, Bool.not_eq_true', Bool.not_eq_false', Bool.not_eq_true, Bool.not_eq_false, decide_not, decide_true, decide_false, Bool.decide_and, Bool.and_eq_true, Bool.or_eq_true, Bool.and_eq_false_imp, Decidable.not_not] at *); all_goals (try omega); all_goals (try (first | exact u8w_lo _ | exact u8w_hi _ | exact (bits8 _ _ _).1 | exact (bits8 _ _ _).2 | exact Int.natCast_nonneg _ | exact u8_ltI _)))
  · have := encI_le bs.length (by constructor <;> omega); omega
  · (focus (refine ⟨_, _, gh_close (t := 0) (ts := [2]) (l := Wr (xs ++ encI bs.length ++ bs)) ⟨⟨_, _, rfl⟩, ?_, by simp⟩, [0], rfl, ?_⟩; all_goals (refine ⟨?_, ?_, ?_⟩ <;> simp only [go_sem, List.range, List.range.loop, List.nodup_cons, List.nodup_nil, List.mem_cons, List.not_mem_nil, or_false, or_self, decide_true, decide_false, Int.reduceToNat, Nat.min_eq_left, Nat.min_eq_right, Int.reducePow, Nat.reducePow, Int.reduceLE, Int.reduceLT, Int.reduceMul, Int.reduceAdd, Int.reduceSub, Int.reduceNeg, Bool.not_true, Bool.not_false, Bool.not_not, ↓reduceIte, Nat.reduceAdd, Nat.reduceSub, Nat.reduceMul, Nat.reduceEqDiff, reduceCtorEq, Nat.reduceLT, Nat.reduceLeDiff, Nat.reduceGT]); (try any_goals (refine ⟨?_, ?_⟩)); (try any_goals (with_reducible rfl))))
  · constructor <;> omega
theorem c_wblob {h : List Ch} {K : KT} {t : Nat} {xs bs : List UInt8} {a : AV} (H : K (.ptr t 0) (h.set t (.pack (Wr (xs ++ encI bs.length ++ bs))))) (o : hth h t = .pack (Wr xs)) (b1 : brA [t] h (.ro .byte bs) a) (s1 : xs.length ≤ 1099511627776) (s2 : bs.length ≤ 1099511627776) : Does Try.prog 39 [.ptr t 0, a] h K :=
  frame_obj0 (ret' := .ptr t 0) (b_wblob xs bs s1 s2) o (by simp) (fitC_pack _) (br_cons (br_ptr rfl) (br_cons b1 br_nil)) (.inr rfl) (fun _ => rfl) rfl H
abbrev i_wblob := Ctr.mk (i := 0) (g := 39) @c_wblob
attribute [instance] i_wblob
theorem b_wbytes (xs : List UInt8) (hl : xs.length ≤ 1099511627776) : DoesK Try.prog 1 40 [.ptr 0 0] [.pack (Wr xs)] (EndF 1 (.sl 1 .byte 0 xs.length) ([.pack (Wr xs)] ++ [.rows .byte xs])) := by
  refine DoesK.close ?_
  refine w_body (rs := [.tmp 2]) (tm := [.ptr 0 0, .any, .any, .any, .any, .any, .any, .any, .any, .any, .any, .any]) fn_40 rfl rfl rfl rfl fun R hR => ?_
  (all_goals (try ((first | (with_reducible refine wp_id ?_) | (with_reducible refine does_id ?_) | (with_reducible refine ops_id ?_)); refine walk ?_; (repeat' (first | exact trivial | with_reducible refine And.intro ?_ ?_)); all_goals (repeat (first | (with_reducible refine ImpB.mk fun hb => ?_) | (with_reducible refine ImpK.mk fun hK => ?_) | (with_reducible refine ImpF.mk fun hF => ?_) | (with_reducible refine ImpQ.mk fun hp => ?_) | (with_reducible refine AllE.mk fun p => ?_) | (with_reducible refine AllR.mk fun rest => ?_) | (with_reducible refine AllK.mk fun K => ?_))))); repeat' (with_reducible refine And.intro ?_ ?_))
  (all_goals (repeat (first | (clear hK; clear K) | (clear hE; clear E) | (clear hF; clear F) | (clear hR; clear R))); all_goals (try simp only [decide_eq_true_eq, decide_eq_false_iff_not, Bool.not_eq_true', Bool.not_eq_false', Bool.not_eq_true, Bool.not_eq_false, decide_not, decide_true, decide_false, Bool.decide_and, Bool.and_eq_true, Bool.or_eq_true, Bool.and_eq_false_imp, Decidable.not_not] at *); all_goals (try omega); all_goals (try (first | exact u8w_lo _ | exact u8w_hi _ | exact (bits8 _ _ _).1 | exact (bits8 _ _ _).2 | exact Int.natCast_nonneg _ | exact u8_ltI _)))
  all_goals try simp only [List.take_length] at *
  all_goals try omega
  · (focus (refine ⟨_, _, gh_close (t := 0) (ts := [2]) (l := Wr xs) ⟨⟨_, _, rfl⟩, ?_, by simp⟩, [0, 3], rfl, ?_⟩; all_goals (refine ⟨?_, ?_, ?_⟩ <;> simp only [go_sem, List.range, List.range.loop, List.nodup_cons, List.nodup_nil, List.mem_cons, List.not_mem_nil, or_false, or_self, decide_true, decide_false, Int.reduceToNat, Nat.min_eq_left, Nat.min_eq_right, Int.reducePow, Nat.reducePow, Int.reduceLE, Int.reduceLT, Int.reduceMul, Int.reduceAdd, Int.reduceSub, Int.reduceNeg, Bool.not_true, Bool.not_false, Bool.not_not, ↓reduceIte, Nat.reduceAdd, Nat.reduceSub, Nat.reduceMul, Nat.reduceEqDiff, reduceCtorEq, Nat.reduceLT, Nat.reduceLeDiff, Nat.reduceGT]); (try any_goals (refine ⟨?_, ?_⟩)); (try any_goals (with_reducible rfl))))
end Go.V
