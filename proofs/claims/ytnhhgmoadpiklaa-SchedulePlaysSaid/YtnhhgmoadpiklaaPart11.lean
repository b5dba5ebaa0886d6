/-
  T
  octets.Writer: what its methods do.
  octets.Reader: what its methods do.
  octets.Reader: integers and byte strings.
  ref03: counts, byte strings, the Reader.
  ref03.Reader: Count.
  The contracts at sizes that are written out.
  The command table, as the module and as the reference hold it.
-/
import Derived.Test.YtnhhgmoadpiklaaPart10
import Derived.Test.YtnhhgmoadpiklaaProg
import Derived.KernelRfl
set_option linter.unusedVariables false
set_option linter.unusedSimpArgs false
namespace Go.V
open Go.Proofs
theorem kd_3 : kdT Try.prog 3 = .int .i64 := by kernel_rfl
theorem sz_3 : szT Try.prog 3 = 1 := by kernel_rfl
theorem by_3 : bytesT Try.prog 3 = 8 := by kernel_rfl
theorem ze_3 : zeroT Try.prog 3 = some [.int .i64 0] := by kernel_rfl
theorem kd_4 : kdT Try.prog 4 = .bool := by kernel_rfl
theorem sz_4 : szT Try.prog 4 = 1 := by kernel_rfl
theorem kd_5 : kdT Try.prog 5 = .int .u8 := by kernel_rfl
theorem sz_5 : szT Try.prog 5 = 1 := by kernel_rfl
theorem by_5 : bytesT Try.prog 5 = 1 := by kernel_rfl
theorem ze_5 : zeroT Try.prog 5 = some [.int .u8 0] := by kernel_rfl
theorem kd_9 : kdT Try.prog 9 = .str := by kernel_rfl
theorem kd_22 : kdT Try.prog 22 = .slice 38 := by kernel_rfl
theorem kd_23 : kdT Try.prog 23 = .ptr := by kernel_rfl
theorem kd_27 : kdT Try.prog 27 = .slice 48 := by kernel_rfl
theorem sz_27 : szT Try.prog 27 = 1 := by kernel_rfl
theorem kd_28 : kdT Try.prog 28 = .slice 3 := by kernel_rfl
theorem sz_28 : szT Try.prog 28 = 1 := by kernel_rfl
theorem ze_28 : zeroT Try.prog 28 = some [.lit (.slice none 0 0)] := by kernel_rfl
theorem kd_30 : kdT Try.prog 30 = .struct := by kernel_rfl
theorem sz_30 : szT Try.prog 30 = 5 := by kernel_rfl
theorem ze_30 : zeroT Try.prog 30 = some [.int .i64 0, .int .i64 0, .int .i64 0, .lit (.slice none 0 0), .lit (.slice none 0 0)] := by kernel_rfl
theorem pl_30 : placesT Try.prog 30 = some [(0, 1), (1, 1), (2, 1), (3, 1), (4, 1)] := by kernel_rfl
theorem fl_30_0 : fldT Try.prog 30 0 = some (0, 3) := by kernel_rfl
theorem fl_30_1 : fldT Try.prog 30 1 = some (1, 3) := by kernel_rfl
theorem fl_30_2 : fldT Try.prog 30 2 = some (2, 3) := by kernel_rfl
theorem fl_30_3 : fldT Try.prog 30 3 = some (3, 27) := by kernel_rfl
theorem fl_30_4 : fldT Try.prog 30 4 = some (4, 28) := by kernel_rfl
theorem kd_34 : kdT Try.prog 34 = .slice 5 := by kernel_rfl
theorem sz_34 : szT Try.prog 34 = 1 := by kernel_rfl
theorem kd_36 : kdT Try.prog 36 = .struct := by kernel_rfl
theorem sz_36 : szT Try.prog 36 = 5 := by kernel_rfl
theorem ze_36 : zeroT Try.prog 36 = some [.int .i64 0, .int .i64 0, .int .i64 0, .lit (.slice none 0 0), .lit (.slice none 0 0)] := by kernel_rfl
theorem pl_36 : placesT Try.prog 36 = some [(0, 1), (1, 1), (2, 1), (3, 1), (4, 1)] := by kernel_rfl
theorem fl_36_0 : fldT Try.prog 36 0 = some (0, 3) := by kernel_rfl
theorem fl_36_1 : fldT Try.prog 36 1 = some (1, 3) := by kernel_rfl
theorem fl_36_2 : fldT Try.prog 36 2 = some (2, 3) := by kernel_rfl
theorem fl_36_3 : fldT Try.prog 36 3 = some (3, 28) := by kernel_rfl
theorem fl_36_4 : fldT Try.prog 36 4 = some (4, 34) := by kernel_rfl
theorem kd_38 : kdT Try.prog 38 = .struct := by kernel_rfl
theorem sz_38 : szT Try.prog 38 = 10 := by kernel_rfl
theorem fl_38_0 : fldT Try.prog 38 0 = some (0, 5) := by kernel_rfl
theorem fl_38_1 : fldT Try.prog 38 1 = some (1, 3) := by kernel_rfl
theorem fl_38_2 : fldT Try.prog 38 2 = some (2, 3) := by kernel_rfl
theorem fl_38_3 : fldT Try.prog 38 3 = some (3, 3) := by kernel_rfl
theorem fl_38_4 : fldT Try.prog 38 4 = some (4, 4) := by kernel_rfl
theorem fl_38_5 : fldT Try.prog 38 5 = some (5, 36) := by kernel_rfl
theorem kd_42 : kdT Try.prog 42 = .slice 46 := by kernel_rfl
theorem kd_46 : kdT Try.prog 46 = .int .u16 := by kernel_rfl
theorem sz_46 : szT Try.prog 46 = 1 := by kernel_rfl
theorem kd_48 : kdT Try.prog 48 = .struct := by kernel_rfl
theorem sz_48 : szT Try.prog 48 = 8 := by kernel_rfl
theorem by_48 : bytesT Try.prog 48 = 96 := by kernel_rfl
theorem ze_48 : zeroT Try.prog 48 = some [.int .i64 0, .int .i64 0, .int .i64 0, .int .i64 0, .int .i64 0, .int .i64 0, .lit (.slice none 0 0), .lit (.slice none 0 0)] := by kernel_rfl
theorem pl_48 : placesT Try.prog 48 = some [(0, 1), (1, 1), (2, 1), (3, 5)] := by kernel_rfl
theorem fl_48_0 : fldT Try.prog 48 0 = some (0, 3) := by kernel_rfl
theorem fl_48_1 : fldT Try.prog 48 1 = some (1, 3) := by kernel_rfl
theorem fl_48_2 : fldT Try.prog 48 2 = some (2, 3) := by kernel_rfl
theorem fl_48_3 : fldT Try.prog 48 3 = some (3, 36) := by kernel_rfl
theorem kd_51 : kdT Try.prog 51 = .array 16 4 := by kernel_rfl
theorem kd_52 : kdT Try.prog 52 = .slice 72 := by kernel_rfl
theorem sz_52 : szT Try.prog 52 = 1 := by kernel_rfl
theorem kd_54 : kdT Try.prog 54 = .struct := by kernel_rfl
theorem sz_54 : szT Try.prog 54 = 21 := by kernel_rfl
theorem ze_54 : zeroT Try.prog 54 = some [.bool false, .int .i64 0, .int .i64 0, .int .i64 0, .bool false, .bool false, .bool false, .bool false, .bool false, .bool false, .bool false, .bool false, .bool false, .bool false, .bool false, .bool false, .bool false, .bool false, .bool false, .bool false, .lit (.slice none 0 0)] := by kernel_rfl
theorem pl_54 : placesT Try.prog 54 = some [(0, 1), (1, 1), (2, 1), (3, 1), (4, 16), (20, 1)] := by kernel_rfl
theorem fl_54_0 : fldT Try.prog 54 0 = some (0, 4) := by kernel_rfl
theorem fl_54_1 : fldT Try.prog 54 1 = some (1, 3) := by kernel_rfl
theorem fl_54_2 : fldT Try.prog 54 2 = some (2, 3) := by kernel_rfl
theorem fl_54_3 : fldT Try.prog 54 3 = some (3, 3) := by kernel_rfl
theorem fl_54_4 : fldT Try.prog 54 4 = some (4, 51) := by kernel_rfl
theorem fl_54_5 : fldT Try.prog 54 5 = some (20, 52) := by kernel_rfl
theorem kd_72 : kdT Try.prog 72 = .struct := by kernel_rfl
theorem sz_72 : szT Try.prog 72 = 8 := by kernel_rfl
theorem by_72 : bytesT Try.prog 72 = 96 := by kernel_rfl
theorem ze_72 : zeroT Try.prog 72 = some [.int .i64 0, .int .i64 0, .int .i64 0, .int .i64 0, .int .i64 0, .int .i64 0, .lit (.slice none 0 0), .lit (.slice none 0 0)] := by kernel_rfl
theorem pl_72 : placesT Try.prog 72 = some [(0, 1), (1, 1), (2, 1), (3, 5)] := by kernel_rfl
theorem fl_72_0 : fldT Try.prog 72 0 = some (0, 3) := by kernel_rfl
theorem fl_72_1 : fldT Try.prog 72 1 = some (1, 3) := by kernel_rfl
theorem fl_72_2 : fldT Try.prog 72 2 = some (2, 3) := by kernel_rfl
theorem fl_72_3 : fldT Try.prog 72 3 = some (3, 36) := by kernel_rfl
theorem kd_84 : kdT Try.prog 84 = .ptr := by kernel_rfl
theorem kd_89 : kdT Try.prog 89 = .int .u64 := by kernel_rfl
theorem kd_109 : kdT Try.prog 109 = .struct := by kernel_rfl
theorem sz_109 : szT Try.prog 109 = 5 := by kernel_rfl
theorem ze_109 : zeroT Try.prog 109 = some [.str [], .int .i64 0, .bool false, .int .i64 0, .int .i64 0] := by kernel_rfl
theorem pl_109 : placesT Try.prog 109 = some [(0, 1), (1, 1), (2, 1), (3, 1), (4, 1)] := by kernel_rfl
theorem fl_109_1 : fldT Try.prog 109 1 = some (1, 3) := by kernel_rfl
theorem fl_109_2 : fldT Try.prog 109 2 = some (2, 4) := by kernel_rfl
theorem kd_115 : kdT Try.prog 115 = .map 3 4 := by kernel_rfl
theorem kd_119 : kdT Try.prog 119 = .struct := by kernel_rfl
theorem ze_119 : zeroT Try.prog 119 = some [.bool false, .lit (.slice none 0 0)] := by kernel_rfl
theorem pl_119 : placesT Try.prog 119 = some [(0, 1), (1, 1)] := by kernel_rfl
theorem fl_119_0 : fldT Try.prog 119 0 = some (0, 4) := by kernel_rfl
theorem fl_119_1 : fldT Try.prog 119 1 = some (1, 34) := by kernel_rfl
theorem kd_136 : kdT Try.prog 136 = .array 29 109 := by kernel_rfl
theorem sz_136 : szT Try.prog 136 = 145 := by kernel_rfl
theorem ze_136 : zeroT Try.prog 136 = some [.str [], .int .i64 0, .bool false, .int .i64 0, .int .i64 0, .str [], .int .i64 0, .bool false, .int .i64 0, .int .i64 0, .str [], .int .i64 0, .bool false, .int .i64 0, .int .i64 0, .str [], .int .i64 0, .bool false, .int .i64 0, .int .i64 0, .str [], .int .i64 0, .bool false, .int .i64 0, .int .i64 0, .str [], .int .i64 0, .bool false, .int .i64 0, .int .i64 0, .str [], .int .i64 0, .bool false, .int .i64 0, .int .i64 0, .str [], .int .i64 0, .bool false, .int .i64 0, .int .i64 0, .str [], .int .i64 0, .bool false, .int .i64 0, .int .i64 0, .str [], .int .i64 0, .bool false, .int .i64 0, .int .i64 0, .str [], .int .i64 0, .bool false, .int .i64 0, .int .i64 0, .str [], .int .i64 0, .bool false, .int .i64 0, .int .i64 0, .str [], .int .i64 0, .bool false, .int .i64 0, .int .i64 0, .str [], .int .i64 0, .bool false, .int .i64 0, .int .i64 0, .str [], .int .i64 0, .bool false, .int .i64 0, .int .i64 0, .str [], .int .i64 0, .bool false, .int .i64 0, .int .i64 0, .str [], .int .i64 0, .bool false, .int .i64 0, .int .i64 0, .str [], .int .i64 0, .bool false, .int .i64 0, .int .i64 0, .str [], .int .i64 0, .bool false, .int .i64 0, .int .i64 0, .str [], .int .i64 0, .bool false, .int .i64 0, .int .i64 0, .str [], .int .i64 0, .bool false, .int .i64 0, .int .i64 0, .str [], .int .i64 0, .bool false, .int .i64 0, .int .i64 0, .str [], .int .i64 0, .bool false, .int .i64 0, .int .i64 0, .str [], .int .i64 0, .bool false, .int .i64 0, .int .i64 0, .str [], .int .i64 0, .bool false, .int .i64 0, .int .i64 0, .str [], .int .i64 0, .bool false, .int .i64 0, .int .i64 0, .str [], .int .i64 0, .bool false, .int .i64 0, .int .i64 0, .str [], .int .i64 0, .bool false, .int .i64 0, .int .i64 0, .str [], .int .i64 0, .bool false, .int .i64 0, .int .i64 0] := by kernel_rfl
theorem kd_142 : kdT Try.prog 142 = .slice 28 := by kernel_rfl
instance : ETab := ⟨fun t => if t = 28 then some .int else if t = 34 then some .byte else if t = 142 then some .ints else if t = 27 then some .ent else if t = 52 then some .ent else if t = 22 then some .stp else if t = 42 then some .u16 else none, fun t => if t = 115 then some (.int, .bool) else none⟩
theorem zv_4 : zeroV Try.prog 4 = some (.bool false) := by kernel_rfl
theorem mixed : Try.prog.follows .mixedOrders = true := by kernel_rfl
theorem fn_3 : Try.prog.funcs[3]? = some Try.f3 := by kernel_rfl -- spacecraft/spacecraftlaw42.SchedulePlays
theorem fn_4 : Try.prog.funcs[4]? = some Try.f4 := by kernel_rfl -- spacecraft/spacecraftlaw42.ScheduleOrders
theorem fn_5 : Try.prog.funcs[5]? = some Try.f5 := by kernel_rfl -- spacecraft/spacecraftlaw42.ScheduleClones
theorem fn_6 : Try.prog.funcs[6]? = some Try.f6 := by kernel_rfl -- spacecraft/spacecraftlaw42.ScheduleRestores
theorem fn_7 : Try.prog.funcs[7]? = some Try.f7 := by kernel_rfl -- spacecraft/spacecraftlaw42.ScheduleAgain
theorem fn_10 : Try.prog.funcs[10]? = some Try.f10 := by kernel_rfl -- spacecraft/schedule.New
theorem fn_11 : Try.prog.funcs[11]? = some Try.f11 := by kernel_rfl -- spacecraft/spacecraftlaw42.small
theorem fn_12 : Try.prog.funcs[12]? = some Try.f12 := by kernel_rfl -- spacecraft/spacecraftlaw42.lives
theorem fn_13 : Try.prog.funcs[13]? = some Try.f13 := by kernel_rfl -- spacecraft/spacecraftref42.New
theorem fn_14 : Try.prog.funcs[14]? = some Try.f14 := by kernel_rfl -- spacecraft/spacecraftlaw42.step
theorem fn_15 : Try.prog.funcs[15]? = some Try.f15 := by kernel_rfl -- spacecraft/spacecraftref42.Same
theorem fn_16 : Try.prog.funcs[16]? = some Try.f16 := by kernel_rfl -- (*spacecraft/schedule.Schedule).Entries
theorem fn_17 : Try.prog.funcs[17]? = some Try.f17 := by kernel_rfl -- (*spacecraft/schedule.Schedule).Insert
theorem fn_18 : Try.prog.funcs[18]? = some Try.f18 := by kernel_rfl -- (*spacecraft/schedule.Schedule).Due
theorem fn_19 : Try.prog.funcs[19]? = some Try.f19 := by kernel_rfl -- (*spacecraft/schedule.Schedule).Delete
theorem fn_20 : Try.prog.funcs[20]? = some Try.f20 := by kernel_rfl -- (*spacecraft/schedule.Schedule).Shift
theorem fn_21 : Try.prog.funcs[21]? = some Try.f21 := by kernel_rfl -- (*spacecraft/schedule.Schedule).Enable
theorem fn_22 : Try.prog.funcs[22]? = some Try.f22 := by kernel_rfl -- (*spacecraft/schedule.Schedule).Clone
theorem fn_23 : Try.prog.funcs[23]? = some Try.f23 := by kernel_rfl -- spacecraft/spacecraftref42.Light
theorem fn_24 : Try.prog.funcs[24]? = some Try.f24 := by kernel_rfl -- spacecraft/schedule.Restore
theorem fn_25 : Try.prog.funcs[25]? = some Try.f25 := by kernel_rfl -- spacecraft/spacecraftref42.Restore
theorem fn_26 : Try.prog.funcs[26]? = some Try.f26 := by kernel_rfl -- spacecraft/schedule.Encode
theorem fn_30 : Try.prog.funcs[30]? = some Try.f30 := by kernel_rfl -- (*spacecraft/spacecraftref42.Schedule).Insert
theorem fn_31 : Try.prog.funcs[31]? = some Try.f31 := by kernel_rfl -- (*spacecraft/spacecraftref42.Schedule).Shift
theorem fn_32 : Try.prog.funcs[32]? = some Try.f32 := by kernel_rfl -- (*spacecraft/spacecraftref42.Schedule).Enable
theorem fn_33 : Try.prog.funcs[33]? = some Try.f33 := by kernel_rfl -- (*spacecraft/spacecraftref42.Schedule).Delete
theorem fn_34 : Try.prog.funcs[34]? = some Try.f34 := by kernel_rfl -- (*spacecraft/spacecraftref42.Schedule).Due
theorem fn_35 : Try.prog.funcs[35]? = some Try.f35 := by kernel_rfl -- spacecraft/spacecraftref39.Same
theorem fn_36 : Try.prog.funcs[36]? = some Try.f36 := by kernel_rfl -- (*spacecraft/schedule.Schedule).ok
theorem fn_37 : Try.prog.funcs[37]? = some Try.f37 := by kernel_rfl -- spacecraft/schedule.clone
theorem fn_38 : Try.prog.funcs[38]? = some Try.f38 := by kernel_rfl -- (*spacecraft/schedule.Schedule).pass
theorem fn_39 : Try.prog.funcs[39]? = some Try.f39 := by kernel_rfl -- spacecraft/schedule.group
theorem fn_40 : Try.prog.funcs[40]? = some Try.f40 := by kernel_rfl -- spacecraft/command.Valid
theorem fn_41 : Try.prog.funcs[41]? = some Try.f41 := by kernel_rfl -- (*spacecraft/schedule.Schedule).sort
theorem fn_42 : Try.prog.funcs[42]? = some Try.f42 := by kernel_rfl -- slices.Delete[[]spacecraft/schedule.item,spacecraft/schedule.item]
theorem fn_43 : Try.prog.funcs[43]? = some Try.f43 := by kernel_rfl -- slices.IndexFunc[[]spacecraft/schedule.item,spacecraft/schedule.item]
theorem fn_44 : Try.prog.funcs[44]? = some Try.f44 := by kernel_rfl -- (*spacecraft/schedule.Schedule).Delete$1
theorem fn_45 : Try.prog.funcs[45]? = some Try.f45 := by kernel_rfl -- slices.Clone[[]spacecraft/schedule.item,spacecraft/schedule.item]
theorem fn_46 : Try.prog.funcs[46]? = some Try.f46 := by kernel_rfl -- spacecraft/schedule.check
theorem fn_47 : Try.prog.funcs[47]? = some Try.f47 := by kernel_rfl -- spacecraft/spacecraftref42.check
theorem fn_48 : Try.prog.funcs[48]? = some Try.f48 := by kernel_rfl -- spacecraft/spacecraftref42.insert
theorem fn_49 : Try.prog.funcs[49]? = some Try.f49 := by kernel_rfl -- spacecraft/octets.NewWriter
theorem fn_50 : Try.prog.funcs[50]? = some Try.f50 := by kernel_rfl -- (*spacecraft/octets.Writer).Int
theorem fn_51 : Try.prog.funcs[51]? = some Try.f51 := by kernel_rfl -- spacecraft/command.Encode
theorem fn_52 : Try.prog.funcs[52]? = some Try.f52 := by kernel_rfl -- (*spacecraft/octets.Writer).Uint
theorem fn_53 : Try.prog.funcs[53]? = some Try.f53 := by kernel_rfl -- (*spacecraft/octets.Writer).Blob
theorem fn_54 : Try.prog.funcs[54]? = some Try.f54 := by kernel_rfl -- (*spacecraft/octets.Writer).Bytes
theorem fn_71 : Try.prog.funcs[71]? = some Try.f71 := by kernel_rfl -- (*spacecraft/spacecraftref42.Schedule).clock
theorem fn_72 : Try.prog.funcs[72]? = some Try.f72 := by kernel_rfl -- spacecraft/spacecraftref39.Valid
theorem fn_73 : Try.prog.funcs[73]? = some Try.f73 := by kernel_rfl -- (*spacecraft/spacecraftref42.Schedule).off
theorem fn_74 : Try.prog.funcs[74]? = some Try.f74 := by kernel_rfl -- slices.Clone[[]int,int]
theorem fn_75 : Try.prog.funcs[75]? = some Try.f75 := by kernel_rfl -- slices.Clone[[]byte,byte]
theorem fn_76 : Try.prog.funcs[76]? = some Try.f76 := by kernel_rfl -- spacecraft/command.find
theorem fn_77 : Try.prog.funcs[77]? = some Try.f77 := by kernel_rfl -- slices.SortFunc[[]spacecraft/schedule.item,spacecraft/schedule.item]
theorem fn_78 : Try.prog.funcs[78]? = some Try.f78 := by kernel_rfl -- (spacecraft/schedule.item).against
theorem fn_79 : Try.prog.funcs[79]? = some Try.f79 := by kernel_rfl -- spacecraft/schedule.valid
theorem fn_80 : Try.prog.funcs[80]? = some Try.f80 := by kernel_rfl -- spacecraft/spacecraftref42.Valid
theorem fn_81 : Try.prog.funcs[81]? = some Try.f81 := by kernel_rfl -- spacecraft/spacecraftref42.before
theorem fn_82 : Try.prog.funcs[82]? = some Try.f82 := by kernel_rfl -- (*spacecraft/octets.Writer).ok
theorem fn_83 : Try.prog.funcs[83]? = some Try.f83 := by kernel_rfl -- spacecraft/octets.zigzag
theorem fn_95 : Try.prog.funcs[95]? = some Try.f95 := by kernel_rfl -- spacecraft/spacecraftref39.row
theorem fn_96 : Try.prog.funcs[96]? = some Try.f96 := by kernel_rfl -- spacecraft/command.table
theorem fn_99 : Try.prog.funcs[99]? = some Try.f99 := by kernel_rfl -- cmp.Or[int]
theorem fn_100 : Try.prog.funcs[100]? = some Try.f100 := by kernel_rfl -- cmp.Compare[int]
theorem fn_111 : Try.prog.funcs[111]? = some Try.f111 := by kernel_rfl -- cmp.isNaN[int]
attribute [go_sem] kd_3 sz_3 by_3 ze_3 kd_4 sz_4 kd_5 sz_5 by_5 ze_5 kd_9 kd_22 kd_23 kd_27 sz_27 kd_28 sz_28 ze_28 kd_30 sz_30 ze_30 pl_30 fl_30_0 fl_30_1 fl_30_2 fl_30_3 fl_30_4 kd_34 sz_34 kd_36 sz_36 ze_36 pl_36 fl_36_0 fl_36_1 fl_36_2 fl_36_3 fl_36_4 kd_38 sz_38 fl_38_0 fl_38_1 fl_38_2 fl_38_3 fl_38_4 fl_38_5 kd_42 kd_46 sz_46 kd_48 sz_48 by_48 ze_48 pl_48 fl_48_0 fl_48_1 fl_48_2 fl_48_3 kd_51 kd_52 sz_52 kd_54 sz_54 ze_54 pl_54 fl_54_0 fl_54_1 fl_54_2 fl_54_3 fl_54_4 fl_54_5 kd_72 sz_72 by_72 ze_72 pl_72 fl_72_0 fl_72_1 fl_72_2 fl_72_3 kd_84 kd_89 kd_109 sz_109 ze_109 pl_109 fl_109_1 fl_109_2 kd_115 kd_119 ze_119 pl_119 fl_119_0 fl_119_1 kd_136 sz_136 ze_136 kd_142 zv_4
end Go.V

set_option maxRecDepth 100000
set_option maxHeartbeats 1000000
namespace Go.V
open Go.Proofs
/-- a Writer: what was appended -/
def Wr (xs : List UInt8) : List Ch := [.cells [.bool true, .sl 1 .byte 0 xs.length], .rows .byte xs]
attribute [go_sem] Wr
theorem b_wok (xs : List UInt8) : DoesK Try.prog 1 82 [.ptr 0 0] [.pack (Wr xs)] (EndF 1 (.bool true) ([.pack (Wr xs)] ++ [])) := by
  refine DoesK.close ?_
  refine w_body (rs := [.tmp 2]) (tm := [.ptr 0 0, .any, .any, .any, .any, .any, .any, .any, .any, .any, .any]) fn_82 rfl rfl rfl rfl fun R hR => ?_
  (all_goals (try ((first | (with_reducible refine wp_id ?_) | (with_reducible refine does_id ?_) | (with_reducible refine ops_id ?_)); refine walk ?_; (repeat' (first | exact trivial | with_reducible refine And.intro ?_ ?_)); all_goals (repeat (first | (with_reducible refine ImpB.mk fun hb => ?_) | (with_reducible refine ImpK.mk fun hK => ?_) | (with_reducible refine ImpF.mk fun hF => ?_) | (with_reducible refine ImpQ.mk fun hp => ?_) | (with_reducible refine AllE.mk fun p => ?_) | (with_reducible refine AllR.mk fun rest => ?_) | (with_reducible refine AllK.mk fun K => ?_))))); repeat' (with_reducible refine And.intro ?_ ?_))
  (focus (refine ⟨_, _, gh_close (t := 0) (ts := [1]) (l := Wr xs) ⟨⟨_, _, rfl⟩, ?_, by simp⟩, [0], rfl, ?_⟩; all_goals (refine ⟨?_, ?_, ?_⟩ <;> simp only [go_sem, List.range, List.range.loop, List.nodup_cons, List.nodup_nil, List.mem_cons, List.not_mem_nil, or_false, or_self, decide_true, decide_false, Int.reduceToNat, Nat.min_eq_left, Nat.min_eq_right, Int.reducePow, Nat.reducePow, Int.reduceLE, Int.reduceLT, Int.reduceMul, Int.reduceAdd, Int.reduceSub, Int.reduceNeg, Bool.not_true, Bool.not_false, Bool.not_not, ↓reduceIte, Nat.reduceAdd, Nat.reduceSub, Nat.reduceMul, Nat.reduceEqDiff, reduceCtorEq, Nat.reduceLT, Nat.reduceLeDiff, Nat.reduceGT]); (try any_goals (refine ⟨?_, ?_⟩)); (try any_goals (with_reducible rfl))))
theorem c_wok {h : List Ch} {K : KT} {t : Nat} {xs : List UInt8} (H : K (.bool true) h) (o : hth h t = .pack (Wr xs)) : Does Try.prog 82 [.ptr t 0] h K :=
  frame_look (b_wok xs) o (by simp) (fitC_pack _) (br_cons (br_ptr rfl) br_nil) (.inl rfl) (fun _ => rfl) rfl H
abbrev i_wok := Ctr.mk (i := 0) (g := 82) @c_wok
attribute [instance] i_wok
theorem b_zz (n : Int) (hn : I64 n) : DoesK Try.prog 0 83 [.int .i64 n] [] (EndF 0 (.int .u64 (zz n)) []) := by
  refine DoesK.close ?_
  refine w_body (rs := [.tmp 2]) (tm := [.int .i64 n, .any, .any, .any, .any, .any, .any, .any, .any, .any]) fn_83 rfl rfl rfl rfl fun R hR => ?_
  (all_goals (try ((first | (with_reducible refine wp_id ?_) | (with_reducible refine does_id ?_) | (with_reducible refine ops_id ?_)); refine walk ?_; (repeat' (first | exact trivial | with_reducible refine And.intro ?_ ?_)); all_goals (repeat (first | (with_reducible refine ImpB.mk fun hb => ?_) | (with_reducible refine ImpK.mk fun hK => ?_) | (with_reducible refine ImpF.mk fun hF => ?_) | (with_reducible refine ImpQ.mk fun hp => ?_) | (with_reducible refine AllE.mk fun p => ?_) | (with_reducible refine AllR.mk fun rest => ?_) | (with_reducible refine AllK.mk fun K => ?_))))); repeat' (with_reducible refine And.intro ?_ ?_))
  (focus (refine ⟨_, _, Gh.refl, [], rfl, ?_⟩; (refine ⟨?_, ?_, ?_⟩ <;> simp only [go_sem, List.range, List.range.loop, List.nodup_cons, List.nodup_nil, List.mem_cons, List.not_mem_nil, or_false, or_self, decide_true, decide_false, Int.reduceToNat, Nat.min_eq_left, Nat.min_eq_right, Int.reducePow, Nat.reducePow, Int.reduceLE, Int.reduceLT, Int.reduceMul, Int.reduceAdd, Int.reduceSub, Int.reduceNeg, Bool.not_true, Bool.not_false, Bool.not_not, ↓reduceIte, Nat.reduceAdd, Nat.reduceSub, Nat.reduceMul, Nat.reduceEqDiff, reduceCtorEq, Nat.reduceLT, Nat.reduceLeDiff, Nat.reduceGT]); (try any_goals (refine ⟨?_, ?_⟩)); (try any_goals (with_reducible rfl))))
  rw [zz_bits n hn]
theorem c_zz {h : List Ch} {K : KT} {n : Int} (H : K (.int .u64 (zz n)) h) (s1 : I64 n) : Does Try.prog 83 [.int .i64 n] h K :=
  frame_pure (b_zz n s1) (br_cons br_int br_nil) (.inl rfl) (fun _ => rfl) H
abbrev i_zz := Ctr.mk (i := 0) (g := 83) @c_zz
attribute [instance] i_zz
theorem b_newW : DoesK Try.prog 0 49 [] [] (EndF 0 (.ptr 0 0) [.pack (Wr [])]) := by
  refine DoesK.close ?_
  refine w_body (rs := [.tmp 0]) (tm := [.any, .any, .any]) fn_49 rfl rfl rfl rfl fun R hR => ?_
  (all_goals (try ((first | (with_reducible refine wp_id ?_) | (with_reducible refine does_id ?_) | (with_reducible refine ops_id ?_)); refine walk ?_; (repeat' (first | exact trivial | with_reducible refine And.intro ?_ ?_)); all_goals (repeat (first | (with_reducible refine ImpB.mk fun hb => ?_) | (with_reducible refine ImpK.mk fun hK => ?_) | (with_reducible refine ImpF.mk fun hF => ?_) | (with_reducible refine ImpQ.mk fun hp => ?_) | (with_reducible refine AllE.mk fun p => ?_) | (with_reducible refine AllR.mk fun rest => ?_) | (with_reducible refine AllK.mk fun K => ?_))))); repeat' (with_reducible refine And.intro ?_ ?_))
  refine ⟨_, _, (gh_adoptC (t := 0) (i := 1) (vs := [.bool true, .lit (.slice none 0 0)]) .byte rfl trivial).trans (gh_close (t := 0) (ts := [1]) (l := Wr []) ⟨⟨_, _, rfl⟩, ?fh, by simp⟩), [0], rfl, ?ft⟩
  case ft => (refine ⟨?_, ?_, ?_⟩ <;> simp only [go_sem, List.range, List.range.loop, List.nodup_cons, List.nodup_nil, List.mem_cons, List.not_mem_nil, or_false, or_self, decide_true, decide_false, Int.reduceToNat, Nat.min_eq_left, Nat.min_eq_right, Int.reducePow, Nat.reducePow, Int.reduceLE, Int.reduceLT, Int.reduceMul, Int.reduceAdd, Int.reduceSub, Int.reduceNeg, Bool.not_true, Bool.not_false, Bool.not_not, ↓reduceIte, Nat.reduceAdd, Nat.reduceSub, Nat.reduceMul, Nat.reduceEqDiff, reduceCtorEq, Nat.reduceLT, Nat.reduceLeDiff, Nat.reduceGT])
  case fh => simp only [go_sem, decide_true, decide_false, Int.reduceToNat, Nat.min_eq_left, Nat.min_eq_right, Int.reducePow, Nat.reducePow, Int.reduceLE, Int.reduceLT, Int.reduceMul, Int.reduceAdd, Int.reduceSub, Int.reduceNeg, Bool.not_true, Bool.not_false, Bool.not_not, ↓reduceIte, Nat.reduceAdd, Nat.reduceSub, Nat.reduceMul, Nat.reduceEqDiff, reduceCtorEq, Nat.reduceLT, Nat.reduceLeDiff, Nat.reduceGT]
theorem c_newW {h : List Ch} {K : KT} (H : K (.ptr h.length 0) (h ++ [.pack (Wr [])])) : Does Try.prog 49 [] h K :=
  frame_new b_newW br_nil (.inl rfl) (fun _ => rfl) rfl H
abbrev i_newW := Ctr.mk (i := 0) (g := 49) @c_newW
attribute [instance] i_newW
theorem b_wint (xs : List UInt8) (n : Int) (hn : I64 n) (hl : xs.length ≤ 1099511627776) : DoesK Try.prog 1 50 [.ptr 0 0, .int .i64 n] [.pack (Wr xs)] (EndF 1 (.ptr 0 0) ([.pack (Wr (xs ++ encI n))] ++ [])) := by
  refine DoesK.close ?_
  refine w_body (rs := [.tmp 4]) (tm := [.ptr 0 0, .int .i64 n, .any, .any, .any, .any, .any, .any, .any, .any, .any, .any, .any, .any, .any, .any, .any, .any, .any, .any, .any, .any, .any, .any, .any, .any, .any, .any, .any, .any, .any, .any, .any, .any, .any, .any, .any, .any, .any]) fn_50 rfl rfl rfl rfl fun R hR => ?_
  (all_goals (try ((first | (with_reducible refine wp_id ?_) | (with_reducible refine does_id ?_) | (with_reducible refine ops_id ?_)); refine walk ?_; (repeat' (first | exact trivial | with_reducible refine And.intro ?_ ?_)); all_goals (repeat (first | (with_reducible refine ImpB.mk fun hb => ?_) | (with_reducible refine ImpK.mk fun hK => ?_) | (with_reducible refine ImpF.mk fun hF => ?_) | (with_reducible refine ImpQ.mk fun hp => ?_) | (with_reducible refine AllE.mk fun p => ?_) | (with_reducible refine AllR.mk fun rest => ?_) | (with_reducible refine AllK.mk fun K => ?_))))); repeat' (with_reducible refine And.intro ?_ ?_))
  any_goals ((try (refine w_seq fun K hK => ?_)); (try (refine w_block ?_)); refine w_loop (A := List UInt8 × Nat) (fun p => p.1 ++ vint p.2 = encI n) (fun p => p.2) (fun p => [(5, .int .u64 p.2)]) (fun p => [(0, .pack (Wr (xs ++ p.1)))]) (([], zz n)) (ws := ?ws1) (tk := ?tk1) ?hw1 ?ht1 ?hi ?h0 ?LH1; (case hw1 => simp only [go_sem, decide_true, decide_false, Int.reduceToNat, Nat.min_eq_left, Nat.min_eq_right, Int.reducePow, Nat.reducePow, Int.reduceLE, Int.reduceLT, Int.reduceMul, Int.reduceAdd, Int.reduceSub, Int.reduceNeg, Bool.not_true, Bool.not_false, Bool.not_not, ↓reduceIte, Nat.reduceAdd, Nat.reduceSub, Nat.reduceMul, Nat.reduceEqDiff, reduceCtorEq, Nat.reduceLT, Nat.reduceLeDiff, Nat.reduceGT]; exact rfl); (case ht1 => simp only [go_sem, decide_true, decide_false, Int.reduceToNat, Nat.min_eq_left, Nat.min_eq_right, Int.reducePow, Nat.reducePow, Int.reduceLE, Int.reduceLT, Int.reduceMul, Int.reduceAdd, Int.reduceSub, Int.reduceNeg, Bool.not_true, Bool.not_false, Bool.not_not, ↓reduceIte, Nat.reduceAdd, Nat.reduceSub, Nat.reduceMul, Nat.reduceEqDiff, reduceCtorEq, Nat.reduceLT, Nat.reduceLeDiff, Nat.reduceGT]; exact rfl); (case' LH1 => rintro ⟨pre, z⟩ E t hx hE ht; simp only [go_sem] at ht; subst ht; simp only [go_sem]; try dsimp only at hx))
  (all_goals (try ((first | (with_reducible refine wp_id ?_) | (with_reducible refine does_id ?_) | (with_reducible refine ops_id ?_)); refine walk ?_; (repeat' (first | exact trivial | with_reducible refine And.intro ?_ ?_)); all_goals (repeat (first | (with_reducible refine ImpB.mk fun hb => ?_) | (with_reducible refine ImpK.mk fun hK => ?_) | (with_reducible refine ImpF.mk fun hF => ?_) | (with_reducible refine ImpQ.mk fun hp => ?_) | (with_reducible refine AllE.mk fun p => ?_) | (with_reducible refine AllR.mk fun rest => ?_) | (with_reducible refine AllK.mk fun K => ?_))))); repeat' (with_reducible refine And.intro ?_ ?_))
  (all_goals (repeat (first | (clear hK; clear K) | (clear hE; clear E) | (clear hF; clear F) | (clear hR; clear R))); all_goals (try simp only [decide_eq_true_eq, decide_eq_false_iff_not, Bool.not_eq_true', Bool.not_eq_false', Bool.not_eq_true, Bool.not_eq_false, decide_not, decide_true, decide_false, Bool.decide_and, Bool.and_eq_true, Bool.or_eq_true, Bool.and_eq_false_imp, Decidable.not_not] at *); all_goals (try omega); all_goals (try (first | exact u8w_lo _ | exact u8w_hi _ | exact (bits8 _ _ _).1 | exact (bits8 _ _ _).2 | exact Int.natCast_nonneg _ | exact u8_ltI _)))
  case hi => rfl
  case h0 => (focus (refine ⟨_, _, Gh.refl, [0], rfl, ?_⟩; (refine ⟨?_, ?_, ?_⟩ <;> simp only [go_sem, List.range, List.range.loop, List.nodup_cons, List.nodup_nil, List.mem_cons, List.not_mem_nil, or_false, or_self, decide_true, decide_false, Int.reduceToNat, Nat.min_eq_left, Nat.min_eq_right, Int.reducePow, Nat.reducePow, Int.reduceLE, Int.reduceLT, Int.reduceMul, Int.reduceAdd, Int.reduceSub, Int.reduceNeg, Bool.not_true, Bool.not_false, Bool.not_not, ↓reduceIte, Nat.reduceAdd, Nat.reduceSub, Nat.reduceMul, Nat.reduceEqDiff, reduceCtorEq, Nat.reduceLT, Nat.reduceLeDiff, Nat.reduceGT]); (try any_goals (refine ⟨?_, ?_⟩)); (try any_goals (with_reducible rfl))))
  all_goals try (first | exact u8w_lo _ | exact u8w_hi _ | exact (bits8 _ _ _).1 | exact (bits8 _ _ _).2 | exact Int.natCast_nonneg _ | exact u8_ltI _)
  all_goals
    have hle := congrArg List.length hx
    have h10 := encI_le n hn
    have hvp := vint_pos z
    simp only [List.length_append] at hle
    try omega
  · rw [or_128_u8 _ (by omega)]
    have hz : ¬ z < 128 := by omega
    rw [vint_big hz] at hx
    refine ⟨(pre ++ [UInt8.ofNat (z % 128 + 128)], z / 128), ⟨by simpa using hx, by dsimp only; omega⟩, ?_⟩
    (focus (refine ⟨_, _, gh_close (t := 0) (ts := [3]) (l := Wr (xs ++ (pre ++ [UInt8.ofNat (z % 128 + 128)]))) ⟨⟨_, _, rfl⟩, ?_, by simp⟩, [0], rfl, ?_⟩; all_goals (refine ⟨?_, ?_, ?_⟩ <;> simp only [go_sem, List.range, List.range.loop, List.nodup_cons, List.nodup_nil, List.mem_cons, List.not_mem_nil, or_false, or_self, decide_true, decide_false, Int.reduceToNat, Nat.min_eq_left, Nat.min_eq_right, Int.reducePow, Nat.reducePow, Int.reduceLE, Int.reduceLT, Int.reduceMul, Int.reduceAdd, Int.reduceSub, Int.reduceNeg, Bool.not_true, Bool.not_false, Bool.not_not, ↓reduceIte, Nat.reduceAdd, Nat.reduceSub, Nat.reduceMul, Nat.reduceEqDiff, reduceCtorEq, Nat.reduceLT, Nat.reduceLeDiff, Nat.reduceGT]); (try any_goals (refine ⟨?_, ?_⟩)); (try any_goals (with_reducible rfl))))
    · omega
    · rw [List.append_assoc]
    · rw [Int.fdiv_eq_ediv_of_nonneg _ (by omega)]; omega
  · have hz : z < 128 := by omega
    rw [vint_small hz] at hx
    rw [← hx]
    (focus (refine ⟨_, _, gh_close (t := 0) (ts := [3]) (l := Wr (xs ++ (pre ++ [UInt8.ofNat z]))) ⟨⟨_, _, rfl⟩, ?_, by simp⟩, [0], rfl, ?_⟩; all_goals (refine ⟨?_, ?_, ?_⟩ <;> simp only [go_sem, List.range, List.range.loop, List.nodup_cons, List.nodup_nil, List.mem_cons, List.not_mem_nil, or_false, or_self, decide_true, decide_false, Int.reduceToNat, Nat.min_eq_left, Nat.min_eq_right, Int.reducePow, Nat.reducePow, Int.reduceLE, Int.reduceLT, Int.reduceMul, Int.reduceAdd, Int.reduceSub, Int.reduceNeg, Bool.not_true, Bool.not_false, Bool.not_not, ↓reduceIte, Nat.reduceAdd, Nat.reduceSub, Nat.reduceMul, Nat.reduceEqDiff, reduceCtorEq, Nat.reduceLT, Nat.reduceLeDiff, Nat.reduceGT]); (try any_goals (refine ⟨?_, ?_⟩)); (try any_goals (with_reducible rfl))))
    · omega
    · rw [wrap_u8, show ((z : Int) % 256).toNat = z from by omega]; simp
theorem c_wint {h : List Ch} {K : KT} {t : Nat} {xs : List UInt8} {n : Int} (H : K (.ptr t 0) (h.set t (.pack (Wr (xs ++ encI n))))) (o : hth h t = .pack (Wr xs)) (s1 : I64 n) (s2 : xs.length ≤ 1099511627776) : Does Try.prog 50 [.ptr t 0, .int .i64 n] h K :=
  frame_obj0 (ret' := .ptr t 0) (b_wint xs n s1 s2) o (by simp) (fitC_pack _) (br_cons (br_ptr rfl) (br_cons br_int br_nil)) (.inl rfl) (fun _ => rfl) rfl H
abbrev i_wint := Ctr.mk (i := 0) (g := 50) @c_wint
attribute [instance] i_wint
theorem b_wuint (xs : List UInt8) (n : Nat) (size : Nat) (h1 : 1 ≤ size) (h8 : size ≤ 8) (hl : xs.length ≤ 1099511627776) : DoesK Try.prog 1 52 [.ptr 0 0, .int .u64 n, .int .i64 size] [.pack (Wr xs)] (EndF 1 (.ptr 0 0) ([.pack (Wr (xs ++ be n size))] ++ [])) := by
  refine DoesK.close ?_
  refine w_body (rs := [.tmp 6]) (tm := [.ptr 0 0, .int .u64 n, .int .i64 size, .any, .any, .any, .any, .any, .any, .any, .any, .any, .any, .any, .any, .any, .any, .any, .any, .any, .any, .any, .any, .any, .any, .any, .any, .any, .any, .any, .any, .any, .any, .any, .any, .any, .any, .any, .any]) fn_52 rfl rfl rfl rfl fun R hR => ?_
  (all_goals (try ((first | (with_reducible refine wp_id ?_) | (with_reducible refine does_id ?_) | (with_reducible refine ops_id ?_)); refine walk ?_; (repeat' (first | exact trivial | with_reducible refine And.intro ?_ ?_)); all_goals (repeat (first | (with_reducible refine ImpB.mk fun hb => ?_) | (with_reducible refine ImpK.mk fun hK => ?_) | (with_reducible refine ImpF.mk fun hF => ?_) | (with_reducible refine ImpQ.mk fun hp => ?_) | (with_reducible refine AllE.mk fun p => ?_) | (with_reducible refine AllR.mk fun rest => ?_) | (with_reducible refine AllK.mk fun K => ?_))))); repeat' (with_reducible refine And.intro ?_ ?_))
  (all_goals try (exfalso; (try simp only [decide_eq_true_eq, decide_eq_false_iff_not, Bool.not_eq_true', Bool.not_eq_false', Bool.not_eq_true, Bool.not_eq_false, decide_not, decide_true, decide_false, Bool.decide_and, Bool.and_eq_true, Bool.or_eq_true, Bool.and_eq_false_imp, Decidable.not_not] at *); omega))
  any_goals ((try (refine w_seq fun K hK => ?_)); (try (refine w_block ?_)); refine w_loop (A := List UInt8 × Nat) (fun p => p.1 ++ be n p.2 = be n size ∧ p.2 ≤ size) (fun p => p.2) (fun p => [(7, .int .i64 ((p.2 : Int) - 1))]) (fun p => [(0, .pack (Wr (xs ++ p.1)))]) (([], size)) (ws := ?ws2) (tk := ?tk2) ?hw2 ?ht2 ?hi ?h0 ?LH2; (case hw2 => simp only [go_sem, decide_true, decide_false, Int.reduceToNat, Nat.min_eq_left, Nat.min_eq_right, Int.reducePow, Nat.reducePow, Int.reduceLE, Int.reduceLT, Int.reduceMul, Int.reduceAdd, Int.reduceSub, Int.reduceNeg, Bool.not_true, Bool.not_false, Bool.not_not, ↓reduceIte, Nat.reduceAdd, Nat.reduceSub, Nat.reduceMul, Nat.reduceEqDiff, reduceCtorEq, Nat.reduceLT, Nat.reduceLeDiff, Nat.reduceGT]; exact rfl); (case ht2 => simp only [go_sem, decide_true, decide_false, Int.reduceToNat, Nat.min_eq_left, Nat.min_eq_right, Int.reducePow, Nat.reducePow, Int.reduceLE, Int.reduceLT, Int.reduceMul, Int.reduceAdd, Int.reduceSub, Int.reduceNeg, Bool.not_true, Bool.not_false, Bool.not_not, ↓reduceIte, Nat.reduceAdd, Nat.reduceSub, Nat.reduceMul, Nat.reduceEqDiff, reduceCtorEq, Nat.reduceLT, Nat.reduceLeDiff, Nat.reduceGT]; exact rfl); (case' LH2 => rintro ⟨pre, j⟩ E t hx hE ht; simp only [go_sem] at ht; subst ht; simp only [go_sem]; try dsimp only at hx))
  case' LH2 => refine w_open 0 rfl rfl ?_
  (all_goals (try ((first | (with_reducible refine wp_id ?_) | (with_reducible refine does_id ?_) | (with_reducible refine ops_id ?_)); refine walk ?_; (repeat' (first | exact trivial | with_reducible refine And.intro ?_ ?_)); all_goals (repeat (first | (with_reducible refine ImpB.mk fun hb => ?_) | (with_reducible refine ImpK.mk fun hK => ?_) | (with_reducible refine ImpF.mk fun hF => ?_) | (with_reducible refine ImpQ.mk fun hp => ?_) | (with_reducible refine AllE.mk fun p => ?_) | (with_reducible refine AllR.mk fun rest => ?_) | (with_reducible refine AllK.mk fun K => ?_))))); repeat' (with_reducible refine And.intro ?_ ?_))
  (all_goals (repeat (first | (clear hK; clear K) | (clear hE; clear E) | (clear hF; clear F) | (clear hR; clear R))); all_goals (try simp only [decide_eq_true_eq, decide_eq_false_iff_not, Bool.not_eq_true', Bool.not_eq_false', Bool.not_eq_true, Bool.not_eq_false, decide_not, decide_true, decide_false, Bool.decide_and, Bool.and_eq_true, Bool.or_eq_true, Bool.and_eq_false_imp, Decidable.not_not] at *); all_goals (try omega); all_goals (try (first | exact u8w_lo _ | exact u8w_hi _ | exact (bits8 _ _ _).1 | exact (bits8 _ _ _).2 | exact Int.natCast_nonneg _ | exact u8_ltI _)))
  all_goals try (first | exact u8w_lo _ | exact u8w_hi _ | exact (bits8 _ _ _).1 | exact (bits8 _ _ _).2 | exact Int.natCast_nonneg _ | exact u8_ltI _)
  all_goals
    try have hle := congrArg List.length hx.1
    try simp only [List.length_append, be_len] at *
    try omega
  · obtain ⟨k, rfl⟩ : ∃ k, j = k + 1 := ⟨j - 1, by omega⟩
    have hby : UInt8.ofNat (IntKind.u8.wrap ((n : Int).fdiv (2 ^ min (IntKind.i64.wrap (8 * (((k + 1 : Nat) : Int) - 1))).toNat 64))).toNat = UInt8.ofNat (n / 256 ^ k % 256) := by
      rw [wrap_i64 _ (by omega) (by omega), show 8 * (((k + 1 : Nat) : Int) - 1) = 8 * (k : Int) from by omega]
      rcases be_step n k with h | h
      · rw [h]
      · omega
    rw [hby]
    refine ⟨(pre ++ [UInt8.ofNat (n / 256 ^ k % 256)], k), ⟨⟨by rw [← hx.1]; simp [be], by dsimp only; omega⟩, by dsimp only; omega⟩, ?_⟩
    (focus (refine ⟨_, _, gh_close (t := 0) (ts := [3]) (l := Wr (xs ++ (pre ++ [UInt8.ofNat (n / 256 ^ k % 256)]))) ⟨⟨_, _, rfl⟩, ?_, by simp⟩, [0], rfl, ?_⟩; all_goals (refine ⟨?_, ?_, ?_⟩ <;> simp only [go_sem, List.range, List.range.loop, List.nodup_cons, List.nodup_nil, List.mem_cons, List.not_mem_nil, or_false, or_self, decide_true, decide_false, Int.reduceToNat, Nat.min_eq_left, Nat.min_eq_right, Int.reducePow, Nat.reducePow, Int.reduceLE, Int.reduceLT, Int.reduceMul, Int.reduceAdd, Int.reduceSub, Int.reduceNeg, Bool.not_true, Bool.not_false, Bool.not_not, ↓reduceIte, Nat.reduceAdd, Nat.reduceSub, Nat.reduceMul, Nat.reduceEqDiff, reduceCtorEq, Nat.reduceLT, Nat.reduceLeDiff, Nat.reduceGT]); (try any_goals (refine ⟨?_, ?_⟩)); (try any_goals (with_reducible rfl))))
    all_goals (first | with_reducible rfl | omega | ((simp (disch := omega) only [wrap_i64]); first | done | omega) | (simp only [List.append_assoc, List.cons_append, List.nil_append]; done))
  · rw [wrap_i64 _ (by omega) (by omega)]; omega
  · have hj : j = 0 := by omega
    subst hj
    have hp : pre = be n size := by simpa [be] using hx.1
    subst hp
    (focus (refine ⟨_, _, gh_close (t := 0) (ts := [1]) (l := Wr (xs ++ be n size)) ⟨⟨_, _, rfl⟩, ?_, by simp⟩, [0], rfl, ?_⟩; all_goals (refine ⟨?_, ?_, ?_⟩ <;> simp only [go_sem, List.range, List.range.loop, List.nodup_cons, List.nodup_nil, List.mem_cons, List.not_mem_nil, or_false, or_self, decide_true, decide_false, Int.reduceToNat, Nat.min_eq_left, Nat.min_eq_right, Int.reducePow, Nat.reducePow, Int.reduceLE, Int.reduceLT, Int.reduceMul, Int.reduceAdd, Int.reduceSub, Int.reduceNeg, Bool.not_true, Bool.not_false, Bool.not_not, ↓reduceIte, Nat.reduceAdd, Nat.reduceSub, Nat.reduceMul, Nat.reduceEqDiff, reduceCtorEq, Nat.reduceLT, Nat.reduceLeDiff, Nat.reduceGT]); (try any_goals (refine ⟨?_, ?_⟩)); (try any_goals (with_reducible rfl))))
    all_goals (try simp only [List.length_append, be_len]; try omega)
  · rfl
  · (focus (refine ⟨_, _, Gh.refl, [0], rfl, ?_⟩; (refine ⟨?_, ?_, ?_⟩ <;> simp only [go_sem, List.range, List.range.loop, List.nodup_cons, List.nodup_nil, List.mem_cons, List.not_mem_nil, or_false, or_self, decide_true, decide_false, Int.reduceToNat, Nat.min_eq_left, Nat.min_eq_right, Int.reducePow, Nat.reducePow, Int.reduceLE, Int.reduceLT, Int.reduceMul, Int.reduceAdd, Int.reduceSub, Int.reduceNeg, Bool.not_true, Bool.not_false, Bool.not_not, ↓reduceIte, Nat.reduceAdd, Nat.reduceSub, Nat.reduceMul, Nat.reduceEqDiff, reduceCtorEq, Nat.reduceLT, Nat.reduceLeDiff, Nat.reduceGT]); (try any_goals (refine ⟨?_, ?_⟩)); (try any_goals (with_reducible rfl))))
    (simp (disch := omega) only [wrap_i64])
theorem c_wuint {h : List Ch} {K : KT} {t : Nat} {xs : List UInt8} {n size : Nat} (H : K (.ptr t 0) (h.set t (.pack (Wr (xs ++ be n size))))) (o : hth h t = .pack (Wr xs)) (s1 : 1 ≤ size) (s2 : size ≤ 8) (s3 : xs.length ≤ 1099511627776) : Does Try.prog 52 [.ptr t 0, .int .u64 n, .int .i64 size] h K :=
  frame_obj0 (ret' := .ptr t 0) (b_wuint xs n size s1 s2 s3) o (by simp) (fitC_pack _) (br_cons (br_ptr rfl) (br_cons br_int (br_cons br_int br_nil))) (.inl rfl) (fun _ => rfl) rfl H
theorem b_wblob (xs bs : List UInt8) (hl : xs.length ≤ 1099511627776) (hb : bs.length ≤ 1099511627776) : DoesK Try.prog 1 53 [.ptr 0 0, .ro .byte bs] [.pack (Wr xs)] (EndF 1 (.ptr 0 0) ([.pack (Wr (xs ++ encI bs.length ++ bs))] ++ [])) := by
  refine DoesK.close ?_
  refine w_body (rs := [.tmp 4]) (tm := [.ptr 0 0, .ro .byte bs, .any, .any, .any, .any, .any, .any, .any, .any, .any, .any, .any, .any, .any, .any, .any, .any, .any, .any, .any, .any]) fn_53 rfl rfl rfl rfl fun R hR => ?_
  (all_goals (try ((first | (with_reducible refine wp_id ?_) | (with_reducible refine does_id ?_) | (with_reducible refine ops_id ?_)); refine walk ?_; (repeat' (first | exact trivial | with_reducible refine And.intro ?_ ?_)); all_goals (repeat (first | (with_reducible refine ImpB.mk fun hb => ?_) | (with_reducible refine ImpK.mk fun hK => ?_) | (with_reducible refine ImpF.mk fun hF => ?_) | (with_reducible refine ImpQ.mk fun hp => ?_) | (with_reducible refine AllE.mk fun p => ?_) | (with_reducible refine AllR.mk fun rest => ?_) | (with_reducible refine AllK.mk fun K => ?_))))); repeat' (with_reducible refine And.intro ?_ ?_))
  (all_goals (repeat (first | (clear hK; clear K) | (clear hE; clear E) | (clear hF; clear F) | (clear hR; clear R))); all_goals (try simp only [decide_eq_true_eq, decide_eq_false_iff_not, Bool.not_eq_true', Bool.not_eq_false', Bool.not_eq_true, Bool.not_eq_false, decide_not, decide_true, decide_false, Bool.decide_and, Bool.and_eq_true, Bool.or_eq_true, Bool.and_eq_false_imp, Decidable.not_not] at *); all_goals (try omega); all_goals (try (first | exact u8w_lo _ | exact u8w_hi _ | exact (bits8 _ _ _).1 | exact (bits8 _ _ _).2 | exact Int.natCast_nonneg _ | exact u8_ltI _)))
  · have := encI_le bs.length (by constructor <;> omega); omega
  · (focus (refine ⟨_, _, gh_close (t := 0) (ts := [2]) (l := Wr (xs ++ encI bs.length ++ bs)) ⟨⟨_, _, rfl⟩, ?_, by simp⟩, [0], rfl, ?_⟩; all_goals (refine ⟨?_, ?_, ?_⟩ <;> simp only [go_sem, List.range, List.range.loop, List.nodup_cons, List.nodup_nil, List.mem_cons, List.not_mem_nil, or_false, or_self, decide_true, decide_false, Int.reduceToNat, Nat.min_eq_left, Nat.min_eq_right, Int.reducePow, Nat.reducePow, Int.reduceLE, Int.reduceLT, Int.reduceMul, Int.reduceAdd, Int.reduceSub, Int.reduceNeg, Bool.not_true, Bool.not_false, Bool.not_not, ↓reduceIte, Nat.reduceAdd, Nat.reduceSub, Nat.reduceMul, Nat.reduceEqDiff, reduceCtorEq, Nat.reduceLT, Nat.reduceLeDiff, Nat.reduceGT]); (try any_goals (refine ⟨?_, ?_⟩)); (try any_goals (with_reducible rfl))))
  · constructor <;> omega
theorem c_wblob {h : List Ch} {K : KT} {t : Nat} {xs bs : List UInt8} {a : AV} (H : K (.ptr t 0) (h.set t (.pack (Wr (xs ++ encI bs.length ++ bs))))) (o : hth h t = .pack (Wr xs)) (b1 : brA [t] h (.ro .byte bs) a) (s1 : xs.length ≤ 1099511627776) (s2 : bs.length ≤ 1099511627776) : Does Try.prog 53 [.ptr t 0, a] h K :=
  frame_obj0 (ret' := .ptr t 0) (b_wblob xs bs s1 s2) o (by simp) (fitC_pack _) (br_cons (br_ptr rfl) (br_cons b1 br_nil)) (.inr rfl) (fun _ => rfl) rfl H
abbrev i_wblob := Ctr.mk (i := 0) (g := 53) @c_wblob
attribute [instance] i_wblob
theorem b_wbytes (xs : List UInt8) (hl : xs.length ≤ 1099511627776) : DoesK Try.prog 1 54 [.ptr 0 0] [.pack (Wr xs)] (EndF 1 (.sl 1 .byte 0 xs.length) ([.pack (Wr xs)] ++ [.rows .byte xs])) := by
  refine DoesK.close ?_
  refine w_body (rs := [.tmp 2]) (tm := [.ptr 0 0, .any, .any, .any, .any, .any, .any, .any, .any, .any, .any, .any]) fn_54 rfl rfl rfl rfl fun R hR => ?_
  (all_goals (try ((first | (with_reducible refine wp_id ?_) | (with_reducible refine does_id ?_) | (with_reducible refine ops_id ?_)); refine walk ?_; (repeat' (first | exact trivial | with_reducible refine And.intro ?_ ?_)); all_goals (repeat (first | (with_reducible refine ImpB.mk fun hb => ?_) | (with_reducible refine ImpK.mk fun hK => ?_) | (with_reducible refine ImpF.mk fun hF => ?_) | (with_reducible refine ImpQ.mk fun hp => ?_) | (with_reducible refine AllE.mk fun p => ?_) | (with_reducible refine AllR.mk fun rest => ?_) | (with_reducible refine AllK.mk fun K => ?_))))); repeat' (with_reducible refine And.intro ?_ ?_))
  (all_goals (repeat (first | (clear hK; clear K) | (clear hE; clear E) | (clear hF; clear F) | (clear hR; clear R))); all_goals (try simp only [decide_eq_true_eq, decide_eq_false_iff_not, Bool.not_eq_true', Bool.not_eq_false', Bool.not_eq_true, Bool.not_eq_false, decide_not, decide_true, decide_false, Bool.decide_and, Bool.and_eq_true, Bool.or_eq_true, Bool.and_eq_false_imp, Decidable.not_not] at *); all_goals (try omega); all_goals (try (first | exact u8w_lo _ | exact u8w_hi _ | exact (bits8 _ _ _).1 | exact (bits8 _ _ _).2 | exact Int.natCast_nonneg _ | exact u8_ltI _)))
  all_goals try simp only [List.take_length] at *
  all_goals try omega
  · (focus (refine ⟨_, _, gh_close (t := 0) (ts := [2]) (l := Wr xs) ⟨⟨_, _, rfl⟩, ?_, by simp⟩, [0, 3], rfl, ?_⟩; all_goals (refine ⟨?_, ?_, ?_⟩ <;> simp only [go_sem, List.range, List.range.loop, List.nodup_cons, List.nodup_nil, List.mem_cons, List.not_mem_nil, or_false, or_self, decide_true, decide_false, Int.reduceToNat, Nat.min_eq_left, Nat.min_eq_right, Int.reducePow, Nat.reducePow, Int.reduceLE, Int.reduceLT, Int.reduceMul, Int.reduceAdd, Int.reduceSub, Int.reduceNeg, Bool.not_true, Bool.not_false, Bool.not_not, ↓reduceIte, Nat.reduceAdd, Nat.reduceSub, Nat.reduceMul, Nat.reduceEqDiff, reduceCtorEq, Nat.reduceLT, Nat.reduceLeDiff, Nat.reduceGT]); (try any_goals (refine ⟨?_, ?_⟩)); (try any_goals (with_reducible rfl))))
end Go.V

set_option maxRecDepth 100000
set_option maxHeartbeats 1000000
namespace Go.V
open Go.Proofs
def RdS (ys : List UInt8) : List Ch := [.cells [.bool true, .bool false, .ro .byte ys]]
def RdN : List Ch := [.cells [.bool true, .bool true, .ro .byte []]]
/-- a Reader: what is left to read; none: a read failed -/
def Rd : Option (List UInt8) → List Ch
  | some ys => RdS ys
  | none => RdN
attribute [go_sem] RdS RdN
end Go.V

set_option maxRecDepth 100000
set_option maxHeartbeats 1000000
namespace Go.V
open Go.Proofs
theorem Rd_some (ys : List UInt8) : Rd (some ys) = RdS ys := rfl
theorem Rd_none : Rd none = RdN := rfl
attribute [local go_sem] Rd_some Rd_none
end Go.V

set_option maxRecDepth 100000
set_option maxHeartbeats 1000000
namespace Go.V
open Go.Proofs
/-- ref03.Reader -/
def FdS (ys : List UInt8) (b : Bool) : List Ch := [.cells [.ro .byte ys, .bool b]]
attribute [go_sem] FdS
def Fd : Option (List UInt8) → List Ch
  | some ys => FdS ys false
  | none => FdS [] true
theorem Fd_some (ys : List UInt8) : Fd (some ys) = FdS ys false := rfl
theorem Fd_none : Fd none = FdS [] true := rfl
attribute [local go_sem] Fd_some Fd_none
end Go.V

set_option maxRecDepth 100000
set_option maxHeartbeats 1000000
namespace Go.V
open Go.Proofs
attribute [local go_sem] Fd_some Fd_none
end Go.V

set_option maxRecDepth 100000
namespace Go.V
open Go.Proofs
theorem c_wuint1 {h : List Ch} {K : KT} {t : Nat} {xs : List UInt8} {n : Nat} (H : K (.ptr t 0) (h.set t (.pack (Wr (xs ++ be n 1))))) (o : hth h t = .pack (Wr xs)) (s3 : xs.length ≤ 1099511627776) : Does Try.prog 52 [.ptr t 0, .int .u64 n, .int .i64 1] h K :=
  c_wuint (size := 1) H o (by decide) (by decide) s3
abbrev i_wuint1 := Ctr.mk (i := 0) (g := 52) @c_wuint1
attribute [instance] i_wuint1
theorem c_wuint2 {h : List Ch} {K : KT} {t : Nat} {xs : List UInt8} {n : Nat} (H : K (.ptr t 0) (h.set t (.pack (Wr (xs ++ be n 2))))) (o : hth h t = .pack (Wr xs)) (s3 : xs.length ≤ 1099511627776) : Does Try.prog 52 [.ptr t 0, .int .u64 n, .int .i64 2] h K :=
  c_wuint (size := 2) H o (by decide) (by decide) s3
abbrev i_wuint2 := Ctr.mk (i := 1) (g := 52) @c_wuint2
attribute [instance] i_wuint2
end Go.V

set_option maxRecDepth 100000
set_option maxHeartbeats 1000000
namespace Go.V
open Go.Proofs
/-- the rows of the table: arguments, whether data follow, least and most mode -/
def rowsL : List (List Int) := [[0, 0, 1, 4], [1, 0, 1, 4], [2, 0, 1, 4], [2, 1, 1, 4], [1, 0, 1, 4], [2, 0, 1, 4], [2, 0, 1, 4], [2, 0, 1, 4], [1, 1, 2, 4], [1, 0, 2, 4], [2, 0, 2, 4], [2, 1, 2, 4], [1, 0, 2, 4], [2, 0, 2, 4], [2, 0, 2, 4], [2, 1, 2, 4], [1, 0, 3, 4], [1, 0, 1, 4], [2, 1, 1, 2], [2, 0, 1, 4], [2, 0, 1, 4], [1, 1, 2, 4], [0, 1, 2, 4], [1, 0, 1, 4], [2, 0, 1, 2], [3, 0, 2, 4], [2, 0, 2, 4], [0, 0, 1, 2]]
def namesL : List (List UInt8) := [[112, 105, 110, 103], [115, 101, 116, 109, 111, 100, 101], [115, 101, 116, 112, 97, 114, 97, 109], [104, 107, 100, 101, 102, 105, 110, 101], [104, 107, 100, 101, 108, 101, 116, 101], [104, 107, 101, 110, 97, 98, 108, 101], [109, 111, 110, 101, 110, 97, 98, 108, 101], [101, 118, 101, 110, 116, 101, 110, 97, 98, 108, 101], [97, 99, 116, 97, 100, 100], [97, 99, 116, 100, 101, 108, 101, 116, 101], [97, 99, 116, 101, 110, 97, 98, 108, 101], [115, 99, 104, 101, 100, 105, 110, 115, 101, 114, 116], [115, 99, 104, 101, 100, 100, 101, 108, 101, 116, 101], [115, 99, 104, 101, 100, 115, 104, 105, 102, 116], [115, 99, 104, 101, 100, 101, 110, 97, 98, 108, 101], [115, 101, 113, 108, 111, 97, 100], [115, 101, 113, 115, 116, 97, 114, 116], [115, 101, 113, 115, 116, 111, 112], [109, 101, 109, 108, 111, 97, 100], [109, 101, 109, 100, 117, 109, 112], [109, 101, 109, 99, 104, 101, 99, 107], [102, 105, 108, 101, 115, 101, 110, 100], [102, 105, 108, 101, 100, 101, 108, 101, 116, 101], [102, 105, 108, 101, 99, 111, 110, 116, 114, 111, 108], [117, 110, 105, 116, 115, 119, 105, 116, 99, 104], [114, 101, 99, 114, 101, 112, 108, 97, 121], [114, 101, 99, 100, 101, 108, 101, 116, 101], [114, 101, 98, 111, 111, 116]]
def rowL (s : Int) : List Int := if s < 1 ∨ 28 < s then [] else rowsL.getD (s.toNat - 1) []
def nameL (s : Int) : List UInt8 := if s < 1 ∨ 28 < s then [] else namesL.getD (s.toNat - 1) []
def argN (s : Int) (j : Nat) : Int := (rowL s).getD j 0
def rowC (s : Int) : List AV := [.str (nameL s), .int .i64 (argN s 0), .bool (argN s 1 == 1), .int .i64 (argN s 2), .int .i64 (argN s 3)]
def tabF : List AV := List.flatten [[.str [], .int .i64 0, .bool false, .int .i64 0, .int .i64 0], [.str [112, 105, 110, 103], .int .i64 0, .bool false, .int .i64 1, .int .i64 4], [.str [115, 101, 116, 109, 111, 100, 101], .int .i64 1, .bool false, .int .i64 1, .int .i64 4], [.str [115, 101, 116, 112, 97, 114, 97, 109], .int .i64 2, .bool false, .int .i64 1, .int .i64 4], [.str [104, 107, 100, 101, 102, 105, 110, 101], .int .i64 2, .bool true, .int .i64 1, .int .i64 4], [.str [104, 107, 100, 101, 108, 101, 116, 101], .int .i64 1, .bool false, .int .i64 1, .int .i64 4], [.str [104, 107, 101, 110, 97, 98, 108, 101], .int .i64 2, .bool false, .int .i64 1, .int .i64 4], [.str [109, 111, 110, 101, 110, 97, 98, 108, 101], .int .i64 2, .bool false, .int .i64 1, .int .i64 4], [.str [101, 118, 101, 110, 116, 101, 110, 97, 98, 108, 101], .int .i64 2, .bool false, .int .i64 1, .int .i64 4], [.str [97, 99, 116, 97, 100, 100], .int .i64 1, .bool true, .int .i64 2, .int .i64 4], [.str [97, 99, 116, 100, 101, 108, 101, 116, 101], .int .i64 1, .bool false, .int .i64 2, .int .i64 4], [.str [97, 99, 116, 101, 110, 97, 98, 108, 101], .int .i64 2, .bool false, .int .i64 2, .int .i64 4], [.str [115, 99, 104, 101, 100, 105, 110, 115, 101, 114, 116], .int .i64 2, .bool true, .int .i64 2, .int .i64 4], [.str [115, 99, 104, 101, 100, 100, 101, 108, 101, 116, 101], .int .i64 1, .bool false, .int .i64 2, .int .i64 4], [.str [115, 99, 104, 101, 100, 115, 104, 105, 102, 116], .int .i64 2, .bool false, .int .i64 2, .int .i64 4], [.str [115, 99, 104, 101, 100, 101, 110, 97, 98, 108, 101], .int .i64 2, .bool false, .int .i64 2, .int .i64 4], [.str [115, 101, 113, 108, 111, 97, 100], .int .i64 2, .bool true, .int .i64 2, .int .i64 4], [.str [115, 101, 113, 115, 116, 97, 114, 116], .int .i64 1, .bool false, .int .i64 3, .int .i64 4], [.str [115, 101, 113, 115, 116, 111, 112], .int .i64 1, .bool false, .int .i64 1, .int .i64 4], [.str [109, 101, 109, 108, 111, 97, 100], .int .i64 2, .bool true, .int .i64 1, .int .i64 2], [.str [109, 101, 109, 100, 117, 109, 112], .int .i64 2, .bool false, .int .i64 1, .int .i64 4], [.str [109, 101, 109, 99, 104, 101, 99, 107], .int .i64 2, .bool false, .int .i64 1, .int .i64 4], [.str [102, 105, 108, 101, 115, 101, 110, 100], .int .i64 1, .bool true, .int .i64 2, .int .i64 4], [.str [102, 105, 108, 101, 100, 101, 108, 101, 116, 101], .int .i64 0, .bool true, .int .i64 2, .int .i64 4], [.str [102, 105, 108, 101, 99, 111, 110, 116, 114, 111, 108], .int .i64 1, .bool false, .int .i64 1, .int .i64 4], [.str [117, 110, 105, 116, 115, 119, 105, 116, 99, 104], .int .i64 2, .bool false, .int .i64 1, .int .i64 2], [.str [114, 101, 99, 114, 101, 112, 108, 97, 121], .int .i64 3, .bool false, .int .i64 2, .int .i64 4], [.str [114, 101, 99, 100, 101, 108, 101, 116, 101], .int .i64 2, .bool false, .int .i64 2, .int .i64 4], [.str [114, 101, 98, 111, 111, 116], .int .i64 0, .bool false, .int .i64 1, .int .i64 2]]
theorem tab_len : tabF.length = 145 := rfl
theorem tab_row0 : AV.agg ((tabF.drop 0).take 5) = .agg (rowC 0) := by simp [tabF, rowC, nameL, argN, rowL, namesL, rowsL]
theorem tab_row1 : AV.agg ((tabF.drop 5).take 5) = .agg (rowC 1) := by simp [tabF, rowC, nameL, argN, rowL, namesL, rowsL]
theorem tab_row2 : AV.agg ((tabF.drop 10).take 5) = .agg (rowC 2) := by simp [tabF, rowC, nameL, argN, rowL, namesL, rowsL]
theorem tab_row3 : AV.agg ((tabF.drop 15).take 5) = .agg (rowC 3) := by simp [tabF, rowC, nameL, argN, rowL, namesL, rowsL]
theorem tab_row4 : AV.agg ((tabF.drop 20).take 5) = .agg (rowC 4) := by simp [tabF, rowC, nameL, argN, rowL, namesL, rowsL]
theorem tab_row5 : AV.agg ((tabF.drop 25).take 5) = .agg (rowC 5) := by simp [tabF, rowC, nameL, argN, rowL, namesL, rowsL]
theorem tab_row6 : AV.agg ((tabF.drop 30).take 5) = .agg (rowC 6) := by simp [tabF, rowC, nameL, argN, rowL, namesL, rowsL]
theorem tab_row7 : AV.agg ((tabF.drop 35).take 5) = .agg (rowC 7) := by simp [tabF, rowC, nameL, argN, rowL, namesL, rowsL]
theorem tab_row8 : AV.agg ((tabF.drop 40).take 5) = .agg (rowC 8) := by simp [tabF, rowC, nameL, argN, rowL, namesL, rowsL]
theorem tab_row9 : AV.agg ((tabF.drop 45).take 5) = .agg (rowC 9) := by simp [tabF, rowC, nameL, argN, rowL, namesL, rowsL]
theorem tab_row10 : AV.agg ((tabF.drop 50).take 5) = .agg (rowC 10) := by simp [tabF, rowC, nameL, argN, rowL, namesL, rowsL]
theorem tab_row11 : AV.agg ((tabF.drop 55).take 5) = .agg (rowC 11) := by simp [tabF, rowC, nameL, argN, rowL, namesL, rowsL]
theorem tab_row12 : AV.agg ((tabF.drop 60).take 5) = .agg (rowC 12) := by simp [tabF, rowC, nameL, argN, rowL, namesL, rowsL]
theorem tab_row13 : AV.agg ((tabF.drop 65).take 5) = .agg (rowC 13) := by simp [tabF, rowC, nameL, argN, rowL, namesL, rowsL]
theorem tab_row14 : AV.agg ((tabF.drop 70).take 5) = .agg (rowC 14) := by simp [tabF, rowC, nameL, argN, rowL, namesL, rowsL]
theorem tab_row15 : AV.agg ((tabF.drop 75).take 5) = .agg (rowC 15) := by simp [tabF, rowC, nameL, argN, rowL, namesL, rowsL]
theorem tab_row16 : AV.agg ((tabF.drop 80).take 5) = .agg (rowC 16) := by simp [tabF, rowC, nameL, argN, rowL, namesL, rowsL]
theorem tab_row17 : AV.agg ((tabF.drop 85).take 5) = .agg (rowC 17) := by simp [tabF, rowC, nameL, argN, rowL, namesL, rowsL]
theorem tab_row18 : AV.agg ((tabF.drop 90).take 5) = .agg (rowC 18) := by simp [tabF, rowC, nameL, argN, rowL, namesL, rowsL]
theorem tab_row19 : AV.agg ((tabF.drop 95).take 5) = .agg (rowC 19) := by simp [tabF, rowC, nameL, argN, rowL, namesL, rowsL]
theorem tab_row20 : AV.agg ((tabF.drop 100).take 5) = .agg (rowC 20) := by simp [tabF, rowC, nameL, argN, rowL, namesL, rowsL]
theorem tab_row21 : AV.agg ((tabF.drop 105).take 5) = .agg (rowC 21) := by simp [tabF, rowC, nameL, argN, rowL, namesL, rowsL]
theorem tab_row22 : AV.agg ((tabF.drop 110).take 5) = .agg (rowC 22) := by simp [tabF, rowC, nameL, argN, rowL, namesL, rowsL]
theorem tab_row23 : AV.agg ((tabF.drop 115).take 5) = .agg (rowC 23) := by simp [tabF, rowC, nameL, argN, rowL, namesL, rowsL]
theorem tab_row24 : AV.agg ((tabF.drop 120).take 5) = .agg (rowC 24) := by simp [tabF, rowC, nameL, argN, rowL, namesL, rowsL]
theorem tab_row25 : AV.agg ((tabF.drop 125).take 5) = .agg (rowC 25) := by simp [tabF, rowC, nameL, argN, rowL, namesL, rowsL]
theorem tab_row26 : AV.agg ((tabF.drop 130).take 5) = .agg (rowC 26) := by simp [tabF, rowC, nameL, argN, rowL, namesL, rowsL]
theorem tab_row27 : AV.agg ((tabF.drop 135).take 5) = .agg (rowC 27) := by simp [tabF, rowC, nameL, argN, rowL, namesL, rowsL]
theorem tab_row28 : AV.agg ((tabF.drop 140).take 5) = .agg (rowC 28) := by simp [tabF, rowC, nameL, argN, rowL, namesL, rowsL]
theorem tab_row (n : Nat) (hn : n < 29) : partA Try.prog 109 tabF (n * szT Try.prog 109) = .agg (rowC n) := by
  rw [partA, kd_109, sz_109]
  dsimp only
  match n with
  | 0 => exact tab_row0
  | 1 => exact tab_row1
  | 2 => exact tab_row2
  | 3 => exact tab_row3
  | 4 => exact tab_row4
  | 5 => exact tab_row5
  | 6 => exact tab_row6
  | 7 => exact tab_row7
  | 8 => exact tab_row8
  | 9 => exact tab_row9
  | 10 => exact tab_row10
  | 11 => exact tab_row11
  | 12 => exact tab_row12
  | 13 => exact tab_row13
  | 14 => exact tab_row14
  | 15 => exact tab_row15
  | 16 => exact tab_row16
  | 17 => exact tab_row17
  | 18 => exact tab_row18
  | 19 => exact tab_row19
  | 20 => exact tab_row20
  | 21 => exact tab_row21
  | 22 => exact tab_row22
  | 23 => exact tab_row23
  | 24 => exact tab_row24
  | 25 => exact tab_row25
  | 26 => exact tab_row26
  | 27 => exact tab_row27
  | 28 => exact tab_row28
  | n + 29 => omega
theorem allN_i {n : Nat} {F : Nat → Prop} (h : ∀ j, j < n → F j) : allN n F := by
  induction n with
  | zero => trivial
  | succ n ih => exact ⟨ih fun j hj => h j (by omega), h n (by omega)⟩
theorem allN_e {n : Nat} {F : Nat → Prop} (h : allN n F) : ∀ j, j < n → F j := by
  induction n with
  | zero => intro j hj; omega
  | succ n ih =>
    intro j hj
    rcases Nat.lt_or_ge j n with h1 | h1
    · exact ih h.1 j h1
    · have : j = n := by omega
      subst this
      exact h.2
theorem idx_tab {i : Int} {K : AV → Prop} : idxK Try.prog (.array 29 109) (.agg tabF) (.int .i64 i) K = ((0 ≤ i ∧ i < 29) ∧ K (.agg (rowC i))) := by
  have e : ∀ j, j < 29 → partA Try.prog 109 tabF (j * szT Try.prog 109) = .agg (rowC j) := tab_row
  unfold idxK
  apply propext
  constructor
  · rintro ⟨h1, _, h3⟩
    refine ⟨h1, ?_⟩
    have := allN_e h3 i.toNat (by omega) (by omega)
    rw [e _ (by omega)] at this
    rw [show ((i.toNat : Nat) : Int) = i by omega] at this
    exact this
  · rintro ⟨h1, h2⟩
    refine ⟨h1, by rw [tab_len, sz_109], allN_i fun j hj hi => ?_⟩
    rw [e j hj, ← hi]
    exact h2
theorem b_row (s : Int) : DoesK Try.prog 0 95 [.int .i64 s] [] (EndF 0 (.ro .int (rowL s)) []) := by
  refine DoesK.close ?_
  refine w_body (rs := [.tmp 2]) (tm := [.int .i64 s, .any, .any, .any, .any, .any, .any, .any, .any, .any, .any, .any, .any, .any, .any, .any, .any, .any, .any, .any, .any, .any, .any, .any, .any, .any, .any, .any, .any, .any, .any, .any, .any, .any, .any, .any, .any, .any, .any, .any, .any, .any, .any, .any, .any, .any]) fn_95 rfl rfl rfl rfl fun R hR => ?_
  (all_goals (try ((first | (with_reducible refine wp_id ?_) | (with_reducible refine does_id ?_) | (with_reducible refine ops_id ?_)); refine walk ?_; (repeat' (first | exact trivial | with_reducible refine And.intro ?_ ?_)); all_goals (repeat (first | (with_reducible refine ImpB.mk fun hb => ?_) | (with_reducible refine ImpK.mk fun hK => ?_) | (with_reducible refine ImpF.mk fun hF => ?_) | (with_reducible refine ImpQ.mk fun hp => ?_) | (with_reducible refine AllE.mk fun p => ?_) | (with_reducible refine AllR.mk fun rest => ?_) | (with_reducible refine AllK.mk fun K => ?_))))); repeat' (with_reducible refine And.intro ?_ ?_))
  (all_goals (repeat (first | (clear hK; clear K) | (clear hE; clear E) | (clear hF; clear F) | (clear hR; clear R))); all_goals (try simp only [decide_eq_true_eq, decide_eq_false_iff_not, Bool.not_eq_true', Bool.not_eq_false', Bool.not_eq_true, Bool.not_eq_false, decide_not, decide_true, decide_false, Bool.decide_and, Bool.and_eq_true, Bool.or_eq_true, Bool.and_eq_false_imp, Decidable.not_not] at *); all_goals (try omega); all_goals (try (first | exact u8w_lo _ | exact u8w_hi _ | exact (bits8 _ _ _).1 | exact (bits8 _ _ _).2 | exact Int.natCast_nonneg _ | exact u8_ltI _)))
  all_goals try (rw [rowL, if_pos (by omega)])
  · (focus (refine ⟨_, _, Gh.refl, [], rfl, ?_⟩; (refine ⟨?_, ?_, ?_⟩ <;> simp only [go_sem, List.range, List.range.loop, List.nodup_cons, List.nodup_nil, List.mem_cons, List.not_mem_nil, or_false, or_self, decide_true, decide_false, Int.reduceToNat, Nat.min_eq_left, Nat.min_eq_right, Int.reducePow, Nat.reducePow, Int.reduceLE, Int.reduceLT, Int.reduceMul, Int.reduceAdd, Int.reduceSub, Int.reduceNeg, Bool.not_true, Bool.not_false, Bool.not_not, ↓reduceIte, Nat.reduceAdd, Nat.reduceSub, Nat.reduceMul, Nat.reduceEqDiff, reduceCtorEq, Nat.reduceLT, Nat.reduceLeDiff, Nat.reduceGT]); (try any_goals (refine ⟨?_, ?_⟩)); (try any_goals (with_reducible rfl))))
  · (focus (refine ⟨_, _, Gh.refl, [], rfl, ?_⟩; (refine ⟨?_, ?_, ?_⟩ <;> simp only [go_sem, List.range, List.range.loop, List.nodup_cons, List.nodup_nil, List.mem_cons, List.not_mem_nil, or_false, or_self, decide_true, decide_false, Int.reduceToNat, Nat.min_eq_left, Nat.min_eq_right, Int.reducePow, Nat.reducePow, Int.reduceLE, Int.reduceLT, Int.reduceMul, Int.reduceAdd, Int.reduceSub, Int.reduceNeg, Bool.not_true, Bool.not_false, Bool.not_not, ↓reduceIte, Nat.reduceAdd, Nat.reduceSub, Nat.reduceMul, Nat.reduceEqDiff, reduceCtorEq, Nat.reduceLT, Nat.reduceLeDiff, Nat.reduceGT]); (try any_goals (refine ⟨?_, ?_⟩)); (try any_goals (with_reducible rfl))))
  all_goals have hw : IntKind.i64.wrap (s - 1) = s - 1 := wrap_i64 _ (by omega) (by omega)
  all_goals rw [hw]
  · omega
  · omega
  · omega
  · rw [rowL, if_neg (by omega), show s.toNat - 1 = (s - 1).toNat from by omega]
    (focus (refine ⟨_, _, Gh.refl, [], rfl, ?_⟩; (refine ⟨?_, ?_, ?_⟩ <;> simp only [go_sem, List.range, List.range.loop, List.nodup_cons, List.nodup_nil, List.mem_cons, List.not_mem_nil, or_false, or_self, decide_true, decide_false, Int.reduceToNat, Nat.min_eq_left, Nat.min_eq_right, Int.reducePow, Nat.reducePow, Int.reduceLE, Int.reduceLT, Int.reduceMul, Int.reduceAdd, Int.reduceSub, Int.reduceNeg, Bool.not_true, Bool.not_false, Bool.not_not, ↓reduceIte, Nat.reduceAdd, Nat.reduceSub, Nat.reduceMul, Nat.reduceEqDiff, reduceCtorEq, Nat.reduceLT, Nat.reduceLeDiff, Nat.reduceGT]); (try any_goals (refine ⟨?_, ?_⟩)); (try any_goals (with_reducible rfl))))
    rfl
theorem c_row {h : List Ch} {K : KT} {s : Int} (H : K (.ro .int (rowL s)) h) : Does Try.prog 95 [.int .i64 s] h K :=
  frame_pure (b_row s) (br_cons br_int br_nil) (.inl rfl) (fun _ => rfl) H
abbrev i_row := Ctr.mk (i := 0) (g := 95) @c_row
attribute [instance] i_row
theorem b_table : DoesK Try.prog 0 96 [] [] (EndF 0 (.agg tabF) []) := by
  refine DoesK.close ?_
  refine w_body (rs := [.cell 0 136]) (tm := [.any, .any, .any, .any, .any, .any, .any, .any, .any, .any, .any, .any, .any, .any, .any, .any, .any, .any, .any, .any, .any, .any, .any, .any, .any, .any, .any, .any, .any, .any]) fn_96 rfl rfl rfl rfl fun R hR => ?_
  (all_goals (try ((first | (with_reducible refine wp_id ?_) | (with_reducible refine does_id ?_) | (with_reducible refine ops_id ?_)); refine walk ?_; (repeat' (first | exact trivial | with_reducible refine And.intro ?_ ?_)); all_goals (repeat (first | (with_reducible refine ImpB.mk fun hb => ?_) | (with_reducible refine ImpK.mk fun hK => ?_) | (with_reducible refine ImpF.mk fun hF => ?_) | (with_reducible refine ImpQ.mk fun hp => ?_) | (with_reducible refine AllE.mk fun p => ?_) | (with_reducible refine AllR.mk fun rest => ?_) | (with_reducible refine AllK.mk fun K => ?_))))); repeat' (with_reducible refine And.intro ?_ ?_))
  (all_goals (repeat (first | (clear hK; clear K) | (clear hE; clear E) | (clear hF; clear F) | (clear hR; clear R))); all_goals (try simp only [decide_eq_true_eq, decide_eq_false_iff_not, Bool.not_eq_true', Bool.not_eq_false', Bool.not_eq_true, Bool.not_eq_false, decide_not, decide_true, decide_false, Bool.decide_and, Bool.and_eq_true, Bool.or_eq_true, Bool.and_eq_false_imp, Decidable.not_not] at *); all_goals (try omega); all_goals (try (first | exact u8w_lo _ | exact u8w_hi _ | exact (bits8 _ _ _).1 | exact (bits8 _ _ _).2 | exact Int.natCast_nonneg _ | exact u8_ltI _)))
  simp only [tabF, List.flatten_cons, List.flatten_nil, List.append_nil, List.cons_append, List.nil_append]
  (focus (refine ⟨_, _, Gh.refl, [], rfl, ?_⟩; (refine ⟨?_, ?_, ?_⟩ <;> simp only [go_sem, List.range, List.range.loop, List.nodup_cons, List.nodup_nil, List.mem_cons, List.not_mem_nil, or_false, or_self, decide_true, decide_false, Int.reduceToNat, Nat.min_eq_left, Nat.min_eq_right, Int.reducePow, Nat.reducePow, Int.reduceLE, Int.reduceLT, Int.reduceMul, Int.reduceAdd, Int.reduceSub, Int.reduceNeg, Bool.not_true, Bool.not_false, Bool.not_not, ↓reduceIte, Nat.reduceAdd, Nat.reduceSub, Nat.reduceMul, Nat.reduceEqDiff, reduceCtorEq, Nat.reduceLT, Nat.reduceLeDiff, Nat.reduceGT]); (try any_goals (refine ⟨?_, ?_⟩)); (try any_goals (with_reducible rfl))))
theorem c_table {h : List Ch} {K : KT} (H : K (.agg tabF) h) : Does Try.prog 96 [] h K :=
  frame_pure b_table br_nil (.inl rfl) (fun _ => rfl) H
abbrev i_table := Ctr.mk (i := 0) (g := 96) @c_table
attribute [instance] i_table
theorem fit_tab : fitL [] tabF tabF = True := by
  apply eq_true
  simp only [tabF, List.flatten_cons, List.flatten_nil, List.append_nil, List.cons_append, List.nil_append, go_sem]
attribute [go_sem] fit_tab
attribute [irreducible] tabF
attribute [-go_sem] idxK
attribute [go_sem] idx_tab
attribute [go_sem] rowC
def okS (s : Int) : Bool := decide (1 ≤ s ∧ s ≤ 28)
theorem okS_f {s : Int} (h : s < 1 ∨ 28 < s) : okS s = false := by simp [okS]; omega
theorem okS_t {s : Int} (h : ¬ (s < 1 ∨ 28 < s)) : okS s = true := by simp [okS]; omega
theorem nameL_out {s : Int} (h : s < 1 ∨ 28 < s) : nameL s = [] := by rw [nameL, if_pos h]
theorem argN_out {s : Int} {j : Nat} (h : s < 1 ∨ 28 < s) : argN s j = 0 := by simp only [argN, rowL, if_pos h]; rfl
theorem b_find (s : Int) : DoesK Try.prog 0 76 [.int .i64 s] [] (EndF 0 (.tup [.agg (rowC s), .bool (okS s)]) []) := by
  refine DoesK.close ?_
  refine w_body (rs := [.cell 2 109, .tmp 3]) (tm := [.int .i64 s, .any, .any, .any, .any, .any, .any, .any, .any, .any, .any, .any, .any, .any]) fn_76 rfl rfl rfl rfl fun R hR => ?_
  (all_goals (try ((first | (with_reducible refine wp_id ?_) | (with_reducible refine does_id ?_) | (with_reducible refine ops_id ?_)); refine walk ?_; (repeat' (first | exact trivial | with_reducible refine And.intro ?_ ?_)); all_goals (repeat (first | (with_reducible refine ImpB.mk fun hb => ?_) | (with_reducible refine ImpK.mk fun hK => ?_) | (with_reducible refine ImpF.mk fun hF => ?_) | (with_reducible refine ImpQ.mk fun hp => ?_) | (with_reducible refine AllE.mk fun p => ?_) | (with_reducible refine AllR.mk fun rest => ?_) | (with_reducible refine AllK.mk fun K => ?_))))); repeat' (with_reducible refine And.intro ?_ ?_))
  (all_goals (repeat (first | (clear hK; clear K) | (clear hE; clear E) | (clear hF; clear F) | (clear hR; clear R))); all_goals (try simp only [decide_eq_true_eq, decide_eq_false_iff_not, Bool.not_eq_true', Bool.not_eq_false', Bool.not_eq_true, Bool.not_eq_false, decide_not, decide_true, decide_false, Bool.decide_and, Bool.and_eq_true, Bool.or_eq_true, Bool.and_eq_false_imp, Decidable.not_not] at *); all_goals (try omega); all_goals (try (first | exact u8w_lo _ | exact u8w_hi _ | exact (bits8 _ _ _).1 | exact (bits8 _ _ _).2 | exact Int.natCast_nonneg _ | exact u8_ltI _)))
  · rw [okS_f (by omega), nameL_out (by omega), argN_out (by omega), argN_out (by omega), argN_out (by omega), argN_out (by omega)]
    (focus (refine ⟨_, _, Gh.refl, [], rfl, ?_⟩; (refine ⟨?_, ?_, ?_⟩ <;> simp only [go_sem, List.range, List.range.loop, List.nodup_cons, List.nodup_nil, List.mem_cons, List.not_mem_nil, or_false, or_self, decide_true, decide_false, Int.reduceToNat, Nat.min_eq_left, Nat.min_eq_right, Int.reducePow, Nat.reducePow, Int.reduceLE, Int.reduceLT, Int.reduceMul, Int.reduceAdd, Int.reduceSub, Int.reduceNeg, Bool.not_true, Bool.not_false, Bool.not_not, ↓reduceIte, Nat.reduceAdd, Nat.reduceSub, Nat.reduceMul, Nat.reduceEqDiff, reduceCtorEq, Nat.reduceLT, Nat.reduceLeDiff, Nat.reduceGT]); (try any_goals (refine ⟨?_, ?_⟩)); (try any_goals (with_reducible rfl))))
    all_goals rfl
  · rw [okS_f (by omega), nameL_out (by omega), argN_out (by omega), argN_out (by omega), argN_out (by omega), argN_out (by omega)]
    (focus (refine ⟨_, _, Gh.refl, [], rfl, ?_⟩; (refine ⟨?_, ?_, ?_⟩ <;> simp only [go_sem, List.range, List.range.loop, List.nodup_cons, List.nodup_nil, List.mem_cons, List.not_mem_nil, or_false, or_self, decide_true, decide_false, Int.reduceToNat, Nat.min_eq_left, Nat.min_eq_right, Int.reducePow, Nat.reducePow, Int.reduceLE, Int.reduceLT, Int.reduceMul, Int.reduceAdd, Int.reduceSub, Int.reduceNeg, Bool.not_true, Bool.not_false, Bool.not_not, ↓reduceIte, Nat.reduceAdd, Nat.reduceSub, Nat.reduceMul, Nat.reduceEqDiff, reduceCtorEq, Nat.reduceLT, Nat.reduceLeDiff, Nat.reduceGT]); (try any_goals (refine ⟨?_, ?_⟩)); (try any_goals (with_reducible rfl))))
    all_goals rfl
  · rw [okS_t (by omega)]
    (focus (refine ⟨_, _, Gh.refl, [], rfl, ?_⟩; (refine ⟨?_, ?_, ?_⟩ <;> simp only [go_sem, List.range, List.range.loop, List.nodup_cons, List.nodup_nil, List.mem_cons, List.not_mem_nil, or_false, or_self, decide_true, decide_false, Int.reduceToNat, Nat.min_eq_left, Nat.min_eq_right, Int.reducePow, Nat.reducePow, Int.reduceLE, Int.reduceLT, Int.reduceMul, Int.reduceAdd, Int.reduceSub, Int.reduceNeg, Bool.not_true, Bool.not_false, Bool.not_not, ↓reduceIte, Nat.reduceAdd, Nat.reduceSub, Nat.reduceMul, Nat.reduceEqDiff, reduceCtorEq, Nat.reduceLT, Nat.reduceLeDiff, Nat.reduceGT]); (try any_goals (refine ⟨?_, ?_⟩)); (try any_goals (with_reducible rfl))))
theorem c_find {h : List Ch} {K : KT} {s : Int} (H : K (.tup [.agg (rowC s), .bool (okS s)]) h) : Does Try.prog 76 [.int .i64 s] h K :=
  frame_pure (b_find s) (br_cons br_int br_nil) (.inl rfl) (fun _ => rfl) H
abbrev i_find := Ctr.mk (i := 0) (g := 76) @c_find
attribute [instance] i_find
theorem rowL_len (s : Int) : (rowL s).length = 0 ∧ (s < 1 ∨ 28 < s) ∨ (rowL s).length = 4 ∧ ¬ (s < 1 ∨ 28 < s) := by
  by_cases h : s < 1 ∨ 28 < s
  · left
    rw [rowL, if_pos h]
    exact ⟨rfl, h⟩
  · right
    refine ⟨?_, h⟩
    rw [rowL, if_neg h]
    have e : rowsL.length = 28 := rfl
    have k : ∀ x ∈ rowsL, x.length = 4 := by decide
    have hl : s.toNat - 1 < rowsL.length := by omega
    rw [List.getD_eq_getElem?_getD, List.getElem?_eq_getElem hl, Option.getD_some]
    exact k _ (List.getElem_mem hl)
end Go.V
