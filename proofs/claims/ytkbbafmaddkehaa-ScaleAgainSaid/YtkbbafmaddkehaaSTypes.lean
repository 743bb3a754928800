/- Facts that the proofs of this claim lean on. -/
import Derived.Test.YtkbbafmaddkehaaIdEf
import Derived.Test.YtkbbafmaddkehaaProg
namespace Go.Proofs.TS
open Go Go.Idl Go.Proofs
@[go_sem] theorem tsz_2 : tsz Try.prog 2 = some 1 := by kernel_rfl
@[go_sem] theorem tby_2 : tby Try.prog 2 = some 8 := by kernel_rfl
@[go_sem] theorem tze_2 : tze Try.prog 2 = some [.int .i64 0] := by kernel_rfl
@[go_sem] theorem tag_2 : tag Try.prog 2 = some false := by kernel_rfl
@[go_sem] theorem tar_2 : tar Try.prog 2 = none := by kernel_rfl
@[go_sem] theorem tcs_2 : tcs Try.prog 2 = [] := by kernel_rfl
@[go_sem] theorem tkd_2 : tkd Try.prog 2 = some (.int .i64) := by kernel_rfl
@[go_sem] theorem tsz_3 : tsz Try.prog 3 = some 1 := by kernel_rfl
@[go_sem] theorem tby_3 : tby Try.prog 3 = some 8 := by kernel_rfl
@[go_sem] theorem tze_3 : tze Try.prog 3 = some [.int .i64 0] := by kernel_rfl
@[go_sem] theorem tag_3 : tag Try.prog 3 = some false := by kernel_rfl
@[go_sem] theorem tar_3 : tar Try.prog 3 = none := by kernel_rfl
@[go_sem] theorem tcs_3 : tcs Try.prog 3 = [] := by kernel_rfl
@[go_sem] theorem tkd_3 : tkd Try.prog 3 = some (.int .i64) := by kernel_rfl
@[go_sem] theorem tsz_4 : tsz Try.prog 4 = some 1 := by kernel_rfl
@[go_sem] theorem tby_4 : tby Try.prog 4 = some 1 := by kernel_rfl
@[go_sem] theorem tze_4 : tze Try.prog 4 = some [.bool false] := by kernel_rfl
@[go_sem] theorem tag_4 : tag Try.prog 4 = some false := by kernel_rfl
@[go_sem] theorem tar_4 : tar Try.prog 4 = none := by kernel_rfl
@[go_sem] theorem tcs_4 : tcs Try.prog 4 = [] := by kernel_rfl
@[go_sem] theorem tkd_4 : tkd Try.prog 4 = some .bool := by kernel_rfl
@[go_sem] theorem tsz_5 : tsz Try.prog 5 = some 1 := by kernel_rfl
@[go_sem] theorem tby_5 : tby Try.prog 5 = some 1 := by kernel_rfl
@[go_sem] theorem tze_5 : tze Try.prog 5 = some [.int .u8 0] := by kernel_rfl
@[go_sem] theorem tag_5 : tag Try.prog 5 = some false := by kernel_rfl
@[go_sem] theorem tar_5 : tar Try.prog 5 = none := by kernel_rfl
@[go_sem] theorem tcs_5 : tcs Try.prog 5 = [] := by kernel_rfl
@[go_sem] theorem tkd_5 : tkd Try.prog 5 = some (.int .u8) := by kernel_rfl
@[go_sem] theorem tsz_9 : tsz Try.prog 9 = some 1 := by kernel_rfl
@[go_sem] theorem tby_9 : tby Try.prog 9 = some 16 := by kernel_rfl
@[go_sem] theorem tze_9 : tze Try.prog 9 = some [.string ByteArray.empty] := by kernel_rfl
@[go_sem] theorem tag_9 : tag Try.prog 9 = some false := by kernel_rfl
@[go_sem] theorem tar_9 : tar Try.prog 9 = none := by kernel_rfl
@[go_sem] theorem tcs_9 : tcs Try.prog 9 = [] := by kernel_rfl
@[go_sem] theorem tkd_9 : tkd Try.prog 9 = some .string := by kernel_rfl
@[go_sem] theorem tsz_12 : tsz Try.prog 12 = some 1 := by kernel_rfl
@[go_sem] theorem tby_12 : tby Try.prog 12 = some 8 := by kernel_rfl
@[go_sem] theorem tze_12 : tze Try.prog 12 = some [.int .u64 0] := by kernel_rfl
@[go_sem] theorem tag_12 : tag Try.prog 12 = some false := by kernel_rfl
@[go_sem] theorem tar_12 : tar Try.prog 12 = none := by kernel_rfl
@[go_sem] theorem tcs_12 : tcs Try.prog 12 = [] := by kernel_rfl
@[go_sem] theorem tkd_12 : tkd Try.prog 12 = some (.int .u64) := by kernel_rfl
@[go_sem] theorem tsz_13 : tsz Try.prog 13 = some 2 := by kernel_rfl
@[go_sem] theorem tby_13 : tby Try.prog 13 = some 24 := by kernel_rfl
@[go_sem] theorem tze_13 : tze Try.prog 13 = some [.string ByteArray.empty, .int .u64 0] := by kernel_rfl
@[go_sem] theorem tag_13 : tag Try.prog 13 = some true := by kernel_rfl
@[go_sem] theorem tar_13 : tar Try.prog 13 = none := by kernel_rfl
@[go_sem] theorem tfo_13_0 : tfo Try.prog 13 0 = some (0, 9) := by kernel_rfl
@[go_sem] theorem tfo_13_1 : tfo Try.prog 13 1 = some (1, 12) := by kernel_rfl
@[go_sem] theorem tpl_13 : tpl Try.prog 13 = some [(0, 1), (1, 1)] := by kernel_rfl
@[go_sem] theorem tcs_13 : tcs Try.prog 13 = [] := by kernel_rfl
@[go_sem] theorem tkd_13 : tkd Try.prog 13 = some .other := by kernel_rfl
@[go_sem] theorem tsz_20 : tsz Try.prog 20 = some 1 := by kernel_rfl
@[go_sem] theorem tby_20 : tby Try.prog 20 = some 16 := by kernel_rfl
@[go_sem] theorem tze_20 : tze Try.prog 20 = some [.nilIface] := by kernel_rfl
@[go_sem] theorem tag_20 : tag Try.prog 20 = some false := by kernel_rfl
@[go_sem] theorem tar_20 : tar Try.prog 20 = none := by kernel_rfl
@[go_sem] theorem tcs_20 : tcs Try.prog 20 = [] := by kernel_rfl
@[go_sem] theorem tkd_20 : tkd Try.prog 20 = some .iface := by kernel_rfl
@[go_sem] theorem tsz_21 : tsz Try.prog 21 = some 1 := by kernel_rfl
@[go_sem] theorem tby_21 : tby Try.prog 21 = some 4 := by kernel_rfl
@[go_sem] theorem tze_21 : tze Try.prog 21 = some [.int .i32 0] := by kernel_rfl
@[go_sem] theorem tag_21 : tag Try.prog 21 = some false := by kernel_rfl
@[go_sem] theorem tar_21 : tar Try.prog 21 = none := by kernel_rfl
@[go_sem] theorem tcs_21 : tcs Try.prog 21 = [] := by kernel_rfl
@[go_sem] theorem tkd_21 : tkd Try.prog 21 = some (.int .i32) := by kernel_rfl
@[go_sem] theorem tsz_22 : tsz Try.prog 22 = some 1 := by kernel_rfl
@[go_sem] theorem tby_22 : tby Try.prog 22 = some 8 := by kernel_rfl
@[go_sem] theorem tze_22 : tze Try.prog 22 = some [.float .f64 0] := by kernel_rfl
@[go_sem] theorem tag_22 : tag Try.prog 22 = some false := by kernel_rfl
@[go_sem] theorem tar_22 : tar Try.prog 22 = none := by kernel_rfl
@[go_sem] theorem tcs_22 : tcs Try.prog 22 = [] := by kernel_rfl
@[go_sem] theorem tkd_22 : tkd Try.prog 22 = some (.float .f64) := by kernel_rfl
@[go_sem] theorem tsz_23 : tsz Try.prog 23 = some 1 := by kernel_rfl
@[go_sem] theorem tby_23 : tby Try.prog 23 = some 24 := by kernel_rfl
@[go_sem] theorem tze_23 : tze Try.prog 23 = some [.slice none 0 0] := by kernel_rfl
@[go_sem] theorem tag_23 : tag Try.prog 23 = some false := by kernel_rfl
@[go_sem] theorem tel_23 : tel Try.prog 23 = some 39 := by kernel_rfl
@[go_sem] theorem tar_23 : tar Try.prog 23 = none := by kernel_rfl
@[go_sem] theorem tcs_23 : tcs Try.prog 23 = [(0, 1)] := by kernel_rfl
@[go_sem] theorem tkd_23 : tkd Try.prog 23 = some (.slice 39) := by kernel_rfl
@[go_sem] theorem tsz_24 : tsz Try.prog 24 = some 3 := by kernel_rfl
@[go_sem] theorem tby_24 : tby Try.prog 24 = some 40 := by kernel_rfl
@[go_sem] theorem tze_24 : tze Try.prog 24 = some [.int .i64 0, .int .i64 0, .slice none 0 0] := by kernel_rfl
@[go_sem] theorem tag_24 : tag Try.prog 24 = some true := by kernel_rfl
@[go_sem] theorem tar_24 : tar Try.prog 24 = none := by kernel_rfl
@[go_sem] theorem tfo_24_0 : tfo Try.prog 24 0 = some (0, 3) := by kernel_rfl
@[go_sem] theorem tfo_24_1 : tfo Try.prog 24 1 = some (1, 3) := by kernel_rfl
@[go_sem] theorem tfo_24_2 : tfo Try.prog 24 2 = some (2, 23) := by kernel_rfl
@[go_sem] theorem tpl_24 : tpl Try.prog 24 = some [(0, 1), (1, 1), (2, 1)] := by kernel_rfl
@[go_sem] theorem tcs_24 : tcs Try.prog 24 = [(2, 1)] := by kernel_rfl
@[go_sem] theorem tkd_24 : tkd Try.prog 24 = some .other := by kernel_rfl
@[go_sem] theorem tsz_25 : tsz Try.prog 25 = some 3 := by kernel_rfl
@[go_sem] theorem tby_25 : tby Try.prog 25 = some 40 := by kernel_rfl
@[go_sem] theorem tze_25 : tze Try.prog 25 = some [.int .i64 0, .int .i64 0, .slice none 0 0] := by kernel_rfl
@[go_sem] theorem tag_25 : tag Try.prog 25 = some true := by kernel_rfl
@[go_sem] theorem tar_25 : tar Try.prog 25 = none := by kernel_rfl
@[go_sem] theorem tfo_25_0 : tfo Try.prog 25 0 = some (0, 3) := by kernel_rfl
@[go_sem] theorem tfo_25_1 : tfo Try.prog 25 1 = some (1, 3) := by kernel_rfl
@[go_sem] theorem tfo_25_2 : tfo Try.prog 25 2 = some (2, 23) := by kernel_rfl
@[go_sem] theorem tpl_25 : tpl Try.prog 25 = some [(0, 1), (1, 1), (2, 1)] := by kernel_rfl
@[go_sem] theorem tcs_25 : tcs Try.prog 25 = [(2, 1)] := by kernel_rfl
@[go_sem] theorem tkd_25 : tkd Try.prog 25 = some .other := by kernel_rfl
@[go_sem] theorem tsz_26 : tsz Try.prog 26 = some 1 := by kernel_rfl
@[go_sem] theorem tby_26 : tby Try.prog 26 = some 8 := by kernel_rfl
@[go_sem] theorem tze_26 : tze Try.prog 26 = some [.int .i64 0] := by kernel_rfl
@[go_sem] theorem tag_26 : tag Try.prog 26 = some false := by kernel_rfl
@[go_sem] theorem tar_26 : tar Try.prog 26 = none := by kernel_rfl
@[go_sem] theorem tcs_26 : tcs Try.prog 26 = [] := by kernel_rfl
@[go_sem] theorem tkd_26 : tkd Try.prog 26 = some (.int .i64) := by kernel_rfl
@[go_sem] theorem tsz_29 : tsz Try.prog 29 = some 1 := by kernel_rfl
@[go_sem] theorem tby_29 : tby Try.prog 29 = some 24 := by kernel_rfl
@[go_sem] theorem tze_29 : tze Try.prog 29 = some [.slice none 0 0] := by kernel_rfl
@[go_sem] theorem tag_29 : tag Try.prog 29 = some false := by kernel_rfl
@[go_sem] theorem tel_29 : tel Try.prog 29 = some 22 := by kernel_rfl
@[go_sem] theorem tar_29 : tar Try.prog 29 = none := by kernel_rfl
@[go_sem] theorem tcs_29 : tcs Try.prog 29 = [(0, 1)] := by kernel_rfl
@[go_sem] theorem tkd_29 : tkd Try.prog 29 = some (.slice 22) := by kernel_rfl
@[go_sem] theorem tsz_35 : tsz Try.prog 35 = some 1 := by kernel_rfl
@[go_sem] theorem tby_35 : tby Try.prog 35 = some 24 := by kernel_rfl
@[go_sem] theorem tze_35 : tze Try.prog 35 = some [.slice none 0 0] := by kernel_rfl
@[go_sem] theorem tag_35 : tag Try.prog 35 = some false := by kernel_rfl
@[go_sem] theorem tel_35 : tel Try.prog 35 = some 3 := by kernel_rfl
@[go_sem] theorem tar_35 : tar Try.prog 35 = none := by kernel_rfl
@[go_sem] theorem tcs_35 : tcs Try.prog 35 = [(0, 1)] := by kernel_rfl
@[go_sem] theorem tkd_35 : tkd Try.prog 35 = some (.slice 3) := by kernel_rfl
@[go_sem] theorem tsz_39 : tsz Try.prog 39 = some 1 := by kernel_rfl
@[go_sem] theorem tby_39 : tby Try.prog 39 = some 8 := by kernel_rfl
@[go_sem] theorem tze_39 : tze Try.prog 39 = some [.int .u64 0] := by kernel_rfl
@[go_sem] theorem tag_39 : tag Try.prog 39 = some false := by kernel_rfl
@[go_sem] theorem tar_39 : tar Try.prog 39 = none := by kernel_rfl
@[go_sem] theorem tcs_39 : tcs Try.prog 39 = [] := by kernel_rfl
@[go_sem] theorem tkd_39 : tkd Try.prog 39 = some (.int .u64) := by kernel_rfl
@[go_sem] theorem tsz_56 : tsz Try.prog 56 = some 1 := by kernel_rfl
@[go_sem] theorem tby_56 : tby Try.prog 56 = some 8 := by kernel_rfl
@[go_sem] theorem tze_56 : tze Try.prog 56 = some [.int .u64 0] := by kernel_rfl
@[go_sem] theorem tag_56 : tag Try.prog 56 = some false := by kernel_rfl
@[go_sem] theorem tar_56 : tar Try.prog 56 = none := by kernel_rfl
@[go_sem] theorem tcs_56 : tcs Try.prog 56 = [] := by kernel_rfl
@[go_sem] theorem tkd_56 : tkd Try.prog 56 = some (.int .u64) := by kernel_rfl
@[go_sem] theorem tsz_70 : tsz Try.prog 70 = some 1 := by kernel_rfl
@[go_sem] theorem tby_70 : tby Try.prog 70 = some 4 := by kernel_rfl
@[go_sem] theorem tze_70 : tze Try.prog 70 = some [.int .u32 0] := by kernel_rfl
@[go_sem] theorem tag_70 : tag Try.prog 70 = some false := by kernel_rfl
@[go_sem] theorem tar_70 : tar Try.prog 70 = none := by kernel_rfl
@[go_sem] theorem tcs_70 : tcs Try.prog 70 = [] := by kernel_rfl
@[go_sem] theorem tkd_70 : tkd Try.prog 70 = some (.int .u32) := by kernel_rfl
@[go_sem] theorem tsz_74 : tsz Try.prog 74 = some 1 := by kernel_rfl
@[go_sem] theorem tby_74 : tby Try.prog 74 = some 8 := by kernel_rfl
@[go_sem] theorem tze_74 : tze Try.prog 74 = some [.pointer none] := by kernel_rfl
@[go_sem] theorem tag_74 : tag Try.prog 74 = some false := by kernel_rfl
@[go_sem] theorem tar_74 : tar Try.prog 74 = none := by kernel_rfl
@[go_sem] theorem tcs_74 : tcs Try.prog 74 = [] := by kernel_rfl
@[go_sem] theorem tkd_74 : tkd Try.prog 74 = some .other := by kernel_rfl
@[go_sem] theorem tsz_79 : tsz Try.prog 79 = some 1 := by kernel_rfl
@[go_sem] theorem tby_79 : tby Try.prog 79 = some 8 := by kernel_rfl
@[go_sem] theorem tze_79 : tze Try.prog 79 = some [.pointer none] := by kernel_rfl
@[go_sem] theorem tag_79 : tag Try.prog 79 = some false := by kernel_rfl
@[go_sem] theorem tar_79 : tar Try.prog 79 = none := by kernel_rfl
@[go_sem] theorem tcs_79 : tcs Try.prog 79 = [] := by kernel_rfl
@[go_sem] theorem tkd_79 : tkd Try.prog 79 = some .other := by kernel_rfl
@[go_sem] theorem fxk_3 : fxk Try.prog 3 = none := by kernel_rfl
@[go_sem] theorem fnOk_3 : fnOk Try.prog 3 = true := by kernel_rfl
@[go_sem] theorem fxk_4 : fxk Try.prog 4 = none := by kernel_rfl
@[go_sem] theorem fnOk_4 : fnOk Try.prog 4 = true := by kernel_rfl
@[go_sem] theorem fxk_5 : fxk Try.prog 5 = none := by kernel_rfl
@[go_sem] theorem fnOk_5 : fnOk Try.prog 5 = true := by kernel_rfl
@[go_sem] theorem fxk_6 : fxk Try.prog 6 = none := by kernel_rfl
@[go_sem] theorem fnOk_6 : fnOk Try.prog 6 = true := by kernel_rfl
@[go_sem] theorem fxk_7 : fxk Try.prog 7 = none := by kernel_rfl
@[go_sem] theorem fnOk_7 : fnOk Try.prog 7 = true := by kernel_rfl
@[go_sem] theorem fxk_8 : fxk Try.prog 8 = none := by kernel_rfl
@[go_sem] theorem fnOk_8 : fnOk Try.prog 8 = true := by kernel_rfl
@[go_sem] theorem fxk_9 : fxk Try.prog 9 = none := by kernel_rfl
@[go_sem] theorem fnOk_9 : fnOk Try.prog 9 = true := by kernel_rfl
@[go_sem] theorem fxk_10 : fxk Try.prog 10 = none := by kernel_rfl
@[go_sem] theorem fnOk_10 : fnOk Try.prog 10 = true := by kernel_rfl
@[go_sem] theorem fxk_11 : fxk Try.prog 11 = none := by kernel_rfl
@[go_sem] theorem fnOk_11 : fnOk Try.prog 11 = true := by kernel_rfl
@[go_sem] theorem fxk_12 : fxk Try.prog 12 = none := by kernel_rfl
@[go_sem] theorem fnOk_12 : fnOk Try.prog 12 = true := by kernel_rfl
@[go_sem] theorem fxk_13 : fxk Try.prog 13 = none := by kernel_rfl
@[go_sem] theorem fnOk_13 : fnOk Try.prog 13 = true := by kernel_rfl
@[go_sem] theorem fxk_14 : fxk Try.prog 14 = none := by kernel_rfl
@[go_sem] theorem fnOk_14 : fnOk Try.prog 14 = true := by kernel_rfl
@[go_sem] theorem fxk_15 : fxk Try.prog 15 = none := by kernel_rfl
@[go_sem] theorem fnOk_15 : fnOk Try.prog 15 = true := by kernel_rfl
@[go_sem] theorem fxk_16 : fxk Try.prog 16 = none := by kernel_rfl
@[go_sem] theorem fnOk_16 : fnOk Try.prog 16 = true := by kernel_rfl
@[go_sem] theorem fxk_17 : fxk Try.prog 17 = none := by kernel_rfl
@[go_sem] theorem fnOk_17 : fnOk Try.prog 17 = true := by kernel_rfl
@[go_sem] theorem fxk_18 : fxk Try.prog 18 = none := by kernel_rfl
@[go_sem] theorem fnOk_18 : fnOk Try.prog 18 = true := by kernel_rfl
@[go_sem] theorem fxk_19 : fxk Try.prog 19 = none := by kernel_rfl
@[go_sem] theorem fnOk_19 : fnOk Try.prog 19 = true := by kernel_rfl
@[go_sem] theorem fxk_20 : fxk Try.prog 20 = none := by kernel_rfl
@[go_sem] theorem fnOk_20 : fnOk Try.prog 20 = true := by kernel_rfl
@[go_sem] theorem fxk_21 : fxk Try.prog 21 = none := by kernel_rfl
@[go_sem] theorem fnOk_21 : fnOk Try.prog 21 = true := by kernel_rfl
@[go_sem] theorem fxk_22 : fxk Try.prog 22 = none := by kernel_rfl
@[go_sem] theorem fnOk_22 : fnOk Try.prog 22 = true := by kernel_rfl
@[go_sem] theorem fxk_23 : fxk Try.prog 23 = none := by kernel_rfl
@[go_sem] theorem fnOk_23 : fnOk Try.prog 23 = true := by kernel_rfl
@[go_sem] theorem fxk_24 : fxk Try.prog 24 = none := by kernel_rfl
@[go_sem] theorem fnOk_24 : fnOk Try.prog 24 = true := by kernel_rfl
@[go_sem] theorem fxk_25 : fxk Try.prog 25 = some .frombits := by kernel_rfl
@[go_sem] theorem fxk_26 : fxk Try.prog 26 = none := by kernel_rfl
@[go_sem] theorem fnOk_26 : fnOk Try.prog 26 = true := by kernel_rfl
@[go_sem] theorem fxk_27 : fxk Try.prog 27 = some .bits := by kernel_rfl
@[go_sem] theorem fxk_28 : fxk Try.prog 28 = none := by kernel_rfl
@[go_sem] theorem fnOk_28 : fnOk Try.prog 28 = true := by kernel_rfl
@[go_sem] theorem fxk_29 : fxk Try.prog 29 = none := by kernel_rfl
@[go_sem] theorem fnOk_29 : fnOk Try.prog 29 = true := by kernel_rfl
@[go_sem] theorem fxk_30 : fxk Try.prog 30 = none := by kernel_rfl
@[go_sem] theorem fnOk_30 : fnOk Try.prog 30 = true := by kernel_rfl
@[go_sem] theorem fxk_31 : fxk Try.prog 31 = none := by kernel_rfl
@[go_sem] theorem fnOk_31 : fnOk Try.prog 31 = true := by kernel_rfl
@[go_sem] theorem fxk_32 : fxk Try.prog 32 = none := by kernel_rfl
@[go_sem] theorem fnOk_32 : fnOk Try.prog 32 = true := by kernel_rfl
@[go_sem] theorem fxk_33 : fxk Try.prog 33 = none := by kernel_rfl
@[go_sem] theorem fnOk_33 : fnOk Try.prog 33 = true := by kernel_rfl
@[go_sem] theorem fxk_34 : fxk Try.prog 34 = none := by kernel_rfl
@[go_sem] theorem fnOk_34 : fnOk Try.prog 34 = true := by kernel_rfl
@[go_sem] theorem fxk_35 : fxk Try.prog 35 = none := by kernel_rfl
@[go_sem] theorem fnOk_35 : fnOk Try.prog 35 = true := by kernel_rfl
@[go_sem] theorem fxk_36 : fxk Try.prog 36 = none := by kernel_rfl
@[go_sem] theorem fnOk_36 : fnOk Try.prog 36 = true := by kernel_rfl
@[go_sem] theorem fxk_37 : fxk Try.prog 37 = none := by kernel_rfl
@[go_sem] theorem fnOk_37 : fnOk Try.prog 37 = true := by kernel_rfl
@[go_sem] theorem fxk_38 : fxk Try.prog 38 = some .floor := by kernel_rfl
@[go_sem] theorem fxk_39 : fxk Try.prog 39 = none := by kernel_rfl
@[go_sem] theorem fnOk_39 : fnOk Try.prog 39 = true := by kernel_rfl
@[go_sem] theorem fxk_40 : fxk Try.prog 40 = none := by kernel_rfl
@[go_sem] theorem fnOk_40 : fnOk Try.prog 40 = true := by kernel_rfl
@[go_sem] theorem fxk_41 : fxk Try.prog 41 = none := by kernel_rfl
@[go_sem] theorem fnOk_41 : fnOk Try.prog 41 = true := by kernel_rfl
@[go_sem] theorem fxk_42 : fxk Try.prog 42 = none := by kernel_rfl
@[go_sem] theorem fnOk_42 : fnOk Try.prog 42 = true := by kernel_rfl
@[go_sem] theorem fxk_43 : fxk Try.prog 43 = none := by kernel_rfl
@[go_sem] theorem fnOk_43 : fnOk Try.prog 43 = true := by kernel_rfl
@[go_sem] theorem fxk_44 : fxk Try.prog 44 = none := by kernel_rfl
@[go_sem] theorem fnOk_44 : fnOk Try.prog 44 = true := by kernel_rfl
@[go_sem] theorem fxk_45 : fxk Try.prog 45 = none := by kernel_rfl
@[go_sem] theorem fnOk_45 : fnOk Try.prog 45 = true := by kernel_rfl
@[go_sem] theorem fxk_46 : fxk Try.prog 46 = none := by kernel_rfl
@[go_sem] theorem fnOk_46 : fnOk Try.prog 46 = true := by kernel_rfl
@[go_sem] theorem fxk_47 : fxk Try.prog 47 = none := by kernel_rfl
@[go_sem] theorem fnOk_47 : fnOk Try.prog 47 = true := by kernel_rfl
@[go_sem] theorem fxk_48 : fxk Try.prog 48 = none := by kernel_rfl
@[go_sem] theorem fnOk_48 : fnOk Try.prog 48 = true := by kernel_rfl
@[go_sem] theorem fxk_49 : fxk Try.prog 49 = none := by kernel_rfl
@[go_sem] theorem fxk_50 : fxk Try.prog 50 = none := by kernel_rfl
@[go_sem] theorem fnOk_50 : fnOk Try.prog 50 = true := by kernel_rfl
@[go_sem] theorem fxk_51 : fxk Try.prog 51 = none := by kernel_rfl
@[go_sem] theorem fnOk_51 : fnOk Try.prog 51 = true := by kernel_rfl
@[go_sem] theorem fxk_52 : fxk Try.prog 52 = none := by kernel_rfl
@[go_sem] theorem fxk_53 : fxk Try.prog 53 = none := by kernel_rfl
@[go_sem] theorem fxk_54 : fxk Try.prog 54 = none := by kernel_rfl
@[go_sem] theorem fxk_55 : fxk Try.prog 55 = none := by kernel_rfl
@[go_sem] theorem fxk_56 : fxk Try.prog 56 = none := by kernel_rfl
@[go_sem] theorem fxk_57 : fxk Try.prog 57 = none := by kernel_rfl
@[go_sem] theorem fxk_58 : fxk Try.prog 58 = none := by kernel_rfl
@[go_sem] theorem fxk_59 : fxk Try.prog 59 = none := by kernel_rfl
@[go_sem] theorem fxk_60 : fxk Try.prog 60 = none := by kernel_rfl
theorem mixed : Try.prog.follows .mixedOrders = true := by kernel_rfl
end Go.Proofs.TS
