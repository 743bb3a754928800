/- Facts that the proofs of this claim lean on. -/
import Derived.Test.YteebghpjgcacmaaIdNl
import Derived.Test.YteebghpjgcacmaaProg
set_option linter.unusedSimpArgs false
set_option linter.unusedVariables false
namespace Go.Proofs.GR
open Go Go.Idl Go.Proofs
@[go_sem] theorem tsz_2 : tsz Try.prog 2 = some 1 := by kernel_rfl
@[go_sem] theorem tby_2 : tby Try.prog 2 = some 8 := by kernel_rfl
@[go_sem] theorem tze_2 : tze Try.prog 2 = some [.int .i64 0] := by kernel_rfl
@[go_sem] theorem tag_2 : tag Try.prog 2 = some false := by kernel_rfl
@[go_sem] theorem tar_2 : tar Try.prog 2 = none := by kernel_rfl
@[go_sem] theorem tcs_2 : tcs Try.prog 2 = [] := by kernel_rfl
@[go_sem] theorem tkd_2 : tkd Try.prog 2 = some (.int .i64) := by kernel_rfl
@[go_sem] theorem tsz_3 : tsz Try.prog 3 = some 1 := by kernel_rfl
@[go_sem] theorem tby_3 : tby Try.prog 3 = some 8 := by kernel_rfl
@[go_sem] theorem tze_3 : tze Try.prog 3 = some [.int .i64 0] := by kernel_rfl
@[go_sem] theorem tag_3 : tag Try.prog 3 = some false := by kernel_rfl
@[go_sem] theorem tar_3 : tar Try.prog 3 = none := by kernel_rfl
@[go_sem] theorem tcs_3 : tcs Try.prog 3 = [] := by kernel_rfl
@[go_sem] theorem tkey_3 : tkey Try.prog 3 = some (false, [(.int .i64)]) := by kernel_rfl
@[go_sem] theorem tkd_3 : tkd Try.prog 3 = some (.int .i64) := by kernel_rfl
@[go_sem] theorem tsz_4 : tsz Try.prog 4 = some 1 := by kernel_rfl
@[go_sem] theorem tby_4 : tby Try.prog 4 = some 1 := by kernel_rfl
@[go_sem] theorem tze_4 : tze Try.prog 4 = some [.bool false] := by kernel_rfl
@[go_sem] theorem tag_4 : tag Try.prog 4 = some false := by kernel_rfl
@[go_sem] theorem tar_4 : tar Try.prog 4 = none := by kernel_rfl
@[go_sem] theorem tcs_4 : tcs Try.prog 4 = [] := by kernel_rfl
@[go_sem] theorem tkd_4 : tkd Try.prog 4 = some .bool := by kernel_rfl
@[go_sem] theorem tsz_5 : tsz Try.prog 5 = some 1 := by kernel_rfl
@[go_sem] theorem tby_5 : tby Try.prog 5 = some 1 := by kernel_rfl
@[go_sem] theorem tze_5 : tze Try.prog 5 = some [.int .u8 0] := by kernel_rfl
@[go_sem] theorem tag_5 : tag Try.prog 5 = some false := by kernel_rfl
@[go_sem] theorem tar_5 : tar Try.prog 5 = none := by kernel_rfl
@[go_sem] theorem tcs_5 : tcs Try.prog 5 = [] := by kernel_rfl
@[go_sem] theorem tkd_5 : tkd Try.prog 5 = some (.int .u8) := by kernel_rfl
@[go_sem] theorem tsz_9 : tsz Try.prog 9 = some 1 := by kernel_rfl
@[go_sem] theorem tby_9 : tby Try.prog 9 = some 16 := by kernel_rfl
@[go_sem] theorem tze_9 : tze Try.prog 9 = some [.string ByteArray.empty] := by kernel_rfl
@[go_sem] theorem tag_9 : tag Try.prog 9 = some false := by kernel_rfl
@[go_sem] theorem tar_9 : tar Try.prog 9 = none := by kernel_rfl
@[go_sem] theorem tcs_9 : tcs Try.prog 9 = [] := by kernel_rfl
@[go_sem] theorem tkd_9 : tkd Try.prog 9 = some .string := by kernel_rfl
@[go_sem] theorem tsz_12 : tsz Try.prog 12 = some 1 := by kernel_rfl
@[go_sem] theorem tby_12 : tby Try.prog 12 = some 8 := by kernel_rfl
@[go_sem] theorem tze_12 : tze Try.prog 12 = some [.int .u64 0] := by kernel_rfl
@[go_sem] theorem tag_12 : tag Try.prog 12 = some false := by kernel_rfl
@[go_sem] theorem tar_12 : tar Try.prog 12 = none := by kernel_rfl
@[go_sem] theorem tcs_12 : tcs Try.prog 12 = [] := by kernel_rfl
@[go_sem] theorem tkd_12 : tkd Try.prog 12 = some (.int .u64) := by kernel_rfl
@[go_sem] theorem tsz_13 : tsz Try.prog 13 = some 2 := by kernel_rfl
@[go_sem] theorem tby_13 : tby Try.prog 13 = some 24 := by kernel_rfl
@[go_sem] theorem tze_13 : tze Try.prog 13 = some [.string ByteArray.empty, .int .u64 0] := by kernel_rfl
@[go_sem] theorem tag_13 : tag Try.prog 13 = some true := by kernel_rfl
@[go_sem] theorem tar_13 : tar Try.prog 13 = none := by kernel_rfl
@[go_sem] theorem tfo_13_0 : tfo Try.prog 13 0 = some (0, 9) := by kernel_rfl
@[go_sem] theorem tfo_13_1 : tfo Try.prog 13 1 = some (1, 12) := by kernel_rfl
@[go_sem] theorem tpl_13 : tpl Try.prog 13 = some [(0, 1), (1, 1)] := by kernel_rfl
@[go_sem] theorem tcs_13 : tcs Try.prog 13 = [] := by kernel_rfl
@[go_sem] theorem tkd_13 : tkd Try.prog 13 = some .other := by kernel_rfl
@[go_sem] theorem tsz_20 : tsz Try.prog 20 = some 1 := by kernel_rfl
@[go_sem] theorem tby_20 : tby Try.prog 20 = some 16 := by kernel_rfl
@[go_sem] theorem tze_20 : tze Try.prog 20 = some [.nilIface] := by kernel_rfl
@[go_sem] theorem tag_20 : tag Try.prog 20 = some false := by kernel_rfl
@[go_sem] theorem tar_20 : tar Try.prog 20 = none := by kernel_rfl
@[go_sem] theorem tcs_20 : tcs Try.prog 20 = [] := by kernel_rfl
@[go_sem] theorem tkd_20 : tkd Try.prog 20 = some .iface := by kernel_rfl
@[go_sem] theorem tsz_21 : tsz Try.prog 21 = some 1 := by kernel_rfl
@[go_sem] theorem tby_21 : tby Try.prog 21 = some 4 := by kernel_rfl
@[go_sem] theorem tze_21 : tze Try.prog 21 = some [.int .i32 0] := by kernel_rfl
@[go_sem] theorem tag_21 : tag Try.prog 21 = some false := by kernel_rfl
@[go_sem] theorem tar_21 : tar Try.prog 21 = none := by kernel_rfl
@[go_sem] theorem tcs_21 : tcs Try.prog 21 = [] := by kernel_rfl
@[go_sem] theorem tkd_21 : tkd Try.prog 21 = some (.int .i32) := by kernel_rfl
@[go_sem] theorem tsz_22 : tsz Try.prog 22 = some 1 := by kernel_rfl
@[go_sem] theorem tby_22 : tby Try.prog 22 = some 24 := by kernel_rfl
@[go_sem] theorem tze_22 : tze Try.prog 22 = some [.slice none 0 0] := by kernel_rfl
@[go_sem] theorem tag_22 : tag Try.prog 22 = some false := by kernel_rfl
@[go_sem] theorem tel_22 : tel Try.prog 22 = some 34 := by kernel_rfl
@[go_sem] theorem tar_22 : tar Try.prog 22 = none := by kernel_rfl
@[go_sem] theorem tcs_22 : tcs Try.prog 22 = [(0, 6)] := by kernel_rfl
@[go_sem] theorem tkd_22 : tkd Try.prog 22 = some (.slice 34) := by kernel_rfl
@[go_sem] theorem tsz_24 : tsz Try.prog 24 = some 1 := by kernel_rfl
@[go_sem] theorem tby_24 : tby Try.prog 24 = some 8 := by kernel_rfl
@[go_sem] theorem tze_24 : tze Try.prog 24 = some [.int .i64 0] := by kernel_rfl
@[go_sem] theorem tag_24 : tag Try.prog 24 = some false := by kernel_rfl
@[go_sem] theorem tar_24 : tar Try.prog 24 = none := by kernel_rfl
@[go_sem] theorem tcs_24 : tcs Try.prog 24 = [] := by kernel_rfl
@[go_sem] theorem tkd_24 : tkd Try.prog 24 = some (.int .i64) := by kernel_rfl
@[go_sem] theorem tsz_28 : tsz Try.prog 28 = some 1 := by kernel_rfl
@[go_sem] theorem tby_28 : tby Try.prog 28 = some 24 := by kernel_rfl
@[go_sem] theorem tze_28 : tze Try.prog 28 = some [.slice none 0 0] := by kernel_rfl
@[go_sem] theorem tag_28 : tag Try.prog 28 = some false := by kernel_rfl
@[go_sem] theorem tel_28 : tel Try.prog 28 = some 45 := by kernel_rfl
@[go_sem] theorem tar_28 : tar Try.prog 28 = none := by kernel_rfl
@[go_sem] theorem tcs_28 : tcs Try.prog 28 = [(0, 6)] := by kernel_rfl
@[go_sem] theorem tkd_28 : tkd Try.prog 28 = some (.slice 45) := by kernel_rfl
@[go_sem] theorem tsz_30 : tsz Try.prog 30 = some 1 := by kernel_rfl
@[go_sem] theorem tby_30 : tby Try.prog 30 = some 24 := by kernel_rfl
@[go_sem] theorem tze_30 : tze Try.prog 30 = some [.slice none 0 0] := by kernel_rfl
@[go_sem] theorem tag_30 : tag Try.prog 30 = some false := by kernel_rfl
@[go_sem] theorem tel_30 : tel Try.prog 30 = some 3 := by kernel_rfl
@[go_sem] theorem tar_30 : tar Try.prog 30 = none := by kernel_rfl
@[go_sem] theorem tcs_30 : tcs Try.prog 30 = [(0, 1)] := by kernel_rfl
@[go_sem] theorem tkd_30 : tkd Try.prog 30 = some (.slice 3) := by kernel_rfl
@[go_sem] theorem tsz_31 : tsz Try.prog 31 = some 1 := by kernel_rfl
@[go_sem] theorem tby_31 : tby Try.prog 31 = some 24 := by kernel_rfl
@[go_sem] theorem tze_31 : tze Try.prog 31 = some [.slice none 0 0] := by kernel_rfl
@[go_sem] theorem tag_31 : tag Try.prog 31 = some false := by kernel_rfl
@[go_sem] theorem tel_31 : tel Try.prog 31 = some 56 := by kernel_rfl
@[go_sem] theorem tar_31 : tar Try.prog 31 = none := by kernel_rfl
@[go_sem] theorem tcs_31 : tcs Try.prog 31 = [(0, 1)] := by kernel_rfl
@[go_sem] theorem tkd_31 : tkd Try.prog 31 = some (.slice 56) := by kernel_rfl
@[go_sem] theorem tsz_32 : tsz Try.prog 32 = some 1 := by kernel_rfl
@[go_sem] theorem tby_32 : tby Try.prog 32 = some 24 := by kernel_rfl
@[go_sem] theorem tze_32 : tze Try.prog 32 = some [.slice none 0 0] := by kernel_rfl
@[go_sem] theorem tag_32 : tag Try.prog 32 = some false := by kernel_rfl
@[go_sem] theorem tel_32 : tel Try.prog 32 = some 30 := by kernel_rfl
@[go_sem] theorem tar_32 : tar Try.prog 32 = none := by kernel_rfl
@[go_sem] theorem tcs_32 : tcs Try.prog 32 = [(0, 1)] := by kernel_rfl
@[go_sem] theorem tkd_32 : tkd Try.prog 32 = some (.slice 30) := by kernel_rfl
@[go_sem] theorem tsz_33 : tsz Try.prog 33 = some 6 := by kernel_rfl
@[go_sem] theorem tby_33 : tby Try.prog 33 = some 96 := by kernel_rfl
@[go_sem] theorem tze_33 : tze Try.prog 33 = some [.int .i64 0, .int .i64 0, .int .i64 0, .slice none 0 0, .slice none 0 0, .slice none 0 0] := by kernel_rfl
@[go_sem] theorem tag_33 : tag Try.prog 33 = some true := by kernel_rfl
@[go_sem] theorem tar_33 : tar Try.prog 33 = none := by kernel_rfl
@[go_sem] theorem tfo_33_0 : tfo Try.prog 33 0 = some (0, 3) := by kernel_rfl
@[go_sem] theorem tfo_33_1 : tfo Try.prog 33 1 = some (1, 3) := by kernel_rfl
@[go_sem] theorem tfo_33_2 : tfo Try.prog 33 2 = some (2, 3) := by kernel_rfl
@[go_sem] theorem tfo_33_3 : tfo Try.prog 33 3 = some (3, 30) := by kernel_rfl
@[go_sem] theorem tfo_33_4 : tfo Try.prog 33 4 = some (4, 31) := by kernel_rfl
@[go_sem] theorem tfo_33_5 : tfo Try.prog 33 5 = some (5, 32) := by kernel_rfl
@[go_sem] theorem tpl_33 : tpl Try.prog 33 = some [(0, 1), (1, 1), (2, 1), (3, 1), (4, 1), (5, 1)] := by kernel_rfl
@[go_sem] theorem tcs_33 : tcs Try.prog 33 = [(3, 1), (4, 1), (5, 1)] := by kernel_rfl
@[go_sem] theorem tkd_33 : tkd Try.prog 33 = some .other := by kernel_rfl
@[go_sem] theorem tsz_34 : tsz Try.prog 34 = some 6 := by kernel_rfl
@[go_sem] theorem tby_34 : tby Try.prog 34 = some 96 := by kernel_rfl
@[go_sem] theorem tze_34 : tze Try.prog 34 = some [.int .i64 0, .int .i64 0, .int .i64 0, .slice none 0 0, .slice none 0 0, .slice none 0 0] := by kernel_rfl
@[go_sem] theorem tag_34 : tag Try.prog 34 = some true := by kernel_rfl
@[go_sem] theorem tar_34 : tar Try.prog 34 = none := by kernel_rfl
@[go_sem] theorem tfo_34_0 : tfo Try.prog 34 0 = some (0, 3) := by kernel_rfl
@[go_sem] theorem tfo_34_1 : tfo Try.prog 34 1 = some (1, 3) := by kernel_rfl
@[go_sem] theorem tfo_34_2 : tfo Try.prog 34 2 = some (2, 3) := by kernel_rfl
@[go_sem] theorem tfo_34_3 : tfo Try.prog 34 3 = some (3, 30) := by kernel_rfl
@[go_sem] theorem tfo_34_4 : tfo Try.prog 34 4 = some (4, 31) := by kernel_rfl
@[go_sem] theorem tfo_34_5 : tfo Try.prog 34 5 = some (5, 32) := by kernel_rfl
@[go_sem] theorem tpl_34 : tpl Try.prog 34 = some [(0, 1), (1, 1), (2, 1), (3, 1), (4, 1), (5, 1)] := by kernel_rfl
@[go_sem] theorem tcs_34 : tcs Try.prog 34 = [(3, 1), (4, 1), (5, 1)] := by kernel_rfl
@[go_sem] theorem tkd_34 : tkd Try.prog 34 = some .other := by kernel_rfl
@[go_sem] theorem tsz_45 : tsz Try.prog 45 = some 6 := by kernel_rfl
@[go_sem] theorem tby_45 : tby Try.prog 45 = some 96 := by kernel_rfl
@[go_sem] theorem tze_45 : tze Try.prog 45 = some [.int .i64 0, .int .i64 0, .int .i64 0, .slice none 0 0, .slice none 0 0, .slice none 0 0] := by kernel_rfl
@[go_sem] theorem tag_45 : tag Try.prog 45 = some true := by kernel_rfl
@[go_sem] theorem tar_45 : tar Try.prog 45 = none := by kernel_rfl
@[go_sem] theorem tfo_45_0 : tfo Try.prog 45 0 = some (0, 3) := by kernel_rfl
@[go_sem] theorem tfo_45_1 : tfo Try.prog 45 1 = some (1, 3) := by kernel_rfl
@[go_sem] theorem tfo_45_2 : tfo Try.prog 45 2 = some (2, 3) := by kernel_rfl
@[go_sem] theorem tfo_45_3 : tfo Try.prog 45 3 = some (3, 30) := by kernel_rfl
@[go_sem] theorem tfo_45_4 : tfo Try.prog 45 4 = some (4, 31) := by kernel_rfl
@[go_sem] theorem tfo_45_5 : tfo Try.prog 45 5 = some (5, 32) := by kernel_rfl
@[go_sem] theorem tpl_45 : tpl Try.prog 45 = some [(0, 1), (1, 1), (2, 1), (3, 1), (4, 1), (5, 1)] := by kernel_rfl
@[go_sem] theorem tcs_45 : tcs Try.prog 45 = [(3, 1), (4, 1), (5, 1)] := by kernel_rfl
@[go_sem] theorem tkd_45 : tkd Try.prog 45 = some .other := by kernel_rfl
@[go_sem] theorem tsz_47 : tsz Try.prog 47 = some 1 := by kernel_rfl
@[go_sem] theorem tby_47 : tby Try.prog 47 = some 24 := by kernel_rfl
@[go_sem] theorem tze_47 : tze Try.prog 47 = some [.slice none 0 0] := by kernel_rfl
@[go_sem] theorem tag_47 : tag Try.prog 47 = some false := by kernel_rfl
@[go_sem] theorem tel_47 : tel Try.prog 47 = some 109 := by kernel_rfl
@[go_sem] theorem tar_47 : tar Try.prog 47 = none := by kernel_rfl
@[go_sem] theorem tcs_47 : tcs Try.prog 47 = [(0, 2)] := by kernel_rfl
@[go_sem] theorem tkd_47 : tkd Try.prog 47 = some (.slice 109) := by kernel_rfl
@[go_sem] theorem tsz_48 : tsz Try.prog 48 = some 2 := by kernel_rfl
@[go_sem] theorem tby_48 : tby Try.prog 48 = some 32 := by kernel_rfl
@[go_sem] theorem tze_48 : tze Try.prog 48 = some [.int .i64 0, .slice none 0 0] := by kernel_rfl
@[go_sem] theorem tag_48 : tag Try.prog 48 = some true := by kernel_rfl
@[go_sem] theorem tar_48 : tar Try.prog 48 = none := by kernel_rfl
@[go_sem] theorem tfo_48_0 : tfo Try.prog 48 0 = some (0, 3) := by kernel_rfl
@[go_sem] theorem tfo_48_1 : tfo Try.prog 48 1 = some (1, 47) := by kernel_rfl
@[go_sem] theorem tpl_48 : tpl Try.prog 48 = some [(0, 1), (1, 1)] := by kernel_rfl
@[go_sem] theorem tcs_48 : tcs Try.prog 48 = [(1, 2)] := by kernel_rfl
@[go_sem] theorem tkd_48 : tkd Try.prog 48 = some .other := by kernel_rfl
@[go_sem] theorem tsz_49 : tsz Try.prog 49 = some 2 := by kernel_rfl
@[go_sem] theorem tby_49 : tby Try.prog 49 = some 32 := by kernel_rfl
@[go_sem] theorem tze_49 : tze Try.prog 49 = some [.int .i64 0, .slice none 0 0] := by kernel_rfl
@[go_sem] theorem tag_49 : tag Try.prog 49 = some true := by kernel_rfl
@[go_sem] theorem tar_49 : tar Try.prog 49 = none := by kernel_rfl
@[go_sem] theorem tfo_49_0 : tfo Try.prog 49 0 = some (0, 3) := by kernel_rfl
@[go_sem] theorem tfo_49_1 : tfo Try.prog 49 1 = some (1, 47) := by kernel_rfl
@[go_sem] theorem tpl_49 : tpl Try.prog 49 = some [(0, 1), (1, 1)] := by kernel_rfl
@[go_sem] theorem tcs_49 : tcs Try.prog 49 = [(1, 2)] := by kernel_rfl
@[go_sem] theorem tkd_49 : tkd Try.prog 49 = some .other := by kernel_rfl
@[go_sem] theorem tsz_50 : tsz Try.prog 50 = some 1 := by kernel_rfl
@[go_sem] theorem tby_50 : tby Try.prog 50 = some 24 := by kernel_rfl
@[go_sem] theorem tze_50 : tze Try.prog 50 = some [.slice none 0 0] := by kernel_rfl
@[go_sem] theorem tag_50 : tag Try.prog 50 = some false := by kernel_rfl
@[go_sem] theorem tel_50 : tel Try.prog 50 = some 87 := by kernel_rfl
@[go_sem] theorem tar_50 : tar Try.prog 50 = none := by kernel_rfl
@[go_sem] theorem tcs_50 : tcs Try.prog 50 = [(0, 2)] := by kernel_rfl
@[go_sem] theorem tkd_50 : tkd Try.prog 50 = some (.slice 87) := by kernel_rfl
@[go_sem] theorem tsz_51 : tsz Try.prog 51 = some 4 := by kernel_rfl
@[go_sem] theorem tby_51 : tby Try.prog 51 = some 64 := by kernel_rfl
@[go_sem] theorem tze_51 : tze Try.prog 51 = some [.int .i64 0, .slice none 0 0, .slice none 0 0, .bool false] := by kernel_rfl
@[go_sem] theorem tag_51 : tag Try.prog 51 = some true := by kernel_rfl
@[go_sem] theorem tar_51 : tar Try.prog 51 = none := by kernel_rfl
@[go_sem] theorem tfo_51_0 : tfo Try.prog 51 0 = some (0, 49) := by kernel_rfl
@[go_sem] theorem tfo_51_1 : tfo Try.prog 51 1 = some (2, 50) := by kernel_rfl
@[go_sem] theorem tfo_51_2 : tfo Try.prog 51 2 = some (3, 4) := by kernel_rfl
@[go_sem] theorem tpl_51 : tpl Try.prog 51 = some [(0, 2), (2, 1), (3, 1)] := by kernel_rfl
@[go_sem] theorem tcs_51 : tcs Try.prog 51 = [(1, 2), (2, 2)] := by kernel_rfl
@[go_sem] theorem tkd_51 : tkd Try.prog 51 = some .other := by kernel_rfl
@[go_sem] theorem tsz_52 : tsz Try.prog 52 = some 4 := by kernel_rfl
@[go_sem] theorem tby_52 : tby Try.prog 52 = some 64 := by kernel_rfl
@[go_sem] theorem tze_52 : tze Try.prog 52 = some [.int .i64 0, .slice none 0 0, .slice none 0 0, .bool false] := by kernel_rfl
@[go_sem] theorem tag_52 : tag Try.prog 52 = some true := by kernel_rfl
@[go_sem] theorem tar_52 : tar Try.prog 52 = none := by kernel_rfl
@[go_sem] theorem tfo_52_0 : tfo Try.prog 52 0 = some (0, 49) := by kernel_rfl
@[go_sem] theorem tfo_52_1 : tfo Try.prog 52 1 = some (2, 50) := by kernel_rfl
@[go_sem] theorem tfo_52_2 : tfo Try.prog 52 2 = some (3, 4) := by kernel_rfl
@[go_sem] theorem tpl_52 : tpl Try.prog 52 = some [(0, 2), (2, 1), (3, 1)] := by kernel_rfl
@[go_sem] theorem tcs_52 : tcs Try.prog 52 = [(1, 2), (2, 2)] := by kernel_rfl
@[go_sem] theorem tkd_52 : tkd Try.prog 52 = some .other := by kernel_rfl
@[go_sem] theorem tsz_54 : tsz Try.prog 54 = some 2 := by kernel_rfl
@[go_sem] theorem tby_54 : tby Try.prog 54 = some 16 := by kernel_rfl
@[go_sem] theorem tze_54 : tze Try.prog 54 = some [.int .i64 0, .int .i64 0] := by kernel_rfl
@[go_sem] theorem tag_54 : tag Try.prog 54 = some true := by kernel_rfl
@[go_sem] theorem tar_54 : tar Try.prog 54 = none := by kernel_rfl
@[go_sem] theorem tfo_54_0 : tfo Try.prog 54 0 = some (0, 3) := by kernel_rfl
@[go_sem] theorem tfo_54_1 : tfo Try.prog 54 1 = some (1, 3) := by kernel_rfl
@[go_sem] theorem tpl_54 : tpl Try.prog 54 = some [(0, 1), (1, 1)] := by kernel_rfl
@[go_sem] theorem tcs_54 : tcs Try.prog 54 = [] := by kernel_rfl
@[go_sem] theorem tkd_54 : tkd Try.prog 54 = some .other := by kernel_rfl
@[go_sem] theorem tsz_55 : tsz Try.prog 55 = some 2 := by kernel_rfl
@[go_sem] theorem tby_55 : tby Try.prog 55 = some 16 := by kernel_rfl
@[go_sem] theorem tze_55 : tze Try.prog 55 = some [.int .i64 0, .int .i64 0] := by kernel_rfl
@[go_sem] theorem tag_55 : tag Try.prog 55 = some true := by kernel_rfl
@[go_sem] theorem tar_55 : tar Try.prog 55 = none := by kernel_rfl
@[go_sem] theorem tfo_55_0 : tfo Try.prog 55 0 = some (0, 3) := by kernel_rfl
@[go_sem] theorem tfo_55_1 : tfo Try.prog 55 1 = some (1, 3) := by kernel_rfl
@[go_sem] theorem tpl_55 : tpl Try.prog 55 = some [(0, 1), (1, 1)] := by kernel_rfl
@[go_sem] theorem tcs_55 : tcs Try.prog 55 = [] := by kernel_rfl
@[go_sem] theorem teq_55 : teq Try.prog 55 = some [(.int .i64), (.int .i64)] := by kernel_rfl
@[go_sem] theorem tkd_55 : tkd Try.prog 55 = some .other := by kernel_rfl
@[go_sem] theorem tsz_56 : tsz Try.prog 56 = some 1 := by kernel_rfl
@[go_sem] theorem tby_56 : tby Try.prog 56 = some 24 := by kernel_rfl
@[go_sem] theorem tze_56 : tze Try.prog 56 = some [.slice none 0 0] := by kernel_rfl
@[go_sem] theorem tag_56 : tag Try.prog 56 = some false := by kernel_rfl
@[go_sem] theorem tel_56 : tel Try.prog 56 = some 55 := by kernel_rfl
@[go_sem] theorem tar_56 : tar Try.prog 56 = none := by kernel_rfl
@[go_sem] theorem tcs_56 : tcs Try.prog 56 = [(0, 2)] := by kernel_rfl
@[go_sem] theorem tkd_56 : tkd Try.prog 56 = some (.slice 55) := by kernel_rfl
@[go_sem] theorem tsz_57 : tsz Try.prog 57 = some 3 := by kernel_rfl
@[go_sem] theorem tby_57 : tby Try.prog 57 = some 72 := by kernel_rfl
@[go_sem] theorem tze_57 : tze Try.prog 57 = some [.slice none 0 0, .slice none 0 0, .slice none 0 0] := by kernel_rfl
@[go_sem] theorem tag_57 : tag Try.prog 57 = some true := by kernel_rfl
@[go_sem] theorem tar_57 : tar Try.prog 57 = none := by kernel_rfl
@[go_sem] theorem tfo_57_0 : tfo Try.prog 57 0 = some (0, 30) := by kernel_rfl
@[go_sem] theorem tfo_57_1 : tfo Try.prog 57 1 = some (1, 31) := by kernel_rfl
@[go_sem] theorem tfo_57_2 : tfo Try.prog 57 2 = some (2, 30) := by kernel_rfl
@[go_sem] theorem tpl_57 : tpl Try.prog 57 = some [(0, 1), (1, 1), (2, 1)] := by kernel_rfl
@[go_sem] theorem tcs_57 : tcs Try.prog 57 = [(0, 1), (1, 1), (2, 1)] := by kernel_rfl
@[go_sem] theorem tkd_57 : tkd Try.prog 57 = some .other := by kernel_rfl
@[go_sem] theorem tsz_58 : tsz Try.prog 58 = some 3 := by kernel_rfl
@[go_sem] theorem tby_58 : tby Try.prog 58 = some 72 := by kernel_rfl
@[go_sem] theorem tze_58 : tze Try.prog 58 = some [.slice none 0 0, .slice none 0 0, .slice none 0 0] := by kernel_rfl
@[go_sem] theorem tag_58 : tag Try.prog 58 = some true := by kernel_rfl
@[go_sem] theorem tar_58 : tar Try.prog 58 = none := by kernel_rfl
@[go_sem] theorem tfo_58_0 : tfo Try.prog 58 0 = some (0, 30) := by kernel_rfl
@[go_sem] theorem tfo_58_1 : tfo Try.prog 58 1 = some (1, 31) := by kernel_rfl
@[go_sem] theorem tfo_58_2 : tfo Try.prog 58 2 = some (2, 30) := by kernel_rfl
@[go_sem] theorem tpl_58 : tpl Try.prog 58 = some [(0, 1), (1, 1), (2, 1)] := by kernel_rfl
@[go_sem] theorem tcs_58 : tcs Try.prog 58 = [(0, 1), (1, 1), (2, 1)] := by kernel_rfl
@[go_sem] theorem tkd_58 : tkd Try.prog 58 = some .other := by kernel_rfl
@[go_sem] theorem tsz_62 : tsz Try.prog 62 = some 3 := by kernel_rfl
@[go_sem] theorem tby_62 : tby Try.prog 62 = some 72 := by kernel_rfl
@[go_sem] theorem tze_62 : tze Try.prog 62 = some [.slice none 0 0, .slice none 0 0, .slice none 0 0] := by kernel_rfl
@[go_sem] theorem tag_62 : tag Try.prog 62 = some true := by kernel_rfl
@[go_sem] theorem tar_62 : tar Try.prog 62 = none := by kernel_rfl
@[go_sem] theorem tfo_62_0 : tfo Try.prog 62 0 = some (0, 30) := by kernel_rfl
@[go_sem] theorem tfo_62_1 : tfo Try.prog 62 1 = some (1, 31) := by kernel_rfl
@[go_sem] theorem tfo_62_2 : tfo Try.prog 62 2 = some (2, 30) := by kernel_rfl
@[go_sem] theorem tpl_62 : tpl Try.prog 62 = some [(0, 1), (1, 1), (2, 1)] := by kernel_rfl
@[go_sem] theorem tcs_62 : tcs Try.prog 62 = [(0, 1), (1, 1), (2, 1)] := by kernel_rfl
@[go_sem] theorem tkd_62 : tkd Try.prog 62 = some .other := by kernel_rfl
@[go_sem] theorem tsz_67 : tsz Try.prog 67 = some 1 := by kernel_rfl
@[go_sem] theorem tby_67 : tby Try.prog 67 = some 24 := by kernel_rfl
@[go_sem] theorem tze_67 : tze Try.prog 67 = some [.slice none 0 0] := by kernel_rfl
@[go_sem] theorem tag_67 : tag Try.prog 67 = some false := by kernel_rfl
@[go_sem] theorem tel_67 : tel Try.prog 67 = some 22 := by kernel_rfl
@[go_sem] theorem tar_67 : tar Try.prog 67 = none := by kernel_rfl
@[go_sem] theorem tcs_67 : tcs Try.prog 67 = [(0, 1)] := by kernel_rfl
@[go_sem] theorem tkd_67 : tkd Try.prog 67 = some (.slice 22) := by kernel_rfl
@[go_sem] theorem tsz_76 : tsz Try.prog 76 = some 2 := by kernel_rfl
@[go_sem] theorem tby_76 : tby Try.prog 76 = some 16 := by kernel_rfl
@[go_sem] theorem tze_76 : tze Try.prog 76 = some [.int .i64 0, .int .i64 0] := by kernel_rfl
@[go_sem] theorem tag_76 : tag Try.prog 76 = some true := by kernel_rfl
@[go_sem] theorem tar_76 : tar Try.prog 76 = none := by kernel_rfl
@[go_sem] theorem tfo_76_0 : tfo Try.prog 76 0 = some (0, 3) := by kernel_rfl
@[go_sem] theorem tfo_76_1 : tfo Try.prog 76 1 = some (1, 3) := by kernel_rfl
@[go_sem] theorem tpl_76 : tpl Try.prog 76 = some [(0, 1), (1, 1)] := by kernel_rfl
@[go_sem] theorem tcs_76 : tcs Try.prog 76 = [] := by kernel_rfl
@[go_sem] theorem tkd_76 : tkd Try.prog 76 = some .other := by kernel_rfl
@[go_sem] theorem tsz_77 : tsz Try.prog 77 = some 2 := by kernel_rfl
@[go_sem] theorem tby_77 : tby Try.prog 77 = some 16 := by kernel_rfl
@[go_sem] theorem tze_77 : tze Try.prog 77 = some [.int .i64 0, .int .i64 0] := by kernel_rfl
@[go_sem] theorem tag_77 : tag Try.prog 77 = some true := by kernel_rfl
@[go_sem] theorem tar_77 : tar Try.prog 77 = none := by kernel_rfl
@[go_sem] theorem tfo_77_0 : tfo Try.prog 77 0 = some (0, 3) := by kernel_rfl
@[go_sem] theorem tfo_77_1 : tfo Try.prog 77 1 = some (1, 3) := by kernel_rfl
@[go_sem] theorem tpl_77 : tpl Try.prog 77 = some [(0, 1), (1, 1)] := by kernel_rfl
@[go_sem] theorem tcs_77 : tcs Try.prog 77 = [] := by kernel_rfl
@[go_sem] theorem teq_77 : teq Try.prog 77 = some [(.int .i64), (.int .i64)] := by kernel_rfl
@[go_sem] theorem tkd_77 : tkd Try.prog 77 = some .other := by kernel_rfl
@[go_sem] theorem tsz_78 : tsz Try.prog 78 = some 1 := by kernel_rfl
@[go_sem] theorem tby_78 : tby Try.prog 78 = some 24 := by kernel_rfl
@[go_sem] theorem tze_78 : tze Try.prog 78 = some [.slice none 0 0] := by kernel_rfl
@[go_sem] theorem tag_78 : tag Try.prog 78 = some false := by kernel_rfl
@[go_sem] theorem tel_78 : tel Try.prog 78 = some 77 := by kernel_rfl
@[go_sem] theorem tar_78 : tar Try.prog 78 = none := by kernel_rfl
@[go_sem] theorem tcs_78 : tcs Try.prog 78 = [(0, 2)] := by kernel_rfl
@[go_sem] theorem tkd_78 : tkd Try.prog 78 = some (.slice 77) := by kernel_rfl
@[go_sem] theorem tsz_79 : tsz Try.prog 79 = some 2 := by kernel_rfl
@[go_sem] theorem tby_79 : tby Try.prog 79 = some 32 := by kernel_rfl
@[go_sem] theorem tze_79 : tze Try.prog 79 = some [.int .i64 0, .slice none 0 0] := by kernel_rfl
@[go_sem] theorem tag_79 : tag Try.prog 79 = some true := by kernel_rfl
@[go_sem] theorem tar_79 : tar Try.prog 79 = none := by kernel_rfl
@[go_sem] theorem tfo_79_0 : tfo Try.prog 79 0 = some (0, 3) := by kernel_rfl
@[go_sem] theorem tfo_79_1 : tfo Try.prog 79 1 = some (1, 78) := by kernel_rfl
@[go_sem] theorem tpl_79 : tpl Try.prog 79 = some [(0, 1), (1, 1)] := by kernel_rfl
@[go_sem] theorem tcs_79 : tcs Try.prog 79 = [(1, 2)] := by kernel_rfl
@[go_sem] theorem tkd_79 : tkd Try.prog 79 = some .other := by kernel_rfl
@[go_sem] theorem tsz_80 : tsz Try.prog 80 = some 2 := by kernel_rfl
@[go_sem] theorem tby_80 : tby Try.prog 80 = some 32 := by kernel_rfl
@[go_sem] theorem tze_80 : tze Try.prog 80 = some [.int .i64 0, .slice none 0 0] := by kernel_rfl
@[go_sem] theorem tag_80 : tag Try.prog 80 = some true := by kernel_rfl
@[go_sem] theorem tar_80 : tar Try.prog 80 = none := by kernel_rfl
@[go_sem] theorem tfo_80_0 : tfo Try.prog 80 0 = some (0, 3) := by kernel_rfl
@[go_sem] theorem tfo_80_1 : tfo Try.prog 80 1 = some (1, 78) := by kernel_rfl
@[go_sem] theorem tpl_80 : tpl Try.prog 80 = some [(0, 1), (1, 1)] := by kernel_rfl
@[go_sem] theorem tcs_80 : tcs Try.prog 80 = [(1, 2)] := by kernel_rfl
@[go_sem] theorem tkd_80 : tkd Try.prog 80 = some .other := by kernel_rfl
@[go_sem] theorem tsz_81 : tsz Try.prog 81 = some 1 := by kernel_rfl
@[go_sem] theorem tby_81 : tby Try.prog 81 = some 24 := by kernel_rfl
@[go_sem] theorem tze_81 : tze Try.prog 81 = some [.slice none 0 0] := by kernel_rfl
@[go_sem] theorem tag_81 : tag Try.prog 81 = some false := by kernel_rfl
@[go_sem] theorem tel_81 : tel Try.prog 81 = some 80 := by kernel_rfl
@[go_sem] theorem tar_81 : tar Try.prog 81 = none := by kernel_rfl
@[go_sem] theorem tcs_81 : tcs Try.prog 81 = [(0, 2)] := by kernel_rfl
@[go_sem] theorem tkd_81 : tkd Try.prog 81 = some (.slice 80) := by kernel_rfl
@[go_sem] theorem tsz_82 : tsz Try.prog 82 = some 1 := by kernel_rfl
@[go_sem] theorem tby_82 : tby Try.prog 82 = some 24 := by kernel_rfl
@[go_sem] theorem tze_82 : tze Try.prog 82 = some [.slice none 0 0] := by kernel_rfl
@[go_sem] theorem tag_82 : tag Try.prog 82 = some false := by kernel_rfl
@[go_sem] theorem tel_82 : tel Try.prog 82 = some 89 := by kernel_rfl
@[go_sem] theorem tar_82 : tar Try.prog 82 = none := by kernel_rfl
@[go_sem] theorem tcs_82 : tcs Try.prog 82 = [(0, 3)] := by kernel_rfl
@[go_sem] theorem tkd_82 : tkd Try.prog 82 = some (.slice 89) := by kernel_rfl
@[go_sem] theorem tsz_83 : tsz Try.prog 83 = some 4 := by kernel_rfl
@[go_sem] theorem tby_83 : tby Try.prog 83 = some 80 := by kernel_rfl
@[go_sem] theorem tze_83 : tze Try.prog 83 = some [.int .i64 0, .slice none 0 0, .slice none 0 0, .slice none 0 0] := by kernel_rfl
@[go_sem] theorem tag_83 : tag Try.prog 83 = some true := by kernel_rfl
@[go_sem] theorem tar_83 : tar Try.prog 83 = none := by kernel_rfl
@[go_sem] theorem tfo_83_0 : tfo Try.prog 83 0 = some (0, 3) := by kernel_rfl
@[go_sem] theorem tfo_83_1 : tfo Try.prog 83 1 = some (1, 30) := by kernel_rfl
@[go_sem] theorem tfo_83_2 : tfo Try.prog 83 2 = some (2, 81) := by kernel_rfl
@[go_sem] theorem tfo_83_3 : tfo Try.prog 83 3 = some (3, 82) := by kernel_rfl
@[go_sem] theorem tpl_83 : tpl Try.prog 83 = some [(0, 1), (1, 1), (2, 1), (3, 1)] := by kernel_rfl
@[go_sem] theorem tcs_83 : tcs Try.prog 83 = [(1, 1), (2, 2), (3, 3)] := by kernel_rfl
@[go_sem] theorem tkd_83 : tkd Try.prog 83 = some .other := by kernel_rfl
@[go_sem] theorem tsz_84 : tsz Try.prog 84 = some 4 := by kernel_rfl
@[go_sem] theorem tby_84 : tby Try.prog 84 = some 80 := by kernel_rfl
@[go_sem] theorem tze_84 : tze Try.prog 84 = some [.int .i64 0, .slice none 0 0, .slice none 0 0, .slice none 0 0] := by kernel_rfl
@[go_sem] theorem tag_84 : tag Try.prog 84 = some true := by kernel_rfl
@[go_sem] theorem tar_84 : tar Try.prog 84 = none := by kernel_rfl
@[go_sem] theorem tfo_84_0 : tfo Try.prog 84 0 = some (0, 3) := by kernel_rfl
@[go_sem] theorem tfo_84_1 : tfo Try.prog 84 1 = some (1, 30) := by kernel_rfl
@[go_sem] theorem tfo_84_2 : tfo Try.prog 84 2 = some (2, 81) := by kernel_rfl
@[go_sem] theorem tfo_84_3 : tfo Try.prog 84 3 = some (3, 82) := by kernel_rfl
@[go_sem] theorem tpl_84 : tpl Try.prog 84 = some [(0, 1), (1, 1), (2, 1), (3, 1)] := by kernel_rfl
@[go_sem] theorem tcs_84 : tcs Try.prog 84 = [(1, 1), (2, 2), (3, 3)] := by kernel_rfl
@[go_sem] theorem tkd_84 : tkd Try.prog 84 = some .other := by kernel_rfl
@[go_sem] theorem tsz_85 : tsz Try.prog 85 = some 1 := by kernel_rfl
@[go_sem] theorem tby_85 : tby Try.prog 85 = some 24 := by kernel_rfl
@[go_sem] theorem tze_85 : tze Try.prog 85 = some [.slice none 0 0] := by kernel_rfl
@[go_sem] theorem tag_85 : tag Try.prog 85 = some false := by kernel_rfl
@[go_sem] theorem tel_85 : tel Try.prog 85 = some 84 := by kernel_rfl
@[go_sem] theorem tar_85 : tar Try.prog 85 = none := by kernel_rfl
@[go_sem] theorem tcs_85 : tcs Try.prog 85 = [(0, 4)] := by kernel_rfl
@[go_sem] theorem tkd_85 : tkd Try.prog 85 = some (.slice 84) := by kernel_rfl
@[go_sem] theorem tsz_86 : tsz Try.prog 86 = some 2 := by kernel_rfl
@[go_sem] theorem tby_86 : tby Try.prog 86 = some 32 := by kernel_rfl
@[go_sem] theorem tze_86 : tze Try.prog 86 = some [.int .i64 0, .slice none 0 0] := by kernel_rfl
@[go_sem] theorem tag_86 : tag Try.prog 86 = some true := by kernel_rfl
@[go_sem] theorem tar_86 : tar Try.prog 86 = none := by kernel_rfl
@[go_sem] theorem tfo_86_0 : tfo Try.prog 86 0 = some (0, 3) := by kernel_rfl
@[go_sem] theorem tfo_86_1 : tfo Try.prog 86 1 = some (1, 85) := by kernel_rfl
@[go_sem] theorem tpl_86 : tpl Try.prog 86 = some [(0, 1), (1, 1)] := by kernel_rfl
@[go_sem] theorem tcs_86 : tcs Try.prog 86 = [(1, 4)] := by kernel_rfl
@[go_sem] theorem tkd_86 : tkd Try.prog 86 = some .other := by kernel_rfl
@[go_sem] theorem tsz_87 : tsz Try.prog 87 = some 2 := by kernel_rfl
@[go_sem] theorem tby_87 : tby Try.prog 87 = some 32 := by kernel_rfl
@[go_sem] theorem tze_87 : tze Try.prog 87 = some [.int .i64 0, .slice none 0 0] := by kernel_rfl
@[go_sem] theorem tag_87 : tag Try.prog 87 = some true := by kernel_rfl
@[go_sem] theorem tar_87 : tar Try.prog 87 = none := by kernel_rfl
@[go_sem] theorem tfo_87_0 : tfo Try.prog 87 0 = some (0, 3) := by kernel_rfl
@[go_sem] theorem tfo_87_1 : tfo Try.prog 87 1 = some (1, 85) := by kernel_rfl
@[go_sem] theorem tpl_87 : tpl Try.prog 87 = some [(0, 1), (1, 1)] := by kernel_rfl
@[go_sem] theorem tcs_87 : tcs Try.prog 87 = [(1, 4)] := by kernel_rfl
@[go_sem] theorem tkd_87 : tkd Try.prog 87 = some .other := by kernel_rfl
@[go_sem] theorem tsz_88 : tsz Try.prog 88 = some 3 := by kernel_rfl
@[go_sem] theorem tby_88 : tby Try.prog 88 = some 24 := by kernel_rfl
@[go_sem] theorem tze_88 : tze Try.prog 88 = some [.int .i64 0, .int .i64 0, .int .i64 0] := by kernel_rfl
@[go_sem] theorem tag_88 : tag Try.prog 88 = some true := by kernel_rfl
@[go_sem] theorem tar_88 : tar Try.prog 88 = none := by kernel_rfl
@[go_sem] theorem tfo_88_0 : tfo Try.prog 88 0 = some (0, 3) := by kernel_rfl
@[go_sem] theorem tfo_88_1 : tfo Try.prog 88 1 = some (1, 3) := by kernel_rfl
@[go_sem] theorem tfo_88_2 : tfo Try.prog 88 2 = some (2, 3) := by kernel_rfl
@[go_sem] theorem tpl_88 : tpl Try.prog 88 = some [(0, 1), (1, 1), (2, 1)] := by kernel_rfl
@[go_sem] theorem tcs_88 : tcs Try.prog 88 = [] := by kernel_rfl
@[go_sem] theorem tkd_88 : tkd Try.prog 88 = some .other := by kernel_rfl
@[go_sem] theorem tsz_89 : tsz Try.prog 89 = some 3 := by kernel_rfl
@[go_sem] theorem tby_89 : tby Try.prog 89 = some 24 := by kernel_rfl
@[go_sem] theorem tze_89 : tze Try.prog 89 = some [.int .i64 0, .int .i64 0, .int .i64 0] := by kernel_rfl
@[go_sem] theorem tag_89 : tag Try.prog 89 = some true := by kernel_rfl
@[go_sem] theorem tar_89 : tar Try.prog 89 = none := by kernel_rfl
@[go_sem] theorem tfo_89_0 : tfo Try.prog 89 0 = some (0, 3) := by kernel_rfl
@[go_sem] theorem tfo_89_1 : tfo Try.prog 89 1 = some (1, 3) := by kernel_rfl
@[go_sem] theorem tfo_89_2 : tfo Try.prog 89 2 = some (2, 3) := by kernel_rfl
@[go_sem] theorem tpl_89 : tpl Try.prog 89 = some [(0, 1), (1, 1), (2, 1)] := by kernel_rfl
@[go_sem] theorem tcs_89 : tcs Try.prog 89 = [] := by kernel_rfl
@[go_sem] theorem teq_89 : teq Try.prog 89 = some [(.int .i64), (.int .i64), (.int .i64)] := by kernel_rfl
@[go_sem] theorem tkd_89 : tkd Try.prog 89 = some .other := by kernel_rfl
@[go_sem] theorem tsz_90 : tsz Try.prog 90 = some 0 := by kernel_rfl
@[go_sem] theorem tby_90 : tby Try.prog 90 = some 0 := by kernel_rfl
@[go_sem] theorem tze_90 : tze Try.prog 90 = some [] := by kernel_rfl
@[go_sem] theorem tag_90 : tag Try.prog 90 = some true := by kernel_rfl
@[go_sem] theorem tar_90 : tar Try.prog 90 = none := by kernel_rfl
@[go_sem] theorem tpl_90 : tpl Try.prog 90 = some [] := by kernel_rfl
@[go_sem] theorem tcs_90 : tcs Try.prog 90 = [] := by kernel_rfl
@[go_sem] theorem tkd_90 : tkd Try.prog 90 = some .other := by kernel_rfl
@[go_sem] theorem tsz_91 : tsz Try.prog 91 = some 0 := by kernel_rfl
@[go_sem] theorem tby_91 : tby Try.prog 91 = some 0 := by kernel_rfl
@[go_sem] theorem tze_91 : tze Try.prog 91 = some [] := by kernel_rfl
@[go_sem] theorem tag_91 : tag Try.prog 91 = some true := by kernel_rfl
@[go_sem] theorem tar_91 : tar Try.prog 91 = none := by kernel_rfl
@[go_sem] theorem tpl_91 : tpl Try.prog 91 = some [] := by kernel_rfl
@[go_sem] theorem tcs_91 : tcs Try.prog 91 = [] := by kernel_rfl
@[go_sem] theorem tkd_91 : tkd Try.prog 91 = some .other := by kernel_rfl
@[go_sem] theorem tsz_109 : tsz Try.prog 109 = some 2 := by kernel_rfl
@[go_sem] theorem tby_109 : tby Try.prog 109 = some 16 := by kernel_rfl
@[go_sem] theorem tze_109 : tze Try.prog 109 = some [.int .i64 0, .int .i64 0] := by kernel_rfl
@[go_sem] theorem tag_109 : tag Try.prog 109 = some true := by kernel_rfl
@[go_sem] theorem tar_109 : tar Try.prog 109 = some (2, 3) := by kernel_rfl
@[go_sem] theorem tpl_109 : tpl Try.prog 109 = none := by kernel_rfl
@[go_sem] theorem tcs_109 : tcs Try.prog 109 = [] := by kernel_rfl
@[go_sem] theorem teq_109 : teq Try.prog 109 = some [(.int .i64), (.int .i64)] := by kernel_rfl
@[go_sem] theorem tkey_109 : tkey Try.prog 109 = some (true, [(.int .i64), (.int .i64)]) := by kernel_rfl
@[go_sem] theorem tkd_109 : tkd Try.prog 109 = some .other := by kernel_rfl
@[go_sem] theorem tsz_115 : tsz Try.prog 115 = some 9 := by kernel_rfl
@[go_sem] theorem tby_115 : tby Try.prog 115 = some 152 := by kernel_rfl
@[go_sem] theorem tze_115 : tze Try.prog 115 = some [.int .i64 0, .slice none 0 0, .slice none 0 0, .slice none 0 0, .int .i64 0, .int .i64 0, .slice none 0 0, .int .i64 0, .slice none 0 0] := by kernel_rfl
@[go_sem] theorem tag_115 : tag Try.prog 115 = some true := by kernel_rfl
@[go_sem] theorem tar_115 : tar Try.prog 115 = none := by kernel_rfl
@[go_sem] theorem tfo_115_0 : tfo Try.prog 115 0 = some (0, 84) := by kernel_rfl
@[go_sem] theorem tfo_115_1 : tfo Try.prog 115 1 = some (4, 3) := by kernel_rfl
@[go_sem] theorem tfo_115_2 : tfo Try.prog 115 2 = some (5, 87) := by kernel_rfl
@[go_sem] theorem tfo_115_3 : tfo Try.prog 115 3 = some (7, 49) := by kernel_rfl
@[go_sem] theorem tpl_115 : tpl Try.prog 115 = some [(0, 4), (4, 1), (5, 2), (7, 2)] := by kernel_rfl
@[go_sem] theorem tcs_115 : tcs Try.prog 115 = [(1, 1), (2, 2), (3, 3), (6, 4), (8, 2)] := by kernel_rfl
@[go_sem] theorem tkd_115 : tkd Try.prog 115 = some .other := by kernel_rfl
@[go_sem] theorem tsz_116 : tsz Try.prog 116 = some 9 := by kernel_rfl
@[go_sem] theorem tby_116 : tby Try.prog 116 = some 152 := by kernel_rfl
@[go_sem] theorem tze_116 : tze Try.prog 116 = some [.int .i64 0, .slice none 0 0, .slice none 0 0, .slice none 0 0, .int .i64 0, .int .i64 0, .slice none 0 0, .int .i64 0, .slice none 0 0] := by kernel_rfl
@[go_sem] theorem tag_116 : tag Try.prog 116 = some true := by kernel_rfl
@[go_sem] theorem tar_116 : tar Try.prog 116 = none := by kernel_rfl
@[go_sem] theorem tfo_116_0 : tfo Try.prog 116 0 = some (0, 84) := by kernel_rfl
@[go_sem] theorem tfo_116_1 : tfo Try.prog 116 1 = some (4, 3) := by kernel_rfl
@[go_sem] theorem tfo_116_2 : tfo Try.prog 116 2 = some (5, 87) := by kernel_rfl
@[go_sem] theorem tfo_116_3 : tfo Try.prog 116 3 = some (7, 49) := by kernel_rfl
@[go_sem] theorem tpl_116 : tpl Try.prog 116 = some [(0, 4), (4, 1), (5, 2), (7, 2)] := by kernel_rfl
@[go_sem] theorem tcs_116 : tcs Try.prog 116 = [(1, 1), (2, 2), (3, 3), (6, 4), (8, 2)] := by kernel_rfl
@[go_sem] theorem tkd_116 : tkd Try.prog 116 = some .other := by kernel_rfl
@[go_sem] theorem tsz_121 : tsz Try.prog 121 = some 1 := by kernel_rfl
@[go_sem] theorem tby_121 : tby Try.prog 121 = some 8 := by kernel_rfl
@[go_sem] theorem tze_121 : tze Try.prog 121 = some [.int .u64 0] := by kernel_rfl
@[go_sem] theorem tag_121 : tag Try.prog 121 = some false := by kernel_rfl
@[go_sem] theorem tar_121 : tar Try.prog 121 = none := by kernel_rfl
@[go_sem] theorem tcs_121 : tcs Try.prog 121 = [] := by kernel_rfl
@[go_sem] theorem tkd_121 : tkd Try.prog 121 = some (.int .u64) := by kernel_rfl
@[go_sem] theorem tsz_122 : tsz Try.prog 122 = some 1 := by kernel_rfl
@[go_sem] theorem tby_122 : tby Try.prog 122 = some 8 := by kernel_rfl
@[go_sem] theorem tze_122 : tze Try.prog 122 = some [.map none] := by kernel_rfl
@[go_sem] theorem tag_122 : tag Try.prog 122 = some false := by kernel_rfl
@[go_sem] theorem tar_122 : tar Try.prog 122 = none := by kernel_rfl
@[go_sem] theorem tcs_122 : tcs Try.prog 122 = [] := by kernel_rfl
@[go_sem] theorem tmp_122 : tmp Try.prog 122 = some (3, 3) := by kernel_rfl
@[go_sem] theorem tkd_122 : tkd Try.prog 122 = some (.map 3 3) := by kernel_rfl
@[go_sem] theorem tsz_129 : tsz Try.prog 129 = some 1 := by kernel_rfl
@[go_sem] theorem tby_129 : tby Try.prog 129 = some 8 := by kernel_rfl
@[go_sem] theorem tze_129 : tze Try.prog 129 = some [.map none] := by kernel_rfl
@[go_sem] theorem tag_129 : tag Try.prog 129 = some false := by kernel_rfl
@[go_sem] theorem tar_129 : tar Try.prog 129 = none := by kernel_rfl
@[go_sem] theorem tcs_129 : tcs Try.prog 129 = [] := by kernel_rfl
@[go_sem] theorem tmp_129 : tmp Try.prog 129 = some (109, 3) := by kernel_rfl
@[go_sem] theorem tkd_129 : tkd Try.prog 129 = some (.map 109 3) := by kernel_rfl
@[go_sem] theorem tsz_132 : tsz Try.prog 132 = some 1 := by kernel_rfl
@[go_sem] theorem tby_132 : tby Try.prog 132 = some 8 := by kernel_rfl
@[go_sem] theorem tze_132 : tze Try.prog 132 = some [.nilFunc] := by kernel_rfl
@[go_sem] theorem tag_132 : tag Try.prog 132 = some true := by kernel_rfl
@[go_sem] theorem tar_132 : tar Try.prog 132 = none := by kernel_rfl
@[go_sem] theorem tfo_132_0 : tfo Try.prog 132 0 = some (0, 35) := by kernel_rfl
@[go_sem] theorem tpl_132 : tpl Try.prog 132 = some [(0, 1)] := by kernel_rfl
@[go_sem] theorem tcs_132 : tcs Try.prog 132 = [] := by kernel_rfl
@[go_sem] theorem tkd_132 : tkd Try.prog 132 = some .other := by kernel_rfl
@[go_sem] theorem tsz_133 : tsz Try.prog 133 = some 1 := by kernel_rfl
@[go_sem] theorem tby_133 : tby Try.prog 133 = some 8 := by kernel_rfl
@[go_sem] theorem tze_133 : tze Try.prog 133 = some [.nilFunc] := by kernel_rfl
@[go_sem] theorem tag_133 : tag Try.prog 133 = some true := by kernel_rfl
@[go_sem] theorem tar_133 : tar Try.prog 133 = none := by kernel_rfl
@[go_sem] theorem tfo_133_0 : tfo Try.prog 133 0 = some (0, 35) := by kernel_rfl
@[go_sem] theorem tpl_133 : tpl Try.prog 133 = some [(0, 1)] := by kernel_rfl
@[go_sem] theorem tcs_133 : tcs Try.prog 133 = [] := by kernel_rfl
@[go_sem] theorem tkd_133 : tkd Try.prog 133 = some .other := by kernel_rfl
@[go_sem] theorem tsz_134 : tsz Try.prog 134 = some 1 := by kernel_rfl
@[go_sem] theorem tby_134 : tby Try.prog 134 = some 24 := by kernel_rfl
@[go_sem] theorem tze_134 : tze Try.prog 134 = some [.slice none 0 0] := by kernel_rfl
@[go_sem] theorem tag_134 : tag Try.prog 134 = some false := by kernel_rfl
@[go_sem] theorem tel_134 : tel Try.prog 134 = some 133 := by kernel_rfl
@[go_sem] theorem tar_134 : tar Try.prog 134 = none := by kernel_rfl
@[go_sem] theorem tcs_134 : tcs Try.prog 134 = [(0, 1)] := by kernel_rfl
@[go_sem] theorem tkd_134 : tkd Try.prog 134 = some (.slice 133) := by kernel_rfl
@[go_sem] theorem tsz_148 : tsz Try.prog 148 = some 1 := by kernel_rfl
@[go_sem] theorem tby_148 : tby Try.prog 148 = some 4 := by kernel_rfl
@[go_sem] theorem tze_148 : tze Try.prog 148 = some [.int .u32 0] := by kernel_rfl
@[go_sem] theorem tag_148 : tag Try.prog 148 = some false := by kernel_rfl
@[go_sem] theorem tar_148 : tar Try.prog 148 = none := by kernel_rfl
@[go_sem] theorem tcs_148 : tcs Try.prog 148 = [] := by kernel_rfl
@[go_sem] theorem tkd_148 : tkd Try.prog 148 = some (.int .u32) := by kernel_rfl
@[go_sem] theorem tsz_151 : tsz Try.prog 151 = some 1 := by kernel_rfl
@[go_sem] theorem tby_151 : tby Try.prog 151 = some 8 := by kernel_rfl
@[go_sem] theorem tze_151 : tze Try.prog 151 = some [.int .u64 0] := by kernel_rfl
@[go_sem] theorem tag_151 : tag Try.prog 151 = some false := by kernel_rfl
@[go_sem] theorem tar_151 : tar Try.prog 151 = none := by kernel_rfl
@[go_sem] theorem tcs_151 : tcs Try.prog 151 = [] := by kernel_rfl
@[go_sem] theorem tkd_151 : tkd Try.prog 151 = some (.int .u64) := by kernel_rfl
@[go_sem] theorem tsz_164 : tsz Try.prog 164 = some 1 := by kernel_rfl
@[go_sem] theorem tby_164 : tby Try.prog 164 = some 8 := by kernel_rfl
@[go_sem] theorem tze_164 : tze Try.prog 164 = some [.pointer none] := by kernel_rfl
@[go_sem] theorem tag_164 : tag Try.prog 164 = some false := by kernel_rfl
@[go_sem] theorem tar_164 : tar Try.prog 164 = none := by kernel_rfl
@[go_sem] theorem tcs_164 : tcs Try.prog 164 = [] := by kernel_rfl
@[go_sem] theorem tptr_164 : tptr Try.prog 164 = true := by kernel_rfl
@[go_sem] theorem tkd_164 : tkd Try.prog 164 = some .other := by kernel_rfl
@[go_sem] theorem tsz_170 : tsz Try.prog 170 = some 1 := by kernel_rfl
@[go_sem] theorem tby_170 : tby Try.prog 170 = some 8 := by kernel_rfl
@[go_sem] theorem tze_170 : tze Try.prog 170 = some [.pointer none] := by kernel_rfl
@[go_sem] theorem tag_170 : tag Try.prog 170 = some false := by kernel_rfl
@[go_sem] theorem tar_170 : tar Try.prog 170 = none := by kernel_rfl
@[go_sem] theorem tcs_170 : tcs Try.prog 170 = [] := by kernel_rfl
@[go_sem] theorem tkd_170 : tkd Try.prog 170 = some .other := by kernel_rfl
@[go_sem] theorem tsz_171 : tsz Try.prog 171 = some 5 := by kernel_rfl
@[go_sem] theorem tby_171 : tby Try.prog 171 = some 40 := by kernel_rfl
@[go_sem] theorem tze_171 : tze Try.prog 171 = some [.int .i64 0, .int .i64 0, .int .i64 0, .int .i64 0, .int .i64 0] := by kernel_rfl
@[go_sem] theorem tag_171 : tag Try.prog 171 = some true := by kernel_rfl
@[go_sem] theorem tar_171 : tar Try.prog 171 = none := by kernel_rfl
@[go_sem] theorem tfo_171_0 : tfo Try.prog 171 0 = some (0, 3) := by kernel_rfl
@[go_sem] theorem tfo_171_1 : tfo Try.prog 171 1 = some (1, 3) := by kernel_rfl
@[go_sem] theorem tfo_171_2 : tfo Try.prog 171 2 = some (2, 3) := by kernel_rfl
@[go_sem] theorem tfo_171_3 : tfo Try.prog 171 3 = some (3, 3) := by kernel_rfl
@[go_sem] theorem tfo_171_4 : tfo Try.prog 171 4 = some (4, 3) := by kernel_rfl
@[go_sem] theorem tpl_171 : tpl Try.prog 171 = some [(0, 1), (1, 1), (2, 1), (3, 1), (4, 1)] := by kernel_rfl
@[go_sem] theorem tcs_171 : tcs Try.prog 171 = [] := by kernel_rfl
@[go_sem] theorem tkd_171 : tkd Try.prog 171 = some .other := by kernel_rfl
@[go_sem] theorem tsz_172 : tsz Try.prog 172 = some 5 := by kernel_rfl
@[go_sem] theorem tby_172 : tby Try.prog 172 = some 40 := by kernel_rfl
@[go_sem] theorem tze_172 : tze Try.prog 172 = some [.int .i64 0, .int .i64 0, .int .i64 0, .int .i64 0, .int .i64 0] := by kernel_rfl
@[go_sem] theorem tag_172 : tag Try.prog 172 = some true := by kernel_rfl
@[go_sem] theorem tar_172 : tar Try.prog 172 = none := by kernel_rfl
@[go_sem] theorem tfo_172_0 : tfo Try.prog 172 0 = some (0, 3) := by kernel_rfl
@[go_sem] theorem tfo_172_1 : tfo Try.prog 172 1 = some (1, 3) := by kernel_rfl
@[go_sem] theorem tfo_172_2 : tfo Try.prog 172 2 = some (2, 3) := by kernel_rfl
@[go_sem] theorem tfo_172_3 : tfo Try.prog 172 3 = some (3, 3) := by kernel_rfl
@[go_sem] theorem tfo_172_4 : tfo Try.prog 172 4 = some (4, 3) := by kernel_rfl
@[go_sem] theorem tpl_172 : tpl Try.prog 172 = some [(0, 1), (1, 1), (2, 1), (3, 1), (4, 1)] := by kernel_rfl
@[go_sem] theorem tcs_172 : tcs Try.prog 172 = [] := by kernel_rfl
@[go_sem] theorem teq_172 : teq Try.prog 172 = some [(.int .i64), (.int .i64), (.int .i64), (.int .i64), (.int .i64)] := by kernel_rfl
@[go_sem] theorem tkd_172 : tkd Try.prog 172 = some .other := by kernel_rfl
@[go_sem] theorem fxk_3 : fxk Try.prog 3 = none := by kernel_rfl
@[go_sem] theorem fnOk_3 : fnOk Try.prog 3 = true := by kernel_rfl
@[go_sem] theorem fxk_4 : fxk Try.prog 4 = none := by kernel_rfl
@[go_sem] theorem fnOk_4 : fnOk Try.prog 4 = true := by kernel_rfl
@[go_sem] theorem fxk_5 : fxk Try.prog 5 = none := by kernel_rfl
@[go_sem] theorem fnOk_5 : fnOk Try.prog 5 = true := by kernel_rfl
@[go_sem] theorem fxk_6 : fxk Try.prog 6 = none := by kernel_rfl
@[go_sem] theorem fnOk_6 : fnOk Try.prog 6 = true := by kernel_rfl
@[go_sem] theorem fxk_7 : fxk Try.prog 7 = none := by kernel_rfl
@[go_sem] theorem fnOk_7 : fnOk Try.prog 7 = true := by kernel_rfl
@[go_sem] theorem fxk_8 : fxk Try.prog 8 = none := by kernel_rfl
@[go_sem] theorem fnOk_8 : fnOk Try.prog 8 = true := by kernel_rfl
@[go_sem] theorem fxk_9 : fxk Try.prog 9 = none := by kernel_rfl
@[go_sem] theorem fnOk_9 : fnOk Try.prog 9 = true := by kernel_rfl
@[go_sem] theorem fxk_10 : fxk Try.prog 10 = none := by kernel_rfl
@[go_sem] theorem fnOk_10 : fnOk Try.prog 10 = true := by kernel_rfl
@[go_sem] theorem fxk_11 : fxk Try.prog 11 = none := by kernel_rfl
@[go_sem] theorem fnOk_11 : fnOk Try.prog 11 = true := by kernel_rfl
@[go_sem] theorem fxk_12 : fxk Try.prog 12 = none := by kernel_rfl
@[go_sem] theorem fnOk_12 : fnOk Try.prog 12 = true := by kernel_rfl
@[go_sem] theorem fxk_13 : fxk Try.prog 13 = none := by kernel_rfl
@[go_sem] theorem fnOk_13 : fnOk Try.prog 13 = true := by kernel_rfl
@[go_sem] theorem fxk_14 : fxk Try.prog 14 = none := by kernel_rfl
@[go_sem] theorem fnOk_14 : fnOk Try.prog 14 = true := by kernel_rfl
@[go_sem] theorem fxk_15 : fxk Try.prog 15 = none := by kernel_rfl
@[go_sem] theorem fnOk_15 : fnOk Try.prog 15 = true := by kernel_rfl
@[go_sem] theorem fxk_16 : fxk Try.prog 16 = none := by kernel_rfl
@[go_sem] theorem fnOk_16 : fnOk Try.prog 16 = true := by kernel_rfl
@[go_sem] theorem fxk_17 : fxk Try.prog 17 = none := by kernel_rfl
@[go_sem] theorem fnOk_17 : fnOk Try.prog 17 = true := by kernel_rfl
@[go_sem] theorem fxk_18 : fxk Try.prog 18 = none := by kernel_rfl
@[go_sem] theorem fnOk_18 : fnOk Try.prog 18 = true := by kernel_rfl
@[go_sem] theorem fxk_19 : fxk Try.prog 19 = none := by kernel_rfl
@[go_sem] theorem fnOk_19 : fnOk Try.prog 19 = true := by kernel_rfl
@[go_sem] theorem fxk_20 : fxk Try.prog 20 = none := by kernel_rfl
@[go_sem] theorem fnOk_20 : fnOk Try.prog 20 = true := by kernel_rfl
@[go_sem] theorem fxk_21 : fxk Try.prog 21 = none := by kernel_rfl
@[go_sem] theorem fnOk_21 : fnOk Try.prog 21 = true := by kernel_rfl
@[go_sem] theorem fxk_22 : fxk Try.prog 22 = none := by kernel_rfl
@[go_sem] theorem fnOk_22 : fnOk Try.prog 22 = true := by kernel_rfl
@[go_sem] theorem fxk_23 : fxk Try.prog 23 = none := by kernel_rfl
@[go_sem] theorem fnOk_23 : fnOk Try.prog 23 = true := by kernel_rfl
@[go_sem] theorem fxk_24 : fxk Try.prog 24 = none := by kernel_rfl
@[go_sem] theorem fnOk_24 : fnOk Try.prog 24 = true := by kernel_rfl
@[go_sem] theorem fxk_25 : fxk Try.prog 25 = none := by kernel_rfl
@[go_sem] theorem fnOk_25 : fnOk Try.prog 25 = true := by kernel_rfl
@[go_sem] theorem fxk_26 : fxk Try.prog 26 = none := by kernel_rfl
@[go_sem] theorem fnOk_26 : fnOk Try.prog 26 = true := by kernel_rfl
@[go_sem] theorem fxk_27 : fxk Try.prog 27 = none := by kernel_rfl
@[go_sem] theorem fnOk_27 : fnOk Try.prog 27 = true := by kernel_rfl
@[go_sem] theorem fxk_28 : fxk Try.prog 28 = none := by kernel_rfl
@[go_sem] theorem fnOk_28 : fnOk Try.prog 28 = true := by kernel_rfl
@[go_sem] theorem fxk_29 : fxk Try.prog 29 = none := by kernel_rfl
@[go_sem] theorem fnOk_29 : fnOk Try.prog 29 = true := by kernel_rfl
@[go_sem] theorem fxk_30 : fxk Try.prog 30 = none := by kernel_rfl
@[go_sem] theorem fnOk_30 : fnOk Try.prog 30 = true := by kernel_rfl
@[go_sem] theorem fxk_31 : fxk Try.prog 31 = none := by kernel_rfl
@[go_sem] theorem fnOk_31 : fnOk Try.prog 31 = true := by kernel_rfl
@[go_sem] theorem fxk_32 : fxk Try.prog 32 = none := by kernel_rfl
@[go_sem] theorem fnOk_32 : fnOk Try.prog 32 = true := by kernel_rfl
@[go_sem] theorem fxk_33 : fxk Try.prog 33 = none := by kernel_rfl
@[go_sem] theorem fnOk_33 : fnOk Try.prog 33 = true := by kernel_rfl
@[go_sem] theorem fxk_34 : fxk Try.prog 34 = none := by kernel_rfl
@[go_sem] theorem fnOk_34 : fnOk Try.prog 34 = true := by kernel_rfl
@[go_sem] theorem fxk_35 : fxk Try.prog 35 = none := by kernel_rfl
@[go_sem] theorem fnOk_35 : fnOk Try.prog 35 = true := by kernel_rfl
@[go_sem] theorem fxk_36 : fxk Try.prog 36 = none := by kernel_rfl
@[go_sem] theorem fnOk_36 : fnOk Try.prog 36 = true := by kernel_rfl
@[go_sem] theorem fxk_37 : fxk Try.prog 37 = none := by kernel_rfl
@[go_sem] theorem fnOk_37 : fnOk Try.prog 37 = true := by kernel_rfl
@[go_sem] theorem fxk_38 : fxk Try.prog 38 = none := by kernel_rfl
@[go_sem] theorem fnOk_38 : fnOk Try.prog 38 = true := by kernel_rfl
@[go_sem] theorem fxk_39 : fxk Try.prog 39 = none := by kernel_rfl
@[go_sem] theorem fnOk_39 : fnOk Try.prog 39 = true := by kernel_rfl
@[go_sem] theorem fxk_40 : fxk Try.prog 40 = none := by kernel_rfl
@[go_sem] theorem fnOk_40 : fnOk Try.prog 40 = true := by kernel_rfl
@[go_sem] theorem fxk_41 : fxk Try.prog 41 = none := by kernel_rfl
@[go_sem] theorem fnOk_41 : fnOk Try.prog 41 = true := by kernel_rfl
@[go_sem] theorem fxk_42 : fxk Try.prog 42 = none := by kernel_rfl
@[go_sem] theorem fnOk_42 : fnOk Try.prog 42 = true := by kernel_rfl
@[go_sem] theorem fxk_43 : fxk Try.prog 43 = none := by kernel_rfl
@[go_sem] theorem fnOk_43 : fnOk Try.prog 43 = true := by kernel_rfl
@[go_sem] theorem fxk_44 : fxk Try.prog 44 = none := by kernel_rfl
@[go_sem] theorem fnOk_44 : fnOk Try.prog 44 = true := by kernel_rfl
@[go_sem] theorem fxk_45 : fxk Try.prog 45 = none := by kernel_rfl
@[go_sem] theorem fnOk_45 : fnOk Try.prog 45 = true := by kernel_rfl
@[go_sem] theorem fxk_46 : fxk Try.prog 46 = none := by kernel_rfl
@[go_sem] theorem fnOk_46 : fnOk Try.prog 46 = true := by kernel_rfl
@[go_sem] theorem fxk_47 : fxk Try.prog 47 = none := by kernel_rfl
@[go_sem] theorem fnOk_47 : fnOk Try.prog 47 = true := by kernel_rfl
@[go_sem] theorem fxk_48 : fxk Try.prog 48 = none := by kernel_rfl
@[go_sem] theorem fnOk_48 : fnOk Try.prog 48 = true := by kernel_rfl
@[go_sem] theorem fxk_49 : fxk Try.prog 49 = none := by kernel_rfl
@[go_sem] theorem fnOk_49 : fnOk Try.prog 49 = true := by kernel_rfl
@[go_sem] theorem fxk_50 : fxk Try.prog 50 = none := by kernel_rfl
@[go_sem] theorem fnOk_50 : fnOk Try.prog 50 = true := by kernel_rfl
@[go_sem] theorem fxk_51 : fxk Try.prog 51 = none := by kernel_rfl
@[go_sem] theorem fnOk_51 : fnOk Try.prog 51 = true := by kernel_rfl
@[go_sem] theorem fxk_52 : fxk Try.prog 52 = none := by kernel_rfl
@[go_sem] theorem fnOk_52 : fnOk Try.prog 52 = true := by kernel_rfl
@[go_sem] theorem fxk_53 : fxk Try.prog 53 = none := by kernel_rfl
@[go_sem] theorem fnOk_53 : fnOk Try.prog 53 = true := by kernel_rfl
@[go_sem] theorem fxk_54 : fxk Try.prog 54 = none := by kernel_rfl
@[go_sem] theorem fnOk_54 : fnOk Try.prog 54 = true := by kernel_rfl
@[go_sem] theorem fxk_55 : fxk Try.prog 55 = none := by kernel_rfl
@[go_sem] theorem fnOk_55 : fnOk Try.prog 55 = true := by kernel_rfl
@[go_sem] theorem fxk_56 : fxk Try.prog 56 = none := by kernel_rfl
@[go_sem] theorem fnOk_56 : fnOk Try.prog 56 = true := by kernel_rfl
@[go_sem] theorem fxk_57 : fxk Try.prog 57 = none := by kernel_rfl
@[go_sem] theorem fnOk_57 : fnOk Try.prog 57 = true := by kernel_rfl
@[go_sem] theorem fxk_58 : fxk Try.prog 58 = none := by kernel_rfl
@[go_sem] theorem fnOk_58 : fnOk Try.prog 58 = true := by kernel_rfl
@[go_sem] theorem fxk_59 : fxk Try.prog 59 = none := by kernel_rfl
@[go_sem] theorem fnOk_59 : fnOk Try.prog 59 = true := by kernel_rfl
@[go_sem] theorem fxk_60 : fxk Try.prog 60 = none := by kernel_rfl
@[go_sem] theorem fnOk_60 : fnOk Try.prog 60 = true := by kernel_rfl
@[go_sem] theorem fxk_61 : fxk Try.prog 61 = none := by kernel_rfl
@[go_sem] theorem fnOk_61 : fnOk Try.prog 61 = true := by kernel_rfl
@[go_sem] theorem fxk_62 : fxk Try.prog 62 = none := by kernel_rfl
@[go_sem] theorem fnOk_62 : fnOk Try.prog 62 = true := by kernel_rfl
@[go_sem] theorem fxk_63 : fxk Try.prog 63 = none := by kernel_rfl
@[go_sem] theorem fnOk_63 : fnOk Try.prog 63 = true := by kernel_rfl
@[go_sem] theorem fxk_64 : fxk Try.prog 64 = none := by kernel_rfl
@[go_sem] theorem fnOk_64 : fnOk Try.prog 64 = true := by kernel_rfl
@[go_sem] theorem fxk_65 : fxk Try.prog 65 = none := by kernel_rfl
@[go_sem] theorem fnOk_65 : fnOk Try.prog 65 = true := by kernel_rfl
@[go_sem] theorem fxk_66 : fxk Try.prog 66 = none := by kernel_rfl
@[go_sem] theorem fnOk_66 : fnOk Try.prog 66 = true := by kernel_rfl
@[go_sem] theorem fxk_67 : fxk Try.prog 67 = none := by kernel_rfl
@[go_sem] theorem fnOk_67 : fnOk Try.prog 67 = true := by kernel_rfl
@[go_sem] theorem fxk_68 : fxk Try.prog 68 = none := by kernel_rfl
@[go_sem] theorem fnOk_68 : fnOk Try.prog 68 = true := by kernel_rfl
@[go_sem] theorem fxk_69 : fxk Try.prog 69 = none := by kernel_rfl
@[go_sem] theorem fnOk_69 : fnOk Try.prog 69 = true := by kernel_rfl
@[go_sem] theorem fxk_70 : fxk Try.prog 70 = none := by kernel_rfl
@[go_sem] theorem fnOk_70 : fnOk Try.prog 70 = true := by kernel_rfl
@[go_sem] theorem fxk_71 : fxk Try.prog 71 = none := by kernel_rfl
@[go_sem] theorem fnOk_71 : fnOk Try.prog 71 = true := by kernel_rfl
@[go_sem] theorem fxk_72 : fxk Try.prog 72 = none := by kernel_rfl
@[go_sem] theorem fnOk_72 : fnOk Try.prog 72 = true := by kernel_rfl
@[go_sem] theorem fxk_73 : fxk Try.prog 73 = none := by kernel_rfl
@[go_sem] theorem fnOk_73 : fnOk Try.prog 73 = true := by kernel_rfl
@[go_sem] theorem fxk_74 : fxk Try.prog 74 = none := by kernel_rfl
@[go_sem] theorem fnOk_74 : fnOk Try.prog 74 = true := by kernel_rfl
@[go_sem] theorem fxk_75 : fxk Try.prog 75 = none := by kernel_rfl
@[go_sem] theorem fnOk_75 : fnOk Try.prog 75 = true := by kernel_rfl
@[go_sem] theorem fxk_76 : fxk Try.prog 76 = none := by kernel_rfl
@[go_sem] theorem fnOk_76 : fnOk Try.prog 76 = true := by kernel_rfl
@[go_sem] theorem fxk_77 : fxk Try.prog 77 = none := by kernel_rfl
@[go_sem] theorem fnOk_77 : fnOk Try.prog 77 = true := by kernel_rfl
@[go_sem] theorem fxk_78 : fxk Try.prog 78 = none := by kernel_rfl
@[go_sem] theorem fnOk_78 : fnOk Try.prog 78 = true := by kernel_rfl
@[go_sem] theorem fxk_79 : fxk Try.prog 79 = none := by kernel_rfl
@[go_sem] theorem fnOk_79 : fnOk Try.prog 79 = true := by kernel_rfl
@[go_sem] theorem fxk_80 : fxk Try.prog 80 = none := by kernel_rfl
@[go_sem] theorem fnOk_80 : fnOk Try.prog 80 = true := by kernel_rfl
@[go_sem] theorem fxk_81 : fxk Try.prog 81 = none := by kernel_rfl
@[go_sem] theorem fnOk_81 : fnOk Try.prog 81 = true := by kernel_rfl
@[go_sem] theorem fxk_82 : fxk Try.prog 82 = none := by kernel_rfl
@[go_sem] theorem fnOk_82 : fnOk Try.prog 82 = true := by kernel_rfl
@[go_sem] theorem fxk_83 : fxk Try.prog 83 = none := by kernel_rfl
@[go_sem] theorem fnOk_83 : fnOk Try.prog 83 = true := by kernel_rfl
@[go_sem] theorem fxk_84 : fxk Try.prog 84 = none := by kernel_rfl
@[go_sem] theorem fnOk_84 : fnOk Try.prog 84 = true := by kernel_rfl
@[go_sem] theorem fxk_85 : fxk Try.prog 85 = none := by kernel_rfl
@[go_sem] theorem fnOk_85 : fnOk Try.prog 85 = true := by kernel_rfl
@[go_sem] theorem fxk_86 : fxk Try.prog 86 = none := by kernel_rfl
@[go_sem] theorem fnOk_86 : fnOk Try.prog 86 = true := by kernel_rfl
@[go_sem] theorem fxk_87 : fxk Try.prog 87 = none := by kernel_rfl
@[go_sem] theorem fnOk_87 : fnOk Try.prog 87 = true := by kernel_rfl
@[go_sem] theorem fxk_88 : fxk Try.prog 88 = none := by kernel_rfl
@[go_sem] theorem fnOk_88 : fnOk Try.prog 88 = true := by kernel_rfl
@[go_sem] theorem fxk_89 : fxk Try.prog 89 = none := by kernel_rfl
@[go_sem] theorem fnOk_89 : fnOk Try.prog 89 = true := by kernel_rfl
@[go_sem] theorem fxk_90 : fxk Try.prog 90 = none := by kernel_rfl
@[go_sem] theorem fnOk_90 : fnOk Try.prog 90 = true := by kernel_rfl
@[go_sem] theorem fxk_91 : fxk Try.prog 91 = none := by kernel_rfl
@[go_sem] theorem fnOk_91 : fnOk Try.prog 91 = true := by kernel_rfl
@[go_sem] theorem fxk_92 : fxk Try.prog 92 = none := by kernel_rfl
@[go_sem] theorem fnOk_92 : fnOk Try.prog 92 = true := by kernel_rfl
@[go_sem] theorem fxk_93 : fxk Try.prog 93 = none := by kernel_rfl
@[go_sem] theorem fnOk_93 : fnOk Try.prog 93 = true := by kernel_rfl
@[go_sem] theorem fxk_94 : fxk Try.prog 94 = none := by kernel_rfl
@[go_sem] theorem fnOk_94 : fnOk Try.prog 94 = true := by kernel_rfl
@[go_sem] theorem fxk_95 : fxk Try.prog 95 = none := by kernel_rfl
@[go_sem] theorem fnOk_95 : fnOk Try.prog 95 = true := by kernel_rfl
@[go_sem] theorem fxk_96 : fxk Try.prog 96 = none := by kernel_rfl
@[go_sem] theorem fnOk_96 : fnOk Try.prog 96 = true := by kernel_rfl
@[go_sem] theorem fxk_97 : fxk Try.prog 97 = none := by kernel_rfl
@[go_sem] theorem fnOk_97 : fnOk Try.prog 97 = true := by kernel_rfl
theorem mixed : Try.prog.follows .mixedOrders = true := by kernel_rfl
end Go.Proofs.GR

attribute [go_sem] Go.Proofs.Try.ntmps3 Go.Proofs.Try.results3 Go.Proofs.Try.ntmps4 Go.Proofs.Try.results4 Go.Proofs.Try.ntmps5 Go.Proofs.Try.results5 Go.Proofs.Try.ntmps6 Go.Proofs.Try.results6 Go.Proofs.Try.ntmps7 Go.Proofs.Try.results7 Go.Proofs.Try.ntmps8 Go.Proofs.Try.results8 Go.Proofs.Try.ntmps9 Go.Proofs.Try.results9 Go.Proofs.Try.ntmps10 Go.Proofs.Try.results10 Go.Proofs.Try.ntmps11 Go.Proofs.Try.results11 Go.Proofs.Try.ntmps12 Go.Proofs.Try.results12 Go.Proofs.Try.ntmps13 Go.Proofs.Try.results13 Go.Proofs.Try.ntmps14 Go.Proofs.Try.results14 Go.Proofs.Try.ntmps15 Go.Proofs.Try.results15 Go.Proofs.Try.ntmps16 Go.Proofs.Try.results16 Go.Proofs.Try.ntmps17 Go.Proofs.Try.results17 Go.Proofs.Try.ntmps18 Go.Proofs.Try.results18 Go.Proofs.Try.ntmps19 Go.Proofs.Try.results19 Go.Proofs.Try.ntmps20 Go.Proofs.Try.results20 Go.Proofs.Try.ntmps21 Go.Proofs.Try.results21 Go.Proofs.Try.ntmps22 Go.Proofs.Try.results22 Go.Proofs.Try.ntmps23 Go.Proofs.Try.results23 Go.Proofs.Try.ntmps24 Go.Proofs.Try.results24 Go.Proofs.Try.ntmps25 Go.Proofs.Try.results25 Go.Proofs.Try.ntmps26 Go.Proofs.Try.results26 Go.Proofs.Try.ntmps27 Go.Proofs.Try.results27 Go.Proofs.Try.ntmps28 Go.Proofs.Try.results28 Go.Proofs.Try.ntmps29 Go.Proofs.Try.results29 Go.Proofs.Try.ntmps30 Go.Proofs.Try.results30 Go.Proofs.Try.ntmps31 Go.Proofs.Try.results31 Go.Proofs.Try.ntmps32 Go.Proofs.Try.results32 Go.Proofs.Try.ntmps33 Go.Proofs.Try.results33 Go.Proofs.Try.ntmps34 Go.Proofs.Try.results34 Go.Proofs.Try.ntmps35 Go.Proofs.Try.results35 Go.Proofs.Try.ntmps36 Go.Proofs.Try.results36 Go.Proofs.Try.ntmps37 Go.Proofs.Try.results37 Go.Proofs.Try.ntmps38 Go.Proofs.Try.results38 Go.Proofs.Try.ntmps39 Go.Proofs.Try.results39 Go.Proofs.Try.ntmps40 Go.Proofs.Try.results40 Go.Proofs.Try.ntmps41 Go.Proofs.Try.results41 Go.Proofs.Try.ntmps42 Go.Proofs.Try.results42 Go.Proofs.Try.ntmps43 Go.Proofs.Try.results43 Go.Proofs.Try.ntmps44 Go.Proofs.Try.results44 Go.Proofs.Try.ntmps45 Go.Proofs.Try.results45 Go.Proofs.Try.ntmps46 Go.Proofs.Try.results46 Go.Proofs.Try.ntmps47 Go.Proofs.Try.results47 Go.Proofs.Try.ntmps48 Go.Proofs.Try.results48 Go.Proofs.Try.ntmps49 Go.Proofs.Try.results49 Go.Proofs.Try.ntmps50 Go.Proofs.Try.results50 Go.Proofs.Try.ntmps51 Go.Proofs.Try.results51 Go.Proofs.Try.ntmps52 Go.Proofs.Try.results52 Go.Proofs.Try.ntmps53 Go.Proofs.Try.results53 Go.Proofs.Try.ntmps54 Go.Proofs.Try.results54 Go.Proofs.Try.ntmps55 Go.Proofs.Try.results55 Go.Proofs.Try.ntmps56 Go.Proofs.Try.results56 Go.Proofs.Try.ntmps57 Go.Proofs.Try.results57 Go.Proofs.Try.ntmps58 Go.Proofs.Try.results58 Go.Proofs.Try.ntmps59 Go.Proofs.Try.results59 Go.Proofs.Try.ntmps60 Go.Proofs.Try.results60 Go.Proofs.Try.ntmps61 Go.Proofs.Try.results61 Go.Proofs.Try.ntmps62 Go.Proofs.Try.results62 Go.Proofs.Try.ntmps63 Go.Proofs.Try.results63 Go.Proofs.Try.ntmps64 Go.Proofs.Try.results64 Go.Proofs.Try.ntmps65 Go.Proofs.Try.results65 Go.Proofs.Try.ntmps66 Go.Proofs.Try.results66 Go.Proofs.Try.ntmps67 Go.Proofs.Try.results67 Go.Proofs.Try.ntmps68 Go.Proofs.Try.results68 Go.Proofs.Try.ntmps69 Go.Proofs.Try.results69 Go.Proofs.Try.ntmps70 Go.Proofs.Try.results70 Go.Proofs.Try.ntmps71 Go.Proofs.Try.results71 Go.Proofs.Try.ntmps72 Go.Proofs.Try.results72 Go.Proofs.Try.ntmps73 Go.Proofs.Try.results73 Go.Proofs.Try.ntmps74 Go.Proofs.Try.results74 Go.Proofs.Try.ntmps75 Go.Proofs.Try.results75 Go.Proofs.Try.ntmps76 Go.Proofs.Try.results76 Go.Proofs.Try.ntmps77 Go.Proofs.Try.results77 Go.Proofs.Try.ntmps78 Go.Proofs.Try.results78 Go.Proofs.Try.ntmps79 Go.Proofs.Try.results79 Go.Proofs.Try.ntmps80 Go.Proofs.Try.results80 Go.Proofs.Try.ntmps81 Go.Proofs.Try.results81 Go.Proofs.Try.ntmps82 Go.Proofs.Try.results82 Go.Proofs.Try.ntmps83 Go.Proofs.Try.results83 Go.Proofs.Try.ntmps84 Go.Proofs.Try.results84 Go.Proofs.Try.ntmps85 Go.Proofs.Try.results85 Go.Proofs.Try.ntmps86 Go.Proofs.Try.results86 Go.Proofs.Try.ntmps87 Go.Proofs.Try.results87 Go.Proofs.Try.ntmps88 Go.Proofs.Try.results88 Go.Proofs.Try.ntmps89 Go.Proofs.Try.results89 Go.Proofs.Try.ntmps90 Go.Proofs.Try.results90 Go.Proofs.Try.ntmps91 Go.Proofs.Try.results91 Go.Proofs.Try.ntmps92 Go.Proofs.Try.results92 Go.Proofs.Try.ntmps93 Go.Proofs.Try.results93 Go.Proofs.Try.ntmps94 Go.Proofs.Try.results94 Go.Proofs.Try.ntmps95 Go.Proofs.Try.results95 Go.Proofs.Try.ntmps96 Go.Proofs.Try.results96 Go.Proofs.Try.ntmps97 Go.Proofs.Try.results97

namespace Go.Idl
theorem zW {p q : Prop} (hq : q) (h : p = q := by (simp (maxSteps := 2000000) only [go_sem, ↓reduceIte, ↓reduceDIte, reduceCtorEq, Nat.reducePow, Nat.reduceEqDiff, Nat.reduceAdd, Nat.reduceSub, Nat.reduceMul, Nat.reduceMod, Nat.reduceLeDiff, Nat.reduceLT, Nat.reduceBEq, Nat.reduceBNe, Int.reduceLT, Int.reduceLE, Int.reduceToNat, Int.reduceNeg, Int.reduceAdd, Int.reduceSub, Int.reduceMul, Int.reduceBEq, Int.reduceBNe, Int.reduceEq]; rfl)) : p := h.mpr hq
theorem zO {p q : Prop} (hq : q) (h : p = q := by (simp (maxSteps := 2000000) (disch := omega) only [go_sem, ↓reduceIte, ↓reduceDIte, reduceCtorEq, Nat.reducePow, Nat.reduceEqDiff, Nat.reduceAdd, Nat.reduceSub, Nat.reduceMul, Nat.reduceMod, Nat.reduceLeDiff, Nat.reduceLT, Nat.reduceBEq, Nat.reduceBNe, Int.reduceLT, Int.reduceLE, Int.reduceToNat, Int.reduceNeg, Int.reduceAdd, Int.reduceSub, Int.reduceMul, Int.reduceBEq, Int.reduceBNe, Int.reduceEq, if_pos, if_neg, w64, beqT, beqF, bneT, bneF, pr_get, ir_get, decide_eq_true, decide_eq_false]; rfl)) : p := h.mpr hq
theorem zT {p : Prop} (h : p := by simp (maxSteps := 2000000) only [go_sem, ↓reduceIte, ↓reduceDIte, reduceCtorEq, Nat.reducePow, Nat.reduceEqDiff, Nat.reduceAdd, Nat.reduceSub, Nat.reduceMul, Nat.reduceMod, Nat.reduceLeDiff, Nat.reduceLT, Nat.reduceBEq, Nat.reduceBNe, Int.reduceLT, Int.reduceLE, Int.reduceToNat, Int.reduceNeg, Int.reduceAdd, Int.reduceSub, Int.reduceMul, Int.reduceBEq, Int.reduceBNe, Int.reduceEq]) : p := h
theorem zU {p : Prop} (h : p := by simp (maxSteps := 2000000) (disch := omega) only [go_sem, ↓reduceIte, ↓reduceDIte, reduceCtorEq, Nat.reducePow, Nat.reduceEqDiff, Nat.reduceAdd, Nat.reduceSub, Nat.reduceMul, Nat.reduceMod, Nat.reduceLeDiff, Nat.reduceLT, Nat.reduceBEq, Nat.reduceBNe, Int.reduceLT, Int.reduceLE, Int.reduceToNat, Int.reduceNeg, Int.reduceAdd, Int.reduceSub, Int.reduceMul, Int.reduceBEq, Int.reduceBNe, Int.reduceEq, if_pos, if_neg, w64, beqT, beqF, bneT, bneF, pr_get, ir_get, decide_eq_true, decide_eq_false]) : p := h
theorem zB {p : Prop} (h : p := by first | trivial | (simp (maxSteps := 2000000) only [go_sem, ↓reduceIte, ↓reduceDIte, reduceCtorEq, Nat.reducePow, Nat.reduceEqDiff, Nat.reduceAdd, Nat.reduceSub, Nat.reduceMul, Nat.reduceMod, Nat.reduceLeDiff, Nat.reduceLT, Nat.reduceBEq, Nat.reduceBNe, Int.reduceLT, Int.reduceLE, Int.reduceToNat, Int.reduceNeg, Int.reduceAdd, Int.reduceSub, Int.reduceMul, Int.reduceBEq, Int.reduceBNe, Int.reduceEq]; done) | (split <;> simp (maxSteps := 2000000) only [go_sem, ↓reduceIte, ↓reduceDIte, reduceCtorEq, Nat.reducePow, Nat.reduceEqDiff, Nat.reduceAdd, Nat.reduceSub, Nat.reduceMul, Nat.reduceMod, Nat.reduceLeDiff, Nat.reduceLT, Nat.reduceBEq, Nat.reduceBNe, Int.reduceLT, Int.reduceLE, Int.reduceToNat, Int.reduceNeg, Int.reduceAdd, Int.reduceSub, Int.reduceMul, Int.reduceBEq, Int.reduceBNe, Int.reduceEq])) : p := h
theorem zC {p : Prop} (h : p := by first | trivial | (simp (maxSteps := 2000000) only [go_sem, ↓reduceIte, ↓reduceDIte, reduceCtorEq, Nat.reducePow, Nat.reduceEqDiff, Nat.reduceAdd, Nat.reduceSub, Nat.reduceMul, Nat.reduceMod, Nat.reduceLeDiff, Nat.reduceLT, Nat.reduceBEq, Nat.reduceBNe, Int.reduceLT, Int.reduceLE, Int.reduceToNat, Int.reduceNeg, Int.reduceAdd, Int.reduceSub, Int.reduceMul, Int.reduceBEq, Int.reduceBNe, Int.reduceEq]; done) | (simp (maxSteps := 2000000) (disch := omega) only [go_sem, ↓reduceIte, ↓reduceDIte, reduceCtorEq, Nat.reducePow, Nat.reduceEqDiff, Nat.reduceAdd, Nat.reduceSub, Nat.reduceMul, Nat.reduceMod, Nat.reduceLeDiff, Nat.reduceLT, Nat.reduceBEq, Nat.reduceBNe, Int.reduceLT, Int.reduceLE, Int.reduceToNat, Int.reduceNeg, Int.reduceAdd, Int.reduceSub, Int.reduceMul, Int.reduceBEq, Int.reduceBNe, Int.reduceEq, if_pos, if_neg, w64, beqT, beqF, bneT, bneF, pr_get, ir_get, decide_eq_true, decide_eq_false]; done) | (split <;> simp (maxSteps := 2000000) (disch := omega) only [go_sem, ↓reduceIte, ↓reduceDIte, reduceCtorEq, Nat.reducePow, Nat.reduceEqDiff, Nat.reduceAdd, Nat.reduceSub, Nat.reduceMul, Nat.reduceMod, Nat.reduceLeDiff, Nat.reduceLT, Nat.reduceBEq, Nat.reduceBNe, Int.reduceLT, Int.reduceLE, Int.reduceToNat, Int.reduceNeg, Int.reduceAdd, Int.reduceSub, Int.reduceMul, Int.reduceBEq, Int.reduceBNe, Int.reduceEq, if_pos, if_neg, w64, beqT, beqF, bneT, bneF, pr_get, ir_get, decide_eq_true, decide_eq_false])) : p := h
theorem zL {p : Prop} (h : p := by first | exact Nat.zero_le _ | exact Nat.le_refl _ | omega | exact Nat.le_of_ble_eq_true rfl) : p := h
end Go.Idl
