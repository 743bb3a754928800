/- Facts that the proofs of this claim lean on. -/
import Derived.Test.YtoiledoommblcaaIdTx
import Derived.Test.YtoiledoommblcaaProg
set_option linter.unusedSimpArgs false
set_option linter.unusedVariables false
namespace Go.Proofs.TR
open Go Go.Idl Go.Proofs
@[go_sem] theorem tsz_2 : tsz Try.prog 2 = some 1 := by kernel_rfl
@[go_sem] theorem tby_2 : tby Try.prog 2 = some 8 := by kernel_rfl
@[go_sem] theorem tze_2 : tze Try.prog 2 = some [.int .i64 0] := by kernel_rfl
@[go_sem] theorem tag_2 : tag Try.prog 2 = some false := by kernel_rfl
@[go_sem] theorem tar_2 : tar Try.prog 2 = none := by kernel_rfl
@[go_sem] theorem tcs_2 : tcs Try.prog 2 = [] := by kernel_rfl
@[go_sem] theorem tkd_2 : tkd Try.prog 2 = some (.int .i64) := by kernel_rfl
@[go_sem] theorem tsz_3 : tsz Try.prog 3 = some 1 := by kernel_rfl
@[go_sem] theorem tby_3 : tby Try.prog 3 = some 8 := by kernel_rfl
@[go_sem] theorem tze_3 : tze Try.prog 3 = some [.int .i64 0] := by kernel_rfl
@[go_sem] theorem tag_3 : tag Try.prog 3 = some false := by kernel_rfl
@[go_sem] theorem tar_3 : tar Try.prog 3 = none := by kernel_rfl
@[go_sem] theorem tcs_3 : tcs Try.prog 3 = [] := by kernel_rfl
@[go_sem] theorem tkd_3 : tkd Try.prog 3 = some (.int .i64) := by kernel_rfl
@[go_sem] theorem tsz_4 : tsz Try.prog 4 = some 1 := by kernel_rfl
@[go_sem] theorem tby_4 : tby Try.prog 4 = some 1 := by kernel_rfl
@[go_sem] theorem tze_4 : tze Try.prog 4 = some [.bool false] := by kernel_rfl
@[go_sem] theorem tag_4 : tag Try.prog 4 = some false := by kernel_rfl
@[go_sem] theorem tar_4 : tar Try.prog 4 = none := by kernel_rfl
@[go_sem] theorem tcs_4 : tcs Try.prog 4 = [] := by kernel_rfl
@[go_sem] theorem tkd_4 : tkd Try.prog 4 = some .bool := by kernel_rfl
@[go_sem] theorem tsz_5 : tsz Try.prog 5 = some 1 := by kernel_rfl
@[go_sem] theorem tby_5 : tby Try.prog 5 = some 1 := by kernel_rfl
@[go_sem] theorem tze_5 : tze Try.prog 5 = some [.int .u8 0] := by kernel_rfl
@[go_sem] theorem tag_5 : tag Try.prog 5 = some false := by kernel_rfl
@[go_sem] theorem tar_5 : tar Try.prog 5 = none := by kernel_rfl
@[go_sem] theorem tcs_5 : tcs Try.prog 5 = [] := by kernel_rfl
@[go_sem] theorem tkd_5 : tkd Try.prog 5 = some (.int .u8) := by kernel_rfl
@[go_sem] theorem tsz_9 : tsz Try.prog 9 = some 1 := by kernel_rfl
@[go_sem] theorem tby_9 : tby Try.prog 9 = some 16 := by kernel_rfl
@[go_sem] theorem tze_9 : tze Try.prog 9 = some [.string ByteArray.empty] := by kernel_rfl
@[go_sem] theorem tag_9 : tag Try.prog 9 = some false := by kernel_rfl
@[go_sem] theorem tar_9 : tar Try.prog 9 = none := by kernel_rfl
@[go_sem] theorem tcs_9 : tcs Try.prog 9 = [] := by kernel_rfl
@[go_sem] theorem tkd_9 : tkd Try.prog 9 = some .string := by kernel_rfl
@[go_sem] theorem tsz_12 : tsz Try.prog 12 = some 1 := by kernel_rfl
@[go_sem] theorem tby_12 : tby Try.prog 12 = some 8 := by kernel_rfl
@[go_sem] theorem tze_12 : tze Try.prog 12 = some [.int .u64 0] := by kernel_rfl
@[go_sem] theorem tag_12 : tag Try.prog 12 = some false := by kernel_rfl
@[go_sem] theorem tar_12 : tar Try.prog 12 = none := by kernel_rfl
@[go_sem] theorem tcs_12 : tcs Try.prog 12 = [] := by kernel_rfl
@[go_sem] theorem tkd_12 : tkd Try.prog 12 = some (.int .u64) := by kernel_rfl
@[go_sem] theorem tsz_13 : tsz Try.prog 13 = some 2 := by kernel_rfl
@[go_sem] theorem tby_13 : tby Try.prog 13 = some 24 := by kernel_rfl
@[go_sem] theorem tze_13 : tze Try.prog 13 = some [.string ByteArray.empty, .int .u64 0] := by kernel_rfl
@[go_sem] theorem tag_13 : tag Try.prog 13 = some true := by kernel_rfl
@[go_sem] theorem tar_13 : tar Try.prog 13 = none := by kernel_rfl
@[go_sem] theorem tfo_13_0 : tfo Try.prog 13 0 = some (0, 9) := by kernel_rfl
@[go_sem] theorem tfo_13_1 : tfo Try.prog 13 1 = some (1, 12) := by kernel_rfl
@[go_sem] theorem tpl_13 : tpl Try.prog 13 = some [(0, 1), (1, 1)] := by kernel_rfl
@[go_sem] theorem tcs_13 : tcs Try.prog 13 = [] := by kernel_rfl
@[go_sem] theorem tkd_13 : tkd Try.prog 13 = some .other := by kernel_rfl
@[go_sem] theorem tsz_20 : tsz Try.prog 20 = some 1 := by kernel_rfl
@[go_sem] theorem tby_20 : tby Try.prog 20 = some 16 := by kernel_rfl
@[go_sem] theorem tze_20 : tze Try.prog 20 = some [.nilIface] := by kernel_rfl
@[go_sem] theorem tag_20 : tag Try.prog 20 = some false := by kernel_rfl
@[go_sem] theorem tar_20 : tar Try.prog 20 = none := by kernel_rfl
@[go_sem] theorem tcs_20 : tcs Try.prog 20 = [] := by kernel_rfl
@[go_sem] theorem tkd_20 : tkd Try.prog 20 = some .iface := by kernel_rfl
@[go_sem] theorem tsz_21 : tsz Try.prog 21 = some 1 := by kernel_rfl
@[go_sem] theorem tby_21 : tby Try.prog 21 = some 4 := by kernel_rfl
@[go_sem] theorem tze_21 : tze Try.prog 21 = some [.int .i32 0] := by kernel_rfl
@[go_sem] theorem tag_21 : tag Try.prog 21 = some false := by kernel_rfl
@[go_sem] theorem tar_21 : tar Try.prog 21 = none := by kernel_rfl
@[go_sem] theorem tcs_21 : tcs Try.prog 21 = [] := by kernel_rfl
@[go_sem] theorem tkd_21 : tkd Try.prog 21 = some (.int .i32) := by kernel_rfl
@[go_sem] theorem tsz_22 : tsz Try.prog 22 = some 1 := by kernel_rfl
@[go_sem] theorem tby_22 : tby Try.prog 22 = some 24 := by kernel_rfl
@[go_sem] theorem tze_22 : tze Try.prog 22 = some [.slice none 0 0] := by kernel_rfl
@[go_sem] theorem tag_22 : tag Try.prog 22 = some false := by kernel_rfl
@[go_sem] theorem tel_22 : tel Try.prog 22 = some 94 := by kernel_rfl
@[go_sem] theorem tar_22 : tar Try.prog 22 = none := by kernel_rfl
@[go_sem] theorem tcs_22 : tcs Try.prog 22 = [(0, 2)] := by kernel_rfl
@[go_sem] theorem tkd_22 : tkd Try.prog 22 = some (.slice 94) := by kernel_rfl
@[go_sem] theorem tsz_23 : tsz Try.prog 23 = some 2 := by kernel_rfl
@[go_sem] theorem tby_23 : tby Try.prog 23 = some 32 := by kernel_rfl
@[go_sem] theorem tze_23 : tze Try.prog 23 = some [.int .i64 0, .slice none 0 0] := by kernel_rfl
@[go_sem] theorem tag_23 : tag Try.prog 23 = some true := by kernel_rfl
@[go_sem] theorem tar_23 : tar Try.prog 23 = none := by kernel_rfl
@[go_sem] theorem tfo_23_0 : tfo Try.prog 23 0 = some (0, 3) := by kernel_rfl
@[go_sem] theorem tfo_23_1 : tfo Try.prog 23 1 = some (1, 22) := by kernel_rfl
@[go_sem] theorem tpl_23 : tpl Try.prog 23 = some [(0, 1), (1, 1)] := by kernel_rfl
@[go_sem] theorem tcs_23 : tcs Try.prog 23 = [(1, 2)] := by kernel_rfl
@[go_sem] theorem tkd_23 : tkd Try.prog 23 = some .other := by kernel_rfl
@[go_sem] theorem tsz_24 : tsz Try.prog 24 = some 2 := by kernel_rfl
@[go_sem] theorem tby_24 : tby Try.prog 24 = some 32 := by kernel_rfl
@[go_sem] theorem tze_24 : tze Try.prog 24 = some [.int .i64 0, .slice none 0 0] := by kernel_rfl
@[go_sem] theorem tag_24 : tag Try.prog 24 = some true := by kernel_rfl
@[go_sem] theorem tar_24 : tar Try.prog 24 = none := by kernel_rfl
@[go_sem] theorem tfo_24_0 : tfo Try.prog 24 0 = some (0, 3) := by kernel_rfl
@[go_sem] theorem tfo_24_1 : tfo Try.prog 24 1 = some (1, 22) := by kernel_rfl
@[go_sem] theorem tpl_24 : tpl Try.prog 24 = some [(0, 1), (1, 1)] := by kernel_rfl
@[go_sem] theorem tcs_24 : tcs Try.prog 24 = [(1, 2)] := by kernel_rfl
@[go_sem] theorem tkd_24 : tkd Try.prog 24 = some .other := by kernel_rfl
@[go_sem] theorem tsz_25 : tsz Try.prog 25 = some 1 := by kernel_rfl
@[go_sem] theorem tby_25 : tby Try.prog 25 = some 24 := by kernel_rfl
@[go_sem] theorem tze_25 : tze Try.prog 25 = some [.slice none 0 0] := by kernel_rfl
@[go_sem] theorem tag_25 : tag Try.prog 25 = some false := by kernel_rfl
@[go_sem] theorem tel_25 : tel Try.prog 25 = some 97 := by kernel_rfl
@[go_sem] theorem tar_25 : tar Try.prog 25 = none := by kernel_rfl
@[go_sem] theorem tcs_25 : tcs Try.prog 25 = [(0, 2)] := by kernel_rfl
@[go_sem] theorem tkd_25 : tkd Try.prog 25 = some (.slice 97) := by kernel_rfl
@[go_sem] theorem tsz_26 : tsz Try.prog 26 = some 4 := by kernel_rfl
@[go_sem] theorem tby_26 : tby Try.prog 26 = some 64 := by kernel_rfl
@[go_sem] theorem tze_26 : tze Try.prog 26 = some [.int .i64 0, .slice none 0 0, .slice none 0 0, .bool false] := by kernel_rfl
@[go_sem] theorem tag_26 : tag Try.prog 26 = some true := by kernel_rfl
@[go_sem] theorem tar_26 : tar Try.prog 26 = none := by kernel_rfl
@[go_sem] theorem tfo_26_0 : tfo Try.prog 26 0 = some (0, 24) := by kernel_rfl
@[go_sem] theorem tfo_26_1 : tfo Try.prog 26 1 = some (2, 25) := by kernel_rfl
@[go_sem] theorem tfo_26_2 : tfo Try.prog 26 2 = some (3, 4) := by kernel_rfl
@[go_sem] theorem tpl_26 : tpl Try.prog 26 = some [(0, 2), (2, 1), (3, 1)] := by kernel_rfl
@[go_sem] theorem tcs_26 : tcs Try.prog 26 = [(1, 2), (2, 2)] := by kernel_rfl
@[go_sem] theorem tkd_26 : tkd Try.prog 26 = some .other := by kernel_rfl
@[go_sem] theorem tsz_27 : tsz Try.prog 27 = some 4 := by kernel_rfl
@[go_sem] theorem tby_27 : tby Try.prog 27 = some 64 := by kernel_rfl
@[go_sem] theorem tze_27 : tze Try.prog 27 = some [.int .i64 0, .slice none 0 0, .slice none 0 0, .bool false] := by kernel_rfl
@[go_sem] theorem tag_27 : tag Try.prog 27 = some true := by kernel_rfl
@[go_sem] theorem tar_27 : tar Try.prog 27 = none := by kernel_rfl
@[go_sem] theorem tfo_27_0 : tfo Try.prog 27 0 = some (0, 24) := by kernel_rfl
@[go_sem] theorem tfo_27_1 : tfo Try.prog 27 1 = some (2, 25) := by kernel_rfl
@[go_sem] theorem tfo_27_2 : tfo Try.prog 27 2 = some (3, 4) := by kernel_rfl
@[go_sem] theorem tpl_27 : tpl Try.prog 27 = some [(0, 2), (2, 1), (3, 1)] := by kernel_rfl
@[go_sem] theorem tcs_27 : tcs Try.prog 27 = [(1, 2), (2, 2)] := by kernel_rfl
@[go_sem] theorem tkd_27 : tkd Try.prog 27 = some .other := by kernel_rfl
@[go_sem] theorem tsz_28 : tsz Try.prog 28 = some 1 := by kernel_rfl
@[go_sem] theorem tby_28 : tby Try.prog 28 = some 8 := by kernel_rfl
@[go_sem] theorem tze_28 : tze Try.prog 28 = some [.float .f64 0] := by kernel_rfl
@[go_sem] theorem tag_28 : tag Try.prog 28 = some false := by kernel_rfl
@[go_sem] theorem tar_28 : tar Try.prog 28 = none := by kernel_rfl
@[go_sem] theorem tcs_28 : tcs Try.prog 28 = [] := by kernel_rfl
@[go_sem] theorem tkd_28 : tkd Try.prog 28 = some (.float .f64) := by kernel_rfl
@[go_sem] theorem tsz_29 : tsz Try.prog 29 = some 1 := by kernel_rfl
@[go_sem] theorem tby_29 : tby Try.prog 29 = some 24 := by kernel_rfl
@[go_sem] theorem tze_29 : tze Try.prog 29 = some [.slice none 0 0] := by kernel_rfl
@[go_sem] theorem tag_29 : tag Try.prog 29 = some false := by kernel_rfl
@[go_sem] theorem tel_29 : tel Try.prog 29 = some 61 := by kernel_rfl
@[go_sem] theorem tar_29 : tar Try.prog 29 = none := by kernel_rfl
@[go_sem] theorem tcs_29 : tcs Try.prog 29 = [(0, 3)] := by kernel_rfl
@[go_sem] theorem tkd_29 : tkd Try.prog 29 = some (.slice 61) := by kernel_rfl
@[go_sem] theorem tsz_30 : tsz Try.prog 30 = some 6 := by kernel_rfl
@[go_sem] theorem tby_30 : tby Try.prog 30 = some 96 := by kernel_rfl
@[go_sem] theorem tze_30 : tze Try.prog 30 = some [.int .i64 0, .slice none 0 0, .slice none 0 0, .bool false, .float .f64 0, .slice none 0 0] := by kernel_rfl
@[go_sem] theorem tag_30 : tag Try.prog 30 = some true := by kernel_rfl
@[go_sem] theorem tar_30 : tar Try.prog 30 = none := by kernel_rfl
@[go_sem] theorem tfo_30_0 : tfo Try.prog 30 0 = some (0, 27) := by kernel_rfl
@[go_sem] theorem tfo_30_1 : tfo Try.prog 30 1 = some (4, 28) := by kernel_rfl
@[go_sem] theorem tfo_30_2 : tfo Try.prog 30 2 = some (5, 29) := by kernel_rfl
@[go_sem] theorem tpl_30 : tpl Try.prog 30 = some [(0, 4), (4, 1), (5, 1)] := by kernel_rfl
@[go_sem] theorem tcs_30 : tcs Try.prog 30 = [(1, 2), (2, 2), (5, 3)] := by kernel_rfl
@[go_sem] theorem tkd_30 : tkd Try.prog 30 = some .other := by kernel_rfl
@[go_sem] theorem tsz_31 : tsz Try.prog 31 = some 6 := by kernel_rfl
@[go_sem] theorem tby_31 : tby Try.prog 31 = some 96 := by kernel_rfl
@[go_sem] theorem tze_31 : tze Try.prog 31 = some [.int .i64 0, .slice none 0 0, .slice none 0 0, .bool false, .float .f64 0, .slice none 0 0] := by kernel_rfl
@[go_sem] theorem tag_31 : tag Try.prog 31 = some true := by kernel_rfl
@[go_sem] theorem tar_31 : tar Try.prog 31 = none := by kernel_rfl
@[go_sem] theorem tfo_31_0 : tfo Try.prog 31 0 = some (0, 27) := by kernel_rfl
@[go_sem] theorem tfo_31_1 : tfo Try.prog 31 1 = some (4, 28) := by kernel_rfl
@[go_sem] theorem tfo_31_2 : tfo Try.prog 31 2 = some (5, 29) := by kernel_rfl
@[go_sem] theorem tpl_31 : tpl Try.prog 31 = some [(0, 4), (4, 1), (5, 1)] := by kernel_rfl
@[go_sem] theorem tcs_31 : tcs Try.prog 31 = [(1, 2), (2, 2), (5, 3)] := by kernel_rfl
@[go_sem] theorem tkd_31 : tkd Try.prog 31 = some .other := by kernel_rfl
@[go_sem] theorem tsz_33 : tsz Try.prog 33 = some 1 := by kernel_rfl
@[go_sem] theorem tby_33 : tby Try.prog 33 = some 8 := by kernel_rfl
@[go_sem] theorem tze_33 : tze Try.prog 33 = some [.int .i64 0] := by kernel_rfl
@[go_sem] theorem tag_33 : tag Try.prog 33 = some false := by kernel_rfl
@[go_sem] theorem tar_33 : tar Try.prog 33 = none := by kernel_rfl
@[go_sem] theorem tcs_33 : tcs Try.prog 33 = [] := by kernel_rfl
@[go_sem] theorem tkd_33 : tkd Try.prog 33 = some (.int .i64) := by kernel_rfl
@[go_sem] theorem tsz_40 : tsz Try.prog 40 = some 2 := by kernel_rfl
@[go_sem] theorem tby_40 : tby Try.prog 40 = some 32 := by kernel_rfl
@[go_sem] theorem tze_40 : tze Try.prog 40 = some [.int .i64 0, .slice none 0 0] := by kernel_rfl
@[go_sem] theorem tag_40 : tag Try.prog 40 = some true := by kernel_rfl
@[go_sem] theorem tar_40 : tar Try.prog 40 = none := by kernel_rfl
@[go_sem] theorem tfo_40_0 : tfo Try.prog 40 0 = some (0, 3) := by kernel_rfl
@[go_sem] theorem tfo_40_1 : tfo Try.prog 40 1 = some (1, 22) := by kernel_rfl
@[go_sem] theorem tpl_40 : tpl Try.prog 40 = some [(0, 1), (1, 1)] := by kernel_rfl
@[go_sem] theorem tcs_40 : tcs Try.prog 40 = [(1, 2)] := by kernel_rfl
@[go_sem] theorem tkd_40 : tkd Try.prog 40 = some .other := by kernel_rfl
@[go_sem] theorem tsz_41 : tsz Try.prog 41 = some 1 := by kernel_rfl
@[go_sem] theorem tby_41 : tby Try.prog 41 = some 24 := by kernel_rfl
@[go_sem] theorem tze_41 : tze Try.prog 41 = some [.slice none 0 0] := by kernel_rfl
@[go_sem] theorem tag_41 : tag Try.prog 41 = some false := by kernel_rfl
@[go_sem] theorem tel_41 : tel Try.prog 41 = some 117 := by kernel_rfl
@[go_sem] theorem tar_41 : tar Try.prog 41 = none := by kernel_rfl
@[go_sem] theorem tcs_41 : tcs Try.prog 41 = [(0, 2)] := by kernel_rfl
@[go_sem] theorem tkd_41 : tkd Try.prog 41 = some (.slice 117) := by kernel_rfl
@[go_sem] theorem tsz_42 : tsz Try.prog 42 = some 4 := by kernel_rfl
@[go_sem] theorem tby_42 : tby Try.prog 42 = some 64 := by kernel_rfl
@[go_sem] theorem tze_42 : tze Try.prog 42 = some [.int .i64 0, .slice none 0 0, .slice none 0 0, .bool false] := by kernel_rfl
@[go_sem] theorem tag_42 : tag Try.prog 42 = some true := by kernel_rfl
@[go_sem] theorem tar_42 : tar Try.prog 42 = none := by kernel_rfl
@[go_sem] theorem tfo_42_0 : tfo Try.prog 42 0 = some (0, 40) := by kernel_rfl
@[go_sem] theorem tfo_42_1 : tfo Try.prog 42 1 = some (2, 41) := by kernel_rfl
@[go_sem] theorem tfo_42_2 : tfo Try.prog 42 2 = some (3, 4) := by kernel_rfl
@[go_sem] theorem tpl_42 : tpl Try.prog 42 = some [(0, 2), (2, 1), (3, 1)] := by kernel_rfl
@[go_sem] theorem tcs_42 : tcs Try.prog 42 = [(1, 2), (2, 2)] := by kernel_rfl
@[go_sem] theorem tkd_42 : tkd Try.prog 42 = some .other := by kernel_rfl
@[go_sem] theorem tsz_43 : tsz Try.prog 43 = some 4 := by kernel_rfl
@[go_sem] theorem tby_43 : tby Try.prog 43 = some 64 := by kernel_rfl
@[go_sem] theorem tze_43 : tze Try.prog 43 = some [.int .i64 0, .slice none 0 0, .slice none 0 0, .bool false] := by kernel_rfl
@[go_sem] theorem tag_43 : tag Try.prog 43 = some true := by kernel_rfl
@[go_sem] theorem tar_43 : tar Try.prog 43 = none := by kernel_rfl
@[go_sem] theorem tfo_43_0 : tfo Try.prog 43 0 = some (0, 40) := by kernel_rfl
@[go_sem] theorem tfo_43_1 : tfo Try.prog 43 1 = some (2, 41) := by kernel_rfl
@[go_sem] theorem tfo_43_2 : tfo Try.prog 43 2 = some (3, 4) := by kernel_rfl
@[go_sem] theorem tpl_43 : tpl Try.prog 43 = some [(0, 2), (2, 1), (3, 1)] := by kernel_rfl
@[go_sem] theorem tcs_43 : tcs Try.prog 43 = [(1, 2), (2, 2)] := by kernel_rfl
@[go_sem] theorem tkd_43 : tkd Try.prog 43 = some .other := by kernel_rfl
@[go_sem] theorem tsz_44 : tsz Try.prog 44 = some 1 := by kernel_rfl
@[go_sem] theorem tby_44 : tby Try.prog 44 = some 24 := by kernel_rfl
@[go_sem] theorem tze_44 : tze Try.prog 44 = some [.slice none 0 0] := by kernel_rfl
@[go_sem] theorem tag_44 : tag Try.prog 44 = some false := by kernel_rfl
@[go_sem] theorem tel_44 : tel Try.prog 44 = some 85 := by kernel_rfl
@[go_sem] theorem tar_44 : tar Try.prog 44 = none := by kernel_rfl
@[go_sem] theorem tcs_44 : tcs Try.prog 44 = [(0, 3)] := by kernel_rfl
@[go_sem] theorem tkd_44 : tkd Try.prog 44 = some (.slice 85) := by kernel_rfl
@[go_sem] theorem tsz_45 : tsz Try.prog 45 = some 6 := by kernel_rfl
@[go_sem] theorem tby_45 : tby Try.prog 45 = some 96 := by kernel_rfl
@[go_sem] theorem tze_45 : tze Try.prog 45 = some [.int .i64 0, .slice none 0 0, .slice none 0 0, .bool false, .float .f64 0, .slice none 0 0] := by kernel_rfl
@[go_sem] theorem tag_45 : tag Try.prog 45 = some true := by kernel_rfl
@[go_sem] theorem tar_45 : tar Try.prog 45 = none := by kernel_rfl
@[go_sem] theorem tfo_45_0 : tfo Try.prog 45 0 = some (0, 43) := by kernel_rfl
@[go_sem] theorem tfo_45_1 : tfo Try.prog 45 1 = some (4, 28) := by kernel_rfl
@[go_sem] theorem tfo_45_2 : tfo Try.prog 45 2 = some (5, 44) := by kernel_rfl
@[go_sem] theorem tpl_45 : tpl Try.prog 45 = some [(0, 4), (4, 1), (5, 1)] := by kernel_rfl
@[go_sem] theorem tcs_45 : tcs Try.prog 45 = [(1, 2), (2, 2), (5, 3)] := by kernel_rfl
@[go_sem] theorem tkd_45 : tkd Try.prog 45 = some .other := by kernel_rfl
@[go_sem] theorem tsz_46 : tsz Try.prog 46 = some 6 := by kernel_rfl
@[go_sem] theorem tby_46 : tby Try.prog 46 = some 96 := by kernel_rfl
@[go_sem] theorem tze_46 : tze Try.prog 46 = some [.int .i64 0, .slice none 0 0, .slice none 0 0, .bool false, .float .f64 0, .slice none 0 0] := by kernel_rfl
@[go_sem] theorem tag_46 : tag Try.prog 46 = some true := by kernel_rfl
@[go_sem] theorem tar_46 : tar Try.prog 46 = none := by kernel_rfl
@[go_sem] theorem tfo_46_0 : tfo Try.prog 46 0 = some (0, 43) := by kernel_rfl
@[go_sem] theorem tfo_46_1 : tfo Try.prog 46 1 = some (4, 28) := by kernel_rfl
@[go_sem] theorem tfo_46_2 : tfo Try.prog 46 2 = some (5, 44) := by kernel_rfl
@[go_sem] theorem tpl_46 : tpl Try.prog 46 = some [(0, 4), (4, 1), (5, 1)] := by kernel_rfl
@[go_sem] theorem tcs_46 : tcs Try.prog 46 = [(1, 2), (2, 2), (5, 3)] := by kernel_rfl
@[go_sem] theorem tkd_46 : tkd Try.prog 46 = some .other := by kernel_rfl
@[go_sem] theorem tsz_50 : tsz Try.prog 50 = some 1 := by kernel_rfl
@[go_sem] theorem tby_50 : tby Try.prog 50 = some 2 := by kernel_rfl
@[go_sem] theorem tze_50 : tze Try.prog 50 = some [.int .u16 0] := by kernel_rfl
@[go_sem] theorem tag_50 : tag Try.prog 50 = some false := by kernel_rfl
@[go_sem] theorem tar_50 : tar Try.prog 50 = none := by kernel_rfl
@[go_sem] theorem tcs_50 : tcs Try.prog 50 = [] := by kernel_rfl
@[go_sem] theorem tkd_50 : tkd Try.prog 50 = some (.int .u16) := by kernel_rfl
@[go_sem] theorem tsz_51 : tsz Try.prog 51 = some 1 := by kernel_rfl
@[go_sem] theorem tby_51 : tby Try.prog 51 = some 24 := by kernel_rfl
@[go_sem] theorem tze_51 : tze Try.prog 51 = some [.slice none 0 0] := by kernel_rfl
@[go_sem] theorem tag_51 : tag Try.prog 51 = some false := by kernel_rfl
@[go_sem] theorem tel_51 : tel Try.prog 51 = some 5 := by kernel_rfl
@[go_sem] theorem tar_51 : tar Try.prog 51 = none := by kernel_rfl
@[go_sem] theorem tcs_51 : tcs Try.prog 51 = [(0, 1)] := by kernel_rfl
@[go_sem] theorem tkd_51 : tkd Try.prog 51 = some (.slice 5) := by kernel_rfl
@[go_sem] theorem tsz_53 : tsz Try.prog 53 = some 1 := by kernel_rfl
@[go_sem] theorem tby_53 : tby Try.prog 53 = some 8 := by kernel_rfl
@[go_sem] theorem tze_53 : tze Try.prog 53 = some [.int .u64 0] := by kernel_rfl
@[go_sem] theorem tag_53 : tag Try.prog 53 = some false := by kernel_rfl
@[go_sem] theorem tar_53 : tar Try.prog 53 = none := by kernel_rfl
@[go_sem] theorem tcs_53 : tcs Try.prog 53 = [] := by kernel_rfl
@[go_sem] theorem tkd_53 : tkd Try.prog 53 = some (.int .u64) := by kernel_rfl
@[go_sem] theorem tsz_59 : tsz Try.prog 59 = some 1 := by kernel_rfl
@[go_sem] theorem tby_59 : tby Try.prog 59 = some 24 := by kernel_rfl
@[go_sem] theorem tze_59 : tze Try.prog 59 = some [.slice none 0 0] := by kernel_rfl
@[go_sem] theorem tag_59 : tag Try.prog 59 = some false := by kernel_rfl
@[go_sem] theorem tel_59 : tel Try.prog 59 = some 31 := by kernel_rfl
@[go_sem] theorem tar_59 : tar Try.prog 59 = none := by kernel_rfl
@[go_sem] theorem tcs_59 : tcs Try.prog 59 = [(0, 6)] := by kernel_rfl
@[go_sem] theorem tkd_59 : tkd Try.prog 59 = some (.slice 31) := by kernel_rfl
@[go_sem] theorem tsz_60 : tsz Try.prog 60 = some 3 := by kernel_rfl
@[go_sem] theorem tby_60 : tby Try.prog 60 = some 24 := by kernel_rfl
@[go_sem] theorem tze_60 : tze Try.prog 60 = some [.int .i64 0, .int .i64 0, .int .i64 0] := by kernel_rfl
@[go_sem] theorem tag_60 : tag Try.prog 60 = some true := by kernel_rfl
@[go_sem] theorem tar_60 : tar Try.prog 60 = none := by kernel_rfl
@[go_sem] theorem tfo_60_0 : tfo Try.prog 60 0 = some (0, 3) := by kernel_rfl
@[go_sem] theorem tfo_60_1 : tfo Try.prog 60 1 = some (1, 3) := by kernel_rfl
@[go_sem] theorem tfo_60_2 : tfo Try.prog 60 2 = some (2, 3) := by kernel_rfl
@[go_sem] theorem tpl_60 : tpl Try.prog 60 = some [(0, 1), (1, 1), (2, 1)] := by kernel_rfl
@[go_sem] theorem tcs_60 : tcs Try.prog 60 = [] := by kernel_rfl
@[go_sem] theorem tkd_60 : tkd Try.prog 60 = some .other := by kernel_rfl
@[go_sem] theorem tsz_61 : tsz Try.prog 61 = some 3 := by kernel_rfl
@[go_sem] theorem tby_61 : tby Try.prog 61 = some 24 := by kernel_rfl
@[go_sem] theorem tze_61 : tze Try.prog 61 = some [.int .i64 0, .int .i64 0, .int .i64 0] := by kernel_rfl
@[go_sem] theorem tag_61 : tag Try.prog 61 = some true := by kernel_rfl
@[go_sem] theorem tar_61 : tar Try.prog 61 = none := by kernel_rfl
@[go_sem] theorem tfo_61_0 : tfo Try.prog 61 0 = some (0, 3) := by kernel_rfl
@[go_sem] theorem tfo_61_1 : tfo Try.prog 61 1 = some (1, 3) := by kernel_rfl
@[go_sem] theorem tfo_61_2 : tfo Try.prog 61 2 = some (2, 3) := by kernel_rfl
@[go_sem] theorem tpl_61 : tpl Try.prog 61 = some [(0, 1), (1, 1), (2, 1)] := by kernel_rfl
@[go_sem] theorem tcs_61 : tcs Try.prog 61 = [] := by kernel_rfl
@[go_sem] theorem teq_61 : teq Try.prog 61 = some [(.int .i64), (.int .i64), (.int .i64)] := by kernel_rfl
@[go_sem] theorem tkd_61 : tkd Try.prog 61 = some .other := by kernel_rfl
@[go_sem] theorem tsz_63 : tsz Try.prog 63 = some 1 := by kernel_rfl
@[go_sem] theorem tby_63 : tby Try.prog 63 = some 24 := by kernel_rfl
@[go_sem] theorem tze_63 : tze Try.prog 63 = some [.slice none 0 0] := by kernel_rfl
@[go_sem] theorem tag_63 : tag Try.prog 63 = some false := by kernel_rfl
@[go_sem] theorem tel_63 : tel Try.prog 63 = some 3 := by kernel_rfl
@[go_sem] theorem tar_63 : tar Try.prog 63 = none := by kernel_rfl
@[go_sem] theorem tcs_63 : tcs Try.prog 63 = [(0, 1)] := by kernel_rfl
@[go_sem] theorem tkd_63 : tkd Try.prog 63 = some (.slice 3) := by kernel_rfl
@[go_sem] theorem tsz_71 : tsz Try.prog 71 = some 0 := by kernel_rfl
@[go_sem] theorem tby_71 : tby Try.prog 71 = some 0 := by kernel_rfl
@[go_sem] theorem tze_71 : tze Try.prog 71 = some [] := by kernel_rfl
@[go_sem] theorem tag_71 : tag Try.prog 71 = some true := by kernel_rfl
@[go_sem] theorem tar_71 : tar Try.prog 71 = none := by kernel_rfl
@[go_sem] theorem tpl_71 : tpl Try.prog 71 = some [] := by kernel_rfl
@[go_sem] theorem tcs_71 : tcs Try.prog 71 = [] := by kernel_rfl
@[go_sem] theorem tkd_71 : tkd Try.prog 71 = some .other := by kernel_rfl
@[go_sem] theorem tsz_72 : tsz Try.prog 72 = some 0 := by kernel_rfl
@[go_sem] theorem tby_72 : tby Try.prog 72 = some 0 := by kernel_rfl
@[go_sem] theorem tze_72 : tze Try.prog 72 = some [] := by kernel_rfl
@[go_sem] theorem tag_72 : tag Try.prog 72 = some true := by kernel_rfl
@[go_sem] theorem tar_72 : tar Try.prog 72 = none := by kernel_rfl
@[go_sem] theorem tpl_72 : tpl Try.prog 72 = some [] := by kernel_rfl
@[go_sem] theorem tcs_72 : tcs Try.prog 72 = [] := by kernel_rfl
@[go_sem] theorem tkd_72 : tkd Try.prog 72 = some .other := by kernel_rfl
@[go_sem] theorem tsz_74 : tsz Try.prog 74 = some 1 := by kernel_rfl
@[go_sem] theorem tby_74 : tby Try.prog 74 = some 8 := by kernel_rfl
@[go_sem] theorem tze_74 : tze Try.prog 74 = some [.pointer none] := by kernel_rfl
@[go_sem] theorem tag_74 : tag Try.prog 74 = some false := by kernel_rfl
@[go_sem] theorem tar_74 : tar Try.prog 74 = none := by kernel_rfl
@[go_sem] theorem tcs_74 : tcs Try.prog 74 = [] := by kernel_rfl
@[go_sem] theorem tptr_74 : tptr Try.prog 74 = true := by kernel_rfl
@[go_sem] theorem tkd_74 : tkd Try.prog 74 = some .other := by kernel_rfl
@[go_sem] theorem tsz_75 : tsz Try.prog 75 = some 2 := by kernel_rfl
@[go_sem] theorem tby_75 : tby Try.prog 75 = some 24 := by kernel_rfl
@[go_sem] theorem tze_75 : tze Try.prog 75 = some [.string ByteArray.empty, .int .i64 0] := by kernel_rfl
@[go_sem] theorem tag_75 : tag Try.prog 75 = some true := by kernel_rfl
@[go_sem] theorem tar_75 : tar Try.prog 75 = none := by kernel_rfl
@[go_sem] theorem tfo_75_0 : tfo Try.prog 75 0 = some (0, 9) := by kernel_rfl
@[go_sem] theorem tfo_75_1 : tfo Try.prog 75 1 = some (1, 3) := by kernel_rfl
@[go_sem] theorem tpl_75 : tpl Try.prog 75 = some [(0, 1), (1, 1)] := by kernel_rfl
@[go_sem] theorem tcs_75 : tcs Try.prog 75 = [] := by kernel_rfl
@[go_sem] theorem tkd_75 : tkd Try.prog 75 = some .other := by kernel_rfl
@[go_sem] theorem tsz_76 : tsz Try.prog 76 = some 2 := by kernel_rfl
@[go_sem] theorem tby_76 : tby Try.prog 76 = some 24 := by kernel_rfl
@[go_sem] theorem tze_76 : tze Try.prog 76 = some [.string ByteArray.empty, .int .i64 0] := by kernel_rfl
@[go_sem] theorem tag_76 : tag Try.prog 76 = some true := by kernel_rfl
@[go_sem] theorem tar_76 : tar Try.prog 76 = none := by kernel_rfl
@[go_sem] theorem tfo_76_0 : tfo Try.prog 76 0 = some (0, 9) := by kernel_rfl
@[go_sem] theorem tfo_76_1 : tfo Try.prog 76 1 = some (1, 3) := by kernel_rfl
@[go_sem] theorem tpl_76 : tpl Try.prog 76 = some [(0, 1), (1, 1)] := by kernel_rfl
@[go_sem] theorem tcs_76 : tcs Try.prog 76 = [] := by kernel_rfl
@[go_sem] theorem teq_76 : teq Try.prog 76 = some [.string, (.int .i64)] := by kernel_rfl
@[go_sem] theorem tkd_76 : tkd Try.prog 76 = some .other := by kernel_rfl
@[go_sem] theorem tsz_85 : tsz Try.prog 85 = some 3 := by kernel_rfl
@[go_sem] theorem tby_85 : tby Try.prog 85 = some 24 := by kernel_rfl
@[go_sem] theorem tze_85 : tze Try.prog 85 = some [.int .i64 0, .int .i64 0, .int .i64 0] := by kernel_rfl
@[go_sem] theorem tag_85 : tag Try.prog 85 = some true := by kernel_rfl
@[go_sem] theorem tar_85 : tar Try.prog 85 = none := by kernel_rfl
@[go_sem] theorem tfo_85_0 : tfo Try.prog 85 0 = some (0, 3) := by kernel_rfl
@[go_sem] theorem tfo_85_1 : tfo Try.prog 85 1 = some (1, 3) := by kernel_rfl
@[go_sem] theorem tfo_85_2 : tfo Try.prog 85 2 = some (2, 3) := by kernel_rfl
@[go_sem] theorem tpl_85 : tpl Try.prog 85 = some [(0, 1), (1, 1), (2, 1)] := by kernel_rfl
@[go_sem] theorem tcs_85 : tcs Try.prog 85 = [] := by kernel_rfl
@[go_sem] theorem teq_85 : teq Try.prog 85 = some [(.int .i64), (.int .i64), (.int .i64)] := by kernel_rfl
@[go_sem] theorem tkd_85 : tkd Try.prog 85 = some .other := by kernel_rfl
@[go_sem] theorem tsz_90 : tsz Try.prog 90 = some 3 := by kernel_rfl
@[go_sem] theorem tby_90 : tby Try.prog 90 = some 48 := by kernel_rfl
@[go_sem] theorem tze_90 : tze Try.prog 90 = some [.string ByteArray.empty, .string ByteArray.empty, .string ByteArray.empty] := by kernel_rfl
@[go_sem] theorem tag_90 : tag Try.prog 90 = some true := by kernel_rfl
@[go_sem] theorem tar_90 : tar Try.prog 90 = none := by kernel_rfl
@[go_sem] theorem tfo_90_0 : tfo Try.prog 90 0 = some (0, 9) := by kernel_rfl
@[go_sem] theorem tfo_90_1 : tfo Try.prog 90 1 = some (1, 9) := by kernel_rfl
@[go_sem] theorem tfo_90_2 : tfo Try.prog 90 2 = some (2, 9) := by kernel_rfl
@[go_sem] theorem tpl_90 : tpl Try.prog 90 = some [(0, 1), (1, 1), (2, 1)] := by kernel_rfl
@[go_sem] theorem tcs_90 : tcs Try.prog 90 = [] := by kernel_rfl
@[go_sem] theorem tkd_90 : tkd Try.prog 90 = some .other := by kernel_rfl
@[go_sem] theorem tsz_91 : tsz Try.prog 91 = some 3 := by kernel_rfl
@[go_sem] theorem tby_91 : tby Try.prog 91 = some 48 := by kernel_rfl
@[go_sem] theorem tze_91 : tze Try.prog 91 = some [.string ByteArray.empty, .string ByteArray.empty, .string ByteArray.empty] := by kernel_rfl
@[go_sem] theorem tag_91 : tag Try.prog 91 = some true := by kernel_rfl
@[go_sem] theorem tar_91 : tar Try.prog 91 = none := by kernel_rfl
@[go_sem] theorem tfo_91_0 : tfo Try.prog 91 0 = some (0, 9) := by kernel_rfl
@[go_sem] theorem tfo_91_1 : tfo Try.prog 91 1 = some (1, 9) := by kernel_rfl
@[go_sem] theorem tfo_91_2 : tfo Try.prog 91 2 = some (2, 9) := by kernel_rfl
@[go_sem] theorem tpl_91 : tpl Try.prog 91 = some [(0, 1), (1, 1), (2, 1)] := by kernel_rfl
@[go_sem] theorem tcs_91 : tcs Try.prog 91 = [] := by kernel_rfl
@[go_sem] theorem teq_91 : teq Try.prog 91 = some [.string, .string, .string] := by kernel_rfl
@[go_sem] theorem tkd_91 : tkd Try.prog 91 = some .other := by kernel_rfl
@[go_sem] theorem tsz_94 : tsz Try.prog 94 = some 2 := by kernel_rfl
@[go_sem] theorem tby_94 : tby Try.prog 94 = some 16 := by kernel_rfl
@[go_sem] theorem tze_94 : tze Try.prog 94 = some [.int .i64 0, .int .i64 0] := by kernel_rfl
@[go_sem] theorem tag_94 : tag Try.prog 94 = some true := by kernel_rfl
@[go_sem] theorem tar_94 : tar Try.prog 94 = some (2, 3) := by kernel_rfl
@[go_sem] theorem tpl_94 : tpl Try.prog 94 = none := by kernel_rfl
@[go_sem] theorem tcs_94 : tcs Try.prog 94 = [] := by kernel_rfl
@[go_sem] theorem teq_94 : teq Try.prog 94 = some [(.int .i64), (.int .i64)] := by kernel_rfl
@[go_sem] theorem tkey_94 : tkey Try.prog 94 = some (true, [(.int .i64), (.int .i64)]) := by kernel_rfl
@[go_sem] theorem tkd_94 : tkd Try.prog 94 = some .other := by kernel_rfl
@[go_sem] theorem tsz_95 : tsz Try.prog 95 = some 1 := by kernel_rfl
@[go_sem] theorem tby_95 : tby Try.prog 95 = some 24 := by kernel_rfl
@[go_sem] theorem tze_95 : tze Try.prog 95 = some [.slice none 0 0] := by kernel_rfl
@[go_sem] theorem tag_95 : tag Try.prog 95 = some false := by kernel_rfl
@[go_sem] theorem tel_95 : tel Try.prog 95 = some 101 := by kernel_rfl
@[go_sem] theorem tar_95 : tar Try.prog 95 = none := by kernel_rfl
@[go_sem] theorem tcs_95 : tcs Try.prog 95 = [(0, 4)] := by kernel_rfl
@[go_sem] theorem tkd_95 : tkd Try.prog 95 = some (.slice 101) := by kernel_rfl
@[go_sem] theorem tsz_96 : tsz Try.prog 96 = some 2 := by kernel_rfl
@[go_sem] theorem tby_96 : tby Try.prog 96 = some 32 := by kernel_rfl
@[go_sem] theorem tze_96 : tze Try.prog 96 = some [.int .i64 0, .slice none 0 0] := by kernel_rfl
@[go_sem] theorem tag_96 : tag Try.prog 96 = some true := by kernel_rfl
@[go_sem] theorem tar_96 : tar Try.prog 96 = none := by kernel_rfl
@[go_sem] theorem tfo_96_0 : tfo Try.prog 96 0 = some (0, 3) := by kernel_rfl
@[go_sem] theorem tfo_96_1 : tfo Try.prog 96 1 = some (1, 95) := by kernel_rfl
@[go_sem] theorem tpl_96 : tpl Try.prog 96 = some [(0, 1), (1, 1)] := by kernel_rfl
@[go_sem] theorem tcs_96 : tcs Try.prog 96 = [(1, 4)] := by kernel_rfl
@[go_sem] theorem tkd_96 : tkd Try.prog 96 = some .other := by kernel_rfl
@[go_sem] theorem tsz_97 : tsz Try.prog 97 = some 2 := by kernel_rfl
@[go_sem] theorem tby_97 : tby Try.prog 97 = some 32 := by kernel_rfl
@[go_sem] theorem tze_97 : tze Try.prog 97 = some [.int .i64 0, .slice none 0 0] := by kernel_rfl
@[go_sem] theorem tag_97 : tag Try.prog 97 = some true := by kernel_rfl
@[go_sem] theorem tar_97 : tar Try.prog 97 = none := by kernel_rfl
@[go_sem] theorem tfo_97_0 : tfo Try.prog 97 0 = some (0, 3) := by kernel_rfl
@[go_sem] theorem tfo_97_1 : tfo Try.prog 97 1 = some (1, 95) := by kernel_rfl
@[go_sem] theorem tpl_97 : tpl Try.prog 97 = some [(0, 1), (1, 1)] := by kernel_rfl
@[go_sem] theorem tcs_97 : tcs Try.prog 97 = [(1, 4)] := by kernel_rfl
@[go_sem] theorem tkd_97 : tkd Try.prog 97 = some .other := by kernel_rfl
@[go_sem] theorem tsz_98 : tsz Try.prog 98 = some 1 := by kernel_rfl
@[go_sem] theorem tby_98 : tby Try.prog 98 = some 24 := by kernel_rfl
@[go_sem] theorem tze_98 : tze Try.prog 98 = some [.slice none 0 0] := by kernel_rfl
@[go_sem] theorem tag_98 : tag Try.prog 98 = some false := by kernel_rfl
@[go_sem] theorem tel_98 : tel Try.prog 98 = some 129 := by kernel_rfl
@[go_sem] theorem tar_98 : tar Try.prog 98 = none := by kernel_rfl
@[go_sem] theorem tcs_98 : tcs Try.prog 98 = [(0, 2)] := by kernel_rfl
@[go_sem] theorem tkd_98 : tkd Try.prog 98 = some (.slice 129) := by kernel_rfl
@[go_sem] theorem tsz_99 : tsz Try.prog 99 = some 1 := by kernel_rfl
@[go_sem] theorem tby_99 : tby Try.prog 99 = some 24 := by kernel_rfl
@[go_sem] theorem tze_99 : tze Try.prog 99 = some [.slice none 0 0] := by kernel_rfl
@[go_sem] theorem tag_99 : tag Try.prog 99 = some false := by kernel_rfl
@[go_sem] theorem tel_99 : tel Try.prog 99 = some 133 := by kernel_rfl
@[go_sem] theorem tar_99 : tar Try.prog 99 = none := by kernel_rfl
@[go_sem] theorem tcs_99 : tcs Try.prog 99 = [(0, 3)] := by kernel_rfl
@[go_sem] theorem tkd_99 : tkd Try.prog 99 = some (.slice 133) := by kernel_rfl
@[go_sem] theorem tsz_100 : tsz Try.prog 100 = some 4 := by kernel_rfl
@[go_sem] theorem tby_100 : tby Try.prog 100 = some 80 := by kernel_rfl
@[go_sem] theorem tze_100 : tze Try.prog 100 = some [.int .i64 0, .slice none 0 0, .slice none 0 0, .slice none 0 0] := by kernel_rfl
@[go_sem] theorem tag_100 : tag Try.prog 100 = some true := by kernel_rfl
@[go_sem] theorem tar_100 : tar Try.prog 100 = none := by kernel_rfl
@[go_sem] theorem tfo_100_0 : tfo Try.prog 100 0 = some (0, 3) := by kernel_rfl
@[go_sem] theorem tfo_100_1 : tfo Try.prog 100 1 = some (1, 63) := by kernel_rfl
@[go_sem] theorem tfo_100_2 : tfo Try.prog 100 2 = some (2, 98) := by kernel_rfl
@[go_sem] theorem tfo_100_3 : tfo Try.prog 100 3 = some (3, 99) := by kernel_rfl
@[go_sem] theorem tpl_100 : tpl Try.prog 100 = some [(0, 1), (1, 1), (2, 1), (3, 1)] := by kernel_rfl
@[go_sem] theorem tcs_100 : tcs Try.prog 100 = [(1, 1), (2, 2), (3, 3)] := by kernel_rfl
@[go_sem] theorem tkd_100 : tkd Try.prog 100 = some .other := by kernel_rfl
@[go_sem] theorem tsz_101 : tsz Try.prog 101 = some 4 := by kernel_rfl
@[go_sem] theorem tby_101 : tby Try.prog 101 = some 80 := by kernel_rfl
@[go_sem] theorem tze_101 : tze Try.prog 101 = some [.int .i64 0, .slice none 0 0, .slice none 0 0, .slice none 0 0] := by kernel_rfl
@[go_sem] theorem tag_101 : tag Try.prog 101 = some true := by kernel_rfl
@[go_sem] theorem tar_101 : tar Try.prog 101 = none := by kernel_rfl
@[go_sem] theorem tfo_101_0 : tfo Try.prog 101 0 = some (0, 3) := by kernel_rfl
@[go_sem] theorem tfo_101_1 : tfo Try.prog 101 1 = some (1, 63) := by kernel_rfl
@[go_sem] theorem tfo_101_2 : tfo Try.prog 101 2 = some (2, 98) := by kernel_rfl
@[go_sem] theorem tfo_101_3 : tfo Try.prog 101 3 = some (3, 99) := by kernel_rfl
@[go_sem] theorem tpl_101 : tpl Try.prog 101 = some [(0, 1), (1, 1), (2, 1), (3, 1)] := by kernel_rfl
@[go_sem] theorem tcs_101 : tcs Try.prog 101 = [(1, 1), (2, 2), (3, 3)] := by kernel_rfl
@[go_sem] theorem tkd_101 : tkd Try.prog 101 = some .other := by kernel_rfl
@[go_sem] theorem tsz_103 : tsz Try.prog 103 = some 1 := by kernel_rfl
@[go_sem] theorem tby_103 : tby Try.prog 103 = some 8 := by kernel_rfl
@[go_sem] theorem tze_103 : tze Try.prog 103 = some [.map none] := by kernel_rfl
@[go_sem] theorem tag_103 : tag Try.prog 103 = some false := by kernel_rfl
@[go_sem] theorem tar_103 : tar Try.prog 103 = none := by kernel_rfl
@[go_sem] theorem tcs_103 : tcs Try.prog 103 = [] := by kernel_rfl
@[go_sem] theorem tmp_103 : tmp Try.prog 103 = some (94, 3) := by kernel_rfl
@[go_sem] theorem tkd_103 : tkd Try.prog 103 = some (.map 94 3) := by kernel_rfl
@[go_sem] theorem tsz_108 : tsz Try.prog 108 = some 9 := by kernel_rfl
@[go_sem] theorem tby_108 : tby Try.prog 108 = some 152 := by kernel_rfl
@[go_sem] theorem tze_108 : tze Try.prog 108 = some [.int .i64 0, .slice none 0 0, .slice none 0 0, .slice none 0 0, .int .i64 0, .int .i64 0, .slice none 0 0, .int .i64 0, .slice none 0 0] := by kernel_rfl
@[go_sem] theorem tag_108 : tag Try.prog 108 = some true := by kernel_rfl
@[go_sem] theorem tar_108 : tar Try.prog 108 = none := by kernel_rfl
@[go_sem] theorem tfo_108_0 : tfo Try.prog 108 0 = some (0, 101) := by kernel_rfl
@[go_sem] theorem tfo_108_1 : tfo Try.prog 108 1 = some (4, 3) := by kernel_rfl
@[go_sem] theorem tfo_108_2 : tfo Try.prog 108 2 = some (5, 97) := by kernel_rfl
@[go_sem] theorem tfo_108_3 : tfo Try.prog 108 3 = some (7, 24) := by kernel_rfl
@[go_sem] theorem tpl_108 : tpl Try.prog 108 = some [(0, 4), (4, 1), (5, 2), (7, 2)] := by kernel_rfl
@[go_sem] theorem tcs_108 : tcs Try.prog 108 = [(1, 1), (2, 2), (3, 3), (6, 4), (8, 2)] := by kernel_rfl
@[go_sem] theorem tkd_108 : tkd Try.prog 108 = some .other := by kernel_rfl
@[go_sem] theorem tsz_109 : tsz Try.prog 109 = some 9 := by kernel_rfl
@[go_sem] theorem tby_109 : tby Try.prog 109 = some 152 := by kernel_rfl
@[go_sem] theorem tze_109 : tze Try.prog 109 = some [.int .i64 0, .slice none 0 0, .slice none 0 0, .slice none 0 0, .int .i64 0, .int .i64 0, .slice none 0 0, .int .i64 0, .slice none 0 0] := by kernel_rfl
@[go_sem] theorem tag_109 : tag Try.prog 109 = some true := by kernel_rfl
@[go_sem] theorem tar_109 : tar Try.prog 109 = none := by kernel_rfl
@[go_sem] theorem tfo_109_0 : tfo Try.prog 109 0 = some (0, 101) := by kernel_rfl
@[go_sem] theorem tfo_109_1 : tfo Try.prog 109 1 = some (4, 3) := by kernel_rfl
@[go_sem] theorem tfo_109_2 : tfo Try.prog 109 2 = some (5, 97) := by kernel_rfl
@[go_sem] theorem tfo_109_3 : tfo Try.prog 109 3 = some (7, 24) := by kernel_rfl
@[go_sem] theorem tpl_109 : tpl Try.prog 109 = some [(0, 4), (4, 1), (5, 2), (7, 2)] := by kernel_rfl
@[go_sem] theorem tcs_109 : tcs Try.prog 109 = [(1, 1), (2, 2), (3, 3), (6, 4), (8, 2)] := by kernel_rfl
@[go_sem] theorem tkd_109 : tkd Try.prog 109 = some .other := by kernel_rfl
@[go_sem] theorem tsz_115 : tsz Try.prog 115 = some 1 := by kernel_rfl
@[go_sem] theorem tby_115 : tby Try.prog 115 = some 24 := by kernel_rfl
@[go_sem] theorem tze_115 : tze Try.prog 115 = some [.slice none 0 0] := by kernel_rfl
@[go_sem] theorem tag_115 : tag Try.prog 115 = some false := by kernel_rfl
@[go_sem] theorem tel_115 : tel Try.prog 115 = some 122 := by kernel_rfl
@[go_sem] theorem tar_115 : tar Try.prog 115 = none := by kernel_rfl
@[go_sem] theorem tcs_115 : tcs Try.prog 115 = [(0, 4)] := by kernel_rfl
@[go_sem] theorem tkd_115 : tkd Try.prog 115 = some (.slice 122) := by kernel_rfl
@[go_sem] theorem tsz_116 : tsz Try.prog 116 = some 2 := by kernel_rfl
@[go_sem] theorem tby_116 : tby Try.prog 116 = some 32 := by kernel_rfl
@[go_sem] theorem tze_116 : tze Try.prog 116 = some [.int .i64 0, .slice none 0 0] := by kernel_rfl
@[go_sem] theorem tag_116 : tag Try.prog 116 = some true := by kernel_rfl
@[go_sem] theorem tar_116 : tar Try.prog 116 = none := by kernel_rfl
@[go_sem] theorem tfo_116_0 : tfo Try.prog 116 0 = some (0, 3) := by kernel_rfl
@[go_sem] theorem tfo_116_1 : tfo Try.prog 116 1 = some (1, 115) := by kernel_rfl
@[go_sem] theorem tpl_116 : tpl Try.prog 116 = some [(0, 1), (1, 1)] := by kernel_rfl
@[go_sem] theorem tcs_116 : tcs Try.prog 116 = [(1, 4)] := by kernel_rfl
@[go_sem] theorem tkd_116 : tkd Try.prog 116 = some .other := by kernel_rfl
@[go_sem] theorem tsz_117 : tsz Try.prog 117 = some 2 := by kernel_rfl
@[go_sem] theorem tby_117 : tby Try.prog 117 = some 32 := by kernel_rfl
@[go_sem] theorem tze_117 : tze Try.prog 117 = some [.int .i64 0, .slice none 0 0] := by kernel_rfl
@[go_sem] theorem tag_117 : tag Try.prog 117 = some true := by kernel_rfl
@[go_sem] theorem tar_117 : tar Try.prog 117 = none := by kernel_rfl
@[go_sem] theorem tfo_117_0 : tfo Try.prog 117 0 = some (0, 3) := by kernel_rfl
@[go_sem] theorem tfo_117_1 : tfo Try.prog 117 1 = some (1, 115) := by kernel_rfl
@[go_sem] theorem tpl_117 : tpl Try.prog 117 = some [(0, 1), (1, 1)] := by kernel_rfl
@[go_sem] theorem tcs_117 : tcs Try.prog 117 = [(1, 4)] := by kernel_rfl
@[go_sem] theorem tkd_117 : tkd Try.prog 117 = some .other := by kernel_rfl
@[go_sem] theorem tsz_119 : tsz Try.prog 119 = some 1 := by kernel_rfl
@[go_sem] theorem tby_119 : tby Try.prog 119 = some 24 := by kernel_rfl
@[go_sem] theorem tze_119 : tze Try.prog 119 = some [.slice none 0 0] := by kernel_rfl
@[go_sem] theorem tag_119 : tag Try.prog 119 = some false := by kernel_rfl
@[go_sem] theorem tel_119 : tel Try.prog 119 = some 147 := by kernel_rfl
@[go_sem] theorem tar_119 : tar Try.prog 119 = none := by kernel_rfl
@[go_sem] theorem tcs_119 : tcs Try.prog 119 = [(0, 2)] := by kernel_rfl
@[go_sem] theorem tkd_119 : tkd Try.prog 119 = some (.slice 147) := by kernel_rfl
@[go_sem] theorem tsz_120 : tsz Try.prog 120 = some 1 := by kernel_rfl
@[go_sem] theorem tby_120 : tby Try.prog 120 = some 24 := by kernel_rfl
@[go_sem] theorem tze_120 : tze Try.prog 120 = some [.slice none 0 0] := by kernel_rfl
@[go_sem] theorem tag_120 : tag Try.prog 120 = some false := by kernel_rfl
@[go_sem] theorem tel_120 : tel Try.prog 120 = some 149 := by kernel_rfl
@[go_sem] theorem tar_120 : tar Try.prog 120 = none := by kernel_rfl
@[go_sem] theorem tcs_120 : tcs Try.prog 120 = [(0, 3)] := by kernel_rfl
@[go_sem] theorem tkd_120 : tkd Try.prog 120 = some (.slice 149) := by kernel_rfl
@[go_sem] theorem tsz_121 : tsz Try.prog 121 = some 4 := by kernel_rfl
@[go_sem] theorem tby_121 : tby Try.prog 121 = some 80 := by kernel_rfl
@[go_sem] theorem tze_121 : tze Try.prog 121 = some [.int .i64 0, .slice none 0 0, .slice none 0 0, .slice none 0 0] := by kernel_rfl
@[go_sem] theorem tag_121 : tag Try.prog 121 = some true := by kernel_rfl
@[go_sem] theorem tar_121 : tar Try.prog 121 = none := by kernel_rfl
@[go_sem] theorem tfo_121_0 : tfo Try.prog 121 0 = some (0, 3) := by kernel_rfl
@[go_sem] theorem tfo_121_1 : tfo Try.prog 121 1 = some (1, 63) := by kernel_rfl
@[go_sem] theorem tfo_121_2 : tfo Try.prog 121 2 = some (2, 119) := by kernel_rfl
@[go_sem] theorem tfo_121_3 : tfo Try.prog 121 3 = some (3, 120) := by kernel_rfl
@[go_sem] theorem tpl_121 : tpl Try.prog 121 = some [(0, 1), (1, 1), (2, 1), (3, 1)] := by kernel_rfl
@[go_sem] theorem tcs_121 : tcs Try.prog 121 = [(1, 1), (2, 2), (3, 3)] := by kernel_rfl
@[go_sem] theorem tkd_121 : tkd Try.prog 121 = some .other := by kernel_rfl
@[go_sem] theorem tsz_122 : tsz Try.prog 122 = some 4 := by kernel_rfl
@[go_sem] theorem tby_122 : tby Try.prog 122 = some 80 := by kernel_rfl
@[go_sem] theorem tze_122 : tze Try.prog 122 = some [.int .i64 0, .slice none 0 0, .slice none 0 0, .slice none 0 0] := by kernel_rfl
@[go_sem] theorem tag_122 : tag Try.prog 122 = some true := by kernel_rfl
@[go_sem] theorem tar_122 : tar Try.prog 122 = none := by kernel_rfl
@[go_sem] theorem tfo_122_0 : tfo Try.prog 122 0 = some (0, 3) := by kernel_rfl
@[go_sem] theorem tfo_122_1 : tfo Try.prog 122 1 = some (1, 63) := by kernel_rfl
@[go_sem] theorem tfo_122_2 : tfo Try.prog 122 2 = some (2, 119) := by kernel_rfl
@[go_sem] theorem tfo_122_3 : tfo Try.prog 122 3 = some (3, 120) := by kernel_rfl
@[go_sem] theorem tpl_122 : tpl Try.prog 122 = some [(0, 1), (1, 1), (2, 1), (3, 1)] := by kernel_rfl
@[go_sem] theorem tcs_122 : tcs Try.prog 122 = [(1, 1), (2, 2), (3, 3)] := by kernel_rfl
@[go_sem] theorem tkd_122 : tkd Try.prog 122 = some .other := by kernel_rfl
@[go_sem] theorem tsz_126 : tsz Try.prog 126 = some 1 := by kernel_rfl
@[go_sem] theorem tby_126 : tby Try.prog 126 = some 8 := by kernel_rfl
@[go_sem] theorem tze_126 : tze Try.prog 126 = some [.int .u64 0] := by kernel_rfl
@[go_sem] theorem tag_126 : tag Try.prog 126 = some false := by kernel_rfl
@[go_sem] theorem tar_126 : tar Try.prog 126 = none := by kernel_rfl
@[go_sem] theorem tcs_126 : tcs Try.prog 126 = [] := by kernel_rfl
@[go_sem] theorem tkd_126 : tkd Try.prog 126 = some (.int .u64) := by kernel_rfl
@[go_sem] theorem tsz_127 : tsz Try.prog 127 = some 1 := by kernel_rfl
@[go_sem] theorem tby_127 : tby Try.prog 127 = some 24 := by kernel_rfl
@[go_sem] theorem tze_127 : tze Try.prog 127 = some [.slice none 0 0] := by kernel_rfl
@[go_sem] theorem tag_127 : tag Try.prog 127 = some false := by kernel_rfl
@[go_sem] theorem tel_127 : tel Try.prog 127 = some 131 := by kernel_rfl
@[go_sem] theorem tar_127 : tar Try.prog 127 = none := by kernel_rfl
@[go_sem] theorem tcs_127 : tcs Try.prog 127 = [(0, 2)] := by kernel_rfl
@[go_sem] theorem tkd_127 : tkd Try.prog 127 = some (.slice 131) := by kernel_rfl
@[go_sem] theorem tsz_128 : tsz Try.prog 128 = some 2 := by kernel_rfl
@[go_sem] theorem tby_128 : tby Try.prog 128 = some 32 := by kernel_rfl
@[go_sem] theorem tze_128 : tze Try.prog 128 = some [.int .i64 0, .slice none 0 0] := by kernel_rfl
@[go_sem] theorem tag_128 : tag Try.prog 128 = some true := by kernel_rfl
@[go_sem] theorem tar_128 : tar Try.prog 128 = none := by kernel_rfl
@[go_sem] theorem tfo_128_0 : tfo Try.prog 128 0 = some (0, 3) := by kernel_rfl
@[go_sem] theorem tfo_128_1 : tfo Try.prog 128 1 = some (1, 127) := by kernel_rfl
@[go_sem] theorem tpl_128 : tpl Try.prog 128 = some [(0, 1), (1, 1)] := by kernel_rfl
@[go_sem] theorem tcs_128 : tcs Try.prog 128 = [(1, 2)] := by kernel_rfl
@[go_sem] theorem tkd_128 : tkd Try.prog 128 = some .other := by kernel_rfl
@[go_sem] theorem tsz_129 : tsz Try.prog 129 = some 2 := by kernel_rfl
@[go_sem] theorem tby_129 : tby Try.prog 129 = some 32 := by kernel_rfl
@[go_sem] theorem tze_129 : tze Try.prog 129 = some [.int .i64 0, .slice none 0 0] := by kernel_rfl
@[go_sem] theorem tag_129 : tag Try.prog 129 = some true := by kernel_rfl
@[go_sem] theorem tar_129 : tar Try.prog 129 = none := by kernel_rfl
@[go_sem] theorem tfo_129_0 : tfo Try.prog 129 0 = some (0, 3) := by kernel_rfl
@[go_sem] theorem tfo_129_1 : tfo Try.prog 129 1 = some (1, 127) := by kernel_rfl
@[go_sem] theorem tpl_129 : tpl Try.prog 129 = some [(0, 1), (1, 1)] := by kernel_rfl
@[go_sem] theorem tcs_129 : tcs Try.prog 129 = [(1, 2)] := by kernel_rfl
@[go_sem] theorem tkd_129 : tkd Try.prog 129 = some .other := by kernel_rfl
@[go_sem] theorem tsz_130 : tsz Try.prog 130 = some 2 := by kernel_rfl
@[go_sem] theorem tby_130 : tby Try.prog 130 = some 16 := by kernel_rfl
@[go_sem] theorem tze_130 : tze Try.prog 130 = some [.int .i64 0, .int .i64 0] := by kernel_rfl
@[go_sem] theorem tag_130 : tag Try.prog 130 = some true := by kernel_rfl
@[go_sem] theorem tar_130 : tar Try.prog 130 = none := by kernel_rfl
@[go_sem] theorem tfo_130_0 : tfo Try.prog 130 0 = some (0, 3) := by kernel_rfl
@[go_sem] theorem tfo_130_1 : tfo Try.prog 130 1 = some (1, 3) := by kernel_rfl
@[go_sem] theorem tpl_130 : tpl Try.prog 130 = some [(0, 1), (1, 1)] := by kernel_rfl
@[go_sem] theorem tcs_130 : tcs Try.prog 130 = [] := by kernel_rfl
@[go_sem] theorem tkd_130 : tkd Try.prog 130 = some .other := by kernel_rfl
@[go_sem] theorem tsz_131 : tsz Try.prog 131 = some 2 := by kernel_rfl
@[go_sem] theorem tby_131 : tby Try.prog 131 = some 16 := by kernel_rfl
@[go_sem] theorem tze_131 : tze Try.prog 131 = some [.int .i64 0, .int .i64 0] := by kernel_rfl
@[go_sem] theorem tag_131 : tag Try.prog 131 = some true := by kernel_rfl
@[go_sem] theorem tar_131 : tar Try.prog 131 = none := by kernel_rfl
@[go_sem] theorem tfo_131_0 : tfo Try.prog 131 0 = some (0, 3) := by kernel_rfl
@[go_sem] theorem tfo_131_1 : tfo Try.prog 131 1 = some (1, 3) := by kernel_rfl
@[go_sem] theorem tpl_131 : tpl Try.prog 131 = some [(0, 1), (1, 1)] := by kernel_rfl
@[go_sem] theorem tcs_131 : tcs Try.prog 131 = [] := by kernel_rfl
@[go_sem] theorem teq_131 : teq Try.prog 131 = some [(.int .i64), (.int .i64)] := by kernel_rfl
@[go_sem] theorem tkd_131 : tkd Try.prog 131 = some .other := by kernel_rfl
@[go_sem] theorem tsz_132 : tsz Try.prog 132 = some 3 := by kernel_rfl
@[go_sem] theorem tby_132 : tby Try.prog 132 = some 24 := by kernel_rfl
@[go_sem] theorem tze_132 : tze Try.prog 132 = some [.int .i64 0, .int .i64 0, .int .i64 0] := by kernel_rfl
@[go_sem] theorem tag_132 : tag Try.prog 132 = some true := by kernel_rfl
@[go_sem] theorem tar_132 : tar Try.prog 132 = none := by kernel_rfl
@[go_sem] theorem tfo_132_0 : tfo Try.prog 132 0 = some (0, 3) := by kernel_rfl
@[go_sem] theorem tfo_132_1 : tfo Try.prog 132 1 = some (1, 3) := by kernel_rfl
@[go_sem] theorem tfo_132_2 : tfo Try.prog 132 2 = some (2, 3) := by kernel_rfl
@[go_sem] theorem tpl_132 : tpl Try.prog 132 = some [(0, 1), (1, 1), (2, 1)] := by kernel_rfl
@[go_sem] theorem tcs_132 : tcs Try.prog 132 = [] := by kernel_rfl
@[go_sem] theorem tkd_132 : tkd Try.prog 132 = some .other := by kernel_rfl
@[go_sem] theorem tsz_133 : tsz Try.prog 133 = some 3 := by kernel_rfl
@[go_sem] theorem tby_133 : tby Try.prog 133 = some 24 := by kernel_rfl
@[go_sem] theorem tze_133 : tze Try.prog 133 = some [.int .i64 0, .int .i64 0, .int .i64 0] := by kernel_rfl
@[go_sem] theorem tag_133 : tag Try.prog 133 = some true := by kernel_rfl
@[go_sem] theorem tar_133 : tar Try.prog 133 = none := by kernel_rfl
@[go_sem] theorem tfo_133_0 : tfo Try.prog 133 0 = some (0, 3) := by kernel_rfl
@[go_sem] theorem tfo_133_1 : tfo Try.prog 133 1 = some (1, 3) := by kernel_rfl
@[go_sem] theorem tfo_133_2 : tfo Try.prog 133 2 = some (2, 3) := by kernel_rfl
@[go_sem] theorem tpl_133 : tpl Try.prog 133 = some [(0, 1), (1, 1), (2, 1)] := by kernel_rfl
@[go_sem] theorem tcs_133 : tcs Try.prog 133 = [] := by kernel_rfl
@[go_sem] theorem teq_133 : teq Try.prog 133 = some [(.int .i64), (.int .i64), (.int .i64)] := by kernel_rfl
@[go_sem] theorem tkd_133 : tkd Try.prog 133 = some .other := by kernel_rfl
@[go_sem] theorem tsz_136 : tsz Try.prog 136 = some 1 := by kernel_rfl
@[go_sem] theorem tby_136 : tby Try.prog 136 = some 8 := by kernel_rfl
@[go_sem] theorem tze_136 : tze Try.prog 136 = some [.nilFunc] := by kernel_rfl
@[go_sem] theorem tag_136 : tag Try.prog 136 = some true := by kernel_rfl
@[go_sem] theorem tar_136 : tar Try.prog 136 = none := by kernel_rfl
@[go_sem] theorem tfo_136_0 : tfo Try.prog 136 0 = some (0, 48) := by kernel_rfl
@[go_sem] theorem tpl_136 : tpl Try.prog 136 = some [(0, 1)] := by kernel_rfl
@[go_sem] theorem tcs_136 : tcs Try.prog 136 = [] := by kernel_rfl
@[go_sem] theorem tkd_136 : tkd Try.prog 136 = some .other := by kernel_rfl
@[go_sem] theorem tsz_137 : tsz Try.prog 137 = some 1 := by kernel_rfl
@[go_sem] theorem tby_137 : tby Try.prog 137 = some 8 := by kernel_rfl
@[go_sem] theorem tze_137 : tze Try.prog 137 = some [.nilFunc] := by kernel_rfl
@[go_sem] theorem tag_137 : tag Try.prog 137 = some true := by kernel_rfl
@[go_sem] theorem tar_137 : tar Try.prog 137 = none := by kernel_rfl
@[go_sem] theorem tfo_137_0 : tfo Try.prog 137 0 = some (0, 48) := by kernel_rfl
@[go_sem] theorem tpl_137 : tpl Try.prog 137 = some [(0, 1)] := by kernel_rfl
@[go_sem] theorem tcs_137 : tcs Try.prog 137 = [] := by kernel_rfl
@[go_sem] theorem tkd_137 : tkd Try.prog 137 = some .other := by kernel_rfl
@[go_sem] theorem tsz_138 : tsz Try.prog 138 = some 1 := by kernel_rfl
@[go_sem] theorem tby_138 : tby Try.prog 138 = some 24 := by kernel_rfl
@[go_sem] theorem tze_138 : tze Try.prog 138 = some [.slice none 0 0] := by kernel_rfl
@[go_sem] theorem tag_138 : tag Try.prog 138 = some false := by kernel_rfl
@[go_sem] theorem tel_138 : tel Try.prog 138 = some 137 := by kernel_rfl
@[go_sem] theorem tar_138 : tar Try.prog 138 = none := by kernel_rfl
@[go_sem] theorem tcs_138 : tcs Try.prog 138 = [(0, 1)] := by kernel_rfl
@[go_sem] theorem tkd_138 : tkd Try.prog 138 = some (.slice 137) := by kernel_rfl
@[go_sem] theorem tsz_142 : tsz Try.prog 142 = some 1 := by kernel_rfl
@[go_sem] theorem tby_142 : tby Try.prog 142 = some 8 := by kernel_rfl
@[go_sem] theorem tze_142 : tze Try.prog 142 = some [.pointer none] := by kernel_rfl
@[go_sem] theorem tag_142 : tag Try.prog 142 = some false := by kernel_rfl
@[go_sem] theorem tar_142 : tar Try.prog 142 = none := by kernel_rfl
@[go_sem] theorem tcs_142 : tcs Try.prog 142 = [] := by kernel_rfl
@[go_sem] theorem tptr_142 : tptr Try.prog 142 = true := by kernel_rfl
@[go_sem] theorem tkd_142 : tkd Try.prog 142 = some .other := by kernel_rfl
@[go_sem] theorem tsz_145 : tsz Try.prog 145 = some 1 := by kernel_rfl
@[go_sem] theorem tby_145 : tby Try.prog 145 = some 24 := by kernel_rfl
@[go_sem] theorem tze_145 : tze Try.prog 145 = some [.slice none 0 0] := by kernel_rfl
@[go_sem] theorem tag_145 : tag Try.prog 145 = some false := by kernel_rfl
@[go_sem] theorem tel_145 : tel Try.prog 145 = some 148 := by kernel_rfl
@[go_sem] theorem tar_145 : tar Try.prog 145 = none := by kernel_rfl
@[go_sem] theorem tcs_145 : tcs Try.prog 145 = [(0, 2)] := by kernel_rfl
@[go_sem] theorem tkd_145 : tkd Try.prog 145 = some (.slice 148) := by kernel_rfl
@[go_sem] theorem tsz_146 : tsz Try.prog 146 = some 2 := by kernel_rfl
@[go_sem] theorem tby_146 : tby Try.prog 146 = some 32 := by kernel_rfl
@[go_sem] theorem tze_146 : tze Try.prog 146 = some [.int .i64 0, .slice none 0 0] := by kernel_rfl
@[go_sem] theorem tag_146 : tag Try.prog 146 = some true := by kernel_rfl
@[go_sem] theorem tar_146 : tar Try.prog 146 = none := by kernel_rfl
@[go_sem] theorem tfo_146_0 : tfo Try.prog 146 0 = some (0, 3) := by kernel_rfl
@[go_sem] theorem tfo_146_1 : tfo Try.prog 146 1 = some (1, 145) := by kernel_rfl
@[go_sem] theorem tpl_146 : tpl Try.prog 146 = some [(0, 1), (1, 1)] := by kernel_rfl
@[go_sem] theorem tcs_146 : tcs Try.prog 146 = [(1, 2)] := by kernel_rfl
@[go_sem] theorem tkd_146 : tkd Try.prog 146 = some .other := by kernel_rfl
@[go_sem] theorem tsz_147 : tsz Try.prog 147 = some 2 := by kernel_rfl
@[go_sem] theorem tby_147 : tby Try.prog 147 = some 32 := by kernel_rfl
@[go_sem] theorem tze_147 : tze Try.prog 147 = some [.int .i64 0, .slice none 0 0] := by kernel_rfl
@[go_sem] theorem tag_147 : tag Try.prog 147 = some true := by kernel_rfl
@[go_sem] theorem tar_147 : tar Try.prog 147 = none := by kernel_rfl
@[go_sem] theorem tfo_147_0 : tfo Try.prog 147 0 = some (0, 3) := by kernel_rfl
@[go_sem] theorem tfo_147_1 : tfo Try.prog 147 1 = some (1, 145) := by kernel_rfl
@[go_sem] theorem tpl_147 : tpl Try.prog 147 = some [(0, 1), (1, 1)] := by kernel_rfl
@[go_sem] theorem tcs_147 : tcs Try.prog 147 = [(1, 2)] := by kernel_rfl
@[go_sem] theorem tkd_147 : tkd Try.prog 147 = some .other := by kernel_rfl
@[go_sem] theorem tsz_148 : tsz Try.prog 148 = some 2 := by kernel_rfl
@[go_sem] theorem tby_148 : tby Try.prog 148 = some 16 := by kernel_rfl
@[go_sem] theorem tze_148 : tze Try.prog 148 = some [.int .i64 0, .int .i64 0] := by kernel_rfl
@[go_sem] theorem tag_148 : tag Try.prog 148 = some true := by kernel_rfl
@[go_sem] theorem tar_148 : tar Try.prog 148 = none := by kernel_rfl
@[go_sem] theorem tfo_148_0 : tfo Try.prog 148 0 = some (0, 3) := by kernel_rfl
@[go_sem] theorem tfo_148_1 : tfo Try.prog 148 1 = some (1, 3) := by kernel_rfl
@[go_sem] theorem tpl_148 : tpl Try.prog 148 = some [(0, 1), (1, 1)] := by kernel_rfl
@[go_sem] theorem tcs_148 : tcs Try.prog 148 = [] := by kernel_rfl
@[go_sem] theorem teq_148 : teq Try.prog 148 = some [(.int .i64), (.int .i64)] := by kernel_rfl
@[go_sem] theorem tkd_148 : tkd Try.prog 148 = some .other := by kernel_rfl
@[go_sem] theorem tsz_149 : tsz Try.prog 149 = some 3 := by kernel_rfl
@[go_sem] theorem tby_149 : tby Try.prog 149 = some 24 := by kernel_rfl
@[go_sem] theorem tze_149 : tze Try.prog 149 = some [.int .i64 0, .int .i64 0, .int .i64 0] := by kernel_rfl
@[go_sem] theorem tag_149 : tag Try.prog 149 = some true := by kernel_rfl
@[go_sem] theorem tar_149 : tar Try.prog 149 = none := by kernel_rfl
@[go_sem] theorem tfo_149_0 : tfo Try.prog 149 0 = some (0, 3) := by kernel_rfl
@[go_sem] theorem tfo_149_1 : tfo Try.prog 149 1 = some (1, 3) := by kernel_rfl
@[go_sem] theorem tfo_149_2 : tfo Try.prog 149 2 = some (2, 3) := by kernel_rfl
@[go_sem] theorem tpl_149 : tpl Try.prog 149 = some [(0, 1), (1, 1), (2, 1)] := by kernel_rfl
@[go_sem] theorem tcs_149 : tcs Try.prog 149 = [] := by kernel_rfl
@[go_sem] theorem teq_149 : teq Try.prog 149 = some [(.int .i64), (.int .i64), (.int .i64)] := by kernel_rfl
@[go_sem] theorem tkd_149 : tkd Try.prog 149 = some .other := by kernel_rfl
@[go_sem] theorem tsz_161 : tsz Try.prog 161 = some 1 := by kernel_rfl
@[go_sem] theorem tby_161 : tby Try.prog 161 = some 8 := by kernel_rfl
@[go_sem] theorem tze_161 : tze Try.prog 161 = some [.int .i64 0] := by kernel_rfl
@[go_sem] theorem tag_161 : tag Try.prog 161 = some true := by kernel_rfl
@[go_sem] theorem tar_161 : tar Try.prog 161 = none := by kernel_rfl
@[go_sem] theorem tfo_161_0 : tfo Try.prog 161 0 = some (0, 33) := by kernel_rfl
@[go_sem] theorem tpl_161 : tpl Try.prog 161 = some [(0, 1)] := by kernel_rfl
@[go_sem] theorem tcs_161 : tcs Try.prog 161 = [] := by kernel_rfl
@[go_sem] theorem tkd_161 : tkd Try.prog 161 = some .other := by kernel_rfl
@[go_sem] theorem tsz_162 : tsz Try.prog 162 = some 1 := by kernel_rfl
@[go_sem] theorem tby_162 : tby Try.prog 162 = some 8 := by kernel_rfl
@[go_sem] theorem tze_162 : tze Try.prog 162 = some [.int .i64 0] := by kernel_rfl
@[go_sem] theorem tag_162 : tag Try.prog 162 = some true := by kernel_rfl
@[go_sem] theorem tar_162 : tar Try.prog 162 = none := by kernel_rfl
@[go_sem] theorem tfo_162_0 : tfo Try.prog 162 0 = some (0, 33) := by kernel_rfl
@[go_sem] theorem tpl_162 : tpl Try.prog 162 = some [(0, 1)] := by kernel_rfl
@[go_sem] theorem tcs_162 : tcs Try.prog 162 = [] := by kernel_rfl
@[go_sem] theorem tkd_162 : tkd Try.prog 162 = some .other := by kernel_rfl
@[go_sem] theorem tsz_166 : tsz Try.prog 166 = some 1 := by kernel_rfl
@[go_sem] theorem tby_166 : tby Try.prog 166 = some 4 := by kernel_rfl
@[go_sem] theorem tze_166 : tze Try.prog 166 = some [.int .u32 0] := by kernel_rfl
@[go_sem] theorem tag_166 : tag Try.prog 166 = some false := by kernel_rfl
@[go_sem] theorem tar_166 : tar Try.prog 166 = none := by kernel_rfl
@[go_sem] theorem tcs_166 : tcs Try.prog 166 = [] := by kernel_rfl
@[go_sem] theorem tkd_166 : tkd Try.prog 166 = some (.int .u32) := by kernel_rfl
@[go_sem] theorem tsz_183 : tsz Try.prog 183 = some 1 := by kernel_rfl
@[go_sem] theorem tby_183 : tby Try.prog 183 = some 8 := by kernel_rfl
@[go_sem] theorem tze_183 : tze Try.prog 183 = some [.pointer none] := by kernel_rfl
@[go_sem] theorem tag_183 : tag Try.prog 183 = some false := by kernel_rfl
@[go_sem] theorem tar_183 : tar Try.prog 183 = none := by kernel_rfl
@[go_sem] theorem tcs_183 : tcs Try.prog 183 = [] := by kernel_rfl
@[go_sem] theorem tptr_183 : tptr Try.prog 183 = true := by kernel_rfl
@[go_sem] theorem tkd_183 : tkd Try.prog 183 = some .other := by kernel_rfl
@[go_sem] theorem tsz_189 : tsz Try.prog 189 = some 1 := by kernel_rfl
@[go_sem] theorem tby_189 : tby Try.prog 189 = some 8 := by kernel_rfl
@[go_sem] theorem tze_189 : tze Try.prog 189 = some [.pointer none] := by kernel_rfl
@[go_sem] theorem tag_189 : tag Try.prog 189 = some false := by kernel_rfl
@[go_sem] theorem tar_189 : tar Try.prog 189 = none := by kernel_rfl
@[go_sem] theorem tcs_189 : tcs Try.prog 189 = [] := by kernel_rfl
@[go_sem] theorem tkd_189 : tkd Try.prog 189 = some .other := by kernel_rfl
@[go_sem] theorem tsz_190 : tsz Try.prog 190 = some 1 := by kernel_rfl
@[go_sem] theorem tby_190 : tby Try.prog 190 = some 24 := by kernel_rfl
@[go_sem] theorem tze_190 : tze Try.prog 190 = some [.slice none 0 0] := by kernel_rfl
@[go_sem] theorem tag_190 : tag Try.prog 190 = some false := by kernel_rfl
@[go_sem] theorem tel_190 : tel Try.prog 190 = some 195 := by kernel_rfl
@[go_sem] theorem tar_190 : tar Try.prog 190 = none := by kernel_rfl
@[go_sem] theorem tcs_190 : tcs Try.prog 190 = [(0, 1)] := by kernel_rfl
@[go_sem] theorem tkd_190 : tkd Try.prog 190 = some (.slice 195) := by kernel_rfl
@[go_sem] theorem tsz_191 : tsz Try.prog 191 = some 3 := by kernel_rfl
@[go_sem] theorem tby_191 : tby Try.prog 191 = some 72 := by kernel_rfl
@[go_sem] theorem tze_191 : tze Try.prog 191 = some [.slice none 0 0, .slice none 0 0, .slice none 0 0] := by kernel_rfl
@[go_sem] theorem tag_191 : tag Try.prog 191 = some true := by kernel_rfl
@[go_sem] theorem tar_191 : tar Try.prog 191 = none := by kernel_rfl
@[go_sem] theorem tfo_191_0 : tfo Try.prog 191 0 = some (0, 63) := by kernel_rfl
@[go_sem] theorem tfo_191_1 : tfo Try.prog 191 1 = some (1, 190) := by kernel_rfl
@[go_sem] theorem tfo_191_2 : tfo Try.prog 191 2 = some (2, 63) := by kernel_rfl
@[go_sem] theorem tpl_191 : tpl Try.prog 191 = some [(0, 1), (1, 1), (2, 1)] := by kernel_rfl
@[go_sem] theorem tcs_191 : tcs Try.prog 191 = [(0, 1), (1, 1), (2, 1)] := by kernel_rfl
@[go_sem] theorem tkd_191 : tkd Try.prog 191 = some .other := by kernel_rfl
@[go_sem] theorem tsz_192 : tsz Try.prog 192 = some 3 := by kernel_rfl
@[go_sem] theorem tby_192 : tby Try.prog 192 = some 72 := by kernel_rfl
@[go_sem] theorem tze_192 : tze Try.prog 192 = some [.slice none 0 0, .slice none 0 0, .slice none 0 0] := by kernel_rfl
@[go_sem] theorem tag_192 : tag Try.prog 192 = some true := by kernel_rfl
@[go_sem] theorem tar_192 : tar Try.prog 192 = none := by kernel_rfl
@[go_sem] theorem tfo_192_0 : tfo Try.prog 192 0 = some (0, 63) := by kernel_rfl
@[go_sem] theorem tfo_192_1 : tfo Try.prog 192 1 = some (1, 190) := by kernel_rfl
@[go_sem] theorem tfo_192_2 : tfo Try.prog 192 2 = some (2, 63) := by kernel_rfl
@[go_sem] theorem tpl_192 : tpl Try.prog 192 = some [(0, 1), (1, 1), (2, 1)] := by kernel_rfl
@[go_sem] theorem tcs_192 : tcs Try.prog 192 = [(0, 1), (1, 1), (2, 1)] := by kernel_rfl
@[go_sem] theorem tkd_192 : tkd Try.prog 192 = some .other := by kernel_rfl
@[go_sem] theorem tsz_193 : tsz Try.prog 193 = some 5 := by kernel_rfl
@[go_sem] theorem tby_193 : tby Try.prog 193 = some 40 := by kernel_rfl
@[go_sem] theorem tze_193 : tze Try.prog 193 = some [.int .i64 0, .int .i64 0, .int .i64 0, .int .i64 0, .int .i64 0] := by kernel_rfl
@[go_sem] theorem tag_193 : tag Try.prog 193 = some true := by kernel_rfl
@[go_sem] theorem tar_193 : tar Try.prog 193 = none := by kernel_rfl
@[go_sem] theorem tfo_193_0 : tfo Try.prog 193 0 = some (0, 3) := by kernel_rfl
@[go_sem] theorem tfo_193_1 : tfo Try.prog 193 1 = some (1, 3) := by kernel_rfl
@[go_sem] theorem tfo_193_2 : tfo Try.prog 193 2 = some (2, 3) := by kernel_rfl
@[go_sem] theorem tfo_193_3 : tfo Try.prog 193 3 = some (3, 3) := by kernel_rfl
@[go_sem] theorem tfo_193_4 : tfo Try.prog 193 4 = some (4, 3) := by kernel_rfl
@[go_sem] theorem tpl_193 : tpl Try.prog 193 = some [(0, 1), (1, 1), (2, 1), (3, 1), (4, 1)] := by kernel_rfl
@[go_sem] theorem tcs_193 : tcs Try.prog 193 = [] := by kernel_rfl
@[go_sem] theorem tkd_193 : tkd Try.prog 193 = some .other := by kernel_rfl
@[go_sem] theorem tsz_194 : tsz Try.prog 194 = some 5 := by kernel_rfl
@[go_sem] theorem tby_194 : tby Try.prog 194 = some 40 := by kernel_rfl
@[go_sem] theorem tze_194 : tze Try.prog 194 = some [.int .i64 0, .int .i64 0, .int .i64 0, .int .i64 0, .int .i64 0] := by kernel_rfl
@[go_sem] theorem tag_194 : tag Try.prog 194 = some true := by kernel_rfl
@[go_sem] theorem tar_194 : tar Try.prog 194 = none := by kernel_rfl
@[go_sem] theorem tfo_194_0 : tfo Try.prog 194 0 = some (0, 3) := by kernel_rfl
@[go_sem] theorem tfo_194_1 : tfo Try.prog 194 1 = some (1, 3) := by kernel_rfl
@[go_sem] theorem tfo_194_2 : tfo Try.prog 194 2 = some (2, 3) := by kernel_rfl
@[go_sem] theorem tfo_194_3 : tfo Try.prog 194 3 = some (3, 3) := by kernel_rfl
@[go_sem] theorem tfo_194_4 : tfo Try.prog 194 4 = some (4, 3) := by kernel_rfl
@[go_sem] theorem tpl_194 : tpl Try.prog 194 = some [(0, 1), (1, 1), (2, 1), (3, 1), (4, 1)] := by kernel_rfl
@[go_sem] theorem tcs_194 : tcs Try.prog 194 = [] := by kernel_rfl
@[go_sem] theorem teq_194 : teq Try.prog 194 = some [(.int .i64), (.int .i64), (.int .i64), (.int .i64), (.int .i64)] := by kernel_rfl
@[go_sem] theorem tkd_194 : tkd Try.prog 194 = some .other := by kernel_rfl
@[go_sem] theorem tsz_195 : tsz Try.prog 195 = some 1 := by kernel_rfl
@[go_sem] theorem tby_195 : tby Try.prog 195 = some 24 := by kernel_rfl
@[go_sem] theorem tze_195 : tze Try.prog 195 = some [.slice none 0 0] := by kernel_rfl
@[go_sem] theorem tag_195 : tag Try.prog 195 = some false := by kernel_rfl
@[go_sem] theorem tel_195 : tel Try.prog 195 = some 197 := by kernel_rfl
@[go_sem] theorem tar_195 : tar Try.prog 195 = none := by kernel_rfl
@[go_sem] theorem tcs_195 : tcs Try.prog 195 = [(0, 2)] := by kernel_rfl
@[go_sem] theorem tkd_195 : tkd Try.prog 195 = some (.slice 197) := by kernel_rfl
@[go_sem] theorem tsz_196 : tsz Try.prog 196 = some 2 := by kernel_rfl
@[go_sem] theorem tby_196 : tby Try.prog 196 = some 16 := by kernel_rfl
@[go_sem] theorem tze_196 : tze Try.prog 196 = some [.int .i64 0, .int .i64 0] := by kernel_rfl
@[go_sem] theorem tag_196 : tag Try.prog 196 = some true := by kernel_rfl
@[go_sem] theorem tar_196 : tar Try.prog 196 = none := by kernel_rfl
@[go_sem] theorem tfo_196_0 : tfo Try.prog 196 0 = some (0, 3) := by kernel_rfl
@[go_sem] theorem tfo_196_1 : tfo Try.prog 196 1 = some (1, 3) := by kernel_rfl
@[go_sem] theorem tpl_196 : tpl Try.prog 196 = some [(0, 1), (1, 1)] := by kernel_rfl
@[go_sem] theorem tcs_196 : tcs Try.prog 196 = [] := by kernel_rfl
@[go_sem] theorem tkd_196 : tkd Try.prog 196 = some .other := by kernel_rfl
@[go_sem] theorem tsz_197 : tsz Try.prog 197 = some 2 := by kernel_rfl
@[go_sem] theorem tby_197 : tby Try.prog 197 = some 16 := by kernel_rfl
@[go_sem] theorem tze_197 : tze Try.prog 197 = some [.int .i64 0, .int .i64 0] := by kernel_rfl
@[go_sem] theorem tag_197 : tag Try.prog 197 = some true := by kernel_rfl
@[go_sem] theorem tar_197 : tar Try.prog 197 = none := by kernel_rfl
@[go_sem] theorem tfo_197_0 : tfo Try.prog 197 0 = some (0, 3) := by kernel_rfl
@[go_sem] theorem tfo_197_1 : tfo Try.prog 197 1 = some (1, 3) := by kernel_rfl
@[go_sem] theorem tpl_197 : tpl Try.prog 197 = some [(0, 1), (1, 1)] := by kernel_rfl
@[go_sem] theorem tcs_197 : tcs Try.prog 197 = [] := by kernel_rfl
@[go_sem] theorem teq_197 : teq Try.prog 197 = some [(.int .i64), (.int .i64)] := by kernel_rfl
@[go_sem] theorem tkd_197 : tkd Try.prog 197 = some .other := by kernel_rfl
@[go_sem] theorem fxk_3 : fxk Try.prog 3 = none := by kernel_rfl
@[go_sem] theorem fnOk_3 : fnOk Try.prog 3 = true := by kernel_rfl
@[go_sem] theorem fxk_4 : fxk Try.prog 4 = none := by kernel_rfl
@[go_sem] theorem fnOk_4 : fnOk Try.prog 4 = true := by kernel_rfl
@[go_sem] theorem fxk_5 : fxk Try.prog 5 = none := by kernel_rfl
@[go_sem] theorem fnOk_5 : fnOk Try.prog 5 = true := by kernel_rfl
@[go_sem] theorem fxk_6 : fxk Try.prog 6 = none := by kernel_rfl
@[go_sem] theorem fnOk_6 : fnOk Try.prog 6 = true := by kernel_rfl
@[go_sem] theorem fxk_7 : fxk Try.prog 7 = none := by kernel_rfl
@[go_sem] theorem fnOk_7 : fnOk Try.prog 7 = true := by kernel_rfl
@[go_sem] theorem fxk_8 : fxk Try.prog 8 = none := by kernel_rfl
@[go_sem] theorem fnOk_8 : fnOk Try.prog 8 = true := by kernel_rfl
@[go_sem] theorem fxk_9 : fxk Try.prog 9 = none := by kernel_rfl
@[go_sem] theorem fnOk_9 : fnOk Try.prog 9 = true := by kernel_rfl
@[go_sem] theorem fxk_10 : fxk Try.prog 10 = none := by kernel_rfl
@[go_sem] theorem fnOk_10 : fnOk Try.prog 10 = true := by kernel_rfl
@[go_sem] theorem fxk_11 : fxk Try.prog 11 = none := by kernel_rfl
@[go_sem] theorem fnOk_11 : fnOk Try.prog 11 = true := by kernel_rfl
@[go_sem] theorem fxk_12 : fxk Try.prog 12 = none := by kernel_rfl
@[go_sem] theorem fnOk_12 : fnOk Try.prog 12 = true := by kernel_rfl
@[go_sem] theorem fxk_13 : fxk Try.prog 13 = none := by kernel_rfl
@[go_sem] theorem fnOk_13 : fnOk Try.prog 13 = true := by kernel_rfl
@[go_sem] theorem fxk_14 : fxk Try.prog 14 = none := by kernel_rfl
@[go_sem] theorem fnOk_14 : fnOk Try.prog 14 = true := by kernel_rfl
@[go_sem] theorem fxk_15 : fxk Try.prog 15 = some .frombits := by kernel_rfl
@[go_sem] theorem fxk_16 : fxk Try.prog 16 = some .bits := by kernel_rfl
@[go_sem] theorem fxk_17 : fxk Try.prog 17 = none := by kernel_rfl
@[go_sem] theorem fnOk_17 : fnOk Try.prog 17 = true := by kernel_rfl
@[go_sem] theorem fxk_18 : fxk Try.prog 18 = none := by kernel_rfl
@[go_sem] theorem fnOk_18 : fnOk Try.prog 18 = true := by kernel_rfl
@[go_sem] theorem fxk_19 : fxk Try.prog 19 = none := by kernel_rfl
@[go_sem] theorem fnOk_19 : fnOk Try.prog 19 = true := by kernel_rfl
@[go_sem] theorem fxk_20 : fxk Try.prog 20 = none := by kernel_rfl
@[go_sem] theorem fnOk_20 : fnOk Try.prog 20 = true := by kernel_rfl
@[go_sem] theorem fxk_21 : fxk Try.prog 21 = none := by kernel_rfl
@[go_sem] theorem fnOk_21 : fnOk Try.prog 21 = true := by kernel_rfl
@[go_sem] theorem fxk_22 : fxk Try.prog 22 = none := by kernel_rfl
@[go_sem] theorem fnOk_22 : fnOk Try.prog 22 = true := by kernel_rfl
@[go_sem] theorem fxk_23 : fxk Try.prog 23 = none := by kernel_rfl
@[go_sem] theorem fnOk_23 : fnOk Try.prog 23 = true := by kernel_rfl
@[go_sem] theorem fxk_24 : fxk Try.prog 24 = none := by kernel_rfl
@[go_sem] theorem fnOk_24 : fnOk Try.prog 24 = true := by kernel_rfl
@[go_sem] theorem fxk_25 : fxk Try.prog 25 = none := by kernel_rfl
@[go_sem] theorem fnOk_25 : fnOk Try.prog 25 = true := by kernel_rfl
@[go_sem] theorem fxk_26 : fxk Try.prog 26 = none := by kernel_rfl
@[go_sem] theorem fnOk_26 : fnOk Try.prog 26 = true := by kernel_rfl
@[go_sem] theorem fxk_27 : fxk Try.prog 27 = none := by kernel_rfl
@[go_sem] theorem fnOk_27 : fnOk Try.prog 27 = true := by kernel_rfl
@[go_sem] theorem fxk_28 : fxk Try.prog 28 = none := by kernel_rfl
@[go_sem] theorem fnOk_28 : fnOk Try.prog 28 = true := by kernel_rfl
@[go_sem] theorem fxk_29 : fxk Try.prog 29 = none := by kernel_rfl
@[go_sem] theorem fnOk_29 : fnOk Try.prog 29 = true := by kernel_rfl
@[go_sem] theorem fxk_30 : fxk Try.prog 30 = none := by kernel_rfl
@[go_sem] theorem fnOk_30 : fnOk Try.prog 30 = true := by kernel_rfl
@[go_sem] theorem fxk_31 : fxk Try.prog 31 = none := by kernel_rfl
@[go_sem] theorem fnOk_31 : fnOk Try.prog 31 = true := by kernel_rfl
@[go_sem] theorem fxk_32 : fxk Try.prog 32 = none := by kernel_rfl
@[go_sem] theorem fnOk_32 : fnOk Try.prog 32 = true := by kernel_rfl
@[go_sem] theorem fxk_33 : fxk Try.prog 33 = none := by kernel_rfl
@[go_sem] theorem fnOk_33 : fnOk Try.prog 33 = true := by kernel_rfl
@[go_sem] theorem fxk_34 : fxk Try.prog 34 = none := by kernel_rfl
@[go_sem] theorem fnOk_34 : fnOk Try.prog 34 = true := by kernel_rfl
@[go_sem] theorem fxk_35 : fxk Try.prog 35 = none := by kernel_rfl
@[go_sem] theorem fnOk_35 : fnOk Try.prog 35 = true := by kernel_rfl
@[go_sem] theorem fxk_36 : fxk Try.prog 36 = none := by kernel_rfl
@[go_sem] theorem fnOk_36 : fnOk Try.prog 36 = true := by kernel_rfl
@[go_sem] theorem fxk_37 : fxk Try.prog 37 = none := by kernel_rfl
@[go_sem] theorem fnOk_37 : fnOk Try.prog 37 = true := by kernel_rfl
@[go_sem] theorem fxk_38 : fxk Try.prog 38 = none := by kernel_rfl
@[go_sem] theorem fnOk_38 : fnOk Try.prog 38 = true := by kernel_rfl
@[go_sem] theorem fxk_39 : fxk Try.prog 39 = none := by kernel_rfl
@[go_sem] theorem fnOk_39 : fnOk Try.prog 39 = true := by kernel_rfl
@[go_sem] theorem fxk_40 : fxk Try.prog 40 = none := by kernel_rfl
@[go_sem] theorem fnOk_40 : fnOk Try.prog 40 = true := by kernel_rfl
@[go_sem] theorem fxk_41 : fxk Try.prog 41 = none := by kernel_rfl
@[go_sem] theorem fnOk_41 : fnOk Try.prog 41 = true := by kernel_rfl
@[go_sem] theorem fxk_42 : fxk Try.prog 42 = none := by kernel_rfl
@[go_sem] theorem fnOk_42 : fnOk Try.prog 42 = true := by kernel_rfl
@[go_sem] theorem fxk_43 : fxk Try.prog 43 = none := by kernel_rfl
@[go_sem] theorem fnOk_43 : fnOk Try.prog 43 = true := by kernel_rfl
@[go_sem] theorem fxk_44 : fxk Try.prog 44 = none := by kernel_rfl
@[go_sem] theorem fnOk_44 : fnOk Try.prog 44 = true := by kernel_rfl
@[go_sem] theorem fxk_45 : fxk Try.prog 45 = none := by kernel_rfl
@[go_sem] theorem fnOk_45 : fnOk Try.prog 45 = true := by kernel_rfl
@[go_sem] theorem fxk_46 : fxk Try.prog 46 = none := by kernel_rfl
@[go_sem] theorem fnOk_46 : fnOk Try.prog 46 = true := by kernel_rfl
@[go_sem] theorem fxk_47 : fxk Try.prog 47 = none := by kernel_rfl
@[go_sem] theorem fnOk_47 : fnOk Try.prog 47 = true := by kernel_rfl
@[go_sem] theorem fxk_48 : fxk Try.prog 48 = none := by kernel_rfl
@[go_sem] theorem fnOk_48 : fnOk Try.prog 48 = true := by kernel_rfl
@[go_sem] theorem fxk_49 : fxk Try.prog 49 = none := by kernel_rfl
@[go_sem] theorem fnOk_49 : fnOk Try.prog 49 = true := by kernel_rfl
@[go_sem] theorem fxk_50 : fxk Try.prog 50 = none := by kernel_rfl
@[go_sem] theorem fnOk_50 : fnOk Try.prog 50 = true := by kernel_rfl
@[go_sem] theorem fxk_51 : fxk Try.prog 51 = none := by kernel_rfl
@[go_sem] theorem fnOk_51 : fnOk Try.prog 51 = true := by kernel_rfl
@[go_sem] theorem fxk_52 : fxk Try.prog 52 = none := by kernel_rfl
@[go_sem] theorem fnOk_52 : fnOk Try.prog 52 = true := by kernel_rfl
@[go_sem] theorem fxk_53 : fxk Try.prog 53 = none := by kernel_rfl
@[go_sem] theorem fnOk_53 : fnOk Try.prog 53 = true := by kernel_rfl
@[go_sem] theorem fxk_54 : fxk Try.prog 54 = none := by kernel_rfl
@[go_sem] theorem fnOk_54 : fnOk Try.prog 54 = true := by kernel_rfl
@[go_sem] theorem fxk_55 : fxk Try.prog 55 = none := by kernel_rfl
@[go_sem] theorem fnOk_55 : fnOk Try.prog 55 = true := by kernel_rfl
@[go_sem] theorem fxk_56 : fxk Try.prog 56 = none := by kernel_rfl
@[go_sem] theorem fnOk_56 : fnOk Try.prog 56 = true := by kernel_rfl
@[go_sem] theorem fxk_57 : fxk Try.prog 57 = none := by kernel_rfl
@[go_sem] theorem fnOk_57 : fnOk Try.prog 57 = true := by kernel_rfl
@[go_sem] theorem fxk_58 : fxk Try.prog 58 = none := by kernel_rfl
@[go_sem] theorem fnOk_58 : fnOk Try.prog 58 = true := by kernel_rfl
@[go_sem] theorem fxk_59 : fxk Try.prog 59 = none := by kernel_rfl
@[go_sem] theorem fnOk_59 : fnOk Try.prog 59 = true := by kernel_rfl
@[go_sem] theorem fxk_60 : fxk Try.prog 60 = none := by kernel_rfl
@[go_sem] theorem fnOk_60 : fnOk Try.prog 60 = true := by kernel_rfl
@[go_sem] theorem fxk_61 : fxk Try.prog 61 = none := by kernel_rfl
@[go_sem] theorem fnOk_61 : fnOk Try.prog 61 = true := by kernel_rfl
@[go_sem] theorem fxk_62 : fxk Try.prog 62 = none := by kernel_rfl
@[go_sem] theorem fnOk_62 : fnOk Try.prog 62 = true := by kernel_rfl
@[go_sem] theorem fxk_63 : fxk Try.prog 63 = none := by kernel_rfl
@[go_sem] theorem fnOk_63 : fnOk Try.prog 63 = true := by kernel_rfl
@[go_sem] theorem fxk_64 : fxk Try.prog 64 = none := by kernel_rfl
@[go_sem] theorem fnOk_64 : fnOk Try.prog 64 = true := by kernel_rfl
@[go_sem] theorem fxk_65 : fxk Try.prog 65 = none := by kernel_rfl
@[go_sem] theorem fnOk_65 : fnOk Try.prog 65 = true := by kernel_rfl
@[go_sem] theorem fxk_66 : fxk Try.prog 66 = none := by kernel_rfl
@[go_sem] theorem fnOk_66 : fnOk Try.prog 66 = true := by kernel_rfl
@[go_sem] theorem fxk_67 : fxk Try.prog 67 = none := by kernel_rfl
@[go_sem] theorem fnOk_67 : fnOk Try.prog 67 = true := by kernel_rfl
@[go_sem] theorem fxk_68 : fxk Try.prog 68 = none := by kernel_rfl
@[go_sem] theorem fnOk_68 : fnOk Try.prog 68 = true := by kernel_rfl
@[go_sem] theorem fxk_69 : fxk Try.prog 69 = none := by kernel_rfl
@[go_sem] theorem fnOk_69 : fnOk Try.prog 69 = true := by kernel_rfl
@[go_sem] theorem fxk_70 : fxk Try.prog 70 = none := by kernel_rfl
@[go_sem] theorem fnOk_70 : fnOk Try.prog 70 = true := by kernel_rfl
@[go_sem] theorem fxk_71 : fxk Try.prog 71 = none := by kernel_rfl
@[go_sem] theorem fnOk_71 : fnOk Try.prog 71 = true := by kernel_rfl
@[go_sem] theorem fxk_72 : fxk Try.prog 72 = some .floor := by kernel_rfl
@[go_sem] theorem fxk_73 : fxk Try.prog 73 = none := by kernel_rfl
@[go_sem] theorem fnOk_73 : fnOk Try.prog 73 = true := by kernel_rfl
@[go_sem] theorem fxk_74 : fxk Try.prog 74 = none := by kernel_rfl
@[go_sem] theorem fnOk_74 : fnOk Try.prog 74 = true := by kernel_rfl
@[go_sem] theorem fxk_75 : fxk Try.prog 75 = none := by kernel_rfl
@[go_sem] theorem fnOk_75 : fnOk Try.prog 75 = true := by kernel_rfl
@[go_sem] theorem fxk_76 : fxk Try.prog 76 = none := by kernel_rfl
@[go_sem] theorem fnOk_76 : fnOk Try.prog 76 = true := by kernel_rfl
@[go_sem] theorem fxk_77 : fxk Try.prog 77 = none := by kernel_rfl
@[go_sem] theorem fnOk_77 : fnOk Try.prog 77 = true := by kernel_rfl
@[go_sem] theorem fxk_78 : fxk Try.prog 78 = none := by kernel_rfl
@[go_sem] theorem fnOk_78 : fnOk Try.prog 78 = true := by kernel_rfl
@[go_sem] theorem fxk_79 : fxk Try.prog 79 = none := by kernel_rfl
@[go_sem] theorem fnOk_79 : fnOk Try.prog 79 = true := by kernel_rfl
@[go_sem] theorem fxk_80 : fxk Try.prog 80 = none := by kernel_rfl
@[go_sem] theorem fnOk_80 : fnOk Try.prog 80 = true := by kernel_rfl
@[go_sem] theorem fxk_81 : fxk Try.prog 81 = none := by kernel_rfl
@[go_sem] theorem fnOk_81 : fnOk Try.prog 81 = true := by kernel_rfl
@[go_sem] theorem fxk_82 : fxk Try.prog 82 = none := by kernel_rfl
@[go_sem] theorem fnOk_82 : fnOk Try.prog 82 = true := by kernel_rfl
@[go_sem] theorem fxk_83 : fxk Try.prog 83 = none := by kernel_rfl
@[go_sem] theorem fnOk_83 : fnOk Try.prog 83 = true := by kernel_rfl
@[go_sem] theorem fxk_84 : fxk Try.prog 84 = none := by kernel_rfl
@[go_sem] theorem fnOk_84 : fnOk Try.prog 84 = true := by kernel_rfl
@[go_sem] theorem fxk_85 : fxk Try.prog 85 = none := by kernel_rfl
@[go_sem] theorem fnOk_85 : fnOk Try.prog 85 = true := by kernel_rfl
@[go_sem] theorem fxk_86 : fxk Try.prog 86 = none := by kernel_rfl
@[go_sem] theorem fnOk_86 : fnOk Try.prog 86 = true := by kernel_rfl
@[go_sem] theorem fxk_87 : fxk Try.prog 87 = none := by kernel_rfl
@[go_sem] theorem fnOk_87 : fnOk Try.prog 87 = true := by kernel_rfl
@[go_sem] theorem fxk_88 : fxk Try.prog 88 = none := by kernel_rfl
@[go_sem] theorem fnOk_88 : fnOk Try.prog 88 = true := by kernel_rfl
@[go_sem] theorem fxk_89 : fxk Try.prog 89 = none := by kernel_rfl
@[go_sem] theorem fnOk_89 : fnOk Try.prog 89 = true := by kernel_rfl
@[go_sem] theorem fxk_90 : fxk Try.prog 90 = none := by kernel_rfl
@[go_sem] theorem fnOk_90 : fnOk Try.prog 90 = true := by kernel_rfl
@[go_sem] theorem fxk_91 : fxk Try.prog 91 = none := by kernel_rfl
@[go_sem] theorem fnOk_91 : fnOk Try.prog 91 = true := by kernel_rfl
@[go_sem] theorem fxk_92 : fxk Try.prog 92 = none := by kernel_rfl
@[go_sem] theorem fnOk_92 : fnOk Try.prog 92 = true := by kernel_rfl
@[go_sem] theorem fxk_93 : fxk Try.prog 93 = none := by kernel_rfl
@[go_sem] theorem fnOk_93 : fnOk Try.prog 93 = true := by kernel_rfl
@[go_sem] theorem fxk_94 : fxk Try.prog 94 = none := by kernel_rfl
@[go_sem] theorem fnOk_94 : fnOk Try.prog 94 = true := by kernel_rfl
@[go_sem] theorem fxk_95 : fxk Try.prog 95 = none := by kernel_rfl
@[go_sem] theorem fnOk_95 : fnOk Try.prog 95 = true := by kernel_rfl
@[go_sem] theorem fxk_96 : fxk Try.prog 96 = none := by kernel_rfl
@[go_sem] theorem fnOk_96 : fnOk Try.prog 96 = true := by kernel_rfl
@[go_sem] theorem fxk_97 : fxk Try.prog 97 = none := by kernel_rfl
@[go_sem] theorem fnOk_97 : fnOk Try.prog 97 = true := by kernel_rfl
@[go_sem] theorem fxk_98 : fxk Try.prog 98 = none := by kernel_rfl
@[go_sem] theorem fnOk_98 : fnOk Try.prog 98 = true := by kernel_rfl
@[go_sem] theorem fxk_99 : fxk Try.prog 99 = none := by kernel_rfl
@[go_sem] theorem fnOk_99 : fnOk Try.prog 99 = true := by kernel_rfl
@[go_sem] theorem fxk_100 : fxk Try.prog 100 = none := by kernel_rfl
@[go_sem] theorem fnOk_100 : fnOk Try.prog 100 = true := by kernel_rfl
@[go_sem] theorem fxk_101 : fxk Try.prog 101 = none := by kernel_rfl
@[go_sem] theorem fxk_102 : fxk Try.prog 102 = none := by kernel_rfl
@[go_sem] theorem fnOk_102 : fnOk Try.prog 102 = true := by kernel_rfl
theorem mixed : Try.prog.follows .mixedOrders = true := by kernel_rfl
end Go.Proofs.TR

attribute [go_sem] Go.Proofs.Try.ntmps3 Go.Proofs.Try.results3 Go.Proofs.Try.ntmps4 Go.Proofs.Try.results4 Go.Proofs.Try.ntmps5 Go.Proofs.Try.results5 Go.Proofs.Try.ntmps6 Go.Proofs.Try.results6 Go.Proofs.Try.ntmps7 Go.Proofs.Try.results7 Go.Proofs.Try.ntmps8 Go.Proofs.Try.results8 Go.Proofs.Try.ntmps9 Go.Proofs.Try.results9 Go.Proofs.Try.ntmps10 Go.Proofs.Try.results10 Go.Proofs.Try.ntmps11 Go.Proofs.Try.results11 Go.Proofs.Try.ntmps12 Go.Proofs.Try.results12 Go.Proofs.Try.ntmps13 Go.Proofs.Try.results13 Go.Proofs.Try.ntmps14 Go.Proofs.Try.results14 Go.Proofs.Try.ntmps15 Go.Proofs.Try.results15 Go.Proofs.Try.ntmps16 Go.Proofs.Try.results16 Go.Proofs.Try.ntmps17 Go.Proofs.Try.results17 Go.Proofs.Try.ntmps18 Go.Proofs.Try.results18 Go.Proofs.Try.ntmps19 Go.Proofs.Try.results19 Go.Proofs.Try.ntmps20 Go.Proofs.Try.results20 Go.Proofs.Try.ntmps21 Go.Proofs.Try.results21 Go.Proofs.Try.ntmps22 Go.Proofs.Try.results22 Go.Proofs.Try.ntmps23 Go.Proofs.Try.results23 Go.Proofs.Try.ntmps24 Go.Proofs.Try.results24 Go.Proofs.Try.ntmps25 Go.Proofs.Try.results25 Go.Proofs.Try.ntmps26 Go.Proofs.Try.results26 Go.Proofs.Try.ntmps27 Go.Proofs.Try.results27 Go.Proofs.Try.ntmps28 Go.Proofs.Try.results28 Go.Proofs.Try.ntmps29 Go.Proofs.Try.results29 Go.Proofs.Try.ntmps30 Go.Proofs.Try.results30 Go.Proofs.Try.ntmps31 Go.Proofs.Try.results31 Go.Proofs.Try.ntmps32 Go.Proofs.Try.results32 Go.Proofs.Try.ntmps33 Go.Proofs.Try.results33 Go.Proofs.Try.ntmps34 Go.Proofs.Try.results34 Go.Proofs.Try.ntmps35 Go.Proofs.Try.results35 Go.Proofs.Try.ntmps36 Go.Proofs.Try.results36 Go.Proofs.Try.ntmps37 Go.Proofs.Try.results37 Go.Proofs.Try.ntmps38 Go.Proofs.Try.results38 Go.Proofs.Try.ntmps39 Go.Proofs.Try.results39 Go.Proofs.Try.ntmps40 Go.Proofs.Try.results40 Go.Proofs.Try.ntmps41 Go.Proofs.Try.results41 Go.Proofs.Try.ntmps42 Go.Proofs.Try.results42 Go.Proofs.Try.ntmps43 Go.Proofs.Try.results43 Go.Proofs.Try.ntmps44 Go.Proofs.Try.results44 Go.Proofs.Try.ntmps45 Go.Proofs.Try.results45 Go.Proofs.Try.ntmps46 Go.Proofs.Try.results46 Go.Proofs.Try.ntmps47 Go.Proofs.Try.results47 Go.Proofs.Try.ntmps48 Go.Proofs.Try.results48 Go.Proofs.Try.ntmps49 Go.Proofs.Try.results49 Go.Proofs.Try.ntmps50 Go.Proofs.Try.results50 Go.Proofs.Try.ntmps51 Go.Proofs.Try.results51 Go.Proofs.Try.ntmps52 Go.Proofs.Try.results52 Go.Proofs.Try.ntmps53 Go.Proofs.Try.results53 Go.Proofs.Try.ntmps54 Go.Proofs.Try.results54 Go.Proofs.Try.ntmps55 Go.Proofs.Try.results55 Go.Proofs.Try.ntmps56 Go.Proofs.Try.results56 Go.Proofs.Try.ntmps57 Go.Proofs.Try.results57 Go.Proofs.Try.ntmps58 Go.Proofs.Try.results58 Go.Proofs.Try.ntmps59 Go.Proofs.Try.results59 Go.Proofs.Try.ntmps60 Go.Proofs.Try.results60 Go.Proofs.Try.ntmps61 Go.Proofs.Try.results61 Go.Proofs.Try.ntmps62 Go.Proofs.Try.results62 Go.Proofs.Try.ntmps63 Go.Proofs.Try.results63 Go.Proofs.Try.ntmps64 Go.Proofs.Try.results64 Go.Proofs.Try.ntmps65 Go.Proofs.Try.results65 Go.Proofs.Try.ntmps66 Go.Proofs.Try.results66 Go.Proofs.Try.ntmps67 Go.Proofs.Try.results67 Go.Proofs.Try.ntmps68 Go.Proofs.Try.results68 Go.Proofs.Try.ntmps69 Go.Proofs.Try.results69 Go.Proofs.Try.ntmps70 Go.Proofs.Try.results70 Go.Proofs.Try.ntmps71 Go.Proofs.Try.results71 Go.Proofs.Try.ntmps72 Go.Proofs.Try.results72 Go.Proofs.Try.ntmps73 Go.Proofs.Try.results73 Go.Proofs.Try.ntmps74 Go.Proofs.Try.results74 Go.Proofs.Try.ntmps75 Go.Proofs.Try.results75 Go.Proofs.Try.ntmps76 Go.Proofs.Try.results76 Go.Proofs.Try.ntmps77 Go.Proofs.Try.results77 Go.Proofs.Try.ntmps78 Go.Proofs.Try.results78 Go.Proofs.Try.ntmps79 Go.Proofs.Try.results79 Go.Proofs.Try.ntmps80 Go.Proofs.Try.results80 Go.Proofs.Try.ntmps81 Go.Proofs.Try.results81 Go.Proofs.Try.ntmps82 Go.Proofs.Try.results82 Go.Proofs.Try.ntmps83 Go.Proofs.Try.results83 Go.Proofs.Try.ntmps84 Go.Proofs.Try.results84 Go.Proofs.Try.ntmps85 Go.Proofs.Try.results85 Go.Proofs.Try.ntmps86 Go.Proofs.Try.results86 Go.Proofs.Try.ntmps87 Go.Proofs.Try.results87 Go.Proofs.Try.ntmps88 Go.Proofs.Try.results88 Go.Proofs.Try.ntmps89 Go.Proofs.Try.results89 Go.Proofs.Try.ntmps90 Go.Proofs.Try.results90 Go.Proofs.Try.ntmps91 Go.Proofs.Try.results91 Go.Proofs.Try.ntmps92 Go.Proofs.Try.results92 Go.Proofs.Try.ntmps93 Go.Proofs.Try.results93 Go.Proofs.Try.ntmps94 Go.Proofs.Try.results94 Go.Proofs.Try.ntmps95 Go.Proofs.Try.results95 Go.Proofs.Try.ntmps96 Go.Proofs.Try.results96 Go.Proofs.Try.ntmps97 Go.Proofs.Try.results97 Go.Proofs.Try.ntmps98 Go.Proofs.Try.results98 Go.Proofs.Try.ntmps99 Go.Proofs.Try.results99 Go.Proofs.Try.ntmps100 Go.Proofs.Try.results100 Go.Proofs.Try.ntmps101 Go.Proofs.Try.results101 Go.Proofs.Try.ntmps102 Go.Proofs.Try.results102

namespace Go.Idl
theorem zW {p q : Prop} (hq : q) (h : p = q := by (simp (maxSteps := 2000000) only [go_sem, ↓reduceIte, ↓reduceDIte, reduceCtorEq, Nat.reducePow, Nat.reduceEqDiff, Nat.reduceAdd, Nat.reduceSub, Nat.reduceMul, Nat.reduceMod, Nat.reduceLeDiff, Nat.reduceLT, Nat.reduceBEq, Nat.reduceBNe, Int.reduceLT, Int.reduceLE, Int.reduceToNat, Int.reduceNeg, Int.reduceAdd, Int.reduceSub, Int.reduceMul, Int.reduceBEq, Int.reduceBNe, Int.reduceEq]; rfl)) : p := h.mpr hq
theorem zO {p q : Prop} (hq : q) (h : p = q := by (simp (maxSteps := 2000000) (disch := omega) only [go_sem, ↓reduceIte, ↓reduceDIte, reduceCtorEq, Nat.reducePow, Nat.reduceEqDiff, Nat.reduceAdd, Nat.reduceSub, Nat.reduceMul, Nat.reduceMod, Nat.reduceLeDiff, Nat.reduceLT, Nat.reduceBEq, Nat.reduceBNe, Int.reduceLT, Int.reduceLE, Int.reduceToNat, Int.reduceNeg, Int.reduceAdd, Int.reduceSub, Int.reduceMul, Int.reduceBEq, Int.reduceBNe, Int.reduceEq, if_pos, if_neg, w64, beqT, beqF, bneT, bneF, pr_get, ir_get, decide_eq_true, decide_eq_false]; rfl)) : p := h.mpr hq
theorem zT {p : Prop} (h : p := by simp (maxSteps := 2000000) only [go_sem, ↓reduceIte, ↓reduceDIte, reduceCtorEq, Nat.reducePow, Nat.reduceEqDiff, Nat.reduceAdd, Nat.reduceSub, Nat.reduceMul, Nat.reduceMod, Nat.reduceLeDiff, Nat.reduceLT, Nat.reduceBEq, Nat.reduceBNe, Int.reduceLT, Int.reduceLE, Int.reduceToNat, Int.reduceNeg, Int.reduceAdd, Int.reduceSub, Int.reduceMul, Int.reduceBEq, Int.reduceBNe, Int.reduceEq]) : p := h
theorem zU {p : Prop} (h : p := by simp (maxSteps := 2000000) (disch := omega) only [go_sem, ↓reduceIte, ↓reduceDIte, reduceCtorEq, Nat.reducePow, Nat.reduceEqDiff, Nat.reduceAdd, Nat.reduceSub, Nat.reduceMul, Nat.reduceMod, Nat.reduceLeDiff, Nat.reduceLT, Nat.reduceBEq, Nat.reduceBNe, Int.reduceLT, Int.reduceLE, Int.reduceToNat, Int.reduceNeg, Int.reduceAdd, Int.reduceSub, Int.reduceMul, Int.reduceBEq, Int.reduceBNe, Int.reduceEq, if_pos, if_neg, w64, beqT, beqF, bneT, bneF, pr_get, ir_get, decide_eq_true, decide_eq_false]) : p := h
theorem zB {p : Prop} (h : p := by first | trivial | (simp (maxSteps := 2000000) only [go_sem, ↓reduceIte, ↓reduceDIte, reduceCtorEq, Nat.reducePow, Nat.reduceEqDiff, Nat.reduceAdd, Nat.reduceSub, Nat.reduceMul, Nat.reduceMod, Nat.reduceLeDiff, Nat.reduceLT, Nat.reduceBEq, Nat.reduceBNe, Int.reduceLT, Int.reduceLE, Int.reduceToNat, Int.reduceNeg, Int.reduceAdd, Int.reduceSub, Int.reduceMul, Int.reduceBEq, Int.reduceBNe, Int.reduceEq]; done) | (split <;> simp (maxSteps := 2000000) only [go_sem, ↓reduceIte, ↓reduceDIte, reduceCtorEq, Nat.reducePow, Nat.reduceEqDiff, Nat.reduceAdd, Nat.reduceSub, Nat.reduceMul, Nat.reduceMod, Nat.reduceLeDiff, Nat.reduceLT, Nat.reduceBEq, Nat.reduceBNe, Int.reduceLT, Int.reduceLE, Int.reduceToNat, Int.reduceNeg, Int.reduceAdd, Int.reduceSub, Int.reduceMul, Int.reduceBEq, Int.reduceBNe, Int.reduceEq])) : p := h
theorem zC {p : Prop} (h : p := by first | trivial | (simp (maxSteps := 2000000) only [go_sem, ↓reduceIte, ↓reduceDIte, reduceCtorEq, Nat.reducePow, Nat.reduceEqDiff, Nat.reduceAdd, Nat.reduceSub, Nat.reduceMul, Nat.reduceMod, Nat.reduceLeDiff, Nat.reduceLT, Nat.reduceBEq, Nat.reduceBNe, Int.reduceLT, Int.reduceLE, Int.reduceToNat, Int.reduceNeg, Int.reduceAdd, Int.reduceSub, Int.reduceMul, Int.reduceBEq, Int.reduceBNe, Int.reduceEq]; done) | (simp (maxSteps := 2000000) (disch := omega) only [go_sem, ↓reduceIte, ↓reduceDIte, reduceCtorEq, Nat.reducePow, Nat.reduceEqDiff, Nat.reduceAdd, Nat.reduceSub, Nat.reduceMul, Nat.reduceMod, Nat.reduceLeDiff, Nat.reduceLT, Nat.reduceBEq, Nat.reduceBNe, Int.reduceLT, Int.reduceLE, Int.reduceToNat, Int.reduceNeg, Int.reduceAdd, Int.reduceSub, Int.reduceMul, Int.reduceBEq, Int.reduceBNe, Int.reduceEq, if_pos, if_neg, w64, beqT, beqF, bneT, bneF, pr_get, ir_get, decide_eq_true, decide_eq_false]; done) | (split <;> simp (maxSteps := 2000000) (disch := omega) only [go_sem, ↓reduceIte, ↓reduceDIte, reduceCtorEq, Nat.reducePow, Nat.reduceEqDiff, Nat.reduceAdd, Nat.reduceSub, Nat.reduceMul, Nat.reduceMod, Nat.reduceLeDiff, Nat.reduceLT, Nat.reduceBEq, Nat.reduceBNe, Int.reduceLT, Int.reduceLE, Int.reduceToNat, Int.reduceNeg, Int.reduceAdd, Int.reduceSub, Int.reduceMul, Int.reduceBEq, Int.reduceBNe, Int.reduceEq, if_pos, if_neg, w64, beqT, beqF, bneT, bneF, pr_get, ir_get, decide_eq_true, decide_eq_false])) : p := h
theorem zL {p : Prop} (h : p := by first | exact Nat.zero_le _ | exact Nat.le_refl _ | omega) : p := h
end Go.Idl
