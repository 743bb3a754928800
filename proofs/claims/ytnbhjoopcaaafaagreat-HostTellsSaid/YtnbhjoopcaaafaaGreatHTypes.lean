/- Facts that the proofs of this claim lean on. -/
import Derived.Test.YtnbhjoopcaaafaaGreatIdNl
import Derived.Test.YtnbhjoopcaaafaaGreatProg
set_option linter.unusedSimpArgs false
set_option linter.unusedVariables false
namespace Go.Proofs.HO
open Go Go.Idl Go.Proofs
@[go_sem] theorem tsz_2 : tsz Tryz.prog 2 = some 1 := by kernel_rfl
@[go_sem] theorem tby_2 : tby Tryz.prog 2 = some 8 := by kernel_rfl
@[go_sem] theorem tze_2 : tze Tryz.prog 2 = some [.int .i64 0] := by kernel_rfl
@[go_sem] theorem tag_2 : tag Tryz.prog 2 = some false := by kernel_rfl
@[go_sem] theorem tar_2 : tar Tryz.prog 2 = none := by kernel_rfl
@[go_sem] theorem tcs_2 : tcs Tryz.prog 2 = [] := by kernel_rfl
@[go_sem] theorem tkd_2 : tkd Tryz.prog 2 = some (.int .i64) := by kernel_rfl
@[go_sem] theorem tsz_3 : tsz Tryz.prog 3 = some 1 := by kernel_rfl
@[go_sem] theorem tby_3 : tby Tryz.prog 3 = some 8 := by kernel_rfl
@[go_sem] theorem tze_3 : tze Tryz.prog 3 = some [.int .i64 0] := by kernel_rfl
@[go_sem] theorem tag_3 : tag Tryz.prog 3 = some false := by kernel_rfl
@[go_sem] theorem tar_3 : tar Tryz.prog 3 = none := by kernel_rfl
@[go_sem] theorem tcs_3 : tcs Tryz.prog 3 = [] := by kernel_rfl
@[go_sem] theorem tkey_3 : tkey Tryz.prog 3 = some (false, [(.int .i64)]) := by kernel_rfl
@[go_sem] theorem tkd_3 : tkd Tryz.prog 3 = some (.int .i64) := by kernel_rfl
@[go_sem] theorem tsz_4 : tsz Tryz.prog 4 = some 1 := by kernel_rfl
@[go_sem] theorem tby_4 : tby Tryz.prog 4 = some 1 := by kernel_rfl
@[go_sem] theorem tze_4 : tze Tryz.prog 4 = some [.bool false] := by kernel_rfl
@[go_sem] theorem tag_4 : tag Tryz.prog 4 = some false := by kernel_rfl
@[go_sem] theorem tar_4 : tar Tryz.prog 4 = none := by kernel_rfl
@[go_sem] theorem tcs_4 : tcs Tryz.prog 4 = [] := by kernel_rfl
@[go_sem] theorem tkd_4 : tkd Tryz.prog 4 = some .bool := by kernel_rfl
@[go_sem] theorem tsz_5 : tsz Tryz.prog 5 = some 1 := by kernel_rfl
@[go_sem] theorem tby_5 : tby Tryz.prog 5 = some 1 := by kernel_rfl
@[go_sem] theorem tze_5 : tze Tryz.prog 5 = some [.int .u8 0] := by kernel_rfl
@[go_sem] theorem tag_5 : tag Tryz.prog 5 = some false := by kernel_rfl
@[go_sem] theorem tar_5 : tar Tryz.prog 5 = none := by kernel_rfl
@[go_sem] theorem tcs_5 : tcs Tryz.prog 5 = [] := by kernel_rfl
@[go_sem] theorem tkd_5 : tkd Tryz.prog 5 = some (.int .u8) := by kernel_rfl
@[go_sem] theorem tsz_9 : tsz Tryz.prog 9 = some 1 := by kernel_rfl
@[go_sem] theorem tby_9 : tby Tryz.prog 9 = some 16 := by kernel_rfl
@[go_sem] theorem tze_9 : tze Tryz.prog 9 = some [.string ByteArray.empty] := by kernel_rfl
@[go_sem] theorem tag_9 : tag Tryz.prog 9 = some false := by kernel_rfl
@[go_sem] theorem tar_9 : tar Tryz.prog 9 = none := by kernel_rfl
@[go_sem] theorem tcs_9 : tcs Tryz.prog 9 = [] := by kernel_rfl
@[go_sem] theorem tkd_9 : tkd Tryz.prog 9 = some .string := by kernel_rfl
@[go_sem] theorem tsz_12 : tsz Tryz.prog 12 = some 1 := by kernel_rfl
@[go_sem] theorem tby_12 : tby Tryz.prog 12 = some 8 := by kernel_rfl
@[go_sem] theorem tze_12 : tze Tryz.prog 12 = some [.int .u64 0] := by kernel_rfl
@[go_sem] theorem tag_12 : tag Tryz.prog 12 = some false := by kernel_rfl
@[go_sem] theorem tar_12 : tar Tryz.prog 12 = none := by kernel_rfl
@[go_sem] theorem tcs_12 : tcs Tryz.prog 12 = [] := by kernel_rfl
@[go_sem] theorem tkd_12 : tkd Tryz.prog 12 = some (.int .u64) := by kernel_rfl
@[go_sem] theorem tsz_13 : tsz Tryz.prog 13 = some 2 := by kernel_rfl
@[go_sem] theorem tby_13 : tby Tryz.prog 13 = some 24 := by kernel_rfl
@[go_sem] theorem tze_13 : tze Tryz.prog 13 = some [.string ByteArray.empty, .int .u64 0] := by kernel_rfl
@[go_sem] theorem tag_13 : tag Tryz.prog 13 = some true := by kernel_rfl
@[go_sem] theorem tar_13 : tar Tryz.prog 13 = none := by kernel_rfl
@[go_sem] theorem tfo_13_0 : tfo Tryz.prog 13 0 = some (0, 9) := by kernel_rfl
@[go_sem] theorem tfo_13_1 : tfo Tryz.prog 13 1 = some (1, 12) := by kernel_rfl
@[go_sem] theorem tpl_13 : tpl Tryz.prog 13 = some [(0, 1), (1, 1)] := by kernel_rfl
@[go_sem] theorem tcs_13 : tcs Tryz.prog 13 = [] := by kernel_rfl
@[go_sem] theorem tkd_13 : tkd Tryz.prog 13 = some .other := by kernel_rfl
@[go_sem] theorem tsz_20 : tsz Tryz.prog 20 = some 1 := by kernel_rfl
@[go_sem] theorem tby_20 : tby Tryz.prog 20 = some 16 := by kernel_rfl
@[go_sem] theorem tze_20 : tze Tryz.prog 20 = some [.nilIface] := by kernel_rfl
@[go_sem] theorem tag_20 : tag Tryz.prog 20 = some false := by kernel_rfl
@[go_sem] theorem tar_20 : tar Tryz.prog 20 = none := by kernel_rfl
@[go_sem] theorem tcs_20 : tcs Tryz.prog 20 = [] := by kernel_rfl
@[go_sem] theorem tkd_20 : tkd Tryz.prog 20 = some .iface := by kernel_rfl
@[go_sem] theorem tsz_21 : tsz Tryz.prog 21 = some 1 := by kernel_rfl
@[go_sem] theorem tby_21 : tby Tryz.prog 21 = some 4 := by kernel_rfl
@[go_sem] theorem tze_21 : tze Tryz.prog 21 = some [.int .i32 0] := by kernel_rfl
@[go_sem] theorem tag_21 : tag Tryz.prog 21 = some false := by kernel_rfl
@[go_sem] theorem tar_21 : tar Tryz.prog 21 = none := by kernel_rfl
@[go_sem] theorem tcs_21 : tcs Tryz.prog 21 = [] := by kernel_rfl
@[go_sem] theorem tkd_21 : tkd Tryz.prog 21 = some (.int .i32) := by kernel_rfl
@[go_sem] theorem tsz_22 : tsz Tryz.prog 22 = some 1 := by kernel_rfl
@[go_sem] theorem tby_22 : tby Tryz.prog 22 = some 24 := by kernel_rfl
@[go_sem] theorem tze_22 : tze Tryz.prog 22 = some [.slice none 0 0] := by kernel_rfl
@[go_sem] theorem tag_22 : tag Tryz.prog 22 = some false := by kernel_rfl
@[go_sem] theorem tel_22 : tel Tryz.prog 22 = some 103 := by kernel_rfl
@[go_sem] theorem tar_22 : tar Tryz.prog 22 = none := by kernel_rfl
@[go_sem] theorem tcs_22 : tcs Tryz.prog 22 = [(0, 2)] := by kernel_rfl
@[go_sem] theorem tkd_22 : tkd Tryz.prog 22 = some (.slice 103) := by kernel_rfl
@[go_sem] theorem tsz_23 : tsz Tryz.prog 23 = some 2 := by kernel_rfl
@[go_sem] theorem tby_23 : tby Tryz.prog 23 = some 32 := by kernel_rfl
@[go_sem] theorem tze_23 : tze Tryz.prog 23 = some [.int .i64 0, .slice none 0 0] := by kernel_rfl
@[go_sem] theorem tag_23 : tag Tryz.prog 23 = some true := by kernel_rfl
@[go_sem] theorem tar_23 : tar Tryz.prog 23 = none := by kernel_rfl
@[go_sem] theorem tfo_23_0 : tfo Tryz.prog 23 0 = some (0, 3) := by kernel_rfl
@[go_sem] theorem tfo_23_1 : tfo Tryz.prog 23 1 = some (1, 22) := by kernel_rfl
@[go_sem] theorem tpl_23 : tpl Tryz.prog 23 = some [(0, 1), (1, 1)] := by kernel_rfl
@[go_sem] theorem tcs_23 : tcs Tryz.prog 23 = [(1, 2)] := by kernel_rfl
@[go_sem] theorem tkd_23 : tkd Tryz.prog 23 = some .other := by kernel_rfl
@[go_sem] theorem tsz_24 : tsz Tryz.prog 24 = some 2 := by kernel_rfl
@[go_sem] theorem tby_24 : tby Tryz.prog 24 = some 32 := by kernel_rfl
@[go_sem] theorem tze_24 : tze Tryz.prog 24 = some [.int .i64 0, .slice none 0 0] := by kernel_rfl
@[go_sem] theorem tag_24 : tag Tryz.prog 24 = some true := by kernel_rfl
@[go_sem] theorem tar_24 : tar Tryz.prog 24 = none := by kernel_rfl
@[go_sem] theorem tfo_24_0 : tfo Tryz.prog 24 0 = some (0, 3) := by kernel_rfl
@[go_sem] theorem tfo_24_1 : tfo Tryz.prog 24 1 = some (1, 22) := by kernel_rfl
@[go_sem] theorem tpl_24 : tpl Tryz.prog 24 = some [(0, 1), (1, 1)] := by kernel_rfl
@[go_sem] theorem tcs_24 : tcs Tryz.prog 24 = [(1, 2)] := by kernel_rfl
@[go_sem] theorem tkd_24 : tkd Tryz.prog 24 = some .other := by kernel_rfl
@[go_sem] theorem tsz_25 : tsz Tryz.prog 25 = some 1 := by kernel_rfl
@[go_sem] theorem tby_25 : tby Tryz.prog 25 = some 24 := by kernel_rfl
@[go_sem] theorem tze_25 : tze Tryz.prog 25 = some [.slice none 0 0] := by kernel_rfl
@[go_sem] theorem tag_25 : tag Tryz.prog 25 = some false := by kernel_rfl
@[go_sem] theorem tel_25 : tel Tryz.prog 25 = some 123 := by kernel_rfl
@[go_sem] theorem tar_25 : tar Tryz.prog 25 = none := by kernel_rfl
@[go_sem] theorem tcs_25 : tcs Tryz.prog 25 = [(0, 2)] := by kernel_rfl
@[go_sem] theorem tkd_25 : tkd Tryz.prog 25 = some (.slice 123) := by kernel_rfl
@[go_sem] theorem tsz_26 : tsz Tryz.prog 26 = some 4 := by kernel_rfl
@[go_sem] theorem tby_26 : tby Tryz.prog 26 = some 64 := by kernel_rfl
@[go_sem] theorem tze_26 : tze Tryz.prog 26 = some [.int .i64 0, .slice none 0 0, .slice none 0 0, .bool false] := by kernel_rfl
@[go_sem] theorem tag_26 : tag Tryz.prog 26 = some true := by kernel_rfl
@[go_sem] theorem tar_26 : tar Tryz.prog 26 = none := by kernel_rfl
@[go_sem] theorem tfo_26_0 : tfo Tryz.prog 26 0 = some (0, 24) := by kernel_rfl
@[go_sem] theorem tfo_26_1 : tfo Tryz.prog 26 1 = some (2, 25) := by kernel_rfl
@[go_sem] theorem tfo_26_2 : tfo Tryz.prog 26 2 = some (3, 4) := by kernel_rfl
@[go_sem] theorem tpl_26 : tpl Tryz.prog 26 = some [(0, 2), (2, 1), (3, 1)] := by kernel_rfl
@[go_sem] theorem tcs_26 : tcs Tryz.prog 26 = [(1, 2), (2, 2)] := by kernel_rfl
@[go_sem] theorem tkd_26 : tkd Tryz.prog 26 = some .other := by kernel_rfl
@[go_sem] theorem tsz_27 : tsz Tryz.prog 27 = some 4 := by kernel_rfl
@[go_sem] theorem tby_27 : tby Tryz.prog 27 = some 64 := by kernel_rfl
@[go_sem] theorem tze_27 : tze Tryz.prog 27 = some [.int .i64 0, .slice none 0 0, .slice none 0 0, .bool false] := by kernel_rfl
@[go_sem] theorem tag_27 : tag Tryz.prog 27 = some true := by kernel_rfl
@[go_sem] theorem tar_27 : tar Tryz.prog 27 = none := by kernel_rfl
@[go_sem] theorem tfo_27_0 : tfo Tryz.prog 27 0 = some (0, 24) := by kernel_rfl
@[go_sem] theorem tfo_27_1 : tfo Tryz.prog 27 1 = some (2, 25) := by kernel_rfl
@[go_sem] theorem tfo_27_2 : tfo Tryz.prog 27 2 = some (3, 4) := by kernel_rfl
@[go_sem] theorem tpl_27 : tpl Tryz.prog 27 = some [(0, 2), (2, 1), (3, 1)] := by kernel_rfl
@[go_sem] theorem tcs_27 : tcs Tryz.prog 27 = [(1, 2), (2, 2)] := by kernel_rfl
@[go_sem] theorem tkd_27 : tkd Tryz.prog 27 = some .other := by kernel_rfl
@[go_sem] theorem tsz_28 : tsz Tryz.prog 28 = some 1 := by kernel_rfl
@[go_sem] theorem tby_28 : tby Tryz.prog 28 = some 24 := by kernel_rfl
@[go_sem] theorem tze_28 : tze Tryz.prog 28 = some [.slice none 0 0] := by kernel_rfl
@[go_sem] theorem tag_28 : tag Tryz.prog 28 = some false := by kernel_rfl
@[go_sem] theorem tel_28 : tel Tryz.prog 28 = some 54 := by kernel_rfl
@[go_sem] theorem tar_28 : tar Tryz.prog 28 = none := by kernel_rfl
@[go_sem] theorem tcs_28 : tcs Tryz.prog 28 = [(0, 4)] := by kernel_rfl
@[go_sem] theorem tkd_28 : tkd Tryz.prog 28 = some (.slice 54) := by kernel_rfl
@[go_sem] theorem tsz_30 : tsz Tryz.prog 30 = some 2 := by kernel_rfl
@[go_sem] theorem tby_30 : tby Tryz.prog 30 = some 32 := by kernel_rfl
@[go_sem] theorem tze_30 : tze Tryz.prog 30 = some [.int .i64 0, .slice none 0 0] := by kernel_rfl
@[go_sem] theorem tag_30 : tag Tryz.prog 30 = some true := by kernel_rfl
@[go_sem] theorem tar_30 : tar Tryz.prog 30 = none := by kernel_rfl
@[go_sem] theorem tfo_30_0 : tfo Tryz.prog 30 0 = some (0, 3) := by kernel_rfl
@[go_sem] theorem tfo_30_1 : tfo Tryz.prog 30 1 = some (1, 22) := by kernel_rfl
@[go_sem] theorem tpl_30 : tpl Tryz.prog 30 = some [(0, 1), (1, 1)] := by kernel_rfl
@[go_sem] theorem tcs_30 : tcs Tryz.prog 30 = [(1, 2)] := by kernel_rfl
@[go_sem] theorem tkd_30 : tkd Tryz.prog 30 = some .other := by kernel_rfl
@[go_sem] theorem tsz_31 : tsz Tryz.prog 31 = some 1 := by kernel_rfl
@[go_sem] theorem tby_31 : tby Tryz.prog 31 = some 24 := by kernel_rfl
@[go_sem] theorem tze_31 : tze Tryz.prog 31 = some [.slice none 0 0] := by kernel_rfl
@[go_sem] theorem tag_31 : tag Tryz.prog 31 = some false := by kernel_rfl
@[go_sem] theorem tel_31 : tel Tryz.prog 31 = some 112 := by kernel_rfl
@[go_sem] theorem tar_31 : tar Tryz.prog 31 = none := by kernel_rfl
@[go_sem] theorem tcs_31 : tcs Tryz.prog 31 = [(0, 2)] := by kernel_rfl
@[go_sem] theorem tkd_31 : tkd Tryz.prog 31 = some (.slice 112) := by kernel_rfl
@[go_sem] theorem tsz_32 : tsz Tryz.prog 32 = some 4 := by kernel_rfl
@[go_sem] theorem tby_32 : tby Tryz.prog 32 = some 64 := by kernel_rfl
@[go_sem] theorem tze_32 : tze Tryz.prog 32 = some [.int .i64 0, .slice none 0 0, .slice none 0 0, .bool false] := by kernel_rfl
@[go_sem] theorem tag_32 : tag Tryz.prog 32 = some true := by kernel_rfl
@[go_sem] theorem tar_32 : tar Tryz.prog 32 = none := by kernel_rfl
@[go_sem] theorem tfo_32_0 : tfo Tryz.prog 32 0 = some (0, 30) := by kernel_rfl
@[go_sem] theorem tfo_32_1 : tfo Tryz.prog 32 1 = some (2, 31) := by kernel_rfl
@[go_sem] theorem tfo_32_2 : tfo Tryz.prog 32 2 = some (3, 4) := by kernel_rfl
@[go_sem] theorem tpl_32 : tpl Tryz.prog 32 = some [(0, 2), (2, 1), (3, 1)] := by kernel_rfl
@[go_sem] theorem tcs_32 : tcs Tryz.prog 32 = [(1, 2), (2, 2)] := by kernel_rfl
@[go_sem] theorem tkd_32 : tkd Tryz.prog 32 = some .other := by kernel_rfl
@[go_sem] theorem tsz_33 : tsz Tryz.prog 33 = some 4 := by kernel_rfl
@[go_sem] theorem tby_33 : tby Tryz.prog 33 = some 64 := by kernel_rfl
@[go_sem] theorem tze_33 : tze Tryz.prog 33 = some [.int .i64 0, .slice none 0 0, .slice none 0 0, .bool false] := by kernel_rfl
@[go_sem] theorem tag_33 : tag Tryz.prog 33 = some true := by kernel_rfl
@[go_sem] theorem tar_33 : tar Tryz.prog 33 = none := by kernel_rfl
@[go_sem] theorem tfo_33_0 : tfo Tryz.prog 33 0 = some (0, 30) := by kernel_rfl
@[go_sem] theorem tfo_33_1 : tfo Tryz.prog 33 1 = some (2, 31) := by kernel_rfl
@[go_sem] theorem tfo_33_2 : tfo Tryz.prog 33 2 = some (3, 4) := by kernel_rfl
@[go_sem] theorem tpl_33 : tpl Tryz.prog 33 = some [(0, 2), (2, 1), (3, 1)] := by kernel_rfl
@[go_sem] theorem tcs_33 : tcs Tryz.prog 33 = [(1, 2), (2, 2)] := by kernel_rfl
@[go_sem] theorem tkd_33 : tkd Tryz.prog 33 = some .other := by kernel_rfl
@[go_sem] theorem tsz_37 : tsz Tryz.prog 37 = some 1 := by kernel_rfl
@[go_sem] theorem tby_37 : tby Tryz.prog 37 = some 24 := by kernel_rfl
@[go_sem] theorem tze_37 : tze Tryz.prog 37 = some [.slice none 0 0] := by kernel_rfl
@[go_sem] theorem tag_37 : tag Tryz.prog 37 = some false := by kernel_rfl
@[go_sem] theorem tel_37 : tel Tryz.prog 37 = some 79 := by kernel_rfl
@[go_sem] theorem tar_37 : tar Tryz.prog 37 = none := by kernel_rfl
@[go_sem] theorem tcs_37 : tcs Tryz.prog 37 = [(0, 1)] := by kernel_rfl
@[go_sem] theorem tkd_37 : tkd Tryz.prog 37 = some (.slice 79) := by kernel_rfl
@[go_sem] theorem tsz_38 : tsz Tryz.prog 38 = some 1 := by kernel_rfl
@[go_sem] theorem tby_38 : tby Tryz.prog 38 = some 24 := by kernel_rfl
@[go_sem] theorem tze_38 : tze Tryz.prog 38 = some [.slice none 0 0] := by kernel_rfl
@[go_sem] theorem tag_38 : tag Tryz.prog 38 = some false := by kernel_rfl
@[go_sem] theorem tel_38 : tel Tryz.prog 38 = some 67 := by kernel_rfl
@[go_sem] theorem tar_38 : tar Tryz.prog 38 = none := by kernel_rfl
@[go_sem] theorem tcs_38 : tcs Tryz.prog 38 = [(0, 1)] := by kernel_rfl
@[go_sem] theorem tkd_38 : tkd Tryz.prog 38 = some (.slice 67) := by kernel_rfl
@[go_sem] theorem tsz_39 : tsz Tryz.prog 39 = some 5 := by kernel_rfl
@[go_sem] theorem tby_39 : tby Tryz.prog 39 = some 72 := by kernel_rfl
@[go_sem] theorem tze_39 : tze Tryz.prog 39 = some [.int .i64 0, .int .i64 0, .int .i64 0, .slice none 0 0, .slice none 0 0] := by kernel_rfl
@[go_sem] theorem tag_39 : tag Tryz.prog 39 = some true := by kernel_rfl
@[go_sem] theorem tar_39 : tar Tryz.prog 39 = none := by kernel_rfl
@[go_sem] theorem tfo_39_0 : tfo Tryz.prog 39 0 = some (0, 3) := by kernel_rfl
@[go_sem] theorem tfo_39_1 : tfo Tryz.prog 39 1 = some (1, 3) := by kernel_rfl
@[go_sem] theorem tfo_39_2 : tfo Tryz.prog 39 2 = some (2, 3) := by kernel_rfl
@[go_sem] theorem tfo_39_3 : tfo Tryz.prog 39 3 = some (3, 37) := by kernel_rfl
@[go_sem] theorem tfo_39_4 : tfo Tryz.prog 39 4 = some (4, 38) := by kernel_rfl
@[go_sem] theorem tpl_39 : tpl Tryz.prog 39 = some [(0, 1), (1, 1), (2, 1), (3, 1), (4, 1)] := by kernel_rfl
@[go_sem] theorem tcs_39 : tcs Tryz.prog 39 = [(3, 1), (4, 1)] := by kernel_rfl
@[go_sem] theorem tkd_39 : tkd Tryz.prog 39 = some .other := by kernel_rfl
@[go_sem] theorem tsz_40 : tsz Tryz.prog 40 = some 5 := by kernel_rfl
@[go_sem] theorem tby_40 : tby Tryz.prog 40 = some 72 := by kernel_rfl
@[go_sem] theorem tze_40 : tze Tryz.prog 40 = some [.int .i64 0, .int .i64 0, .int .i64 0, .slice none 0 0, .slice none 0 0] := by kernel_rfl
@[go_sem] theorem tag_40 : tag Tryz.prog 40 = some true := by kernel_rfl
@[go_sem] theorem tar_40 : tar Tryz.prog 40 = none := by kernel_rfl
@[go_sem] theorem tfo_40_0 : tfo Tryz.prog 40 0 = some (0, 3) := by kernel_rfl
@[go_sem] theorem tfo_40_1 : tfo Tryz.prog 40 1 = some (1, 3) := by kernel_rfl
@[go_sem] theorem tfo_40_2 : tfo Tryz.prog 40 2 = some (2, 3) := by kernel_rfl
@[go_sem] theorem tfo_40_3 : tfo Tryz.prog 40 3 = some (3, 37) := by kernel_rfl
@[go_sem] theorem tfo_40_4 : tfo Tryz.prog 40 4 = some (4, 38) := by kernel_rfl
@[go_sem] theorem tpl_40 : tpl Tryz.prog 40 = some [(0, 1), (1, 1), (2, 1), (3, 1), (4, 1)] := by kernel_rfl
@[go_sem] theorem tcs_40 : tcs Tryz.prog 40 = [(3, 1), (4, 1)] := by kernel_rfl
@[go_sem] theorem tkd_40 : tkd Tryz.prog 40 = some .other := by kernel_rfl
@[go_sem] theorem tsz_43 : tsz Tryz.prog 43 = some 5 := by kernel_rfl
@[go_sem] theorem tby_43 : tby Tryz.prog 43 = some 72 := by kernel_rfl
@[go_sem] theorem tze_43 : tze Tryz.prog 43 = some [.int .i64 0, .int .i64 0, .int .i64 0, .slice none 0 0, .slice none 0 0] := by kernel_rfl
@[go_sem] theorem tag_43 : tag Tryz.prog 43 = some true := by kernel_rfl
@[go_sem] theorem tar_43 : tar Tryz.prog 43 = none := by kernel_rfl
@[go_sem] theorem tfo_43_0 : tfo Tryz.prog 43 0 = some (0, 3) := by kernel_rfl
@[go_sem] theorem tfo_43_1 : tfo Tryz.prog 43 1 = some (1, 3) := by kernel_rfl
@[go_sem] theorem tfo_43_2 : tfo Tryz.prog 43 2 = some (2, 3) := by kernel_rfl
@[go_sem] theorem tfo_43_3 : tfo Tryz.prog 43 3 = some (3, 37) := by kernel_rfl
@[go_sem] theorem tfo_43_4 : tfo Tryz.prog 43 4 = some (4, 38) := by kernel_rfl
@[go_sem] theorem tpl_43 : tpl Tryz.prog 43 = some [(0, 1), (1, 1), (2, 1), (3, 1), (4, 1)] := by kernel_rfl
@[go_sem] theorem tcs_43 : tcs Tryz.prog 43 = [(3, 1), (4, 1)] := by kernel_rfl
@[go_sem] theorem tkd_43 : tkd Tryz.prog 43 = some .other := by kernel_rfl
@[go_sem] theorem tsz_47 : tsz Tryz.prog 47 = some 1 := by kernel_rfl
@[go_sem] theorem tby_47 : tby Tryz.prog 47 = some 24 := by kernel_rfl
@[go_sem] theorem tze_47 : tze Tryz.prog 47 = some [.slice none 0 0] := by kernel_rfl
@[go_sem] theorem tag_47 : tag Tryz.prog 47 = some false := by kernel_rfl
@[go_sem] theorem tel_47 : tel Tryz.prog 47 = some 86 := by kernel_rfl
@[go_sem] theorem tar_47 : tar Tryz.prog 47 = none := by kernel_rfl
@[go_sem] theorem tcs_47 : tcs Tryz.prog 47 = [(0, 3)] := by kernel_rfl
@[go_sem] theorem tkd_47 : tkd Tryz.prog 47 = some (.slice 86) := by kernel_rfl
@[go_sem] theorem tsz_48 : tsz Tryz.prog 48 = some 1 := by kernel_rfl
@[go_sem] theorem tby_48 : tby Tryz.prog 48 = some 8 := by kernel_rfl
@[go_sem] theorem tze_48 : tze Tryz.prog 48 = some [.int .i64 0] := by kernel_rfl
@[go_sem] theorem tag_48 : tag Tryz.prog 48 = some false := by kernel_rfl
@[go_sem] theorem tar_48 : tar Tryz.prog 48 = none := by kernel_rfl
@[go_sem] theorem tcs_48 : tcs Tryz.prog 48 = [] := by kernel_rfl
@[go_sem] theorem tkd_48 : tkd Tryz.prog 48 = some (.int .i64) := by kernel_rfl
@[go_sem] theorem tsz_51 : tsz Tryz.prog 51 = some 2 := by kernel_rfl
@[go_sem] theorem tby_51 : tby Tryz.prog 51 = some 16 := by kernel_rfl
@[go_sem] theorem tze_51 : tze Tryz.prog 51 = some [.int .i64 0, .int .i64 0] := by kernel_rfl
@[go_sem] theorem tag_51 : tag Tryz.prog 51 = some true := by kernel_rfl
@[go_sem] theorem tar_51 : tar Tryz.prog 51 = none := by kernel_rfl
@[go_sem] theorem tfo_51_0 : tfo Tryz.prog 51 0 = some (0, 3) := by kernel_rfl
@[go_sem] theorem tfo_51_1 : tfo Tryz.prog 51 1 = some (1, 3) := by kernel_rfl
@[go_sem] theorem tpl_51 : tpl Tryz.prog 51 = some [(0, 1), (1, 1)] := by kernel_rfl
@[go_sem] theorem tcs_51 : tcs Tryz.prog 51 = [] := by kernel_rfl
@[go_sem] theorem tkd_51 : tkd Tryz.prog 51 = some .other := by kernel_rfl
@[go_sem] theorem tsz_52 : tsz Tryz.prog 52 = some 2 := by kernel_rfl
@[go_sem] theorem tby_52 : tby Tryz.prog 52 = some 16 := by kernel_rfl
@[go_sem] theorem tze_52 : tze Tryz.prog 52 = some [.int .i64 0, .int .i64 0] := by kernel_rfl
@[go_sem] theorem tag_52 : tag Tryz.prog 52 = some true := by kernel_rfl
@[go_sem] theorem tar_52 : tar Tryz.prog 52 = none := by kernel_rfl
@[go_sem] theorem tfo_52_0 : tfo Tryz.prog 52 0 = some (0, 3) := by kernel_rfl
@[go_sem] theorem tfo_52_1 : tfo Tryz.prog 52 1 = some (1, 3) := by kernel_rfl
@[go_sem] theorem tpl_52 : tpl Tryz.prog 52 = some [(0, 1), (1, 1)] := by kernel_rfl
@[go_sem] theorem tcs_52 : tcs Tryz.prog 52 = [] := by kernel_rfl
@[go_sem] theorem teq_52 : teq Tryz.prog 52 = some [(.int .i64), (.int .i64)] := by kernel_rfl
@[go_sem] theorem tkd_52 : tkd Tryz.prog 52 = some .other := by kernel_rfl
@[go_sem] theorem tsz_53 : tsz Tryz.prog 53 = some 4 := by kernel_rfl
@[go_sem] theorem tby_53 : tby Tryz.prog 53 = some 32 := by kernel_rfl
@[go_sem] theorem tze_53 : tze Tryz.prog 53 = some [.int .i64 0, .int .i64 0, .int .i64 0, .int .i64 0] := by kernel_rfl
@[go_sem] theorem tag_53 : tag Tryz.prog 53 = some true := by kernel_rfl
@[go_sem] theorem tar_53 : tar Tryz.prog 53 = none := by kernel_rfl
@[go_sem] theorem tfo_53_0 : tfo Tryz.prog 53 0 = some (0, 3) := by kernel_rfl
@[go_sem] theorem tfo_53_1 : tfo Tryz.prog 53 1 = some (1, 3) := by kernel_rfl
@[go_sem] theorem tfo_53_2 : tfo Tryz.prog 53 2 = some (2, 52) := by kernel_rfl
@[go_sem] theorem tpl_53 : tpl Tryz.prog 53 = some [(0, 1), (1, 1), (2, 2)] := by kernel_rfl
@[go_sem] theorem tcs_53 : tcs Tryz.prog 53 = [] := by kernel_rfl
@[go_sem] theorem tkd_53 : tkd Tryz.prog 53 = some .other := by kernel_rfl
@[go_sem] theorem tsz_54 : tsz Tryz.prog 54 = some 4 := by kernel_rfl
@[go_sem] theorem tby_54 : tby Tryz.prog 54 = some 32 := by kernel_rfl
@[go_sem] theorem tze_54 : tze Tryz.prog 54 = some [.int .i64 0, .int .i64 0, .int .i64 0, .int .i64 0] := by kernel_rfl
@[go_sem] theorem tag_54 : tag Tryz.prog 54 = some true := by kernel_rfl
@[go_sem] theorem tar_54 : tar Tryz.prog 54 = none := by kernel_rfl
@[go_sem] theorem tfo_54_0 : tfo Tryz.prog 54 0 = some (0, 3) := by kernel_rfl
@[go_sem] theorem tfo_54_1 : tfo Tryz.prog 54 1 = some (1, 3) := by kernel_rfl
@[go_sem] theorem tfo_54_2 : tfo Tryz.prog 54 2 = some (2, 52) := by kernel_rfl
@[go_sem] theorem tpl_54 : tpl Tryz.prog 54 = some [(0, 1), (1, 1), (2, 2)] := by kernel_rfl
@[go_sem] theorem tcs_54 : tcs Tryz.prog 54 = [] := by kernel_rfl
@[go_sem] theorem tkd_54 : tkd Tryz.prog 54 = some .other := by kernel_rfl
@[go_sem] theorem tsz_55 : tsz Tryz.prog 55 = some 1 := by kernel_rfl
@[go_sem] theorem tby_55 : tby Tryz.prog 55 = some 24 := by kernel_rfl
@[go_sem] theorem tze_55 : tze Tryz.prog 55 = some [.slice none 0 0] := by kernel_rfl
@[go_sem] theorem tag_55 : tag Tryz.prog 55 = some false := by kernel_rfl
@[go_sem] theorem tel_55 : tel Tryz.prog 55 = some 128 := by kernel_rfl
@[go_sem] theorem tar_55 : tar Tryz.prog 55 = none := by kernel_rfl
@[go_sem] theorem tcs_55 : tcs Tryz.prog 55 = [(0, 3)] := by kernel_rfl
@[go_sem] theorem tkd_55 : tkd Tryz.prog 55 = some (.slice 128) := by kernel_rfl
@[go_sem] theorem tsz_67 : tsz Tryz.prog 67 = some 1 := by kernel_rfl
@[go_sem] theorem tby_67 : tby Tryz.prog 67 = some 24 := by kernel_rfl
@[go_sem] theorem tze_67 : tze Tryz.prog 67 = some [.slice none 0 0] := by kernel_rfl
@[go_sem] theorem tag_67 : tag Tryz.prog 67 = some false := by kernel_rfl
@[go_sem] theorem tel_67 : tel Tryz.prog 67 = some 3 := by kernel_rfl
@[go_sem] theorem tar_67 : tar Tryz.prog 67 = none := by kernel_rfl
@[go_sem] theorem tcs_67 : tcs Tryz.prog 67 = [(0, 1)] := by kernel_rfl
@[go_sem] theorem tkd_67 : tkd Tryz.prog 67 = some (.slice 3) := by kernel_rfl
@[go_sem] theorem tsz_68 : tsz Tryz.prog 68 = some 6 := by kernel_rfl
@[go_sem] theorem tby_68 : tby Tryz.prog 68 = some 96 := by kernel_rfl
@[go_sem] theorem tze_68 : tze Tryz.prog 68 = some [.int .i64 0, .int .i64 0, .int .i64 0, .slice none 0 0, .slice none 0 0, .slice none 0 0] := by kernel_rfl
@[go_sem] theorem tag_68 : tag Tryz.prog 68 = some true := by kernel_rfl
@[go_sem] theorem tar_68 : tar Tryz.prog 68 = none := by kernel_rfl
@[go_sem] theorem tfo_68_0 : tfo Tryz.prog 68 0 = some (0, 3) := by kernel_rfl
@[go_sem] theorem tfo_68_1 : tfo Tryz.prog 68 1 = some (1, 3) := by kernel_rfl
@[go_sem] theorem tfo_68_2 : tfo Tryz.prog 68 2 = some (2, 3) := by kernel_rfl
@[go_sem] theorem tfo_68_3 : tfo Tryz.prog 68 3 = some (3, 67) := by kernel_rfl
@[go_sem] theorem tfo_68_4 : tfo Tryz.prog 68 4 = some (4, 37) := by kernel_rfl
@[go_sem] theorem tfo_68_5 : tfo Tryz.prog 68 5 = some (5, 38) := by kernel_rfl
@[go_sem] theorem tpl_68 : tpl Tryz.prog 68 = some [(0, 1), (1, 1), (2, 1), (3, 1), (4, 1), (5, 1)] := by kernel_rfl
@[go_sem] theorem tcs_68 : tcs Tryz.prog 68 = [(3, 1), (4, 1), (5, 1)] := by kernel_rfl
@[go_sem] theorem tkd_68 : tkd Tryz.prog 68 = some .other := by kernel_rfl
@[go_sem] theorem tsz_69 : tsz Tryz.prog 69 = some 6 := by kernel_rfl
@[go_sem] theorem tby_69 : tby Tryz.prog 69 = some 96 := by kernel_rfl
@[go_sem] theorem tze_69 : tze Tryz.prog 69 = some [.int .i64 0, .int .i64 0, .int .i64 0, .slice none 0 0, .slice none 0 0, .slice none 0 0] := by kernel_rfl
@[go_sem] theorem tag_69 : tag Tryz.prog 69 = some true := by kernel_rfl
@[go_sem] theorem tar_69 : tar Tryz.prog 69 = none := by kernel_rfl
@[go_sem] theorem tfo_69_0 : tfo Tryz.prog 69 0 = some (0, 3) := by kernel_rfl
@[go_sem] theorem tfo_69_1 : tfo Tryz.prog 69 1 = some (1, 3) := by kernel_rfl
@[go_sem] theorem tfo_69_2 : tfo Tryz.prog 69 2 = some (2, 3) := by kernel_rfl
@[go_sem] theorem tfo_69_3 : tfo Tryz.prog 69 3 = some (3, 67) := by kernel_rfl
@[go_sem] theorem tfo_69_4 : tfo Tryz.prog 69 4 = some (4, 37) := by kernel_rfl
@[go_sem] theorem tfo_69_5 : tfo Tryz.prog 69 5 = some (5, 38) := by kernel_rfl
@[go_sem] theorem tpl_69 : tpl Tryz.prog 69 = some [(0, 1), (1, 1), (2, 1), (3, 1), (4, 1), (5, 1)] := by kernel_rfl
@[go_sem] theorem tcs_69 : tcs Tryz.prog 69 = [(3, 1), (4, 1), (5, 1)] := by kernel_rfl
@[go_sem] theorem tkd_69 : tkd Tryz.prog 69 = some .other := by kernel_rfl
@[go_sem] theorem tsz_71 : tsz Tryz.prog 71 = some 6 := by kernel_rfl
@[go_sem] theorem tby_71 : tby Tryz.prog 71 = some 96 := by kernel_rfl
@[go_sem] theorem tze_71 : tze Tryz.prog 71 = some [.int .i64 0, .int .i64 0, .int .i64 0, .slice none 0 0, .slice none 0 0, .slice none 0 0] := by kernel_rfl
@[go_sem] theorem tag_71 : tag Tryz.prog 71 = some true := by kernel_rfl
@[go_sem] theorem tar_71 : tar Tryz.prog 71 = none := by kernel_rfl
@[go_sem] theorem tfo_71_0 : tfo Tryz.prog 71 0 = some (0, 3) := by kernel_rfl
@[go_sem] theorem tfo_71_1 : tfo Tryz.prog 71 1 = some (1, 3) := by kernel_rfl
@[go_sem] theorem tfo_71_2 : tfo Tryz.prog 71 2 = some (2, 3) := by kernel_rfl
@[go_sem] theorem tfo_71_3 : tfo Tryz.prog 71 3 = some (3, 67) := by kernel_rfl
@[go_sem] theorem tfo_71_4 : tfo Tryz.prog 71 4 = some (4, 37) := by kernel_rfl
@[go_sem] theorem tfo_71_5 : tfo Tryz.prog 71 5 = some (5, 38) := by kernel_rfl
@[go_sem] theorem tpl_71 : tpl Tryz.prog 71 = some [(0, 1), (1, 1), (2, 1), (3, 1), (4, 1), (5, 1)] := by kernel_rfl
@[go_sem] theorem tcs_71 : tcs Tryz.prog 71 = [(3, 1), (4, 1), (5, 1)] := by kernel_rfl
@[go_sem] theorem tkd_71 : tkd Tryz.prog 71 = some .other := by kernel_rfl
@[go_sem] theorem tsz_78 : tsz Tryz.prog 78 = some 1 := by kernel_rfl
@[go_sem] theorem tby_78 : tby Tryz.prog 78 = some 24 := by kernel_rfl
@[go_sem] theorem tze_78 : tze Tryz.prog 78 = some [.slice none 0 0] := by kernel_rfl
@[go_sem] theorem tag_78 : tag Tryz.prog 78 = some false := by kernel_rfl
@[go_sem] theorem tel_78 : tel Tryz.prog 78 = some 40 := by kernel_rfl
@[go_sem] theorem tar_78 : tar Tryz.prog 78 = none := by kernel_rfl
@[go_sem] theorem tcs_78 : tcs Tryz.prog 78 = [(0, 5)] := by kernel_rfl
@[go_sem] theorem tkd_78 : tkd Tryz.prog 78 = some (.slice 40) := by kernel_rfl
@[go_sem] theorem tsz_79 : tsz Tryz.prog 79 = some 1 := by kernel_rfl
@[go_sem] theorem tby_79 : tby Tryz.prog 79 = some 24 := by kernel_rfl
@[go_sem] theorem tze_79 : tze Tryz.prog 79 = some [.slice none 0 0] := by kernel_rfl
@[go_sem] theorem tag_79 : tag Tryz.prog 79 = some false := by kernel_rfl
@[go_sem] theorem tel_79 : tel Tryz.prog 79 = some 52 := by kernel_rfl
@[go_sem] theorem tar_79 : tar Tryz.prog 79 = none := by kernel_rfl
@[go_sem] theorem tcs_79 : tcs Tryz.prog 79 = [(0, 2)] := by kernel_rfl
@[go_sem] theorem tkd_79 : tkd Tryz.prog 79 = some (.slice 52) := by kernel_rfl
@[go_sem] theorem tsz_80 : tsz Tryz.prog 80 = some 7 := by kernel_rfl
@[go_sem] theorem tby_80 : tby Tryz.prog 80 = some 104 := by kernel_rfl
@[go_sem] theorem tze_80 : tze Tryz.prog 80 = some [.int .i64 0, .int .i64 0, .int .i64 0, .slice none 0 0, .slice none 0 0, .int .i64 0, .slice none 0 0] := by kernel_rfl
@[go_sem] theorem tag_80 : tag Tryz.prog 80 = some true := by kernel_rfl
@[go_sem] theorem tar_80 : tar Tryz.prog 80 = none := by kernel_rfl
@[go_sem] theorem tfo_80_0 : tfo Tryz.prog 80 0 = some (0, 40) := by kernel_rfl
@[go_sem] theorem tfo_80_1 : tfo Tryz.prog 80 1 = some (5, 3) := by kernel_rfl
@[go_sem] theorem tfo_80_2 : tfo Tryz.prog 80 2 = some (6, 67) := by kernel_rfl
@[go_sem] theorem tpl_80 : tpl Tryz.prog 80 = some [(0, 5), (5, 1), (6, 1)] := by kernel_rfl
@[go_sem] theorem tcs_80 : tcs Tryz.prog 80 = [(3, 1), (4, 1), (6, 1)] := by kernel_rfl
@[go_sem] theorem tkd_80 : tkd Tryz.prog 80 = some .other := by kernel_rfl
@[go_sem] theorem tsz_81 : tsz Tryz.prog 81 = some 7 := by kernel_rfl
@[go_sem] theorem tby_81 : tby Tryz.prog 81 = some 104 := by kernel_rfl
@[go_sem] theorem tze_81 : tze Tryz.prog 81 = some [.int .i64 0, .int .i64 0, .int .i64 0, .slice none 0 0, .slice none 0 0, .int .i64 0, .slice none 0 0] := by kernel_rfl
@[go_sem] theorem tag_81 : tag Tryz.prog 81 = some true := by kernel_rfl
@[go_sem] theorem tar_81 : tar Tryz.prog 81 = none := by kernel_rfl
@[go_sem] theorem tfo_81_0 : tfo Tryz.prog 81 0 = some (0, 40) := by kernel_rfl
@[go_sem] theorem tfo_81_1 : tfo Tryz.prog 81 1 = some (5, 3) := by kernel_rfl
@[go_sem] theorem tfo_81_2 : tfo Tryz.prog 81 2 = some (6, 67) := by kernel_rfl
@[go_sem] theorem tpl_81 : tpl Tryz.prog 81 = some [(0, 5), (5, 1), (6, 1)] := by kernel_rfl
@[go_sem] theorem tcs_81 : tcs Tryz.prog 81 = [(3, 1), (4, 1), (6, 1)] := by kernel_rfl
@[go_sem] theorem tkd_81 : tkd Tryz.prog 81 = some .other := by kernel_rfl
@[go_sem] theorem tsz_82 : tsz Tryz.prog 82 = some 1 := by kernel_rfl
@[go_sem] theorem tby_82 : tby Tryz.prog 82 = some 24 := by kernel_rfl
@[go_sem] theorem tze_82 : tze Tryz.prog 82 = some [.slice none 0 0] := by kernel_rfl
@[go_sem] theorem tag_82 : tag Tryz.prog 82 = some false := by kernel_rfl
@[go_sem] theorem tel_82 : tel Tryz.prog 82 = some 5 := by kernel_rfl
@[go_sem] theorem tar_82 : tar Tryz.prog 82 = none := by kernel_rfl
@[go_sem] theorem tcs_82 : tcs Tryz.prog 82 = [(0, 1)] := by kernel_rfl
@[go_sem] theorem tkd_82 : tkd Tryz.prog 82 = some (.slice 5) := by kernel_rfl
@[go_sem] theorem tsz_85 : tsz Tryz.prog 85 = some 3 := by kernel_rfl
@[go_sem] theorem tby_85 : tby Tryz.prog 85 = some 24 := by kernel_rfl
@[go_sem] theorem tze_85 : tze Tryz.prog 85 = some [.int .i64 0, .int .i64 0, .int .i64 0] := by kernel_rfl
@[go_sem] theorem tag_85 : tag Tryz.prog 85 = some true := by kernel_rfl
@[go_sem] theorem tar_85 : tar Tryz.prog 85 = none := by kernel_rfl
@[go_sem] theorem tfo_85_0 : tfo Tryz.prog 85 0 = some (0, 3) := by kernel_rfl
@[go_sem] theorem tfo_85_1 : tfo Tryz.prog 85 1 = some (1, 52) := by kernel_rfl
@[go_sem] theorem tpl_85 : tpl Tryz.prog 85 = some [(0, 1), (1, 2)] := by kernel_rfl
@[go_sem] theorem tcs_85 : tcs Tryz.prog 85 = [] := by kernel_rfl
@[go_sem] theorem tkd_85 : tkd Tryz.prog 85 = some .other := by kernel_rfl
@[go_sem] theorem tsz_86 : tsz Tryz.prog 86 = some 3 := by kernel_rfl
@[go_sem] theorem tby_86 : tby Tryz.prog 86 = some 24 := by kernel_rfl
@[go_sem] theorem tze_86 : tze Tryz.prog 86 = some [.int .i64 0, .int .i64 0, .int .i64 0] := by kernel_rfl
@[go_sem] theorem tag_86 : tag Tryz.prog 86 = some true := by kernel_rfl
@[go_sem] theorem tar_86 : tar Tryz.prog 86 = none := by kernel_rfl
@[go_sem] theorem tfo_86_0 : tfo Tryz.prog 86 0 = some (0, 3) := by kernel_rfl
@[go_sem] theorem tfo_86_1 : tfo Tryz.prog 86 1 = some (1, 52) := by kernel_rfl
@[go_sem] theorem tpl_86 : tpl Tryz.prog 86 = some [(0, 1), (1, 2)] := by kernel_rfl
@[go_sem] theorem tcs_86 : tcs Tryz.prog 86 = [] := by kernel_rfl
@[go_sem] theorem teq_86 : teq Tryz.prog 86 = some [(.int .i64), (.int .i64), (.int .i64)] := by kernel_rfl
@[go_sem] theorem tkd_86 : tkd Tryz.prog 86 = some .other := by kernel_rfl
@[go_sem] theorem tsz_87 : tsz Tryz.prog 87 = some 1 := by kernel_rfl
@[go_sem] theorem tby_87 : tby Tryz.prog 87 = some 24 := by kernel_rfl
@[go_sem] theorem tze_87 : tze Tryz.prog 87 = some [.slice none 0 0] := by kernel_rfl
@[go_sem] theorem tag_87 : tag Tryz.prog 87 = some false := by kernel_rfl
@[go_sem] theorem tel_87 : tel Tryz.prog 87 = some 97 := by kernel_rfl
@[go_sem] theorem tar_87 : tar Tryz.prog 87 = none := by kernel_rfl
@[go_sem] theorem tcs_87 : tcs Tryz.prog 87 = [(0, 5)] := by kernel_rfl
@[go_sem] theorem tkd_87 : tkd Tryz.prog 87 = some (.slice 97) := by kernel_rfl
@[go_sem] theorem tsz_88 : tsz Tryz.prog 88 = some 3 := by kernel_rfl
@[go_sem] theorem tby_88 : tby Tryz.prog 88 = some 72 := by kernel_rfl
@[go_sem] theorem tze_88 : tze Tryz.prog 88 = some [.slice none 0 0, .slice none 0 0, .slice none 0 0] := by kernel_rfl
@[go_sem] theorem tag_88 : tag Tryz.prog 88 = some true := by kernel_rfl
@[go_sem] theorem tar_88 : tar Tryz.prog 88 = none := by kernel_rfl
@[go_sem] theorem tfo_88_0 : tfo Tryz.prog 88 0 = some (0, 67) := by kernel_rfl
@[go_sem] theorem tfo_88_1 : tfo Tryz.prog 88 1 = some (1, 37) := by kernel_rfl
@[go_sem] theorem tfo_88_2 : tfo Tryz.prog 88 2 = some (2, 67) := by kernel_rfl
@[go_sem] theorem tpl_88 : tpl Tryz.prog 88 = some [(0, 1), (1, 1), (2, 1)] := by kernel_rfl
@[go_sem] theorem tcs_88 : tcs Tryz.prog 88 = [(0, 1), (1, 1), (2, 1)] := by kernel_rfl
@[go_sem] theorem tkd_88 : tkd Tryz.prog 88 = some .other := by kernel_rfl
@[go_sem] theorem tsz_89 : tsz Tryz.prog 89 = some 3 := by kernel_rfl
@[go_sem] theorem tby_89 : tby Tryz.prog 89 = some 72 := by kernel_rfl
@[go_sem] theorem tze_89 : tze Tryz.prog 89 = some [.slice none 0 0, .slice none 0 0, .slice none 0 0] := by kernel_rfl
@[go_sem] theorem tag_89 : tag Tryz.prog 89 = some true := by kernel_rfl
@[go_sem] theorem tar_89 : tar Tryz.prog 89 = none := by kernel_rfl
@[go_sem] theorem tfo_89_0 : tfo Tryz.prog 89 0 = some (0, 67) := by kernel_rfl
@[go_sem] theorem tfo_89_1 : tfo Tryz.prog 89 1 = some (1, 37) := by kernel_rfl
@[go_sem] theorem tfo_89_2 : tfo Tryz.prog 89 2 = some (2, 67) := by kernel_rfl
@[go_sem] theorem tpl_89 : tpl Tryz.prog 89 = some [(0, 1), (1, 1), (2, 1)] := by kernel_rfl
@[go_sem] theorem tcs_89 : tcs Tryz.prog 89 = [(0, 1), (1, 1), (2, 1)] := by kernel_rfl
@[go_sem] theorem tkd_89 : tkd Tryz.prog 89 = some .other := by kernel_rfl
@[go_sem] theorem tsz_92 : tsz Tryz.prog 92 = some 3 := by kernel_rfl
@[go_sem] theorem tby_92 : tby Tryz.prog 92 = some 72 := by kernel_rfl
@[go_sem] theorem tze_92 : tze Tryz.prog 92 = some [.slice none 0 0, .slice none 0 0, .slice none 0 0] := by kernel_rfl
@[go_sem] theorem tag_92 : tag Tryz.prog 92 = some true := by kernel_rfl
@[go_sem] theorem tar_92 : tar Tryz.prog 92 = none := by kernel_rfl
@[go_sem] theorem tfo_92_0 : tfo Tryz.prog 92 0 = some (0, 67) := by kernel_rfl
@[go_sem] theorem tfo_92_1 : tfo Tryz.prog 92 1 = some (1, 37) := by kernel_rfl
@[go_sem] theorem tfo_92_2 : tfo Tryz.prog 92 2 = some (2, 67) := by kernel_rfl
@[go_sem] theorem tpl_92 : tpl Tryz.prog 92 = some [(0, 1), (1, 1), (2, 1)] := by kernel_rfl
@[go_sem] theorem tcs_92 : tcs Tryz.prog 92 = [(0, 1), (1, 1), (2, 1)] := by kernel_rfl
@[go_sem] theorem tkd_92 : tkd Tryz.prog 92 = some .other := by kernel_rfl
@[go_sem] theorem tsz_96 : tsz Tryz.prog 96 = some 5 := by kernel_rfl
@[go_sem] theorem tby_96 : tby Tryz.prog 96 = some 40 := by kernel_rfl
@[go_sem] theorem tze_96 : tze Tryz.prog 96 = some [.int .i64 0, .int .i64 0, .int .i64 0, .int .i64 0, .int .i64 0] := by kernel_rfl
@[go_sem] theorem tag_96 : tag Tryz.prog 96 = some true := by kernel_rfl
@[go_sem] theorem tar_96 : tar Tryz.prog 96 = none := by kernel_rfl
@[go_sem] theorem tfo_96_0 : tfo Tryz.prog 96 0 = some (0, 3) := by kernel_rfl
@[go_sem] theorem tfo_96_1 : tfo Tryz.prog 96 1 = some (1, 3) := by kernel_rfl
@[go_sem] theorem tfo_96_2 : tfo Tryz.prog 96 2 = some (2, 3) := by kernel_rfl
@[go_sem] theorem tfo_96_3 : tfo Tryz.prog 96 3 = some (3, 3) := by kernel_rfl
@[go_sem] theorem tfo_96_4 : tfo Tryz.prog 96 4 = some (4, 3) := by kernel_rfl
@[go_sem] theorem tpl_96 : tpl Tryz.prog 96 = some [(0, 1), (1, 1), (2, 1), (3, 1), (4, 1)] := by kernel_rfl
@[go_sem] theorem tcs_96 : tcs Tryz.prog 96 = [] := by kernel_rfl
@[go_sem] theorem tkd_96 : tkd Tryz.prog 96 = some .other := by kernel_rfl
@[go_sem] theorem tsz_97 : tsz Tryz.prog 97 = some 5 := by kernel_rfl
@[go_sem] theorem tby_97 : tby Tryz.prog 97 = some 40 := by kernel_rfl
@[go_sem] theorem tze_97 : tze Tryz.prog 97 = some [.int .i64 0, .int .i64 0, .int .i64 0, .int .i64 0, .int .i64 0] := by kernel_rfl
@[go_sem] theorem tag_97 : tag Tryz.prog 97 = some true := by kernel_rfl
@[go_sem] theorem tar_97 : tar Tryz.prog 97 = none := by kernel_rfl
@[go_sem] theorem tfo_97_0 : tfo Tryz.prog 97 0 = some (0, 3) := by kernel_rfl
@[go_sem] theorem tfo_97_1 : tfo Tryz.prog 97 1 = some (1, 3) := by kernel_rfl
@[go_sem] theorem tfo_97_2 : tfo Tryz.prog 97 2 = some (2, 3) := by kernel_rfl
@[go_sem] theorem tfo_97_3 : tfo Tryz.prog 97 3 = some (3, 3) := by kernel_rfl
@[go_sem] theorem tfo_97_4 : tfo Tryz.prog 97 4 = some (4, 3) := by kernel_rfl
@[go_sem] theorem tpl_97 : tpl Tryz.prog 97 = some [(0, 1), (1, 1), (2, 1), (3, 1), (4, 1)] := by kernel_rfl
@[go_sem] theorem tcs_97 : tcs Tryz.prog 97 = [] := by kernel_rfl
@[go_sem] theorem teq_97 : teq Tryz.prog 97 = some [(.int .i64), (.int .i64), (.int .i64), (.int .i64), (.int .i64)] := by kernel_rfl
@[go_sem] theorem tkd_97 : tkd Tryz.prog 97 = some .other := by kernel_rfl
@[go_sem] theorem tsz_100 : tsz Tryz.prog 100 = some 5 := by kernel_rfl
@[go_sem] theorem tby_100 : tby Tryz.prog 100 = some 40 := by kernel_rfl
@[go_sem] theorem tze_100 : tze Tryz.prog 100 = some [.int .i64 0, .int .i64 0, .int .i64 0, .int .i64 0, .int .i64 0] := by kernel_rfl
@[go_sem] theorem tag_100 : tag Tryz.prog 100 = some true := by kernel_rfl
@[go_sem] theorem tar_100 : tar Tryz.prog 100 = none := by kernel_rfl
@[go_sem] theorem tfo_100_0 : tfo Tryz.prog 100 0 = some (0, 3) := by kernel_rfl
@[go_sem] theorem tfo_100_1 : tfo Tryz.prog 100 1 = some (1, 3) := by kernel_rfl
@[go_sem] theorem tfo_100_2 : tfo Tryz.prog 100 2 = some (2, 3) := by kernel_rfl
@[go_sem] theorem tfo_100_3 : tfo Tryz.prog 100 3 = some (3, 3) := by kernel_rfl
@[go_sem] theorem tfo_100_4 : tfo Tryz.prog 100 4 = some (4, 3) := by kernel_rfl
@[go_sem] theorem tpl_100 : tpl Tryz.prog 100 = some [(0, 1), (1, 1), (2, 1), (3, 1), (4, 1)] := by kernel_rfl
@[go_sem] theorem tcs_100 : tcs Tryz.prog 100 = [] := by kernel_rfl
@[go_sem] theorem teq_100 : teq Tryz.prog 100 = some [(.int .i64), (.int .i64), (.int .i64), (.int .i64), (.int .i64)] := by kernel_rfl
@[go_sem] theorem tkd_100 : tkd Tryz.prog 100 = some .other := by kernel_rfl
@[go_sem] theorem tsz_103 : tsz Tryz.prog 103 = some 2 := by kernel_rfl
@[go_sem] theorem tby_103 : tby Tryz.prog 103 = some 16 := by kernel_rfl
@[go_sem] theorem tze_103 : tze Tryz.prog 103 = some [.int .i64 0, .int .i64 0] := by kernel_rfl
@[go_sem] theorem tag_103 : tag Tryz.prog 103 = some true := by kernel_rfl
@[go_sem] theorem tar_103 : tar Tryz.prog 103 = some (2, 3) := by kernel_rfl
@[go_sem] theorem tpl_103 : tpl Tryz.prog 103 = none := by kernel_rfl
@[go_sem] theorem tcs_103 : tcs Tryz.prog 103 = [] := by kernel_rfl
@[go_sem] theorem teq_103 : teq Tryz.prog 103 = some [(.int .i64), (.int .i64)] := by kernel_rfl
@[go_sem] theorem tkey_103 : tkey Tryz.prog 103 = some (true, [(.int .i64), (.int .i64)]) := by kernel_rfl
@[go_sem] theorem tkd_103 : tkd Tryz.prog 103 = some .other := by kernel_rfl
@[go_sem] theorem tsz_110 : tsz Tryz.prog 110 = some 1 := by kernel_rfl
@[go_sem] theorem tby_110 : tby Tryz.prog 110 = some 24 := by kernel_rfl
@[go_sem] theorem tze_110 : tze Tryz.prog 110 = some [.slice none 0 0] := by kernel_rfl
@[go_sem] theorem tag_110 : tag Tryz.prog 110 = some false := by kernel_rfl
@[go_sem] theorem tel_110 : tel Tryz.prog 110 = some 116 := by kernel_rfl
@[go_sem] theorem tar_110 : tar Tryz.prog 110 = none := by kernel_rfl
@[go_sem] theorem tcs_110 : tcs Tryz.prog 110 = [(0, 4)] := by kernel_rfl
@[go_sem] theorem tkd_110 : tkd Tryz.prog 110 = some (.slice 116) := by kernel_rfl
@[go_sem] theorem tsz_111 : tsz Tryz.prog 111 = some 2 := by kernel_rfl
@[go_sem] theorem tby_111 : tby Tryz.prog 111 = some 32 := by kernel_rfl
@[go_sem] theorem tze_111 : tze Tryz.prog 111 = some [.int .i64 0, .slice none 0 0] := by kernel_rfl
@[go_sem] theorem tag_111 : tag Tryz.prog 111 = some true := by kernel_rfl
@[go_sem] theorem tar_111 : tar Tryz.prog 111 = none := by kernel_rfl
@[go_sem] theorem tfo_111_0 : tfo Tryz.prog 111 0 = some (0, 3) := by kernel_rfl
@[go_sem] theorem tfo_111_1 : tfo Tryz.prog 111 1 = some (1, 110) := by kernel_rfl
@[go_sem] theorem tpl_111 : tpl Tryz.prog 111 = some [(0, 1), (1, 1)] := by kernel_rfl
@[go_sem] theorem tcs_111 : tcs Tryz.prog 111 = [(1, 4)] := by kernel_rfl
@[go_sem] theorem tkd_111 : tkd Tryz.prog 111 = some .other := by kernel_rfl
@[go_sem] theorem tsz_112 : tsz Tryz.prog 112 = some 2 := by kernel_rfl
@[go_sem] theorem tby_112 : tby Tryz.prog 112 = some 32 := by kernel_rfl
@[go_sem] theorem tze_112 : tze Tryz.prog 112 = some [.int .i64 0, .slice none 0 0] := by kernel_rfl
@[go_sem] theorem tag_112 : tag Tryz.prog 112 = some true := by kernel_rfl
@[go_sem] theorem tar_112 : tar Tryz.prog 112 = none := by kernel_rfl
@[go_sem] theorem tfo_112_0 : tfo Tryz.prog 112 0 = some (0, 3) := by kernel_rfl
@[go_sem] theorem tfo_112_1 : tfo Tryz.prog 112 1 = some (1, 110) := by kernel_rfl
@[go_sem] theorem tpl_112 : tpl Tryz.prog 112 = some [(0, 1), (1, 1)] := by kernel_rfl
@[go_sem] theorem tcs_112 : tcs Tryz.prog 112 = [(1, 4)] := by kernel_rfl
@[go_sem] theorem tkd_112 : tkd Tryz.prog 112 = some .other := by kernel_rfl
@[go_sem] theorem tsz_113 : tsz Tryz.prog 113 = some 1 := by kernel_rfl
@[go_sem] theorem tby_113 : tby Tryz.prog 113 = some 24 := by kernel_rfl
@[go_sem] theorem tze_113 : tze Tryz.prog 113 = some [.slice none 0 0] := by kernel_rfl
@[go_sem] theorem tag_113 : tag Tryz.prog 113 = some false := by kernel_rfl
@[go_sem] theorem tel_113 : tel Tryz.prog 113 = some 144 := by kernel_rfl
@[go_sem] theorem tar_113 : tar Tryz.prog 113 = none := by kernel_rfl
@[go_sem] theorem tcs_113 : tcs Tryz.prog 113 = [(0, 2)] := by kernel_rfl
@[go_sem] theorem tkd_113 : tkd Tryz.prog 113 = some (.slice 144) := by kernel_rfl
@[go_sem] theorem tsz_114 : tsz Tryz.prog 114 = some 1 := by kernel_rfl
@[go_sem] theorem tby_114 : tby Tryz.prog 114 = some 24 := by kernel_rfl
@[go_sem] theorem tze_114 : tze Tryz.prog 114 = some [.slice none 0 0] := by kernel_rfl
@[go_sem] theorem tag_114 : tag Tryz.prog 114 = some false := by kernel_rfl
@[go_sem] theorem tel_114 : tel Tryz.prog 114 = some 170 := by kernel_rfl
@[go_sem] theorem tar_114 : tar Tryz.prog 114 = none := by kernel_rfl
@[go_sem] theorem tcs_114 : tcs Tryz.prog 114 = [(0, 3)] := by kernel_rfl
@[go_sem] theorem tkd_114 : tkd Tryz.prog 114 = some (.slice 170) := by kernel_rfl
@[go_sem] theorem tsz_115 : tsz Tryz.prog 115 = some 4 := by kernel_rfl
@[go_sem] theorem tby_115 : tby Tryz.prog 115 = some 80 := by kernel_rfl
@[go_sem] theorem tze_115 : tze Tryz.prog 115 = some [.int .i64 0, .slice none 0 0, .slice none 0 0, .slice none 0 0] := by kernel_rfl
@[go_sem] theorem tag_115 : tag Tryz.prog 115 = some true := by kernel_rfl
@[go_sem] theorem tar_115 : tar Tryz.prog 115 = none := by kernel_rfl
@[go_sem] theorem tfo_115_0 : tfo Tryz.prog 115 0 = some (0, 3) := by kernel_rfl
@[go_sem] theorem tfo_115_1 : tfo Tryz.prog 115 1 = some (1, 67) := by kernel_rfl
@[go_sem] theorem tfo_115_2 : tfo Tryz.prog 115 2 = some (2, 113) := by kernel_rfl
@[go_sem] theorem tfo_115_3 : tfo Tryz.prog 115 3 = some (3, 114) := by kernel_rfl
@[go_sem] theorem tpl_115 : tpl Tryz.prog 115 = some [(0, 1), (1, 1), (2, 1), (3, 1)] := by kernel_rfl
@[go_sem] theorem tcs_115 : tcs Tryz.prog 115 = [(1, 1), (2, 2), (3, 3)] := by kernel_rfl
@[go_sem] theorem tkd_115 : tkd Tryz.prog 115 = some .other := by kernel_rfl
@[go_sem] theorem tsz_116 : tsz Tryz.prog 116 = some 4 := by kernel_rfl
@[go_sem] theorem tby_116 : tby Tryz.prog 116 = some 80 := by kernel_rfl
@[go_sem] theorem tze_116 : tze Tryz.prog 116 = some [.int .i64 0, .slice none 0 0, .slice none 0 0, .slice none 0 0] := by kernel_rfl
@[go_sem] theorem tag_116 : tag Tryz.prog 116 = some true := by kernel_rfl
@[go_sem] theorem tar_116 : tar Tryz.prog 116 = none := by kernel_rfl
@[go_sem] theorem tfo_116_0 : tfo Tryz.prog 116 0 = some (0, 3) := by kernel_rfl
@[go_sem] theorem tfo_116_1 : tfo Tryz.prog 116 1 = some (1, 67) := by kernel_rfl
@[go_sem] theorem tfo_116_2 : tfo Tryz.prog 116 2 = some (2, 113) := by kernel_rfl
@[go_sem] theorem tfo_116_3 : tfo Tryz.prog 116 3 = some (3, 114) := by kernel_rfl
@[go_sem] theorem tpl_116 : tpl Tryz.prog 116 = some [(0, 1), (1, 1), (2, 1), (3, 1)] := by kernel_rfl
@[go_sem] theorem tcs_116 : tcs Tryz.prog 116 = [(1, 1), (2, 2), (3, 3)] := by kernel_rfl
@[go_sem] theorem tkd_116 : tkd Tryz.prog 116 = some .other := by kernel_rfl
@[go_sem] theorem tsz_121 : tsz Tryz.prog 121 = some 1 := by kernel_rfl
@[go_sem] theorem tby_121 : tby Tryz.prog 121 = some 24 := by kernel_rfl
@[go_sem] theorem tze_121 : tze Tryz.prog 121 = some [.slice none 0 0] := by kernel_rfl
@[go_sem] theorem tag_121 : tag Tryz.prog 121 = some false := by kernel_rfl
@[go_sem] theorem tel_121 : tel Tryz.prog 121 = some 166 := by kernel_rfl
@[go_sem] theorem tar_121 : tar Tryz.prog 121 = none := by kernel_rfl
@[go_sem] theorem tcs_121 : tcs Tryz.prog 121 = [(0, 4)] := by kernel_rfl
@[go_sem] theorem tkd_121 : tkd Tryz.prog 121 = some (.slice 166) := by kernel_rfl
@[go_sem] theorem tsz_122 : tsz Tryz.prog 122 = some 2 := by kernel_rfl
@[go_sem] theorem tby_122 : tby Tryz.prog 122 = some 32 := by kernel_rfl
@[go_sem] theorem tze_122 : tze Tryz.prog 122 = some [.int .i64 0, .slice none 0 0] := by kernel_rfl
@[go_sem] theorem tag_122 : tag Tryz.prog 122 = some true := by kernel_rfl
@[go_sem] theorem tar_122 : tar Tryz.prog 122 = none := by kernel_rfl
@[go_sem] theorem tfo_122_0 : tfo Tryz.prog 122 0 = some (0, 3) := by kernel_rfl
@[go_sem] theorem tfo_122_1 : tfo Tryz.prog 122 1 = some (1, 121) := by kernel_rfl
@[go_sem] theorem tpl_122 : tpl Tryz.prog 122 = some [(0, 1), (1, 1)] := by kernel_rfl
@[go_sem] theorem tcs_122 : tcs Tryz.prog 122 = [(1, 4)] := by kernel_rfl
@[go_sem] theorem tkd_122 : tkd Tryz.prog 122 = some .other := by kernel_rfl
@[go_sem] theorem tsz_123 : tsz Tryz.prog 123 = some 2 := by kernel_rfl
@[go_sem] theorem tby_123 : tby Tryz.prog 123 = some 32 := by kernel_rfl
@[go_sem] theorem tze_123 : tze Tryz.prog 123 = some [.int .i64 0, .slice none 0 0] := by kernel_rfl
@[go_sem] theorem tag_123 : tag Tryz.prog 123 = some true := by kernel_rfl
@[go_sem] theorem tar_123 : tar Tryz.prog 123 = none := by kernel_rfl
@[go_sem] theorem tfo_123_0 : tfo Tryz.prog 123 0 = some (0, 3) := by kernel_rfl
@[go_sem] theorem tfo_123_1 : tfo Tryz.prog 123 1 = some (1, 121) := by kernel_rfl
@[go_sem] theorem tpl_123 : tpl Tryz.prog 123 = some [(0, 1), (1, 1)] := by kernel_rfl
@[go_sem] theorem tcs_123 : tcs Tryz.prog 123 = [(1, 4)] := by kernel_rfl
@[go_sem] theorem tkd_123 : tkd Tryz.prog 123 = some .other := by kernel_rfl
@[go_sem] theorem tsz_128 : tsz Tryz.prog 128 = some 3 := by kernel_rfl
@[go_sem] theorem tby_128 : tby Tryz.prog 128 = some 24 := by kernel_rfl
@[go_sem] theorem tze_128 : tze Tryz.prog 128 = some [.int .i64 0, .int .i64 0, .int .i64 0] := by kernel_rfl
@[go_sem] theorem tag_128 : tag Tryz.prog 128 = some true := by kernel_rfl
@[go_sem] theorem tar_128 : tar Tryz.prog 128 = none := by kernel_rfl
@[go_sem] theorem tfo_128_0 : tfo Tryz.prog 128 0 = some (0, 3) := by kernel_rfl
@[go_sem] theorem tfo_128_1 : tfo Tryz.prog 128 1 = some (1, 52) := by kernel_rfl
@[go_sem] theorem tpl_128 : tpl Tryz.prog 128 = some [(0, 1), (1, 2)] := by kernel_rfl
@[go_sem] theorem tcs_128 : tcs Tryz.prog 128 = [] := by kernel_rfl
@[go_sem] theorem teq_128 : teq Tryz.prog 128 = some [(.int .i64), (.int .i64), (.int .i64)] := by kernel_rfl
@[go_sem] theorem tkd_128 : tkd Tryz.prog 128 = some .other := by kernel_rfl
@[go_sem] theorem tsz_131 : tsz Tryz.prog 131 = some 1 := by kernel_rfl
@[go_sem] theorem tby_131 : tby Tryz.prog 131 = some 24 := by kernel_rfl
@[go_sem] theorem tze_131 : tze Tryz.prog 131 = some [.slice none 0 0] := by kernel_rfl
@[go_sem] theorem tag_131 : tag Tryz.prog 131 = some false := by kernel_rfl
@[go_sem] theorem tel_131 : tel Tryz.prog 131 = some 138 := by kernel_rfl
@[go_sem] theorem tar_131 : tar Tryz.prog 131 = none := by kernel_rfl
@[go_sem] theorem tcs_131 : tcs Tryz.prog 131 = [(0, 2)] := by kernel_rfl
@[go_sem] theorem tkd_131 : tkd Tryz.prog 131 = some (.slice 138) := by kernel_rfl
@[go_sem] theorem tsz_132 : tsz Tryz.prog 132 = some 2 := by kernel_rfl
@[go_sem] theorem tby_132 : tby Tryz.prog 132 = some 32 := by kernel_rfl
@[go_sem] theorem tze_132 : tze Tryz.prog 132 = some [.int .i64 0, .slice none 0 0] := by kernel_rfl
@[go_sem] theorem tag_132 : tag Tryz.prog 132 = some true := by kernel_rfl
@[go_sem] theorem tar_132 : tar Tryz.prog 132 = none := by kernel_rfl
@[go_sem] theorem tfo_132_0 : tfo Tryz.prog 132 0 = some (0, 3) := by kernel_rfl
@[go_sem] theorem tfo_132_1 : tfo Tryz.prog 132 1 = some (1, 131) := by kernel_rfl
@[go_sem] theorem tpl_132 : tpl Tryz.prog 132 = some [(0, 1), (1, 1)] := by kernel_rfl
@[go_sem] theorem tcs_132 : tcs Tryz.prog 132 = [(1, 2)] := by kernel_rfl
@[go_sem] theorem tkd_132 : tkd Tryz.prog 132 = some .other := by kernel_rfl
@[go_sem] theorem tsz_133 : tsz Tryz.prog 133 = some 2 := by kernel_rfl
@[go_sem] theorem tby_133 : tby Tryz.prog 133 = some 32 := by kernel_rfl
@[go_sem] theorem tze_133 : tze Tryz.prog 133 = some [.int .i64 0, .slice none 0 0] := by kernel_rfl
@[go_sem] theorem tag_133 : tag Tryz.prog 133 = some true := by kernel_rfl
@[go_sem] theorem tar_133 : tar Tryz.prog 133 = none := by kernel_rfl
@[go_sem] theorem tfo_133_0 : tfo Tryz.prog 133 0 = some (0, 3) := by kernel_rfl
@[go_sem] theorem tfo_133_1 : tfo Tryz.prog 133 1 = some (1, 131) := by kernel_rfl
@[go_sem] theorem tpl_133 : tpl Tryz.prog 133 = some [(0, 1), (1, 1)] := by kernel_rfl
@[go_sem] theorem tcs_133 : tcs Tryz.prog 133 = [(1, 2)] := by kernel_rfl
@[go_sem] theorem tkd_133 : tkd Tryz.prog 133 = some .other := by kernel_rfl
@[go_sem] theorem tsz_137 : tsz Tryz.prog 137 = some 2 := by kernel_rfl
@[go_sem] theorem tby_137 : tby Tryz.prog 137 = some 16 := by kernel_rfl
@[go_sem] theorem tze_137 : tze Tryz.prog 137 = some [.int .i64 0, .int .i64 0] := by kernel_rfl
@[go_sem] theorem tag_137 : tag Tryz.prog 137 = some true := by kernel_rfl
@[go_sem] theorem tar_137 : tar Tryz.prog 137 = none := by kernel_rfl
@[go_sem] theorem tfo_137_0 : tfo Tryz.prog 137 0 = some (0, 3) := by kernel_rfl
@[go_sem] theorem tfo_137_1 : tfo Tryz.prog 137 1 = some (1, 3) := by kernel_rfl
@[go_sem] theorem tpl_137 : tpl Tryz.prog 137 = some [(0, 1), (1, 1)] := by kernel_rfl
@[go_sem] theorem tcs_137 : tcs Tryz.prog 137 = [] := by kernel_rfl
@[go_sem] theorem tkd_137 : tkd Tryz.prog 137 = some .other := by kernel_rfl
@[go_sem] theorem tsz_138 : tsz Tryz.prog 138 = some 2 := by kernel_rfl
@[go_sem] theorem tby_138 : tby Tryz.prog 138 = some 16 := by kernel_rfl
@[go_sem] theorem tze_138 : tze Tryz.prog 138 = some [.int .i64 0, .int .i64 0] := by kernel_rfl
@[go_sem] theorem tag_138 : tag Tryz.prog 138 = some true := by kernel_rfl
@[go_sem] theorem tar_138 : tar Tryz.prog 138 = none := by kernel_rfl
@[go_sem] theorem tfo_138_0 : tfo Tryz.prog 138 0 = some (0, 3) := by kernel_rfl
@[go_sem] theorem tfo_138_1 : tfo Tryz.prog 138 1 = some (1, 3) := by kernel_rfl
@[go_sem] theorem tpl_138 : tpl Tryz.prog 138 = some [(0, 1), (1, 1)] := by kernel_rfl
@[go_sem] theorem tcs_138 : tcs Tryz.prog 138 = [] := by kernel_rfl
@[go_sem] theorem teq_138 : teq Tryz.prog 138 = some [(.int .i64), (.int .i64)] := by kernel_rfl
@[go_sem] theorem tkd_138 : tkd Tryz.prog 138 = some .other := by kernel_rfl
@[go_sem] theorem tsz_142 : tsz Tryz.prog 142 = some 1 := by kernel_rfl
@[go_sem] theorem tby_142 : tby Tryz.prog 142 = some 24 := by kernel_rfl
@[go_sem] theorem tze_142 : tze Tryz.prog 142 = some [.slice none 0 0] := by kernel_rfl
@[go_sem] theorem tag_142 : tag Tryz.prog 142 = some false := by kernel_rfl
@[go_sem] theorem tel_142 : tel Tryz.prog 142 = some 149 := by kernel_rfl
@[go_sem] theorem tar_142 : tar Tryz.prog 142 = none := by kernel_rfl
@[go_sem] theorem tcs_142 : tcs Tryz.prog 142 = [(0, 2)] := by kernel_rfl
@[go_sem] theorem tkd_142 : tkd Tryz.prog 142 = some (.slice 149) := by kernel_rfl
@[go_sem] theorem tsz_143 : tsz Tryz.prog 143 = some 2 := by kernel_rfl
@[go_sem] theorem tby_143 : tby Tryz.prog 143 = some 32 := by kernel_rfl
@[go_sem] theorem tze_143 : tze Tryz.prog 143 = some [.int .i64 0, .slice none 0 0] := by kernel_rfl
@[go_sem] theorem tag_143 : tag Tryz.prog 143 = some true := by kernel_rfl
@[go_sem] theorem tar_143 : tar Tryz.prog 143 = none := by kernel_rfl
@[go_sem] theorem tfo_143_0 : tfo Tryz.prog 143 0 = some (0, 3) := by kernel_rfl
@[go_sem] theorem tfo_143_1 : tfo Tryz.prog 143 1 = some (1, 142) := by kernel_rfl
@[go_sem] theorem tpl_143 : tpl Tryz.prog 143 = some [(0, 1), (1, 1)] := by kernel_rfl
@[go_sem] theorem tcs_143 : tcs Tryz.prog 143 = [(1, 2)] := by kernel_rfl
@[go_sem] theorem tkd_143 : tkd Tryz.prog 143 = some .other := by kernel_rfl
@[go_sem] theorem tsz_144 : tsz Tryz.prog 144 = some 2 := by kernel_rfl
@[go_sem] theorem tby_144 : tby Tryz.prog 144 = some 32 := by kernel_rfl
@[go_sem] theorem tze_144 : tze Tryz.prog 144 = some [.int .i64 0, .slice none 0 0] := by kernel_rfl
@[go_sem] theorem tag_144 : tag Tryz.prog 144 = some true := by kernel_rfl
@[go_sem] theorem tar_144 : tar Tryz.prog 144 = none := by kernel_rfl
@[go_sem] theorem tfo_144_0 : tfo Tryz.prog 144 0 = some (0, 3) := by kernel_rfl
@[go_sem] theorem tfo_144_1 : tfo Tryz.prog 144 1 = some (1, 142) := by kernel_rfl
@[go_sem] theorem tpl_144 : tpl Tryz.prog 144 = some [(0, 1), (1, 1)] := by kernel_rfl
@[go_sem] theorem tcs_144 : tcs Tryz.prog 144 = [(1, 2)] := by kernel_rfl
@[go_sem] theorem tkd_144 : tkd Tryz.prog 144 = some .other := by kernel_rfl
@[go_sem] theorem tsz_149 : tsz Tryz.prog 149 = some 2 := by kernel_rfl
@[go_sem] theorem tby_149 : tby Tryz.prog 149 = some 16 := by kernel_rfl
@[go_sem] theorem tze_149 : tze Tryz.prog 149 = some [.int .i64 0, .int .i64 0] := by kernel_rfl
@[go_sem] theorem tag_149 : tag Tryz.prog 149 = some true := by kernel_rfl
@[go_sem] theorem tar_149 : tar Tryz.prog 149 = none := by kernel_rfl
@[go_sem] theorem tfo_149_0 : tfo Tryz.prog 149 0 = some (0, 3) := by kernel_rfl
@[go_sem] theorem tfo_149_1 : tfo Tryz.prog 149 1 = some (1, 3) := by kernel_rfl
@[go_sem] theorem tpl_149 : tpl Tryz.prog 149 = some [(0, 1), (1, 1)] := by kernel_rfl
@[go_sem] theorem tcs_149 : tcs Tryz.prog 149 = [] := by kernel_rfl
@[go_sem] theorem teq_149 : teq Tryz.prog 149 = some [(.int .i64), (.int .i64)] := by kernel_rfl
@[go_sem] theorem tkd_149 : tkd Tryz.prog 149 = some .other := by kernel_rfl
@[go_sem] theorem tsz_162 : tsz Tryz.prog 162 = some 1 := by kernel_rfl
@[go_sem] theorem tby_162 : tby Tryz.prog 162 = some 8 := by kernel_rfl
@[go_sem] theorem tze_162 : tze Tryz.prog 162 = some [.map none] := by kernel_rfl
@[go_sem] theorem tag_162 : tag Tryz.prog 162 = some false := by kernel_rfl
@[go_sem] theorem tar_162 : tar Tryz.prog 162 = none := by kernel_rfl
@[go_sem] theorem tcs_162 : tcs Tryz.prog 162 = [] := by kernel_rfl
@[go_sem] theorem tmp_162 : tmp Tryz.prog 162 = some (3, 95) := by kernel_rfl
@[go_sem] theorem tkd_162 : tkd Tryz.prog 162 = some (.map 3 95) := by kernel_rfl
@[go_sem] theorem tsz_163 : tsz Tryz.prog 163 = some 1 := by kernel_rfl
@[go_sem] theorem tby_163 : tby Tryz.prog 163 = some 24 := by kernel_rfl
@[go_sem] theorem tze_163 : tze Tryz.prog 163 = some [.slice none 0 0] := by kernel_rfl
@[go_sem] theorem tag_163 : tag Tryz.prog 163 = some false := by kernel_rfl
@[go_sem] theorem tel_163 : tel Tryz.prog 163 = some 133 := by kernel_rfl
@[go_sem] theorem tar_163 : tar Tryz.prog 163 = none := by kernel_rfl
@[go_sem] theorem tcs_163 : tcs Tryz.prog 163 = [(0, 2)] := by kernel_rfl
@[go_sem] theorem tkd_163 : tkd Tryz.prog 163 = some (.slice 133) := by kernel_rfl
@[go_sem] theorem tsz_164 : tsz Tryz.prog 164 = some 1 := by kernel_rfl
@[go_sem] theorem tby_164 : tby Tryz.prog 164 = some 24 := by kernel_rfl
@[go_sem] theorem tze_164 : tze Tryz.prog 164 = some [.slice none 0 0] := by kernel_rfl
@[go_sem] theorem tag_164 : tag Tryz.prog 164 = some false := by kernel_rfl
@[go_sem] theorem tel_164 : tel Tryz.prog 164 = some 181 := by kernel_rfl
@[go_sem] theorem tar_164 : tar Tryz.prog 164 = none := by kernel_rfl
@[go_sem] theorem tcs_164 : tcs Tryz.prog 164 = [(0, 3)] := by kernel_rfl
@[go_sem] theorem tkd_164 : tkd Tryz.prog 164 = some (.slice 181) := by kernel_rfl
@[go_sem] theorem tsz_165 : tsz Tryz.prog 165 = some 4 := by kernel_rfl
@[go_sem] theorem tby_165 : tby Tryz.prog 165 = some 80 := by kernel_rfl
@[go_sem] theorem tze_165 : tze Tryz.prog 165 = some [.int .i64 0, .slice none 0 0, .slice none 0 0, .slice none 0 0] := by kernel_rfl
@[go_sem] theorem tag_165 : tag Tryz.prog 165 = some true := by kernel_rfl
@[go_sem] theorem tar_165 : tar Tryz.prog 165 = none := by kernel_rfl
@[go_sem] theorem tfo_165_0 : tfo Tryz.prog 165 0 = some (0, 3) := by kernel_rfl
@[go_sem] theorem tfo_165_1 : tfo Tryz.prog 165 1 = some (1, 67) := by kernel_rfl
@[go_sem] theorem tfo_165_2 : tfo Tryz.prog 165 2 = some (2, 163) := by kernel_rfl
@[go_sem] theorem tfo_165_3 : tfo Tryz.prog 165 3 = some (3, 164) := by kernel_rfl
@[go_sem] theorem tpl_165 : tpl Tryz.prog 165 = some [(0, 1), (1, 1), (2, 1), (3, 1)] := by kernel_rfl
@[go_sem] theorem tcs_165 : tcs Tryz.prog 165 = [(1, 1), (2, 2), (3, 3)] := by kernel_rfl
@[go_sem] theorem tkd_165 : tkd Tryz.prog 165 = some .other := by kernel_rfl
@[go_sem] theorem tsz_166 : tsz Tryz.prog 166 = some 4 := by kernel_rfl
@[go_sem] theorem tby_166 : tby Tryz.prog 166 = some 80 := by kernel_rfl
@[go_sem] theorem tze_166 : tze Tryz.prog 166 = some [.int .i64 0, .slice none 0 0, .slice none 0 0, .slice none 0 0] := by kernel_rfl
@[go_sem] theorem tag_166 : tag Tryz.prog 166 = some true := by kernel_rfl
@[go_sem] theorem tar_166 : tar Tryz.prog 166 = none := by kernel_rfl
@[go_sem] theorem tfo_166_0 : tfo Tryz.prog 166 0 = some (0, 3) := by kernel_rfl
@[go_sem] theorem tfo_166_1 : tfo Tryz.prog 166 1 = some (1, 67) := by kernel_rfl
@[go_sem] theorem tfo_166_2 : tfo Tryz.prog 166 2 = some (2, 163) := by kernel_rfl
@[go_sem] theorem tfo_166_3 : tfo Tryz.prog 166 3 = some (3, 164) := by kernel_rfl
@[go_sem] theorem tpl_166 : tpl Tryz.prog 166 = some [(0, 1), (1, 1), (2, 1), (3, 1)] := by kernel_rfl
@[go_sem] theorem tcs_166 : tcs Tryz.prog 166 = [(1, 1), (2, 2), (3, 3)] := by kernel_rfl
@[go_sem] theorem tkd_166 : tkd Tryz.prog 166 = some .other := by kernel_rfl
@[go_sem] theorem tsz_169 : tsz Tryz.prog 169 = some 3 := by kernel_rfl
@[go_sem] theorem tby_169 : tby Tryz.prog 169 = some 24 := by kernel_rfl
@[go_sem] theorem tze_169 : tze Tryz.prog 169 = some [.int .i64 0, .int .i64 0, .int .i64 0] := by kernel_rfl
@[go_sem] theorem tag_169 : tag Tryz.prog 169 = some true := by kernel_rfl
@[go_sem] theorem tar_169 : tar Tryz.prog 169 = none := by kernel_rfl
@[go_sem] theorem tfo_169_0 : tfo Tryz.prog 169 0 = some (0, 3) := by kernel_rfl
@[go_sem] theorem tfo_169_1 : tfo Tryz.prog 169 1 = some (1, 3) := by kernel_rfl
@[go_sem] theorem tfo_169_2 : tfo Tryz.prog 169 2 = some (2, 3) := by kernel_rfl
@[go_sem] theorem tpl_169 : tpl Tryz.prog 169 = some [(0, 1), (1, 1), (2, 1)] := by kernel_rfl
@[go_sem] theorem tcs_169 : tcs Tryz.prog 169 = [] := by kernel_rfl
@[go_sem] theorem tkd_169 : tkd Tryz.prog 169 = some .other := by kernel_rfl
@[go_sem] theorem tsz_170 : tsz Tryz.prog 170 = some 3 := by kernel_rfl
@[go_sem] theorem tby_170 : tby Tryz.prog 170 = some 24 := by kernel_rfl
@[go_sem] theorem tze_170 : tze Tryz.prog 170 = some [.int .i64 0, .int .i64 0, .int .i64 0] := by kernel_rfl
@[go_sem] theorem tag_170 : tag Tryz.prog 170 = some true := by kernel_rfl
@[go_sem] theorem tar_170 : tar Tryz.prog 170 = none := by kernel_rfl
@[go_sem] theorem tfo_170_0 : tfo Tryz.prog 170 0 = some (0, 3) := by kernel_rfl
@[go_sem] theorem tfo_170_1 : tfo Tryz.prog 170 1 = some (1, 3) := by kernel_rfl
@[go_sem] theorem tfo_170_2 : tfo Tryz.prog 170 2 = some (2, 3) := by kernel_rfl
@[go_sem] theorem tpl_170 : tpl Tryz.prog 170 = some [(0, 1), (1, 1), (2, 1)] := by kernel_rfl
@[go_sem] theorem tcs_170 : tcs Tryz.prog 170 = [] := by kernel_rfl
@[go_sem] theorem teq_170 : teq Tryz.prog 170 = some [(.int .i64), (.int .i64), (.int .i64)] := by kernel_rfl
@[go_sem] theorem tkd_170 : tkd Tryz.prog 170 = some .other := by kernel_rfl
@[go_sem] theorem tsz_173 : tsz Tryz.prog 173 = some 9 := by kernel_rfl
@[go_sem] theorem tby_173 : tby Tryz.prog 173 = some 152 := by kernel_rfl
@[go_sem] theorem tze_173 : tze Tryz.prog 173 = some [.int .i64 0, .slice none 0 0, .slice none 0 0, .slice none 0 0, .int .i64 0, .int .i64 0, .slice none 0 0, .int .i64 0, .slice none 0 0] := by kernel_rfl
@[go_sem] theorem tag_173 : tag Tryz.prog 173 = some true := by kernel_rfl
@[go_sem] theorem tar_173 : tar Tryz.prog 173 = none := by kernel_rfl
@[go_sem] theorem tfo_173_0 : tfo Tryz.prog 173 0 = some (0, 166) := by kernel_rfl
@[go_sem] theorem tfo_173_1 : tfo Tryz.prog 173 1 = some (4, 3) := by kernel_rfl
@[go_sem] theorem tfo_173_2 : tfo Tryz.prog 173 2 = some (5, 123) := by kernel_rfl
@[go_sem] theorem tfo_173_3 : tfo Tryz.prog 173 3 = some (7, 24) := by kernel_rfl
@[go_sem] theorem tpl_173 : tpl Tryz.prog 173 = some [(0, 4), (4, 1), (5, 2), (7, 2)] := by kernel_rfl
@[go_sem] theorem tcs_173 : tcs Tryz.prog 173 = [(1, 1), (2, 2), (3, 3), (6, 4), (8, 2)] := by kernel_rfl
@[go_sem] theorem tkd_173 : tkd Tryz.prog 173 = some .other := by kernel_rfl
@[go_sem] theorem tsz_174 : tsz Tryz.prog 174 = some 9 := by kernel_rfl
@[go_sem] theorem tby_174 : tby Tryz.prog 174 = some 152 := by kernel_rfl
@[go_sem] theorem tze_174 : tze Tryz.prog 174 = some [.int .i64 0, .slice none 0 0, .slice none 0 0, .slice none 0 0, .int .i64 0, .int .i64 0, .slice none 0 0, .int .i64 0, .slice none 0 0] := by kernel_rfl
@[go_sem] theorem tag_174 : tag Tryz.prog 174 = some true := by kernel_rfl
@[go_sem] theorem tar_174 : tar Tryz.prog 174 = none := by kernel_rfl
@[go_sem] theorem tfo_174_0 : tfo Tryz.prog 174 0 = some (0, 166) := by kernel_rfl
@[go_sem] theorem tfo_174_1 : tfo Tryz.prog 174 1 = some (4, 3) := by kernel_rfl
@[go_sem] theorem tfo_174_2 : tfo Tryz.prog 174 2 = some (5, 123) := by kernel_rfl
@[go_sem] theorem tfo_174_3 : tfo Tryz.prog 174 3 = some (7, 24) := by kernel_rfl
@[go_sem] theorem tpl_174 : tpl Tryz.prog 174 = some [(0, 4), (4, 1), (5, 2), (7, 2)] := by kernel_rfl
@[go_sem] theorem tcs_174 : tcs Tryz.prog 174 = [(1, 1), (2, 2), (3, 3), (6, 4), (8, 2)] := by kernel_rfl
@[go_sem] theorem tkd_174 : tkd Tryz.prog 174 = some .other := by kernel_rfl
@[go_sem] theorem tsz_181 : tsz Tryz.prog 181 = some 3 := by kernel_rfl
@[go_sem] theorem tby_181 : tby Tryz.prog 181 = some 24 := by kernel_rfl
@[go_sem] theorem tze_181 : tze Tryz.prog 181 = some [.int .i64 0, .int .i64 0, .int .i64 0] := by kernel_rfl
@[go_sem] theorem tag_181 : tag Tryz.prog 181 = some true := by kernel_rfl
@[go_sem] theorem tar_181 : tar Tryz.prog 181 = none := by kernel_rfl
@[go_sem] theorem tfo_181_0 : tfo Tryz.prog 181 0 = some (0, 3) := by kernel_rfl
@[go_sem] theorem tfo_181_1 : tfo Tryz.prog 181 1 = some (1, 3) := by kernel_rfl
@[go_sem] theorem tfo_181_2 : tfo Tryz.prog 181 2 = some (2, 3) := by kernel_rfl
@[go_sem] theorem tpl_181 : tpl Tryz.prog 181 = some [(0, 1), (1, 1), (2, 1)] := by kernel_rfl
@[go_sem] theorem tcs_181 : tcs Tryz.prog 181 = [] := by kernel_rfl
@[go_sem] theorem teq_181 : teq Tryz.prog 181 = some [(.int .i64), (.int .i64), (.int .i64)] := by kernel_rfl
@[go_sem] theorem tkd_181 : tkd Tryz.prog 181 = some .other := by kernel_rfl
@[go_sem] theorem tsz_185 : tsz Tryz.prog 185 = some 1 := by kernel_rfl
@[go_sem] theorem tby_185 : tby Tryz.prog 185 = some 8 := by kernel_rfl
@[go_sem] theorem tze_185 : tze Tryz.prog 185 = some [.int .u64 0] := by kernel_rfl
@[go_sem] theorem tag_185 : tag Tryz.prog 185 = some false := by kernel_rfl
@[go_sem] theorem tar_185 : tar Tryz.prog 185 = none := by kernel_rfl
@[go_sem] theorem tcs_185 : tcs Tryz.prog 185 = [] := by kernel_rfl
@[go_sem] theorem tkd_185 : tkd Tryz.prog 185 = some (.int .u64) := by kernel_rfl
@[go_sem] theorem tsz_195 : tsz Tryz.prog 195 = some 1 := by kernel_rfl
@[go_sem] theorem tby_195 : tby Tryz.prog 195 = some 8 := by kernel_rfl
@[go_sem] theorem tze_195 : tze Tryz.prog 195 = some [.map none] := by kernel_rfl
@[go_sem] theorem tag_195 : tag Tryz.prog 195 = some false := by kernel_rfl
@[go_sem] theorem tar_195 : tar Tryz.prog 195 = none := by kernel_rfl
@[go_sem] theorem tcs_195 : tcs Tryz.prog 195 = [] := by kernel_rfl
@[go_sem] theorem tmp_195 : tmp Tryz.prog 195 = some (103, 3) := by kernel_rfl
@[go_sem] theorem tkd_195 : tkd Tryz.prog 195 = some (.map 103 3) := by kernel_rfl
@[go_sem] theorem tsz_197 : tsz Tryz.prog 197 = some 1 := by kernel_rfl
@[go_sem] theorem tby_197 : tby Tryz.prog 197 = some 8 := by kernel_rfl
@[go_sem] theorem tze_197 : tze Tryz.prog 197 = some [.nilFunc] := by kernel_rfl
@[go_sem] theorem tag_197 : tag Tryz.prog 197 = some true := by kernel_rfl
@[go_sem] theorem tar_197 : tar Tryz.prog 197 = none := by kernel_rfl
@[go_sem] theorem tfo_197_0 : tfo Tryz.prog 197 0 = some (0, 41) := by kernel_rfl
@[go_sem] theorem tpl_197 : tpl Tryz.prog 197 = some [(0, 1)] := by kernel_rfl
@[go_sem] theorem tcs_197 : tcs Tryz.prog 197 = [] := by kernel_rfl
@[go_sem] theorem tkd_197 : tkd Tryz.prog 197 = some .other := by kernel_rfl
@[go_sem] theorem tsz_198 : tsz Tryz.prog 198 = some 1 := by kernel_rfl
@[go_sem] theorem tby_198 : tby Tryz.prog 198 = some 8 := by kernel_rfl
@[go_sem] theorem tze_198 : tze Tryz.prog 198 = some [.nilFunc] := by kernel_rfl
@[go_sem] theorem tag_198 : tag Tryz.prog 198 = some true := by kernel_rfl
@[go_sem] theorem tar_198 : tar Tryz.prog 198 = none := by kernel_rfl
@[go_sem] theorem tfo_198_0 : tfo Tryz.prog 198 0 = some (0, 41) := by kernel_rfl
@[go_sem] theorem tpl_198 : tpl Tryz.prog 198 = some [(0, 1)] := by kernel_rfl
@[go_sem] theorem tcs_198 : tcs Tryz.prog 198 = [] := by kernel_rfl
@[go_sem] theorem tkd_198 : tkd Tryz.prog 198 = some .other := by kernel_rfl
@[go_sem] theorem tsz_199 : tsz Tryz.prog 199 = some 1 := by kernel_rfl
@[go_sem] theorem tby_199 : tby Tryz.prog 199 = some 24 := by kernel_rfl
@[go_sem] theorem tze_199 : tze Tryz.prog 199 = some [.slice none 0 0] := by kernel_rfl
@[go_sem] theorem tag_199 : tag Tryz.prog 199 = some false := by kernel_rfl
@[go_sem] theorem tel_199 : tel Tryz.prog 199 = some 198 := by kernel_rfl
@[go_sem] theorem tar_199 : tar Tryz.prog 199 = none := by kernel_rfl
@[go_sem] theorem tcs_199 : tcs Tryz.prog 199 = [(0, 1)] := by kernel_rfl
@[go_sem] theorem tkd_199 : tkd Tryz.prog 199 = some (.slice 198) := by kernel_rfl
@[go_sem] theorem tsz_216 : tsz Tryz.prog 216 = some 1 := by kernel_rfl
@[go_sem] theorem tby_216 : tby Tryz.prog 216 = some 4 := by kernel_rfl
@[go_sem] theorem tze_216 : tze Tryz.prog 216 = some [.int .u32 0] := by kernel_rfl
@[go_sem] theorem tag_216 : tag Tryz.prog 216 = some false := by kernel_rfl
@[go_sem] theorem tar_216 : tar Tryz.prog 216 = none := by kernel_rfl
@[go_sem] theorem tcs_216 : tcs Tryz.prog 216 = [] := by kernel_rfl
@[go_sem] theorem tkd_216 : tkd Tryz.prog 216 = some (.int .u32) := by kernel_rfl
@[go_sem] theorem tsz_219 : tsz Tryz.prog 219 = some 1 := by kernel_rfl
@[go_sem] theorem tby_219 : tby Tryz.prog 219 = some 8 := by kernel_rfl
@[go_sem] theorem tze_219 : tze Tryz.prog 219 = some [.int .u64 0] := by kernel_rfl
@[go_sem] theorem tag_219 : tag Tryz.prog 219 = some false := by kernel_rfl
@[go_sem] theorem tar_219 : tar Tryz.prog 219 = none := by kernel_rfl
@[go_sem] theorem tcs_219 : tcs Tryz.prog 219 = [] := by kernel_rfl
@[go_sem] theorem tkd_219 : tkd Tryz.prog 219 = some (.int .u64) := by kernel_rfl
@[go_sem] theorem tsz_232 : tsz Tryz.prog 232 = some 1 := by kernel_rfl
@[go_sem] theorem tby_232 : tby Tryz.prog 232 = some 8 := by kernel_rfl
@[go_sem] theorem tze_232 : tze Tryz.prog 232 = some [.pointer none] := by kernel_rfl
@[go_sem] theorem tag_232 : tag Tryz.prog 232 = some false := by kernel_rfl
@[go_sem] theorem tar_232 : tar Tryz.prog 232 = none := by kernel_rfl
@[go_sem] theorem tcs_232 : tcs Tryz.prog 232 = [] := by kernel_rfl
@[go_sem] theorem tptr_232 : tptr Tryz.prog 232 = true := by kernel_rfl
@[go_sem] theorem tkd_232 : tkd Tryz.prog 232 = some .other := by kernel_rfl
@[go_sem] theorem tsz_237 : tsz Tryz.prog 237 = some 1 := by kernel_rfl
@[go_sem] theorem tby_237 : tby Tryz.prog 237 = some 8 := by kernel_rfl
@[go_sem] theorem tze_237 : tze Tryz.prog 237 = some [.pointer none] := by kernel_rfl
@[go_sem] theorem tag_237 : tag Tryz.prog 237 = some false := by kernel_rfl
@[go_sem] theorem tar_237 : tar Tryz.prog 237 = none := by kernel_rfl
@[go_sem] theorem tcs_237 : tcs Tryz.prog 237 = [] := by kernel_rfl
@[go_sem] theorem tkd_237 : tkd Tryz.prog 237 = some .other := by kernel_rfl
@[go_sem] theorem fxk_3 : fxk Tryz.prog 3 = none := by kernel_rfl
@[go_sem] theorem fnOk_3 : fnOk Tryz.prog 3 = true := by kernel_rfl
@[go_sem] theorem fxk_4 : fxk Tryz.prog 4 = none := by kernel_rfl
@[go_sem] theorem fnOk_4 : fnOk Tryz.prog 4 = true := by kernel_rfl
@[go_sem] theorem fxk_5 : fxk Tryz.prog 5 = none := by kernel_rfl
@[go_sem] theorem fnOk_5 : fnOk Tryz.prog 5 = true := by kernel_rfl
@[go_sem] theorem fxk_6 : fxk Tryz.prog 6 = none := by kernel_rfl
@[go_sem] theorem fnOk_6 : fnOk Tryz.prog 6 = true := by kernel_rfl
@[go_sem] theorem fxk_7 : fxk Tryz.prog 7 = none := by kernel_rfl
@[go_sem] theorem fnOk_7 : fnOk Tryz.prog 7 = true := by kernel_rfl
@[go_sem] theorem fxk_8 : fxk Tryz.prog 8 = none := by kernel_rfl
@[go_sem] theorem fnOk_8 : fnOk Tryz.prog 8 = true := by kernel_rfl
@[go_sem] theorem fxk_9 : fxk Tryz.prog 9 = none := by kernel_rfl
@[go_sem] theorem fnOk_9 : fnOk Tryz.prog 9 = true := by kernel_rfl
@[go_sem] theorem fxk_10 : fxk Tryz.prog 10 = none := by kernel_rfl
@[go_sem] theorem fnOk_10 : fnOk Tryz.prog 10 = true := by kernel_rfl
@[go_sem] theorem fxk_11 : fxk Tryz.prog 11 = none := by kernel_rfl
@[go_sem] theorem fnOk_11 : fnOk Tryz.prog 11 = true := by kernel_rfl
@[go_sem] theorem fxk_12 : fxk Tryz.prog 12 = none := by kernel_rfl
@[go_sem] theorem fnOk_12 : fnOk Tryz.prog 12 = true := by kernel_rfl
@[go_sem] theorem fxk_13 : fxk Tryz.prog 13 = none := by kernel_rfl
@[go_sem] theorem fnOk_13 : fnOk Tryz.prog 13 = true := by kernel_rfl
@[go_sem] theorem fxk_14 : fxk Tryz.prog 14 = none := by kernel_rfl
@[go_sem] theorem fnOk_14 : fnOk Tryz.prog 14 = true := by kernel_rfl
@[go_sem] theorem fxk_15 : fxk Tryz.prog 15 = none := by kernel_rfl
@[go_sem] theorem fnOk_15 : fnOk Tryz.prog 15 = true := by kernel_rfl
@[go_sem] theorem fxk_16 : fxk Tryz.prog 16 = none := by kernel_rfl
@[go_sem] theorem fnOk_16 : fnOk Tryz.prog 16 = true := by kernel_rfl
@[go_sem] theorem fxk_17 : fxk Tryz.prog 17 = none := by kernel_rfl
@[go_sem] theorem fnOk_17 : fnOk Tryz.prog 17 = true := by kernel_rfl
@[go_sem] theorem fxk_18 : fxk Tryz.prog 18 = none := by kernel_rfl
@[go_sem] theorem fnOk_18 : fnOk Tryz.prog 18 = true := by kernel_rfl
@[go_sem] theorem fxk_19 : fxk Tryz.prog 19 = none := by kernel_rfl
@[go_sem] theorem fnOk_19 : fnOk Tryz.prog 19 = true := by kernel_rfl
@[go_sem] theorem fxk_20 : fxk Tryz.prog 20 = none := by kernel_rfl
@[go_sem] theorem fnOk_20 : fnOk Tryz.prog 20 = true := by kernel_rfl
@[go_sem] theorem fxk_21 : fxk Tryz.prog 21 = none := by kernel_rfl
@[go_sem] theorem fnOk_21 : fnOk Tryz.prog 21 = true := by kernel_rfl
@[go_sem] theorem fxk_22 : fxk Tryz.prog 22 = none := by kernel_rfl
@[go_sem] theorem fnOk_22 : fnOk Tryz.prog 22 = true := by kernel_rfl
@[go_sem] theorem fxk_23 : fxk Tryz.prog 23 = none := by kernel_rfl
@[go_sem] theorem fnOk_23 : fnOk Tryz.prog 23 = true := by kernel_rfl
@[go_sem] theorem fxk_24 : fxk Tryz.prog 24 = none := by kernel_rfl
@[go_sem] theorem fnOk_24 : fnOk Tryz.prog 24 = true := by kernel_rfl
@[go_sem] theorem fxk_25 : fxk Tryz.prog 25 = none := by kernel_rfl
@[go_sem] theorem fnOk_25 : fnOk Tryz.prog 25 = true := by kernel_rfl
@[go_sem] theorem fxk_26 : fxk Tryz.prog 26 = none := by kernel_rfl
@[go_sem] theorem fnOk_26 : fnOk Tryz.prog 26 = true := by kernel_rfl
@[go_sem] theorem fxk_27 : fxk Tryz.prog 27 = none := by kernel_rfl
@[go_sem] theorem fnOk_27 : fnOk Tryz.prog 27 = true := by kernel_rfl
@[go_sem] theorem fxk_28 : fxk Tryz.prog 28 = none := by kernel_rfl
@[go_sem] theorem fnOk_28 : fnOk Tryz.prog 28 = true := by kernel_rfl
@[go_sem] theorem fxk_29 : fxk Tryz.prog 29 = none := by kernel_rfl
@[go_sem] theorem fnOk_29 : fnOk Tryz.prog 29 = true := by kernel_rfl
@[go_sem] theorem fxk_30 : fxk Tryz.prog 30 = none := by kernel_rfl
@[go_sem] theorem fnOk_30 : fnOk Tryz.prog 30 = true := by kernel_rfl
@[go_sem] theorem fxk_31 : fxk Tryz.prog 31 = none := by kernel_rfl
@[go_sem] theorem fnOk_31 : fnOk Tryz.prog 31 = true := by kernel_rfl
@[go_sem] theorem fxk_32 : fxk Tryz.prog 32 = none := by kernel_rfl
@[go_sem] theorem fnOk_32 : fnOk Tryz.prog 32 = true := by kernel_rfl
@[go_sem] theorem fxk_33 : fxk Tryz.prog 33 = none := by kernel_rfl
@[go_sem] theorem fnOk_33 : fnOk Tryz.prog 33 = true := by kernel_rfl
@[go_sem] theorem fxk_34 : fxk Tryz.prog 34 = none := by kernel_rfl
@[go_sem] theorem fnOk_34 : fnOk Tryz.prog 34 = true := by kernel_rfl
@[go_sem] theorem fxk_35 : fxk Tryz.prog 35 = none := by kernel_rfl
@[go_sem] theorem fnOk_35 : fnOk Tryz.prog 35 = true := by kernel_rfl
@[go_sem] theorem fxk_36 : fxk Tryz.prog 36 = none := by kernel_rfl
@[go_sem] theorem fnOk_36 : fnOk Tryz.prog 36 = true := by kernel_rfl
@[go_sem] theorem fxk_37 : fxk Tryz.prog 37 = none := by kernel_rfl
@[go_sem] theorem fnOk_37 : fnOk Tryz.prog 37 = true := by kernel_rfl
@[go_sem] theorem fxk_38 : fxk Tryz.prog 38 = none := by kernel_rfl
@[go_sem] theorem fnOk_38 : fnOk Tryz.prog 38 = true := by kernel_rfl
@[go_sem] theorem fxk_39 : fxk Tryz.prog 39 = none := by kernel_rfl
@[go_sem] theorem fnOk_39 : fnOk Tryz.prog 39 = true := by kernel_rfl
@[go_sem] theorem fxk_40 : fxk Tryz.prog 40 = none := by kernel_rfl
@[go_sem] theorem fnOk_40 : fnOk Tryz.prog 40 = true := by kernel_rfl
@[go_sem] theorem fxk_41 : fxk Tryz.prog 41 = none := by kernel_rfl
@[go_sem] theorem fnOk_41 : fnOk Tryz.prog 41 = true := by kernel_rfl
@[go_sem] theorem fxk_42 : fxk Tryz.prog 42 = none := by kernel_rfl
@[go_sem] theorem fnOk_42 : fnOk Tryz.prog 42 = true := by kernel_rfl
@[go_sem] theorem fxk_43 : fxk Tryz.prog 43 = none := by kernel_rfl
@[go_sem] theorem fnOk_43 : fnOk Tryz.prog 43 = true := by kernel_rfl
@[go_sem] theorem fxk_44 : fxk Tryz.prog 44 = none := by kernel_rfl
@[go_sem] theorem fnOk_44 : fnOk Tryz.prog 44 = true := by kernel_rfl
@[go_sem] theorem fxk_45 : fxk Tryz.prog 45 = none := by kernel_rfl
@[go_sem] theorem fnOk_45 : fnOk Tryz.prog 45 = true := by kernel_rfl
@[go_sem] theorem fxk_46 : fxk Tryz.prog 46 = none := by kernel_rfl
@[go_sem] theorem fnOk_46 : fnOk Tryz.prog 46 = true := by kernel_rfl
@[go_sem] theorem fxk_47 : fxk Tryz.prog 47 = none := by kernel_rfl
@[go_sem] theorem fnOk_47 : fnOk Tryz.prog 47 = true := by kernel_rfl
@[go_sem] theorem fxk_48 : fxk Tryz.prog 48 = none := by kernel_rfl
@[go_sem] theorem fnOk_48 : fnOk Tryz.prog 48 = true := by kernel_rfl
@[go_sem] theorem fxk_49 : fxk Tryz.prog 49 = none := by kernel_rfl
@[go_sem] theorem fnOk_49 : fnOk Tryz.prog 49 = true := by kernel_rfl
@[go_sem] theorem fxk_50 : fxk Tryz.prog 50 = none := by kernel_rfl
@[go_sem] theorem fnOk_50 : fnOk Tryz.prog 50 = true := by kernel_rfl
@[go_sem] theorem fxk_51 : fxk Tryz.prog 51 = none := by kernel_rfl
@[go_sem] theorem fnOk_51 : fnOk Tryz.prog 51 = true := by kernel_rfl
@[go_sem] theorem fxk_52 : fxk Tryz.prog 52 = none := by kernel_rfl
@[go_sem] theorem fnOk_52 : fnOk Tryz.prog 52 = true := by kernel_rfl
@[go_sem] theorem fxk_53 : fxk Tryz.prog 53 = none := by kernel_rfl
@[go_sem] theorem fnOk_53 : fnOk Tryz.prog 53 = true := by kernel_rfl
@[go_sem] theorem fxk_54 : fxk Tryz.prog 54 = none := by kernel_rfl
@[go_sem] theorem fnOk_54 : fnOk Tryz.prog 54 = true := by kernel_rfl
@[go_sem] theorem fxk_55 : fxk Tryz.prog 55 = none := by kernel_rfl
@[go_sem] theorem fnOk_55 : fnOk Tryz.prog 55 = true := by kernel_rfl
@[go_sem] theorem fxk_56 : fxk Tryz.prog 56 = none := by kernel_rfl
@[go_sem] theorem fnOk_56 : fnOk Tryz.prog 56 = true := by kernel_rfl
@[go_sem] theorem fxk_57 : fxk Tryz.prog 57 = none := by kernel_rfl
@[go_sem] theorem fnOk_57 : fnOk Tryz.prog 57 = true := by kernel_rfl
@[go_sem] theorem fxk_58 : fxk Tryz.prog 58 = none := by kernel_rfl
@[go_sem] theorem fnOk_58 : fnOk Tryz.prog 58 = true := by kernel_rfl
@[go_sem] theorem fxk_59 : fxk Tryz.prog 59 = none := by kernel_rfl
@[go_sem] theorem fnOk_59 : fnOk Tryz.prog 59 = true := by kernel_rfl
@[go_sem] theorem fxk_60 : fxk Tryz.prog 60 = none := by kernel_rfl
@[go_sem] theorem fnOk_60 : fnOk Tryz.prog 60 = true := by kernel_rfl
@[go_sem] theorem fxk_61 : fxk Tryz.prog 61 = none := by kernel_rfl
@[go_sem] theorem fnOk_61 : fnOk Tryz.prog 61 = true := by kernel_rfl
@[go_sem] theorem fxk_62 : fxk Tryz.prog 62 = none := by kernel_rfl
@[go_sem] theorem fnOk_62 : fnOk Tryz.prog 62 = true := by kernel_rfl
@[go_sem] theorem fxk_63 : fxk Tryz.prog 63 = none := by kernel_rfl
@[go_sem] theorem fnOk_63 : fnOk Tryz.prog 63 = true := by kernel_rfl
@[go_sem] theorem fxk_64 : fxk Tryz.prog 64 = none := by kernel_rfl
@[go_sem] theorem fnOk_64 : fnOk Tryz.prog 64 = true := by kernel_rfl
@[go_sem] theorem fxk_65 : fxk Tryz.prog 65 = none := by kernel_rfl
@[go_sem] theorem fnOk_65 : fnOk Tryz.prog 65 = true := by kernel_rfl
@[go_sem] theorem fxk_66 : fxk Tryz.prog 66 = none := by kernel_rfl
@[go_sem] theorem fnOk_66 : fnOk Tryz.prog 66 = true := by kernel_rfl
@[go_sem] theorem fxk_67 : fxk Tryz.prog 67 = none := by kernel_rfl
@[go_sem] theorem fnOk_67 : fnOk Tryz.prog 67 = true := by kernel_rfl
@[go_sem] theorem fxk_68 : fxk Tryz.prog 68 = none := by kernel_rfl
@[go_sem] theorem fnOk_68 : fnOk Tryz.prog 68 = true := by kernel_rfl
@[go_sem] theorem fxk_69 : fxk Tryz.prog 69 = none := by kernel_rfl
@[go_sem] theorem fnOk_69 : fnOk Tryz.prog 69 = true := by kernel_rfl
@[go_sem] theorem fxk_70 : fxk Tryz.prog 70 = none := by kernel_rfl
@[go_sem] theorem fnOk_70 : fnOk Tryz.prog 70 = true := by kernel_rfl
@[go_sem] theorem fxk_71 : fxk Tryz.prog 71 = none := by kernel_rfl
@[go_sem] theorem fnOk_71 : fnOk Tryz.prog 71 = true := by kernel_rfl
@[go_sem] theorem fxk_72 : fxk Tryz.prog 72 = none := by kernel_rfl
@[go_sem] theorem fnOk_72 : fnOk Tryz.prog 72 = true := by kernel_rfl
@[go_sem] theorem fxk_73 : fxk Tryz.prog 73 = none := by kernel_rfl
@[go_sem] theorem fnOk_73 : fnOk Tryz.prog 73 = true := by kernel_rfl
@[go_sem] theorem fxk_74 : fxk Tryz.prog 74 = none := by kernel_rfl
@[go_sem] theorem fnOk_74 : fnOk Tryz.prog 74 = true := by kernel_rfl
@[go_sem] theorem fxk_75 : fxk Tryz.prog 75 = none := by kernel_rfl
@[go_sem] theorem fnOk_75 : fnOk Tryz.prog 75 = true := by kernel_rfl
@[go_sem] theorem fxk_76 : fxk Tryz.prog 76 = none := by kernel_rfl
@[go_sem] theorem fnOk_76 : fnOk Tryz.prog 76 = true := by kernel_rfl
@[go_sem] theorem fxk_77 : fxk Tryz.prog 77 = none := by kernel_rfl
@[go_sem] theorem fnOk_77 : fnOk Tryz.prog 77 = true := by kernel_rfl
@[go_sem] theorem fxk_78 : fxk Tryz.prog 78 = none := by kernel_rfl
@[go_sem] theorem fnOk_78 : fnOk Tryz.prog 78 = true := by kernel_rfl
@[go_sem] theorem fxk_79 : fxk Tryz.prog 79 = none := by kernel_rfl
@[go_sem] theorem fnOk_79 : fnOk Tryz.prog 79 = true := by kernel_rfl
@[go_sem] theorem fxk_80 : fxk Tryz.prog 80 = none := by kernel_rfl
@[go_sem] theorem fnOk_80 : fnOk Tryz.prog 80 = true := by kernel_rfl
@[go_sem] theorem fxk_81 : fxk Tryz.prog 81 = none := by kernel_rfl
@[go_sem] theorem fnOk_81 : fnOk Tryz.prog 81 = true := by kernel_rfl
@[go_sem] theorem fxk_82 : fxk Tryz.prog 82 = none := by kernel_rfl
@[go_sem] theorem fnOk_82 : fnOk Tryz.prog 82 = true := by kernel_rfl
@[go_sem] theorem fxk_83 : fxk Tryz.prog 83 = none := by kernel_rfl
@[go_sem] theorem fnOk_83 : fnOk Tryz.prog 83 = true := by kernel_rfl
@[go_sem] theorem fxk_84 : fxk Tryz.prog 84 = none := by kernel_rfl
@[go_sem] theorem fnOk_84 : fnOk Tryz.prog 84 = true := by kernel_rfl
@[go_sem] theorem fxk_85 : fxk Tryz.prog 85 = none := by kernel_rfl
@[go_sem] theorem fnOk_85 : fnOk Tryz.prog 85 = true := by kernel_rfl
@[go_sem] theorem fxk_86 : fxk Tryz.prog 86 = none := by kernel_rfl
@[go_sem] theorem fnOk_86 : fnOk Tryz.prog 86 = true := by kernel_rfl
@[go_sem] theorem fxk_87 : fxk Tryz.prog 87 = none := by kernel_rfl
@[go_sem] theorem fnOk_87 : fnOk Tryz.prog 87 = true := by kernel_rfl
@[go_sem] theorem fxk_88 : fxk Tryz.prog 88 = none := by kernel_rfl
@[go_sem] theorem fnOk_88 : fnOk Tryz.prog 88 = true := by kernel_rfl
@[go_sem] theorem fxk_89 : fxk Tryz.prog 89 = none := by kernel_rfl
@[go_sem] theorem fnOk_89 : fnOk Tryz.prog 89 = true := by kernel_rfl
@[go_sem] theorem fxk_90 : fxk Tryz.prog 90 = none := by kernel_rfl
@[go_sem] theorem fnOk_90 : fnOk Tryz.prog 90 = true := by kernel_rfl
@[go_sem] theorem fxk_91 : fxk Tryz.prog 91 = none := by kernel_rfl
@[go_sem] theorem fnOk_91 : fnOk Tryz.prog 91 = true := by kernel_rfl
@[go_sem] theorem fxk_92 : fxk Tryz.prog 92 = none := by kernel_rfl
@[go_sem] theorem fnOk_92 : fnOk Tryz.prog 92 = true := by kernel_rfl
@[go_sem] theorem fxk_93 : fxk Tryz.prog 93 = none := by kernel_rfl
@[go_sem] theorem fnOk_93 : fnOk Tryz.prog 93 = true := by kernel_rfl
@[go_sem] theorem fxk_94 : fxk Tryz.prog 94 = none := by kernel_rfl
@[go_sem] theorem fnOk_94 : fnOk Tryz.prog 94 = true := by kernel_rfl
@[go_sem] theorem fxk_95 : fxk Tryz.prog 95 = none := by kernel_rfl
@[go_sem] theorem fnOk_95 : fnOk Tryz.prog 95 = true := by kernel_rfl
@[go_sem] theorem fxk_96 : fxk Tryz.prog 96 = none := by kernel_rfl
@[go_sem] theorem fxk_97 : fxk Tryz.prog 97 = none := by kernel_rfl
@[go_sem] theorem fnOk_97 : fnOk Tryz.prog 97 = true := by kernel_rfl
@[go_sem] theorem fxk_98 : fxk Tryz.prog 98 = none := by kernel_rfl
@[go_sem] theorem fnOk_98 : fnOk Tryz.prog 98 = true := by kernel_rfl
@[go_sem] theorem fxk_99 : fxk Tryz.prog 99 = none := by kernel_rfl
@[go_sem] theorem fnOk_99 : fnOk Tryz.prog 99 = true := by kernel_rfl
@[go_sem] theorem fxk_100 : fxk Tryz.prog 100 = none := by kernel_rfl
@[go_sem] theorem fnOk_100 : fnOk Tryz.prog 100 = true := by kernel_rfl
@[go_sem] theorem fxk_101 : fxk Tryz.prog 101 = none := by kernel_rfl
@[go_sem] theorem fnOk_101 : fnOk Tryz.prog 101 = true := by kernel_rfl
@[go_sem] theorem fxk_102 : fxk Tryz.prog 102 = none := by kernel_rfl
@[go_sem] theorem fnOk_102 : fnOk Tryz.prog 102 = true := by kernel_rfl
@[go_sem] theorem fxk_103 : fxk Tryz.prog 103 = none := by kernel_rfl
@[go_sem] theorem fnOk_103 : fnOk Tryz.prog 103 = true := by kernel_rfl
@[go_sem] theorem fxk_104 : fxk Tryz.prog 104 = none := by kernel_rfl
@[go_sem] theorem fnOk_104 : fnOk Tryz.prog 104 = true := by kernel_rfl
@[go_sem] theorem fxk_105 : fxk Tryz.prog 105 = none := by kernel_rfl
@[go_sem] theorem fnOk_105 : fnOk Tryz.prog 105 = true := by kernel_rfl
@[go_sem] theorem fxk_106 : fxk Tryz.prog 106 = none := by kernel_rfl
@[go_sem] theorem fnOk_106 : fnOk Tryz.prog 106 = true := by kernel_rfl
@[go_sem] theorem fxk_107 : fxk Tryz.prog 107 = none := by kernel_rfl
@[go_sem] theorem fnOk_107 : fnOk Tryz.prog 107 = true := by kernel_rfl
@[go_sem] theorem fxk_108 : fxk Tryz.prog 108 = none := by kernel_rfl
@[go_sem] theorem fnOk_108 : fnOk Tryz.prog 108 = true := by kernel_rfl
@[go_sem] theorem fxk_109 : fxk Tryz.prog 109 = none := by kernel_rfl
@[go_sem] theorem fnOk_109 : fnOk Tryz.prog 109 = true := by kernel_rfl
@[go_sem] theorem fxk_110 : fxk Tryz.prog 110 = none := by kernel_rfl
@[go_sem] theorem fnOk_110 : fnOk Tryz.prog 110 = true := by kernel_rfl
@[go_sem] theorem fxk_111 : fxk Tryz.prog 111 = none := by kernel_rfl
@[go_sem] theorem fnOk_111 : fnOk Tryz.prog 111 = true := by kernel_rfl
@[go_sem] theorem fxk_112 : fxk Tryz.prog 112 = none := by kernel_rfl
@[go_sem] theorem fnOk_112 : fnOk Tryz.prog 112 = true := by kernel_rfl
@[go_sem] theorem fxk_113 : fxk Tryz.prog 113 = none := by kernel_rfl
@[go_sem] theorem fnOk_113 : fnOk Tryz.prog 113 = true := by kernel_rfl
@[go_sem] theorem fxk_114 : fxk Tryz.prog 114 = none := by kernel_rfl
@[go_sem] theorem fnOk_114 : fnOk Tryz.prog 114 = true := by kernel_rfl
@[go_sem] theorem fxk_115 : fxk Tryz.prog 115 = none := by kernel_rfl
@[go_sem] theorem fnOk_115 : fnOk Tryz.prog 115 = true := by kernel_rfl
@[go_sem] theorem fxk_116 : fxk Tryz.prog 116 = none := by kernel_rfl
@[go_sem] theorem fnOk_116 : fnOk Tryz.prog 116 = true := by kernel_rfl
@[go_sem] theorem fxk_117 : fxk Tryz.prog 117 = none := by kernel_rfl
@[go_sem] theorem fnOk_117 : fnOk Tryz.prog 117 = true := by kernel_rfl
@[go_sem] theorem fxk_118 : fxk Tryz.prog 118 = none := by kernel_rfl
@[go_sem] theorem fnOk_118 : fnOk Tryz.prog 118 = true := by kernel_rfl
@[go_sem] theorem fxk_119 : fxk Tryz.prog 119 = none := by kernel_rfl
@[go_sem] theorem fnOk_119 : fnOk Tryz.prog 119 = true := by kernel_rfl
@[go_sem] theorem fxk_120 : fxk Tryz.prog 120 = none := by kernel_rfl
@[go_sem] theorem fnOk_120 : fnOk Tryz.prog 120 = true := by kernel_rfl
@[go_sem] theorem fxk_121 : fxk Tryz.prog 121 = none := by kernel_rfl
@[go_sem] theorem fnOk_121 : fnOk Tryz.prog 121 = true := by kernel_rfl
@[go_sem] theorem fxk_122 : fxk Tryz.prog 122 = none := by kernel_rfl
@[go_sem] theorem fnOk_122 : fnOk Tryz.prog 122 = true := by kernel_rfl
@[go_sem] theorem fxk_123 : fxk Tryz.prog 123 = none := by kernel_rfl
@[go_sem] theorem fnOk_123 : fnOk Tryz.prog 123 = true := by kernel_rfl
@[go_sem] theorem fxk_124 : fxk Tryz.prog 124 = none := by kernel_rfl
@[go_sem] theorem fnOk_124 : fnOk Tryz.prog 124 = true := by kernel_rfl
@[go_sem] theorem fxk_125 : fxk Tryz.prog 125 = none := by kernel_rfl
@[go_sem] theorem fnOk_125 : fnOk Tryz.prog 125 = true := by kernel_rfl
@[go_sem] theorem fxk_126 : fxk Tryz.prog 126 = none := by kernel_rfl
@[go_sem] theorem fnOk_126 : fnOk Tryz.prog 126 = true := by kernel_rfl
@[go_sem] theorem fxk_127 : fxk Tryz.prog 127 = none := by kernel_rfl
@[go_sem] theorem fnOk_127 : fnOk Tryz.prog 127 = true := by kernel_rfl
@[go_sem] theorem fxk_128 : fxk Tryz.prog 128 = none := by kernel_rfl
@[go_sem] theorem fnOk_128 : fnOk Tryz.prog 128 = true := by kernel_rfl
@[go_sem] theorem fxk_129 : fxk Tryz.prog 129 = none := by kernel_rfl
@[go_sem] theorem fnOk_129 : fnOk Tryz.prog 129 = true := by kernel_rfl
@[go_sem] theorem fxk_130 : fxk Tryz.prog 130 = none := by kernel_rfl
@[go_sem] theorem fnOk_130 : fnOk Tryz.prog 130 = true := by kernel_rfl
@[go_sem] theorem fxk_131 : fxk Tryz.prog 131 = none := by kernel_rfl
@[go_sem] theorem fnOk_131 : fnOk Tryz.prog 131 = true := by kernel_rfl
@[go_sem] theorem fxk_132 : fxk Tryz.prog 132 = none := by kernel_rfl
@[go_sem] theorem fnOk_132 : fnOk Tryz.prog 132 = true := by kernel_rfl
@[go_sem] theorem fxk_133 : fxk Tryz.prog 133 = none := by kernel_rfl
@[go_sem] theorem fnOk_133 : fnOk Tryz.prog 133 = true := by kernel_rfl
theorem mixed : Tryz.prog.follows .mixedOrders = true := by kernel_rfl
end Go.Proofs.HO

attribute [go_sem] Go.Proofs.Tryz.ntmps3 Go.Proofs.Tryz.results3 Go.Proofs.Tryz.ntmps4 Go.Proofs.Tryz.results4 Go.Proofs.Tryz.ntmps5 Go.Proofs.Tryz.results5 Go.Proofs.Tryz.ntmps6 Go.Proofs.Tryz.results6 Go.Proofs.Tryz.ntmps7 Go.Proofs.Tryz.results7 Go.Proofs.Tryz.ntmps8 Go.Proofs.Tryz.results8 Go.Proofs.Tryz.ntmps9 Go.Proofs.Tryz.results9 Go.Proofs.Tryz.ntmps10 Go.Proofs.Tryz.results10 Go.Proofs.Tryz.ntmps11 Go.Proofs.Tryz.results11 Go.Proofs.Tryz.ntmps12 Go.Proofs.Tryz.results12 Go.Proofs.Tryz.ntmps13 Go.Proofs.Tryz.results13 Go.Proofs.Tryz.ntmps14 Go.Proofs.Tryz.results14 Go.Proofs.Tryz.ntmps15 Go.Proofs.Tryz.results15 Go.Proofs.Tryz.ntmps16 Go.Proofs.Tryz.results16 Go.Proofs.Tryz.ntmps17 Go.Proofs.Tryz.results17 Go.Proofs.Tryz.ntmps18 Go.Proofs.Tryz.results18 Go.Proofs.Tryz.ntmps19 Go.Proofs.Tryz.results19 Go.Proofs.Tryz.ntmps20 Go.Proofs.Tryz.results20 Go.Proofs.Tryz.ntmps21 Go.Proofs.Tryz.results21 Go.Proofs.Tryz.ntmps22 Go.Proofs.Tryz.results22 Go.Proofs.Tryz.ntmps23 Go.Proofs.Tryz.results23 Go.Proofs.Tryz.ntmps24 Go.Proofs.Tryz.results24 Go.Proofs.Tryz.ntmps25 Go.Proofs.Tryz.results25 Go.Proofs.Tryz.ntmps26 Go.Proofs.Tryz.results26 Go.Proofs.Tryz.ntmps27 Go.Proofs.Tryz.results27 Go.Proofs.Tryz.ntmps28 Go.Proofs.Tryz.results28 Go.Proofs.Tryz.ntmps29 Go.Proofs.Tryz.results29 Go.Proofs.Tryz.ntmps30 Go.Proofs.Tryz.results30 Go.Proofs.Tryz.ntmps31 Go.Proofs.Tryz.results31 Go.Proofs.Tryz.ntmps32 Go.Proofs.Tryz.results32 Go.Proofs.Tryz.ntmps33 Go.Proofs.Tryz.results33 Go.Proofs.Tryz.ntmps34 Go.Proofs.Tryz.results34 Go.Proofs.Tryz.ntmps35 Go.Proofs.Tryz.results35 Go.Proofs.Tryz.ntmps36 Go.Proofs.Tryz.results36 Go.Proofs.Tryz.ntmps37 Go.Proofs.Tryz.results37 Go.Proofs.Tryz.ntmps38 Go.Proofs.Tryz.results38 Go.Proofs.Tryz.ntmps39 Go.Proofs.Tryz.results39 Go.Proofs.Tryz.ntmps40 Go.Proofs.Tryz.results40 Go.Proofs.Tryz.ntmps41 Go.Proofs.Tryz.results41 Go.Proofs.Tryz.ntmps42 Go.Proofs.Tryz.results42 Go.Proofs.Tryz.ntmps43 Go.Proofs.Tryz.results43 Go.Proofs.Tryz.ntmps44 Go.Proofs.Tryz.results44 Go.Proofs.Tryz.ntmps45 Go.Proofs.Tryz.results45 Go.Proofs.Tryz.ntmps46 Go.Proofs.Tryz.results46 Go.Proofs.Tryz.ntmps47 Go.Proofs.Tryz.results47 Go.Proofs.Tryz.ntmps48 Go.Proofs.Tryz.results48 Go.Proofs.Tryz.ntmps49 Go.Proofs.Tryz.results49 Go.Proofs.Tryz.ntmps50 Go.Proofs.Tryz.results50 Go.Proofs.Tryz.ntmps51 Go.Proofs.Tryz.results51 Go.Proofs.Tryz.ntmps52 Go.Proofs.Tryz.results52 Go.Proofs.Tryz.ntmps53 Go.Proofs.Tryz.results53 Go.Proofs.Tryz.ntmps54 Go.Proofs.Tryz.results54 Go.Proofs.Tryz.ntmps55 Go.Proofs.Tryz.results55 Go.Proofs.Tryz.ntmps56 Go.Proofs.Tryz.results56 Go.Proofs.Tryz.ntmps57 Go.Proofs.Tryz.results57 Go.Proofs.Tryz.ntmps58 Go.Proofs.Tryz.results58 Go.Proofs.Tryz.ntmps59 Go.Proofs.Tryz.results59 Go.Proofs.Tryz.ntmps60 Go.Proofs.Tryz.results60 Go.Proofs.Tryz.ntmps61 Go.Proofs.Tryz.results61 Go.Proofs.Tryz.ntmps62 Go.Proofs.Tryz.results62 Go.Proofs.Tryz.ntmps63 Go.Proofs.Tryz.results63 Go.Proofs.Tryz.ntmps64 Go.Proofs.Tryz.results64 Go.Proofs.Tryz.ntmps65 Go.Proofs.Tryz.results65 Go.Proofs.Tryz.ntmps66 Go.Proofs.Tryz.results66 Go.Proofs.Tryz.ntmps67 Go.Proofs.Tryz.results67 Go.Proofs.Tryz.ntmps68 Go.Proofs.Tryz.results68 Go.Proofs.Tryz.ntmps69 Go.Proofs.Tryz.results69 Go.Proofs.Tryz.ntmps70 Go.Proofs.Tryz.results70 Go.Proofs.Tryz.ntmps71 Go.Proofs.Tryz.results71 Go.Proofs.Tryz.ntmps72 Go.Proofs.Tryz.results72 Go.Proofs.Tryz.ntmps73 Go.Proofs.Tryz.results73 Go.Proofs.Tryz.ntmps74 Go.Proofs.Tryz.results74 Go.Proofs.Tryz.ntmps75 Go.Proofs.Tryz.results75 Go.Proofs.Tryz.ntmps76 Go.Proofs.Tryz.results76 Go.Proofs.Tryz.ntmps77 Go.Proofs.Tryz.results77 Go.Proofs.Tryz.ntmps78 Go.Proofs.Tryz.results78 Go.Proofs.Tryz.ntmps79 Go.Proofs.Tryz.results79 Go.Proofs.Tryz.ntmps80 Go.Proofs.Tryz.results80 Go.Proofs.Tryz.ntmps81 Go.Proofs.Tryz.results81 Go.Proofs.Tryz.ntmps82 Go.Proofs.Tryz.results82 Go.Proofs.Tryz.ntmps83 Go.Proofs.Tryz.results83 Go.Proofs.Tryz.ntmps84 Go.Proofs.Tryz.results84 Go.Proofs.Tryz.ntmps85 Go.Proofs.Tryz.results85 Go.Proofs.Tryz.ntmps86 Go.Proofs.Tryz.results86 Go.Proofs.Tryz.ntmps87 Go.Proofs.Tryz.results87 Go.Proofs.Tryz.ntmps88 Go.Proofs.Tryz.results88 Go.Proofs.Tryz.ntmps89 Go.Proofs.Tryz.results89 Go.Proofs.Tryz.ntmps90 Go.Proofs.Tryz.results90 Go.Proofs.Tryz.ntmps91 Go.Proofs.Tryz.results91 Go.Proofs.Tryz.ntmps92 Go.Proofs.Tryz.results92 Go.Proofs.Tryz.ntmps93 Go.Proofs.Tryz.results93 Go.Proofs.Tryz.ntmps94 Go.Proofs.Tryz.results94 Go.Proofs.Tryz.ntmps95 Go.Proofs.Tryz.results95 Go.Proofs.Tryz.ntmps96 Go.Proofs.Tryz.results96 Go.Proofs.Tryz.ntmps97 Go.Proofs.Tryz.results97 Go.Proofs.Tryz.ntmps98 Go.Proofs.Tryz.results98 Go.Proofs.Tryz.ntmps99 Go.Proofs.Tryz.results99 Go.Proofs.Tryz.ntmps100 Go.Proofs.Tryz.results100 Go.Proofs.Tryz.ntmps101 Go.Proofs.Tryz.results101 Go.Proofs.Tryz.ntmps102 Go.Proofs.Tryz.results102 Go.Proofs.Tryz.ntmps103 Go.Proofs.Tryz.results103 Go.Proofs.Tryz.ntmps104 Go.Proofs.Tryz.results104 Go.Proofs.Tryz.ntmps105 Go.Proofs.Tryz.results105 Go.Proofs.Tryz.ntmps106 Go.Proofs.Tryz.results106 Go.Proofs.Tryz.ntmps107 Go.Proofs.Tryz.results107 Go.Proofs.Tryz.ntmps108 Go.Proofs.Tryz.results108 Go.Proofs.Tryz.ntmps109 Go.Proofs.Tryz.results109 Go.Proofs.Tryz.ntmps110 Go.Proofs.Tryz.results110 Go.Proofs.Tryz.ntmps111 Go.Proofs.Tryz.results111 Go.Proofs.Tryz.ntmps112 Go.Proofs.Tryz.results112 Go.Proofs.Tryz.ntmps113 Go.Proofs.Tryz.results113 Go.Proofs.Tryz.ntmps114 Go.Proofs.Tryz.results114 Go.Proofs.Tryz.ntmps115 Go.Proofs.Tryz.results115 Go.Proofs.Tryz.ntmps116 Go.Proofs.Tryz.results116 Go.Proofs.Tryz.ntmps117 Go.Proofs.Tryz.results117 Go.Proofs.Tryz.ntmps118 Go.Proofs.Tryz.results118 Go.Proofs.Tryz.ntmps119 Go.Proofs.Tryz.results119 Go.Proofs.Tryz.ntmps120 Go.Proofs.Tryz.results120 Go.Proofs.Tryz.ntmps121 Go.Proofs.Tryz.results121 Go.Proofs.Tryz.ntmps122 Go.Proofs.Tryz.results122 Go.Proofs.Tryz.ntmps123 Go.Proofs.Tryz.results123 Go.Proofs.Tryz.ntmps124 Go.Proofs.Tryz.results124 Go.Proofs.Tryz.ntmps125 Go.Proofs.Tryz.results125 Go.Proofs.Tryz.ntmps126 Go.Proofs.Tryz.results126 Go.Proofs.Tryz.ntmps127 Go.Proofs.Tryz.results127 Go.Proofs.Tryz.ntmps128 Go.Proofs.Tryz.results128 Go.Proofs.Tryz.ntmps129 Go.Proofs.Tryz.results129 Go.Proofs.Tryz.ntmps130 Go.Proofs.Tryz.results130 Go.Proofs.Tryz.ntmps131 Go.Proofs.Tryz.results131 Go.Proofs.Tryz.ntmps132 Go.Proofs.Tryz.results132 Go.Proofs.Tryz.ntmps133 Go.Proofs.Tryz.results133

namespace Go.Idl
theorem zW {p q : Prop} (hq : q) (h : p = q := by (simp (maxSteps := 2000000) only [go_sem, ↓reduceIte, ↓reduceDIte, reduceCtorEq, Nat.reducePow, Nat.reduceEqDiff, Nat.reduceAdd, Nat.reduceSub, Nat.reduceMul, Nat.reduceMod, Nat.reduceLeDiff, Nat.reduceLT, Nat.reduceBEq, Nat.reduceBNe, Int.reduceLT, Int.reduceLE, Int.reduceToNat, Int.reduceNeg, Int.reduceAdd, Int.reduceSub, Int.reduceMul, Int.reduceBEq, Int.reduceBNe, Int.reduceEq]; rfl)) : p := h.mpr hq
theorem zO {p q : Prop} (hq : q) (h : p = q := by (simp (maxSteps := 2000000) (disch := omega) only [go_sem, ↓reduceIte, ↓reduceDIte, reduceCtorEq, Nat.reducePow, Nat.reduceEqDiff, Nat.reduceAdd, Nat.reduceSub, Nat.reduceMul, Nat.reduceMod, Nat.reduceLeDiff, Nat.reduceLT, Nat.reduceBEq, Nat.reduceBNe, Int.reduceLT, Int.reduceLE, Int.reduceToNat, Int.reduceNeg, Int.reduceAdd, Int.reduceSub, Int.reduceMul, Int.reduceBEq, Int.reduceBNe, Int.reduceEq, if_pos, if_neg, w64, beqT, beqF, bneT, bneF, pr_get, ir_get, decide_eq_true, decide_eq_false]; rfl)) : p := h.mpr hq
theorem zT {p : Prop} (h : p := by simp (maxSteps := 2000000) only [go_sem, ↓reduceIte, ↓reduceDIte, reduceCtorEq, Nat.reducePow, Nat.reduceEqDiff, Nat.reduceAdd, Nat.reduceSub, Nat.reduceMul, Nat.reduceMod, Nat.reduceLeDiff, Nat.reduceLT, Nat.reduceBEq, Nat.reduceBNe, Int.reduceLT, Int.reduceLE, Int.reduceToNat, Int.reduceNeg, Int.reduceAdd, Int.reduceSub, Int.reduceMul, Int.reduceBEq, Int.reduceBNe, Int.reduceEq]) : p := h
theorem zU {p : Prop} (h : p := by simp (maxSteps := 2000000) (disch := omega) only [go_sem, ↓reduceIte, ↓reduceDIte, reduceCtorEq, Nat.reducePow, Nat.reduceEqDiff, Nat.reduceAdd, Nat.reduceSub, Nat.reduceMul, Nat.reduceMod, Nat.reduceLeDiff, Nat.reduceLT, Nat.reduceBEq, Nat.reduceBNe, Int.reduceLT, Int.reduceLE, Int.reduceToNat, Int.reduceNeg, Int.reduceAdd, Int.reduceSub, Int.reduceMul, Int.reduceBEq, Int.reduceBNe, Int.reduceEq, if_pos, if_neg, w64, beqT, beqF, bneT, bneF, pr_get, ir_get, decide_eq_true, decide_eq_false]) : p := h
theorem zB {p : Prop} (h : p := by first | trivial | (simp (maxSteps := 2000000) only [go_sem, ↓reduceIte, ↓reduceDIte, reduceCtorEq, Nat.reducePow, Nat.reduceEqDiff, Nat.reduceAdd, Nat.reduceSub, Nat.reduceMul, Nat.reduceMod, Nat.reduceLeDiff, Nat.reduceLT, Nat.reduceBEq, Nat.reduceBNe, Int.reduceLT, Int.reduceLE, Int.reduceToNat, Int.reduceNeg, Int.reduceAdd, Int.reduceSub, Int.reduceMul, Int.reduceBEq, Int.reduceBNe, Int.reduceEq]; done) | (split <;> simp (maxSteps := 2000000) only [go_sem, ↓reduceIte, ↓reduceDIte, reduceCtorEq, Nat.reducePow, Nat.reduceEqDiff, Nat.reduceAdd, Nat.reduceSub, Nat.reduceMul, Nat.reduceMod, Nat.reduceLeDiff, Nat.reduceLT, Nat.reduceBEq, Nat.reduceBNe, Int.reduceLT, Int.reduceLE, Int.reduceToNat, Int.reduceNeg, Int.reduceAdd, Int.reduceSub, Int.reduceMul, Int.reduceBEq, Int.reduceBNe, Int.reduceEq])) : p := h
theorem zC {p : Prop} (h : p := by first | trivial | (simp (maxSteps := 2000000) only [go_sem, ↓reduceIte, ↓reduceDIte, reduceCtorEq, Nat.reducePow, Nat.reduceEqDiff, Nat.reduceAdd, Nat.reduceSub, Nat.reduceMul, Nat.reduceMod, Nat.reduceLeDiff, Nat.reduceLT, Nat.reduceBEq, Nat.reduceBNe, Int.reduceLT, Int.reduceLE, Int.reduceToNat, Int.reduceNeg, Int.reduceAdd, Int.reduceSub, Int.reduceMul, Int.reduceBEq, Int.reduceBNe, Int.reduceEq]; done) | (simp (maxSteps := 2000000) (disch := omega) only [go_sem, ↓reduceIte, ↓reduceDIte, reduceCtorEq, Nat.reducePow, Nat.reduceEqDiff, Nat.reduceAdd, Nat.reduceSub, Nat.reduceMul, Nat.reduceMod, Nat.reduceLeDiff, Nat.reduceLT, Nat.reduceBEq, Nat.reduceBNe, Int.reduceLT, Int.reduceLE, Int.reduceToNat, Int.reduceNeg, Int.reduceAdd, Int.reduceSub, Int.reduceMul, Int.reduceBEq, Int.reduceBNe, Int.reduceEq, if_pos, if_neg, w64, beqT, beqF, bneT, bneF, pr_get, ir_get, decide_eq_true, decide_eq_false]; done) | (split <;> simp (maxSteps := 2000000) (disch := omega) only [go_sem, ↓reduceIte, ↓reduceDIte, reduceCtorEq, Nat.reducePow, Nat.reduceEqDiff, Nat.reduceAdd, Nat.reduceSub, Nat.reduceMul, Nat.reduceMod, Nat.reduceLeDiff, Nat.reduceLT, Nat.reduceBEq, Nat.reduceBNe, Int.reduceLT, Int.reduceLE, Int.reduceToNat, Int.reduceNeg, Int.reduceAdd, Int.reduceSub, Int.reduceMul, Int.reduceBEq, Int.reduceBNe, Int.reduceEq, if_pos, if_neg, w64, beqT, beqF, bneT, bneF, pr_get, ir_get, decide_eq_true, decide_eq_false])) : p := h
theorem zL {p : Prop} (h : p := by first | exact Nat.zero_le _ | exact Nat.le_refl _ | omega | exact Nat.le_of_ble_eq_true rfl) : p := h
end Go.Idl
