/- Facts that the proofs of this claim lean on. -/
import Derived.Test.YteebghpjgcacmaaGreatIdNl
import Derived.Test.YteebghpjgcacmaaGreatProg
set_option linter.unusedSimpArgs false
set_option linter.unusedVariables false
namespace Go.Proofs.GY
open Go Go.Idl Go.Proofs
@[go_sem] theorem tsz_2 : tsz Tryz.prog 2 = some 1 := by kernel_rfl
@[go_sem] theorem tby_2 : tby Tryz.prog 2 = some 8 := by kernel_rfl
@[go_sem] theorem tze_2 : tze Tryz.prog 2 = some [.int .i64 0] := by kernel_rfl
@[go_sem] theorem tag_2 : tag Tryz.prog 2 = some false := by kernel_rfl
@[go_sem] theorem tar_2 : tar Tryz.prog 2 = none := by kernel_rfl
@[go_sem] theorem tcs_2 : tcs Tryz.prog 2 = [] := by kernel_rfl
@[go_sem] theorem tkd_2 : tkd Tryz.prog 2 = some (.int .i64) := by kernel_rfl
@[go_sem] theorem tsz_3 : tsz Tryz.prog 3 = some 1 := by kernel_rfl
@[go_sem] theorem tby_3 : tby Tryz.prog 3 = some 8 := by kernel_rfl
@[go_sem] theorem tze_3 : tze Tryz.prog 3 = some [.int .i64 0] := by kernel_rfl
@[go_sem] theorem tag_3 : tag Tryz.prog 3 = some false := by kernel_rfl
@[go_sem] theorem tar_3 : tar Tryz.prog 3 = none := by kernel_rfl
@[go_sem] theorem tcs_3 : tcs Tryz.prog 3 = [] := by kernel_rfl
@[go_sem] theorem tkey_3 : tkey Tryz.prog 3 = some (false, [(.int .i64)]) := by kernel_rfl
@[go_sem] theorem tkd_3 : tkd Tryz.prog 3 = some (.int .i64) := by kernel_rfl
@[go_sem] theorem tsz_4 : tsz Tryz.prog 4 = some 1 := by kernel_rfl
@[go_sem] theorem tby_4 : tby Tryz.prog 4 = some 1 := by kernel_rfl
@[go_sem] theorem tze_4 : tze Tryz.prog 4 = some [.bool false] := by kernel_rfl
@[go_sem] theorem tag_4 : tag Tryz.prog 4 = some false := by kernel_rfl
@[go_sem] theorem tar_4 : tar Tryz.prog 4 = none := by kernel_rfl
@[go_sem] theorem tcs_4 : tcs Tryz.prog 4 = [] := by kernel_rfl
@[go_sem] theorem tkd_4 : tkd Tryz.prog 4 = some .bool := by kernel_rfl
@[go_sem] theorem tsz_5 : tsz Tryz.prog 5 = some 1 := by kernel_rfl
@[go_sem] theorem tby_5 : tby Tryz.prog 5 = some 1 := by kernel_rfl
@[go_sem] theorem tze_5 : tze Tryz.prog 5 = some [.int .u8 0] := by kernel_rfl
@[go_sem] theorem tag_5 : tag Tryz.prog 5 = some false := by kernel_rfl
@[go_sem] theorem tar_5 : tar Tryz.prog 5 = none := by kernel_rfl
@[go_sem] theorem tcs_5 : tcs Tryz.prog 5 = [] := by kernel_rfl
@[go_sem] theorem tkd_5 : tkd Tryz.prog 5 = some (.int .u8) := by kernel_rfl
@[go_sem] theorem tsz_9 : tsz Tryz.prog 9 = some 1 := by kernel_rfl
@[go_sem] theorem tby_9 : tby Tryz.prog 9 = some 16 := by kernel_rfl
@[go_sem] theorem tze_9 : tze Tryz.prog 9 = some [.string ByteArray.empty] := by kernel_rfl
@[go_sem] theorem tag_9 : tag Tryz.prog 9 = some false := by kernel_rfl
@[go_sem] theorem tar_9 : tar Tryz.prog 9 = none := by kernel_rfl
@[go_sem] theorem tcs_9 : tcs Tryz.prog 9 = [] := by kernel_rfl
@[go_sem] theorem tkd_9 : tkd Tryz.prog 9 = some .string := by kernel_rfl
@[go_sem] theorem tsz_12 : tsz Tryz.prog 12 = some 1 := by kernel_rfl
@[go_sem] theorem tby_12 : tby Tryz.prog 12 = some 8 := by kernel_rfl
@[go_sem] theorem tze_12 : tze Tryz.prog 12 = some [.int .u64 0] := by kernel_rfl
@[go_sem] theorem tag_12 : tag Tryz.prog 12 = some false := by kernel_rfl
@[go_sem] theorem tar_12 : tar Tryz.prog 12 = none := by kernel_rfl
@[go_sem] theorem tcs_12 : tcs Tryz.prog 12 = [] := by kernel_rfl
@[go_sem] theorem tkd_12 : tkd Tryz.prog 12 = some (.int .u64) := by kernel_rfl
@[go_sem] theorem tsz_13 : tsz Tryz.prog 13 = some 2 := by kernel_rfl
@[go_sem] theorem tby_13 : tby Tryz.prog 13 = some 24 := by kernel_rfl
@[go_sem] theorem tze_13 : tze Tryz.prog 13 = some [.string ByteArray.empty, .int .u64 0] := by kernel_rfl
@[go_sem] theorem tag_13 : tag Tryz.prog 13 = some true := by kernel_rfl
@[go_sem] theorem tar_13 : tar Tryz.prog 13 = none := by kernel_rfl
@[go_sem] theorem tfo_13_0 : tfo Tryz.prog 13 0 = some (0, 9) := by kernel_rfl
@[go_sem] theorem tfo_13_1 : tfo Tryz.prog 13 1 = some (1, 12) := by kernel_rfl
@[go_sem] theorem tpl_13 : tpl Tryz.prog 13 = some [(0, 1), (1, 1)] := by kernel_rfl
@[go_sem] theorem tcs_13 : tcs Tryz.prog 13 = [] := by kernel_rfl
@[go_sem] theorem tkd_13 : tkd Tryz.prog 13 = some .other := by kernel_rfl
@[go_sem] theorem tsz_20 : tsz Tryz.prog 20 = some 1 := by kernel_rfl
@[go_sem] theorem tby_20 : tby Tryz.prog 20 = some 16 := by kernel_rfl
@[go_sem] theorem tze_20 : tze Tryz.prog 20 = some [.nilIface] := by kernel_rfl
@[go_sem] theorem tag_20 : tag Tryz.prog 20 = some false := by kernel_rfl
@[go_sem] theorem tar_20 : tar Tryz.prog 20 = none := by kernel_rfl
@[go_sem] theorem tcs_20 : tcs Tryz.prog 20 = [] := by kernel_rfl
@[go_sem] theorem tkd_20 : tkd Tryz.prog 20 = some .iface := by kernel_rfl
@[go_sem] theorem tsz_21 : tsz Tryz.prog 21 = some 1 := by kernel_rfl
@[go_sem] theorem tby_21 : tby Tryz.prog 21 = some 4 := by kernel_rfl
@[go_sem] theorem tze_21 : tze Tryz.prog 21 = some [.int .i32 0] := by kernel_rfl
@[go_sem] theorem tag_21 : tag Tryz.prog 21 = some false := by kernel_rfl
@[go_sem] theorem tar_21 : tar Tryz.prog 21 = none := by kernel_rfl
@[go_sem] theorem tcs_21 : tcs Tryz.prog 21 = [] := by kernel_rfl
@[go_sem] theorem tkd_21 : tkd Tryz.prog 21 = some (.int .i32) := by kernel_rfl
@[go_sem] theorem tsz_22 : tsz Tryz.prog 22 = some 1 := by kernel_rfl
@[go_sem] theorem tby_22 : tby Tryz.prog 22 = some 24 := by kernel_rfl
@[go_sem] theorem tze_22 : tze Tryz.prog 22 = some [.slice none 0 0] := by kernel_rfl
@[go_sem] theorem tag_22 : tag Tryz.prog 22 = some false := by kernel_rfl
@[go_sem] theorem tel_22 : tel Tryz.prog 22 = some 133 := by kernel_rfl
@[go_sem] theorem tar_22 : tar Tryz.prog 22 = none := by kernel_rfl
@[go_sem] theorem tcs_22 : tcs Tryz.prog 22 = [(0, 2)] := by kernel_rfl
@[go_sem] theorem tkd_22 : tkd Tryz.prog 22 = some (.slice 133) := by kernel_rfl
@[go_sem] theorem tsz_23 : tsz Tryz.prog 23 = some 2 := by kernel_rfl
@[go_sem] theorem tby_23 : tby Tryz.prog 23 = some 32 := by kernel_rfl
@[go_sem] theorem tze_23 : tze Tryz.prog 23 = some [.int .i64 0, .slice none 0 0] := by kernel_rfl
@[go_sem] theorem tag_23 : tag Tryz.prog 23 = some true := by kernel_rfl
@[go_sem] theorem tar_23 : tar Tryz.prog 23 = none := by kernel_rfl
@[go_sem] theorem tfo_23_0 : tfo Tryz.prog 23 0 = some (0, 3) := by kernel_rfl
@[go_sem] theorem tfo_23_1 : tfo Tryz.prog 23 1 = some (1, 22) := by kernel_rfl
@[go_sem] theorem tpl_23 : tpl Tryz.prog 23 = some [(0, 1), (1, 1)] := by kernel_rfl
@[go_sem] theorem tcs_23 : tcs Tryz.prog 23 = [(1, 2)] := by kernel_rfl
@[go_sem] theorem tkd_23 : tkd Tryz.prog 23 = some .other := by kernel_rfl
@[go_sem] theorem tsz_24 : tsz Tryz.prog 24 = some 2 := by kernel_rfl
@[go_sem] theorem tby_24 : tby Tryz.prog 24 = some 32 := by kernel_rfl
@[go_sem] theorem tze_24 : tze Tryz.prog 24 = some [.int .i64 0, .slice none 0 0] := by kernel_rfl
@[go_sem] theorem tag_24 : tag Tryz.prog 24 = some true := by kernel_rfl
@[go_sem] theorem tar_24 : tar Tryz.prog 24 = none := by kernel_rfl
@[go_sem] theorem tfo_24_0 : tfo Tryz.prog 24 0 = some (0, 3) := by kernel_rfl
@[go_sem] theorem tfo_24_1 : tfo Tryz.prog 24 1 = some (1, 22) := by kernel_rfl
@[go_sem] theorem tpl_24 : tpl Tryz.prog 24 = some [(0, 1), (1, 1)] := by kernel_rfl
@[go_sem] theorem tcs_24 : tcs Tryz.prog 24 = [(1, 2)] := by kernel_rfl
@[go_sem] theorem tkd_24 : tkd Tryz.prog 24 = some .other := by kernel_rfl
@[go_sem] theorem tsz_25 : tsz Tryz.prog 25 = some 1 := by kernel_rfl
@[go_sem] theorem tby_25 : tby Tryz.prog 25 = some 24 := by kernel_rfl
@[go_sem] theorem tze_25 : tze Tryz.prog 25 = some [.slice none 0 0] := by kernel_rfl
@[go_sem] theorem tag_25 : tag Tryz.prog 25 = some false := by kernel_rfl
@[go_sem] theorem tel_25 : tel Tryz.prog 25 = some 110 := by kernel_rfl
@[go_sem] theorem tar_25 : tar Tryz.prog 25 = none := by kernel_rfl
@[go_sem] theorem tcs_25 : tcs Tryz.prog 25 = [(0, 2)] := by kernel_rfl
@[go_sem] theorem tkd_25 : tkd Tryz.prog 25 = some (.slice 110) := by kernel_rfl
@[go_sem] theorem tsz_26 : tsz Tryz.prog 26 = some 4 := by kernel_rfl
@[go_sem] theorem tby_26 : tby Tryz.prog 26 = some 64 := by kernel_rfl
@[go_sem] theorem tze_26 : tze Tryz.prog 26 = some [.int .i64 0, .slice none 0 0, .slice none 0 0, .bool false] := by kernel_rfl
@[go_sem] theorem tag_26 : tag Tryz.prog 26 = some true := by kernel_rfl
@[go_sem] theorem tar_26 : tar Tryz.prog 26 = none := by kernel_rfl
@[go_sem] theorem tfo_26_0 : tfo Tryz.prog 26 0 = some (0, 24) := by kernel_rfl
@[go_sem] theorem tfo_26_1 : tfo Tryz.prog 26 1 = some (2, 25) := by kernel_rfl
@[go_sem] theorem tfo_26_2 : tfo Tryz.prog 26 2 = some (3, 4) := by kernel_rfl
@[go_sem] theorem tpl_26 : tpl Tryz.prog 26 = some [(0, 2), (2, 1), (3, 1)] := by kernel_rfl
@[go_sem] theorem tcs_26 : tcs Tryz.prog 26 = [(1, 2), (2, 2)] := by kernel_rfl
@[go_sem] theorem tkd_26 : tkd Tryz.prog 26 = some .other := by kernel_rfl
@[go_sem] theorem tsz_27 : tsz Tryz.prog 27 = some 4 := by kernel_rfl
@[go_sem] theorem tby_27 : tby Tryz.prog 27 = some 64 := by kernel_rfl
@[go_sem] theorem tze_27 : tze Tryz.prog 27 = some [.int .i64 0, .slice none 0 0, .slice none 0 0, .bool false] := by kernel_rfl
@[go_sem] theorem tag_27 : tag Tryz.prog 27 = some true := by kernel_rfl
@[go_sem] theorem tar_27 : tar Tryz.prog 27 = none := by kernel_rfl
@[go_sem] theorem tfo_27_0 : tfo Tryz.prog 27 0 = some (0, 24) := by kernel_rfl
@[go_sem] theorem tfo_27_1 : tfo Tryz.prog 27 1 = some (2, 25) := by kernel_rfl
@[go_sem] theorem tfo_27_2 : tfo Tryz.prog 27 2 = some (3, 4) := by kernel_rfl
@[go_sem] theorem tpl_27 : tpl Tryz.prog 27 = some [(0, 2), (2, 1), (3, 1)] := by kernel_rfl
@[go_sem] theorem tcs_27 : tcs Tryz.prog 27 = [(1, 2), (2, 2)] := by kernel_rfl
@[go_sem] theorem tkd_27 : tkd Tryz.prog 27 = some .other := by kernel_rfl
@[go_sem] theorem tsz_28 : tsz Tryz.prog 28 = some 1 := by kernel_rfl
@[go_sem] theorem tby_28 : tby Tryz.prog 28 = some 24 := by kernel_rfl
@[go_sem] theorem tze_28 : tze Tryz.prog 28 = some [.slice none 0 0] := by kernel_rfl
@[go_sem] theorem tag_28 : tag Tryz.prog 28 = some false := by kernel_rfl
@[go_sem] theorem tel_28 : tel Tryz.prog 28 = some 68 := by kernel_rfl
@[go_sem] theorem tar_28 : tar Tryz.prog 28 = none := by kernel_rfl
@[go_sem] theorem tcs_28 : tcs Tryz.prog 28 = [(0, 6)] := by kernel_rfl
@[go_sem] theorem tkd_28 : tkd Tryz.prog 28 = some (.slice 68) := by kernel_rfl
@[go_sem] theorem tsz_31 : tsz Tryz.prog 31 = some 2 := by kernel_rfl
@[go_sem] theorem tby_31 : tby Tryz.prog 31 = some 32 := by kernel_rfl
@[go_sem] theorem tze_31 : tze Tryz.prog 31 = some [.int .i64 0, .slice none 0 0] := by kernel_rfl
@[go_sem] theorem tag_31 : tag Tryz.prog 31 = some true := by kernel_rfl
@[go_sem] theorem tar_31 : tar Tryz.prog 31 = none := by kernel_rfl
@[go_sem] theorem tfo_31_0 : tfo Tryz.prog 31 0 = some (0, 3) := by kernel_rfl
@[go_sem] theorem tfo_31_1 : tfo Tryz.prog 31 1 = some (1, 22) := by kernel_rfl
@[go_sem] theorem tpl_31 : tpl Tryz.prog 31 = some [(0, 1), (1, 1)] := by kernel_rfl
@[go_sem] theorem tcs_31 : tcs Tryz.prog 31 = [(1, 2)] := by kernel_rfl
@[go_sem] theorem tkd_31 : tkd Tryz.prog 31 = some .other := by kernel_rfl
@[go_sem] theorem tsz_32 : tsz Tryz.prog 32 = some 1 := by kernel_rfl
@[go_sem] theorem tby_32 : tby Tryz.prog 32 = some 24 := by kernel_rfl
@[go_sem] theorem tze_32 : tze Tryz.prog 32 = some [.slice none 0 0] := by kernel_rfl
@[go_sem] theorem tag_32 : tag Tryz.prog 32 = some false := by kernel_rfl
@[go_sem] theorem tel_32 : tel Tryz.prog 32 = some 115 := by kernel_rfl
@[go_sem] theorem tar_32 : tar Tryz.prog 32 = none := by kernel_rfl
@[go_sem] theorem tcs_32 : tcs Tryz.prog 32 = [(0, 2)] := by kernel_rfl
@[go_sem] theorem tkd_32 : tkd Tryz.prog 32 = some (.slice 115) := by kernel_rfl
@[go_sem] theorem tsz_33 : tsz Tryz.prog 33 = some 4 := by kernel_rfl
@[go_sem] theorem tby_33 : tby Tryz.prog 33 = some 64 := by kernel_rfl
@[go_sem] theorem tze_33 : tze Tryz.prog 33 = some [.int .i64 0, .slice none 0 0, .slice none 0 0, .bool false] := by kernel_rfl
@[go_sem] theorem tag_33 : tag Tryz.prog 33 = some true := by kernel_rfl
@[go_sem] theorem tar_33 : tar Tryz.prog 33 = none := by kernel_rfl
@[go_sem] theorem tfo_33_0 : tfo Tryz.prog 33 0 = some (0, 31) := by kernel_rfl
@[go_sem] theorem tfo_33_1 : tfo Tryz.prog 33 1 = some (2, 32) := by kernel_rfl
@[go_sem] theorem tfo_33_2 : tfo Tryz.prog 33 2 = some (3, 4) := by kernel_rfl
@[go_sem] theorem tpl_33 : tpl Tryz.prog 33 = some [(0, 2), (2, 1), (3, 1)] := by kernel_rfl
@[go_sem] theorem tcs_33 : tcs Tryz.prog 33 = [(1, 2), (2, 2)] := by kernel_rfl
@[go_sem] theorem tkd_33 : tkd Tryz.prog 33 = some .other := by kernel_rfl
@[go_sem] theorem tsz_34 : tsz Tryz.prog 34 = some 4 := by kernel_rfl
@[go_sem] theorem tby_34 : tby Tryz.prog 34 = some 64 := by kernel_rfl
@[go_sem] theorem tze_34 : tze Tryz.prog 34 = some [.int .i64 0, .slice none 0 0, .slice none 0 0, .bool false] := by kernel_rfl
@[go_sem] theorem tag_34 : tag Tryz.prog 34 = some true := by kernel_rfl
@[go_sem] theorem tar_34 : tar Tryz.prog 34 = none := by kernel_rfl
@[go_sem] theorem tfo_34_0 : tfo Tryz.prog 34 0 = some (0, 31) := by kernel_rfl
@[go_sem] theorem tfo_34_1 : tfo Tryz.prog 34 1 = some (2, 32) := by kernel_rfl
@[go_sem] theorem tfo_34_2 : tfo Tryz.prog 34 2 = some (3, 4) := by kernel_rfl
@[go_sem] theorem tpl_34 : tpl Tryz.prog 34 = some [(0, 2), (2, 1), (3, 1)] := by kernel_rfl
@[go_sem] theorem tcs_34 : tcs Tryz.prog 34 = [(1, 2), (2, 2)] := by kernel_rfl
@[go_sem] theorem tkd_34 : tkd Tryz.prog 34 = some .other := by kernel_rfl
@[go_sem] theorem tsz_36 : tsz Tryz.prog 36 = some 1 := by kernel_rfl
@[go_sem] theorem tby_36 : tby Tryz.prog 36 = some 24 := by kernel_rfl
@[go_sem] theorem tze_36 : tze Tryz.prog 36 = some [.slice none 0 0] := by kernel_rfl
@[go_sem] theorem tag_36 : tag Tryz.prog 36 = some false := by kernel_rfl
@[go_sem] theorem tel_36 : tel Tryz.prog 36 = some 98 := by kernel_rfl
@[go_sem] theorem tar_36 : tar Tryz.prog 36 = none := by kernel_rfl
@[go_sem] theorem tcs_36 : tcs Tryz.prog 36 = [(0, 6)] := by kernel_rfl
@[go_sem] theorem tkd_36 : tkd Tryz.prog 36 = some (.slice 98) := by kernel_rfl
@[go_sem] theorem tsz_38 : tsz Tryz.prog 38 = some 1 := by kernel_rfl
@[go_sem] theorem tby_38 : tby Tryz.prog 38 = some 8 := by kernel_rfl
@[go_sem] theorem tze_38 : tze Tryz.prog 38 = some [.int .i64 0] := by kernel_rfl
@[go_sem] theorem tag_38 : tag Tryz.prog 38 = some false := by kernel_rfl
@[go_sem] theorem tar_38 : tar Tryz.prog 38 = none := by kernel_rfl
@[go_sem] theorem tcs_38 : tcs Tryz.prog 38 = [] := by kernel_rfl
@[go_sem] theorem tkd_38 : tkd Tryz.prog 38 = some (.int .i64) := by kernel_rfl
@[go_sem] theorem tsz_47 : tsz Tryz.prog 47 = some 1 := by kernel_rfl
@[go_sem] theorem tby_47 : tby Tryz.prog 47 = some 24 := by kernel_rfl
@[go_sem] theorem tze_47 : tze Tryz.prog 47 = some [.slice none 0 0] := by kernel_rfl
@[go_sem] theorem tag_47 : tag Tryz.prog 47 = some false := by kernel_rfl
@[go_sem] theorem tel_47 : tel Tryz.prog 47 = some 3 := by kernel_rfl
@[go_sem] theorem tar_47 : tar Tryz.prog 47 = none := by kernel_rfl
@[go_sem] theorem tcs_47 : tcs Tryz.prog 47 = [(0, 1)] := by kernel_rfl
@[go_sem] theorem tkd_47 : tkd Tryz.prog 47 = some (.slice 3) := by kernel_rfl
@[go_sem] theorem tsz_52 : tsz Tryz.prog 52 = some 1 := by kernel_rfl
@[go_sem] theorem tby_52 : tby Tryz.prog 52 = some 24 := by kernel_rfl
@[go_sem] theorem tze_52 : tze Tryz.prog 52 = some [.slice none 0 0] := by kernel_rfl
@[go_sem] theorem tag_52 : tag Tryz.prog 52 = some false := by kernel_rfl
@[go_sem] theorem tel_52 : tel Tryz.prog 52 = some 69 := by kernel_rfl
@[go_sem] theorem tar_52 : tar Tryz.prog 52 = none := by kernel_rfl
@[go_sem] theorem tcs_52 : tcs Tryz.prog 52 = [(0, 1)] := by kernel_rfl
@[go_sem] theorem tkd_52 : tkd Tryz.prog 52 = some (.slice 69) := by kernel_rfl
@[go_sem] theorem tsz_53 : tsz Tryz.prog 53 = some 3 := by kernel_rfl
@[go_sem] theorem tby_53 : tby Tryz.prog 53 = some 72 := by kernel_rfl
@[go_sem] theorem tze_53 : tze Tryz.prog 53 = some [.slice none 0 0, .slice none 0 0, .slice none 0 0] := by kernel_rfl
@[go_sem] theorem tag_53 : tag Tryz.prog 53 = some true := by kernel_rfl
@[go_sem] theorem tar_53 : tar Tryz.prog 53 = none := by kernel_rfl
@[go_sem] theorem tfo_53_0 : tfo Tryz.prog 53 0 = some (0, 47) := by kernel_rfl
@[go_sem] theorem tfo_53_1 : tfo Tryz.prog 53 1 = some (1, 52) := by kernel_rfl
@[go_sem] theorem tfo_53_2 : tfo Tryz.prog 53 2 = some (2, 47) := by kernel_rfl
@[go_sem] theorem tpl_53 : tpl Tryz.prog 53 = some [(0, 1), (1, 1), (2, 1)] := by kernel_rfl
@[go_sem] theorem tcs_53 : tcs Tryz.prog 53 = [(0, 1), (1, 1), (2, 1)] := by kernel_rfl
@[go_sem] theorem tkd_53 : tkd Tryz.prog 53 = some .other := by kernel_rfl
@[go_sem] theorem tsz_54 : tsz Tryz.prog 54 = some 3 := by kernel_rfl
@[go_sem] theorem tby_54 : tby Tryz.prog 54 = some 72 := by kernel_rfl
@[go_sem] theorem tze_54 : tze Tryz.prog 54 = some [.slice none 0 0, .slice none 0 0, .slice none 0 0] := by kernel_rfl
@[go_sem] theorem tag_54 : tag Tryz.prog 54 = some true := by kernel_rfl
@[go_sem] theorem tar_54 : tar Tryz.prog 54 = none := by kernel_rfl
@[go_sem] theorem tfo_54_0 : tfo Tryz.prog 54 0 = some (0, 47) := by kernel_rfl
@[go_sem] theorem tfo_54_1 : tfo Tryz.prog 54 1 = some (1, 52) := by kernel_rfl
@[go_sem] theorem tfo_54_2 : tfo Tryz.prog 54 2 = some (2, 47) := by kernel_rfl
@[go_sem] theorem tpl_54 : tpl Tryz.prog 54 = some [(0, 1), (1, 1), (2, 1)] := by kernel_rfl
@[go_sem] theorem tcs_54 : tcs Tryz.prog 54 = [(0, 1), (1, 1), (2, 1)] := by kernel_rfl
@[go_sem] theorem tkd_54 : tkd Tryz.prog 54 = some .other := by kernel_rfl
@[go_sem] theorem tsz_57 : tsz Tryz.prog 57 = some 3 := by kernel_rfl
@[go_sem] theorem tby_57 : tby Tryz.prog 57 = some 72 := by kernel_rfl
@[go_sem] theorem tze_57 : tze Tryz.prog 57 = some [.slice none 0 0, .slice none 0 0, .slice none 0 0] := by kernel_rfl
@[go_sem] theorem tag_57 : tag Tryz.prog 57 = some true := by kernel_rfl
@[go_sem] theorem tar_57 : tar Tryz.prog 57 = none := by kernel_rfl
@[go_sem] theorem tfo_57_0 : tfo Tryz.prog 57 0 = some (0, 47) := by kernel_rfl
@[go_sem] theorem tfo_57_1 : tfo Tryz.prog 57 1 = some (1, 52) := by kernel_rfl
@[go_sem] theorem tfo_57_2 : tfo Tryz.prog 57 2 = some (2, 47) := by kernel_rfl
@[go_sem] theorem tpl_57 : tpl Tryz.prog 57 = some [(0, 1), (1, 1), (2, 1)] := by kernel_rfl
@[go_sem] theorem tcs_57 : tcs Tryz.prog 57 = [(0, 1), (1, 1), (2, 1)] := by kernel_rfl
@[go_sem] theorem tkd_57 : tkd Tryz.prog 57 = some .other := by kernel_rfl
@[go_sem] theorem tsz_66 : tsz Tryz.prog 66 = some 1 := by kernel_rfl
@[go_sem] theorem tby_66 : tby Tryz.prog 66 = some 24 := by kernel_rfl
@[go_sem] theorem tze_66 : tze Tryz.prog 66 = some [.slice none 0 0] := by kernel_rfl
@[go_sem] theorem tag_66 : tag Tryz.prog 66 = some false := by kernel_rfl
@[go_sem] theorem tel_66 : tel Tryz.prog 66 = some 47 := by kernel_rfl
@[go_sem] theorem tar_66 : tar Tryz.prog 66 = none := by kernel_rfl
@[go_sem] theorem tcs_66 : tcs Tryz.prog 66 = [(0, 1)] := by kernel_rfl
@[go_sem] theorem tkd_66 : tkd Tryz.prog 66 = some (.slice 47) := by kernel_rfl
@[go_sem] theorem tsz_67 : tsz Tryz.prog 67 = some 6 := by kernel_rfl
@[go_sem] theorem tby_67 : tby Tryz.prog 67 = some 96 := by kernel_rfl
@[go_sem] theorem tze_67 : tze Tryz.prog 67 = some [.int .i64 0, .int .i64 0, .int .i64 0, .slice none 0 0, .slice none 0 0, .slice none 0 0] := by kernel_rfl
@[go_sem] theorem tag_67 : tag Tryz.prog 67 = some true := by kernel_rfl
@[go_sem] theorem tar_67 : tar Tryz.prog 67 = none := by kernel_rfl
@[go_sem] theorem tfo_67_0 : tfo Tryz.prog 67 0 = some (0, 3) := by kernel_rfl
@[go_sem] theorem tfo_67_1 : tfo Tryz.prog 67 1 = some (1, 3) := by kernel_rfl
@[go_sem] theorem tfo_67_2 : tfo Tryz.prog 67 2 = some (2, 3) := by kernel_rfl
@[go_sem] theorem tfo_67_3 : tfo Tryz.prog 67 3 = some (3, 47) := by kernel_rfl
@[go_sem] theorem tfo_67_4 : tfo Tryz.prog 67 4 = some (4, 52) := by kernel_rfl
@[go_sem] theorem tfo_67_5 : tfo Tryz.prog 67 5 = some (5, 66) := by kernel_rfl
@[go_sem] theorem tpl_67 : tpl Tryz.prog 67 = some [(0, 1), (1, 1), (2, 1), (3, 1), (4, 1), (5, 1)] := by kernel_rfl
@[go_sem] theorem tcs_67 : tcs Tryz.prog 67 = [(3, 1), (4, 1), (5, 1)] := by kernel_rfl
@[go_sem] theorem tkd_67 : tkd Tryz.prog 67 = some .other := by kernel_rfl
@[go_sem] theorem tsz_68 : tsz Tryz.prog 68 = some 6 := by kernel_rfl
@[go_sem] theorem tby_68 : tby Tryz.prog 68 = some 96 := by kernel_rfl
@[go_sem] theorem tze_68 : tze Tryz.prog 68 = some [.int .i64 0, .int .i64 0, .int .i64 0, .slice none 0 0, .slice none 0 0, .slice none 0 0] := by kernel_rfl
@[go_sem] theorem tag_68 : tag Tryz.prog 68 = some true := by kernel_rfl
@[go_sem] theorem tar_68 : tar Tryz.prog 68 = none := by kernel_rfl
@[go_sem] theorem tfo_68_0 : tfo Tryz.prog 68 0 = some (0, 3) := by kernel_rfl
@[go_sem] theorem tfo_68_1 : tfo Tryz.prog 68 1 = some (1, 3) := by kernel_rfl
@[go_sem] theorem tfo_68_2 : tfo Tryz.prog 68 2 = some (2, 3) := by kernel_rfl
@[go_sem] theorem tfo_68_3 : tfo Tryz.prog 68 3 = some (3, 47) := by kernel_rfl
@[go_sem] theorem tfo_68_4 : tfo Tryz.prog 68 4 = some (4, 52) := by kernel_rfl
@[go_sem] theorem tfo_68_5 : tfo Tryz.prog 68 5 = some (5, 66) := by kernel_rfl
@[go_sem] theorem tpl_68 : tpl Tryz.prog 68 = some [(0, 1), (1, 1), (2, 1), (3, 1), (4, 1), (5, 1)] := by kernel_rfl
@[go_sem] theorem tcs_68 : tcs Tryz.prog 68 = [(3, 1), (4, 1), (5, 1)] := by kernel_rfl
@[go_sem] theorem tkd_68 : tkd Tryz.prog 68 = some .other := by kernel_rfl
@[go_sem] theorem tsz_69 : tsz Tryz.prog 69 = some 1 := by kernel_rfl
@[go_sem] theorem tby_69 : tby Tryz.prog 69 = some 24 := by kernel_rfl
@[go_sem] theorem tze_69 : tze Tryz.prog 69 = some [.slice none 0 0] := by kernel_rfl
@[go_sem] theorem tag_69 : tag Tryz.prog 69 = some false := by kernel_rfl
@[go_sem] theorem tel_69 : tel Tryz.prog 69 = some 72 := by kernel_rfl
@[go_sem] theorem tar_69 : tar Tryz.prog 69 = none := by kernel_rfl
@[go_sem] theorem tcs_69 : tcs Tryz.prog 69 = [(0, 2)] := by kernel_rfl
@[go_sem] theorem tkd_69 : tkd Tryz.prog 69 = some (.slice 72) := by kernel_rfl
@[go_sem] theorem tsz_71 : tsz Tryz.prog 71 = some 2 := by kernel_rfl
@[go_sem] theorem tby_71 : tby Tryz.prog 71 = some 16 := by kernel_rfl
@[go_sem] theorem tze_71 : tze Tryz.prog 71 = some [.int .i64 0, .int .i64 0] := by kernel_rfl
@[go_sem] theorem tag_71 : tag Tryz.prog 71 = some true := by kernel_rfl
@[go_sem] theorem tar_71 : tar Tryz.prog 71 = none := by kernel_rfl
@[go_sem] theorem tfo_71_0 : tfo Tryz.prog 71 0 = some (0, 3) := by kernel_rfl
@[go_sem] theorem tfo_71_1 : tfo Tryz.prog 71 1 = some (1, 3) := by kernel_rfl
@[go_sem] theorem tpl_71 : tpl Tryz.prog 71 = some [(0, 1), (1, 1)] := by kernel_rfl
@[go_sem] theorem tcs_71 : tcs Tryz.prog 71 = [] := by kernel_rfl
@[go_sem] theorem tkd_71 : tkd Tryz.prog 71 = some .other := by kernel_rfl
@[go_sem] theorem tsz_72 : tsz Tryz.prog 72 = some 2 := by kernel_rfl
@[go_sem] theorem tby_72 : tby Tryz.prog 72 = some 16 := by kernel_rfl
@[go_sem] theorem tze_72 : tze Tryz.prog 72 = some [.int .i64 0, .int .i64 0] := by kernel_rfl
@[go_sem] theorem tag_72 : tag Tryz.prog 72 = some true := by kernel_rfl
@[go_sem] theorem tar_72 : tar Tryz.prog 72 = none := by kernel_rfl
@[go_sem] theorem tfo_72_0 : tfo Tryz.prog 72 0 = some (0, 3) := by kernel_rfl
@[go_sem] theorem tfo_72_1 : tfo Tryz.prog 72 1 = some (1, 3) := by kernel_rfl
@[go_sem] theorem tpl_72 : tpl Tryz.prog 72 = some [(0, 1), (1, 1)] := by kernel_rfl
@[go_sem] theorem tcs_72 : tcs Tryz.prog 72 = [] := by kernel_rfl
@[go_sem] theorem teq_72 : teq Tryz.prog 72 = some [(.int .i64), (.int .i64)] := by kernel_rfl
@[go_sem] theorem tkd_72 : tkd Tryz.prog 72 = some .other := by kernel_rfl
@[go_sem] theorem tsz_74 : tsz Tryz.prog 74 = some 1 := by kernel_rfl
@[go_sem] theorem tby_74 : tby Tryz.prog 74 = some 24 := by kernel_rfl
@[go_sem] theorem tze_74 : tze Tryz.prog 74 = some [.slice none 0 0] := by kernel_rfl
@[go_sem] theorem tag_74 : tag Tryz.prog 74 = some false := by kernel_rfl
@[go_sem] theorem tel_74 : tel Tryz.prog 74 = some 82 := by kernel_rfl
@[go_sem] theorem tar_74 : tar Tryz.prog 74 = none := by kernel_rfl
@[go_sem] theorem tcs_74 : tcs Tryz.prog 74 = [(0, 5)] := by kernel_rfl
@[go_sem] theorem tkd_74 : tkd Tryz.prog 74 = some (.slice 82) := by kernel_rfl
@[go_sem] theorem tsz_76 : tsz Tryz.prog 76 = some 1 := by kernel_rfl
@[go_sem] theorem tby_76 : tby Tryz.prog 76 = some 24 := by kernel_rfl
@[go_sem] theorem tze_76 : tze Tryz.prog 76 = some [.slice none 0 0] := by kernel_rfl
@[go_sem] theorem tag_76 : tag Tryz.prog 76 = some false := by kernel_rfl
@[go_sem] theorem tel_76 : tel Tryz.prog 76 = some 78 := by kernel_rfl
@[go_sem] theorem tar_76 : tar Tryz.prog 76 = none := by kernel_rfl
@[go_sem] theorem tcs_76 : tcs Tryz.prog 76 = [(0, 5)] := by kernel_rfl
@[go_sem] theorem tkd_76 : tkd Tryz.prog 76 = some (.slice 78) := by kernel_rfl
@[go_sem] theorem tsz_77 : tsz Tryz.prog 77 = some 5 := by kernel_rfl
@[go_sem] theorem tby_77 : tby Tryz.prog 77 = some 72 := by kernel_rfl
@[go_sem] theorem tze_77 : tze Tryz.prog 77 = some [.int .i64 0, .int .i64 0, .int .i64 0, .slice none 0 0, .slice none 0 0] := by kernel_rfl
@[go_sem] theorem tag_77 : tag Tryz.prog 77 = some true := by kernel_rfl
@[go_sem] theorem tar_77 : tar Tryz.prog 77 = none := by kernel_rfl
@[go_sem] theorem tfo_77_0 : tfo Tryz.prog 77 0 = some (0, 3) := by kernel_rfl
@[go_sem] theorem tfo_77_1 : tfo Tryz.prog 77 1 = some (1, 3) := by kernel_rfl
@[go_sem] theorem tfo_77_2 : tfo Tryz.prog 77 2 = some (2, 3) := by kernel_rfl
@[go_sem] theorem tfo_77_3 : tfo Tryz.prog 77 3 = some (3, 52) := by kernel_rfl
@[go_sem] theorem tfo_77_4 : tfo Tryz.prog 77 4 = some (4, 66) := by kernel_rfl
@[go_sem] theorem tpl_77 : tpl Tryz.prog 77 = some [(0, 1), (1, 1), (2, 1), (3, 1), (4, 1)] := by kernel_rfl
@[go_sem] theorem tcs_77 : tcs Tryz.prog 77 = [(3, 1), (4, 1)] := by kernel_rfl
@[go_sem] theorem tkd_77 : tkd Tryz.prog 77 = some .other := by kernel_rfl
@[go_sem] theorem tsz_78 : tsz Tryz.prog 78 = some 5 := by kernel_rfl
@[go_sem] theorem tby_78 : tby Tryz.prog 78 = some 72 := by kernel_rfl
@[go_sem] theorem tze_78 : tze Tryz.prog 78 = some [.int .i64 0, .int .i64 0, .int .i64 0, .slice none 0 0, .slice none 0 0] := by kernel_rfl
@[go_sem] theorem tag_78 : tag Tryz.prog 78 = some true := by kernel_rfl
@[go_sem] theorem tar_78 : tar Tryz.prog 78 = none := by kernel_rfl
@[go_sem] theorem tfo_78_0 : tfo Tryz.prog 78 0 = some (0, 3) := by kernel_rfl
@[go_sem] theorem tfo_78_1 : tfo Tryz.prog 78 1 = some (1, 3) := by kernel_rfl
@[go_sem] theorem tfo_78_2 : tfo Tryz.prog 78 2 = some (2, 3) := by kernel_rfl
@[go_sem] theorem tfo_78_3 : tfo Tryz.prog 78 3 = some (3, 52) := by kernel_rfl
@[go_sem] theorem tfo_78_4 : tfo Tryz.prog 78 4 = some (4, 66) := by kernel_rfl
@[go_sem] theorem tpl_78 : tpl Tryz.prog 78 = some [(0, 1), (1, 1), (2, 1), (3, 1), (4, 1)] := by kernel_rfl
@[go_sem] theorem tcs_78 : tcs Tryz.prog 78 = [(3, 1), (4, 1)] := by kernel_rfl
@[go_sem] theorem tkd_78 : tkd Tryz.prog 78 = some .other := by kernel_rfl
@[go_sem] theorem tsz_81 : tsz Tryz.prog 81 = some 5 := by kernel_rfl
@[go_sem] theorem tby_81 : tby Tryz.prog 81 = some 40 := by kernel_rfl
@[go_sem] theorem tze_81 : tze Tryz.prog 81 = some [.int .i64 0, .int .i64 0, .int .i64 0, .int .i64 0, .int .i64 0] := by kernel_rfl
@[go_sem] theorem tag_81 : tag Tryz.prog 81 = some true := by kernel_rfl
@[go_sem] theorem tar_81 : tar Tryz.prog 81 = none := by kernel_rfl
@[go_sem] theorem tfo_81_0 : tfo Tryz.prog 81 0 = some (0, 3) := by kernel_rfl
@[go_sem] theorem tfo_81_1 : tfo Tryz.prog 81 1 = some (1, 3) := by kernel_rfl
@[go_sem] theorem tfo_81_2 : tfo Tryz.prog 81 2 = some (2, 3) := by kernel_rfl
@[go_sem] theorem tfo_81_3 : tfo Tryz.prog 81 3 = some (3, 3) := by kernel_rfl
@[go_sem] theorem tfo_81_4 : tfo Tryz.prog 81 4 = some (4, 3) := by kernel_rfl
@[go_sem] theorem tpl_81 : tpl Tryz.prog 81 = some [(0, 1), (1, 1), (2, 1), (3, 1), (4, 1)] := by kernel_rfl
@[go_sem] theorem tcs_81 : tcs Tryz.prog 81 = [] := by kernel_rfl
@[go_sem] theorem tkd_81 : tkd Tryz.prog 81 = some .other := by kernel_rfl
@[go_sem] theorem tsz_82 : tsz Tryz.prog 82 = some 5 := by kernel_rfl
@[go_sem] theorem tby_82 : tby Tryz.prog 82 = some 40 := by kernel_rfl
@[go_sem] theorem tze_82 : tze Tryz.prog 82 = some [.int .i64 0, .int .i64 0, .int .i64 0, .int .i64 0, .int .i64 0] := by kernel_rfl
@[go_sem] theorem tag_82 : tag Tryz.prog 82 = some true := by kernel_rfl
@[go_sem] theorem tar_82 : tar Tryz.prog 82 = none := by kernel_rfl
@[go_sem] theorem tfo_82_0 : tfo Tryz.prog 82 0 = some (0, 3) := by kernel_rfl
@[go_sem] theorem tfo_82_1 : tfo Tryz.prog 82 1 = some (1, 3) := by kernel_rfl
@[go_sem] theorem tfo_82_2 : tfo Tryz.prog 82 2 = some (2, 3) := by kernel_rfl
@[go_sem] theorem tfo_82_3 : tfo Tryz.prog 82 3 = some (3, 3) := by kernel_rfl
@[go_sem] theorem tfo_82_4 : tfo Tryz.prog 82 4 = some (4, 3) := by kernel_rfl
@[go_sem] theorem tpl_82 : tpl Tryz.prog 82 = some [(0, 1), (1, 1), (2, 1), (3, 1), (4, 1)] := by kernel_rfl
@[go_sem] theorem tcs_82 : tcs Tryz.prog 82 = [] := by kernel_rfl
@[go_sem] theorem teq_82 : teq Tryz.prog 82 = some [(.int .i64), (.int .i64), (.int .i64), (.int .i64), (.int .i64)] := by kernel_rfl
@[go_sem] theorem tkd_82 : tkd Tryz.prog 82 = some .other := by kernel_rfl
@[go_sem] theorem tsz_85 : tsz Tryz.prog 85 = some 5 := by kernel_rfl
@[go_sem] theorem tby_85 : tby Tryz.prog 85 = some 40 := by kernel_rfl
@[go_sem] theorem tze_85 : tze Tryz.prog 85 = some [.int .i64 0, .int .i64 0, .int .i64 0, .int .i64 0, .int .i64 0] := by kernel_rfl
@[go_sem] theorem tag_85 : tag Tryz.prog 85 = some true := by kernel_rfl
@[go_sem] theorem tar_85 : tar Tryz.prog 85 = none := by kernel_rfl
@[go_sem] theorem tfo_85_0 : tfo Tryz.prog 85 0 = some (0, 3) := by kernel_rfl
@[go_sem] theorem tfo_85_1 : tfo Tryz.prog 85 1 = some (1, 3) := by kernel_rfl
@[go_sem] theorem tfo_85_2 : tfo Tryz.prog 85 2 = some (2, 3) := by kernel_rfl
@[go_sem] theorem tfo_85_3 : tfo Tryz.prog 85 3 = some (3, 3) := by kernel_rfl
@[go_sem] theorem tfo_85_4 : tfo Tryz.prog 85 4 = some (4, 3) := by kernel_rfl
@[go_sem] theorem tpl_85 : tpl Tryz.prog 85 = some [(0, 1), (1, 1), (2, 1), (3, 1), (4, 1)] := by kernel_rfl
@[go_sem] theorem tcs_85 : tcs Tryz.prog 85 = [] := by kernel_rfl
@[go_sem] theorem teq_85 : teq Tryz.prog 85 = some [(.int .i64), (.int .i64), (.int .i64), (.int .i64), (.int .i64)] := by kernel_rfl
@[go_sem] theorem tkd_85 : tkd Tryz.prog 85 = some .other := by kernel_rfl
@[go_sem] theorem tsz_87 : tsz Tryz.prog 87 = some 1 := by kernel_rfl
@[go_sem] theorem tby_87 : tby Tryz.prog 87 = some 24 := by kernel_rfl
@[go_sem] theorem tze_87 : tze Tryz.prog 87 = some [.slice none 0 0] := by kernel_rfl
@[go_sem] theorem tag_87 : tag Tryz.prog 87 = some false := by kernel_rfl
@[go_sem] theorem tel_87 : tel Tryz.prog 87 = some 153 := by kernel_rfl
@[go_sem] theorem tar_87 : tar Tryz.prog 87 = none := by kernel_rfl
@[go_sem] theorem tcs_87 : tcs Tryz.prog 87 = [(0, 3)] := by kernel_rfl
@[go_sem] theorem tkd_87 : tkd Tryz.prog 87 = some (.slice 153) := by kernel_rfl
@[go_sem] theorem tsz_98 : tsz Tryz.prog 98 = some 6 := by kernel_rfl
@[go_sem] theorem tby_98 : tby Tryz.prog 98 = some 96 := by kernel_rfl
@[go_sem] theorem tze_98 : tze Tryz.prog 98 = some [.int .i64 0, .int .i64 0, .int .i64 0, .slice none 0 0, .slice none 0 0, .slice none 0 0] := by kernel_rfl
@[go_sem] theorem tag_98 : tag Tryz.prog 98 = some true := by kernel_rfl
@[go_sem] theorem tar_98 : tar Tryz.prog 98 = none := by kernel_rfl
@[go_sem] theorem tfo_98_0 : tfo Tryz.prog 98 0 = some (0, 3) := by kernel_rfl
@[go_sem] theorem tfo_98_1 : tfo Tryz.prog 98 1 = some (1, 3) := by kernel_rfl
@[go_sem] theorem tfo_98_2 : tfo Tryz.prog 98 2 = some (2, 3) := by kernel_rfl
@[go_sem] theorem tfo_98_3 : tfo Tryz.prog 98 3 = some (3, 47) := by kernel_rfl
@[go_sem] theorem tfo_98_4 : tfo Tryz.prog 98 4 = some (4, 52) := by kernel_rfl
@[go_sem] theorem tfo_98_5 : tfo Tryz.prog 98 5 = some (5, 66) := by kernel_rfl
@[go_sem] theorem tpl_98 : tpl Tryz.prog 98 = some [(0, 1), (1, 1), (2, 1), (3, 1), (4, 1), (5, 1)] := by kernel_rfl
@[go_sem] theorem tcs_98 : tcs Tryz.prog 98 = [(3, 1), (4, 1), (5, 1)] := by kernel_rfl
@[go_sem] theorem tkd_98 : tkd Tryz.prog 98 = some .other := by kernel_rfl
@[go_sem] theorem tsz_108 : tsz Tryz.prog 108 = some 1 := by kernel_rfl
@[go_sem] theorem tby_108 : tby Tryz.prog 108 = some 24 := by kernel_rfl
@[go_sem] theorem tze_108 : tze Tryz.prog 108 = some [.slice none 0 0] := by kernel_rfl
@[go_sem] theorem tag_108 : tag Tryz.prog 108 = some false := by kernel_rfl
@[go_sem] theorem tel_108 : tel Tryz.prog 108 = some 163 := by kernel_rfl
@[go_sem] theorem tar_108 : tar Tryz.prog 108 = none := by kernel_rfl
@[go_sem] theorem tcs_108 : tcs Tryz.prog 108 = [(0, 4)] := by kernel_rfl
@[go_sem] theorem tkd_108 : tkd Tryz.prog 108 = some (.slice 163) := by kernel_rfl
@[go_sem] theorem tsz_109 : tsz Tryz.prog 109 = some 2 := by kernel_rfl
@[go_sem] theorem tby_109 : tby Tryz.prog 109 = some 32 := by kernel_rfl
@[go_sem] theorem tze_109 : tze Tryz.prog 109 = some [.int .i64 0, .slice none 0 0] := by kernel_rfl
@[go_sem] theorem tag_109 : tag Tryz.prog 109 = some true := by kernel_rfl
@[go_sem] theorem tar_109 : tar Tryz.prog 109 = none := by kernel_rfl
@[go_sem] theorem tfo_109_0 : tfo Tryz.prog 109 0 = some (0, 3) := by kernel_rfl
@[go_sem] theorem tfo_109_1 : tfo Tryz.prog 109 1 = some (1, 108) := by kernel_rfl
@[go_sem] theorem tpl_109 : tpl Tryz.prog 109 = some [(0, 1), (1, 1)] := by kernel_rfl
@[go_sem] theorem tcs_109 : tcs Tryz.prog 109 = [(1, 4)] := by kernel_rfl
@[go_sem] theorem tkd_109 : tkd Tryz.prog 109 = some .other := by kernel_rfl
@[go_sem] theorem tsz_110 : tsz Tryz.prog 110 = some 2 := by kernel_rfl
@[go_sem] theorem tby_110 : tby Tryz.prog 110 = some 32 := by kernel_rfl
@[go_sem] theorem tze_110 : tze Tryz.prog 110 = some [.int .i64 0, .slice none 0 0] := by kernel_rfl
@[go_sem] theorem tag_110 : tag Tryz.prog 110 = some true := by kernel_rfl
@[go_sem] theorem tar_110 : tar Tryz.prog 110 = none := by kernel_rfl
@[go_sem] theorem tfo_110_0 : tfo Tryz.prog 110 0 = some (0, 3) := by kernel_rfl
@[go_sem] theorem tfo_110_1 : tfo Tryz.prog 110 1 = some (1, 108) := by kernel_rfl
@[go_sem] theorem tpl_110 : tpl Tryz.prog 110 = some [(0, 1), (1, 1)] := by kernel_rfl
@[go_sem] theorem tcs_110 : tcs Tryz.prog 110 = [(1, 4)] := by kernel_rfl
@[go_sem] theorem tkd_110 : tkd Tryz.prog 110 = some .other := by kernel_rfl
@[go_sem] theorem tsz_113 : tsz Tryz.prog 113 = some 1 := by kernel_rfl
@[go_sem] theorem tby_113 : tby Tryz.prog 113 = some 24 := by kernel_rfl
@[go_sem] theorem tze_113 : tze Tryz.prog 113 = some [.slice none 0 0] := by kernel_rfl
@[go_sem] theorem tag_113 : tag Tryz.prog 113 = some false := by kernel_rfl
@[go_sem] theorem tel_113 : tel Tryz.prog 113 = some 122 := by kernel_rfl
@[go_sem] theorem tar_113 : tar Tryz.prog 113 = none := by kernel_rfl
@[go_sem] theorem tcs_113 : tcs Tryz.prog 113 = [(0, 4)] := by kernel_rfl
@[go_sem] theorem tkd_113 : tkd Tryz.prog 113 = some (.slice 122) := by kernel_rfl
@[go_sem] theorem tsz_114 : tsz Tryz.prog 114 = some 2 := by kernel_rfl
@[go_sem] theorem tby_114 : tby Tryz.prog 114 = some 32 := by kernel_rfl
@[go_sem] theorem tze_114 : tze Tryz.prog 114 = some [.int .i64 0, .slice none 0 0] := by kernel_rfl
@[go_sem] theorem tag_114 : tag Tryz.prog 114 = some true := by kernel_rfl
@[go_sem] theorem tar_114 : tar Tryz.prog 114 = none := by kernel_rfl
@[go_sem] theorem tfo_114_0 : tfo Tryz.prog 114 0 = some (0, 3) := by kernel_rfl
@[go_sem] theorem tfo_114_1 : tfo Tryz.prog 114 1 = some (1, 113) := by kernel_rfl
@[go_sem] theorem tpl_114 : tpl Tryz.prog 114 = some [(0, 1), (1, 1)] := by kernel_rfl
@[go_sem] theorem tcs_114 : tcs Tryz.prog 114 = [(1, 4)] := by kernel_rfl
@[go_sem] theorem tkd_114 : tkd Tryz.prog 114 = some .other := by kernel_rfl
@[go_sem] theorem tsz_115 : tsz Tryz.prog 115 = some 2 := by kernel_rfl
@[go_sem] theorem tby_115 : tby Tryz.prog 115 = some 32 := by kernel_rfl
@[go_sem] theorem tze_115 : tze Tryz.prog 115 = some [.int .i64 0, .slice none 0 0] := by kernel_rfl
@[go_sem] theorem tag_115 : tag Tryz.prog 115 = some true := by kernel_rfl
@[go_sem] theorem tar_115 : tar Tryz.prog 115 = none := by kernel_rfl
@[go_sem] theorem tfo_115_0 : tfo Tryz.prog 115 0 = some (0, 3) := by kernel_rfl
@[go_sem] theorem tfo_115_1 : tfo Tryz.prog 115 1 = some (1, 113) := by kernel_rfl
@[go_sem] theorem tpl_115 : tpl Tryz.prog 115 = some [(0, 1), (1, 1)] := by kernel_rfl
@[go_sem] theorem tcs_115 : tcs Tryz.prog 115 = [(1, 4)] := by kernel_rfl
@[go_sem] theorem tkd_115 : tkd Tryz.prog 115 = some .other := by kernel_rfl
@[go_sem] theorem tsz_119 : tsz Tryz.prog 119 = some 1 := by kernel_rfl
@[go_sem] theorem tby_119 : tby Tryz.prog 119 = some 24 := by kernel_rfl
@[go_sem] theorem tze_119 : tze Tryz.prog 119 = some [.slice none 0 0] := by kernel_rfl
@[go_sem] theorem tag_119 : tag Tryz.prog 119 = some false := by kernel_rfl
@[go_sem] theorem tel_119 : tel Tryz.prog 119 = some 183 := by kernel_rfl
@[go_sem] theorem tar_119 : tar Tryz.prog 119 = none := by kernel_rfl
@[go_sem] theorem tcs_119 : tcs Tryz.prog 119 = [(0, 2)] := by kernel_rfl
@[go_sem] theorem tkd_119 : tkd Tryz.prog 119 = some (.slice 183) := by kernel_rfl
@[go_sem] theorem tsz_120 : tsz Tryz.prog 120 = some 1 := by kernel_rfl
@[go_sem] theorem tby_120 : tby Tryz.prog 120 = some 24 := by kernel_rfl
@[go_sem] theorem tze_120 : tze Tryz.prog 120 = some [.slice none 0 0] := by kernel_rfl
@[go_sem] theorem tag_120 : tag Tryz.prog 120 = some false := by kernel_rfl
@[go_sem] theorem tel_120 : tel Tryz.prog 120 = some 186 := by kernel_rfl
@[go_sem] theorem tar_120 : tar Tryz.prog 120 = none := by kernel_rfl
@[go_sem] theorem tcs_120 : tcs Tryz.prog 120 = [(0, 3)] := by kernel_rfl
@[go_sem] theorem tkd_120 : tkd Tryz.prog 120 = some (.slice 186) := by kernel_rfl
@[go_sem] theorem tsz_121 : tsz Tryz.prog 121 = some 4 := by kernel_rfl
@[go_sem] theorem tby_121 : tby Tryz.prog 121 = some 80 := by kernel_rfl
@[go_sem] theorem tze_121 : tze Tryz.prog 121 = some [.int .i64 0, .slice none 0 0, .slice none 0 0, .slice none 0 0] := by kernel_rfl
@[go_sem] theorem tag_121 : tag Tryz.prog 121 = some true := by kernel_rfl
@[go_sem] theorem tar_121 : tar Tryz.prog 121 = none := by kernel_rfl
@[go_sem] theorem tfo_121_0 : tfo Tryz.prog 121 0 = some (0, 3) := by kernel_rfl
@[go_sem] theorem tfo_121_1 : tfo Tryz.prog 121 1 = some (1, 47) := by kernel_rfl
@[go_sem] theorem tfo_121_2 : tfo Tryz.prog 121 2 = some (2, 119) := by kernel_rfl
@[go_sem] theorem tfo_121_3 : tfo Tryz.prog 121 3 = some (3, 120) := by kernel_rfl
@[go_sem] theorem tpl_121 : tpl Tryz.prog 121 = some [(0, 1), (1, 1), (2, 1), (3, 1)] := by kernel_rfl
@[go_sem] theorem tcs_121 : tcs Tryz.prog 121 = [(1, 1), (2, 2), (3, 3)] := by kernel_rfl
@[go_sem] theorem tkd_121 : tkd Tryz.prog 121 = some .other := by kernel_rfl
@[go_sem] theorem tsz_122 : tsz Tryz.prog 122 = some 4 := by kernel_rfl
@[go_sem] theorem tby_122 : tby Tryz.prog 122 = some 80 := by kernel_rfl
@[go_sem] theorem tze_122 : tze Tryz.prog 122 = some [.int .i64 0, .slice none 0 0, .slice none 0 0, .slice none 0 0] := by kernel_rfl
@[go_sem] theorem tag_122 : tag Tryz.prog 122 = some true := by kernel_rfl
@[go_sem] theorem tar_122 : tar Tryz.prog 122 = none := by kernel_rfl
@[go_sem] theorem tfo_122_0 : tfo Tryz.prog 122 0 = some (0, 3) := by kernel_rfl
@[go_sem] theorem tfo_122_1 : tfo Tryz.prog 122 1 = some (1, 47) := by kernel_rfl
@[go_sem] theorem tfo_122_2 : tfo Tryz.prog 122 2 = some (2, 119) := by kernel_rfl
@[go_sem] theorem tfo_122_3 : tfo Tryz.prog 122 3 = some (3, 120) := by kernel_rfl
@[go_sem] theorem tpl_122 : tpl Tryz.prog 122 = some [(0, 1), (1, 1), (2, 1), (3, 1)] := by kernel_rfl
@[go_sem] theorem tcs_122 : tcs Tryz.prog 122 = [(1, 1), (2, 2), (3, 3)] := by kernel_rfl
@[go_sem] theorem tkd_122 : tkd Tryz.prog 122 = some .other := by kernel_rfl
@[go_sem] theorem tsz_127 : tsz Tryz.prog 127 = some 0 := by kernel_rfl
@[go_sem] theorem tby_127 : tby Tryz.prog 127 = some 0 := by kernel_rfl
@[go_sem] theorem tze_127 : tze Tryz.prog 127 = some [] := by kernel_rfl
@[go_sem] theorem tag_127 : tag Tryz.prog 127 = some true := by kernel_rfl
@[go_sem] theorem tar_127 : tar Tryz.prog 127 = none := by kernel_rfl
@[go_sem] theorem tpl_127 : tpl Tryz.prog 127 = some [] := by kernel_rfl
@[go_sem] theorem tcs_127 : tcs Tryz.prog 127 = [] := by kernel_rfl
@[go_sem] theorem tkd_127 : tkd Tryz.prog 127 = some .other := by kernel_rfl
@[go_sem] theorem tsz_128 : tsz Tryz.prog 128 = some 0 := by kernel_rfl
@[go_sem] theorem tby_128 : tby Tryz.prog 128 = some 0 := by kernel_rfl
@[go_sem] theorem tze_128 : tze Tryz.prog 128 = some [] := by kernel_rfl
@[go_sem] theorem tag_128 : tag Tryz.prog 128 = some true := by kernel_rfl
@[go_sem] theorem tar_128 : tar Tryz.prog 128 = none := by kernel_rfl
@[go_sem] theorem tpl_128 : tpl Tryz.prog 128 = some [] := by kernel_rfl
@[go_sem] theorem tcs_128 : tcs Tryz.prog 128 = [] := by kernel_rfl
@[go_sem] theorem tkd_128 : tkd Tryz.prog 128 = some .other := by kernel_rfl
@[go_sem] theorem tsz_133 : tsz Tryz.prog 133 = some 2 := by kernel_rfl
@[go_sem] theorem tby_133 : tby Tryz.prog 133 = some 16 := by kernel_rfl
@[go_sem] theorem tze_133 : tze Tryz.prog 133 = some [.int .i64 0, .int .i64 0] := by kernel_rfl
@[go_sem] theorem tag_133 : tag Tryz.prog 133 = some true := by kernel_rfl
@[go_sem] theorem tar_133 : tar Tryz.prog 133 = some (2, 3) := by kernel_rfl
@[go_sem] theorem tpl_133 : tpl Tryz.prog 133 = none := by kernel_rfl
@[go_sem] theorem tcs_133 : tcs Tryz.prog 133 = [] := by kernel_rfl
@[go_sem] theorem teq_133 : teq Tryz.prog 133 = some [(.int .i64), (.int .i64)] := by kernel_rfl
@[go_sem] theorem tkey_133 : tkey Tryz.prog 133 = some (true, [(.int .i64), (.int .i64)]) := by kernel_rfl
@[go_sem] theorem tkd_133 : tkd Tryz.prog 133 = some .other := by kernel_rfl
@[go_sem] theorem tsz_141 : tsz Tryz.prog 141 = some 1 := by kernel_rfl
@[go_sem] theorem tby_141 : tby Tryz.prog 141 = some 8 := by kernel_rfl
@[go_sem] theorem tze_141 : tze Tryz.prog 141 = some [.map none] := by kernel_rfl
@[go_sem] theorem tag_141 : tag Tryz.prog 141 = some false := by kernel_rfl
@[go_sem] theorem tar_141 : tar Tryz.prog 141 = none := by kernel_rfl
@[go_sem] theorem tcs_141 : tcs Tryz.prog 141 = [] := by kernel_rfl
@[go_sem] theorem tmp_141 : tmp Tryz.prog 141 = some (3, 80) := by kernel_rfl
@[go_sem] theorem tkd_141 : tkd Tryz.prog 141 = some (.map 3 80) := by kernel_rfl
@[go_sem] theorem tsz_143 : tsz Tryz.prog 143 = some 1 := by kernel_rfl
@[go_sem] theorem tby_143 : tby Tryz.prog 143 = some 24 := by kernel_rfl
@[go_sem] theorem tze_143 : tze Tryz.prog 143 = some [.slice none 0 0] := by kernel_rfl
@[go_sem] theorem tag_143 : tag Tryz.prog 143 = some false := by kernel_rfl
@[go_sem] theorem tel_143 : tel Tryz.prog 143 = some 150 := by kernel_rfl
@[go_sem] theorem tar_143 : tar Tryz.prog 143 = none := by kernel_rfl
@[go_sem] theorem tcs_143 : tcs Tryz.prog 143 = [(0, 2)] := by kernel_rfl
@[go_sem] theorem tkd_143 : tkd Tryz.prog 143 = some (.slice 150) := by kernel_rfl
@[go_sem] theorem tsz_144 : tsz Tryz.prog 144 = some 2 := by kernel_rfl
@[go_sem] theorem tby_144 : tby Tryz.prog 144 = some 32 := by kernel_rfl
@[go_sem] theorem tze_144 : tze Tryz.prog 144 = some [.int .i64 0, .slice none 0 0] := by kernel_rfl
@[go_sem] theorem tag_144 : tag Tryz.prog 144 = some true := by kernel_rfl
@[go_sem] theorem tar_144 : tar Tryz.prog 144 = none := by kernel_rfl
@[go_sem] theorem tfo_144_0 : tfo Tryz.prog 144 0 = some (0, 3) := by kernel_rfl
@[go_sem] theorem tfo_144_1 : tfo Tryz.prog 144 1 = some (1, 143) := by kernel_rfl
@[go_sem] theorem tpl_144 : tpl Tryz.prog 144 = some [(0, 1), (1, 1)] := by kernel_rfl
@[go_sem] theorem tcs_144 : tcs Tryz.prog 144 = [(1, 2)] := by kernel_rfl
@[go_sem] theorem tkd_144 : tkd Tryz.prog 144 = some .other := by kernel_rfl
@[go_sem] theorem tsz_145 : tsz Tryz.prog 145 = some 2 := by kernel_rfl
@[go_sem] theorem tby_145 : tby Tryz.prog 145 = some 32 := by kernel_rfl
@[go_sem] theorem tze_145 : tze Tryz.prog 145 = some [.int .i64 0, .slice none 0 0] := by kernel_rfl
@[go_sem] theorem tag_145 : tag Tryz.prog 145 = some true := by kernel_rfl
@[go_sem] theorem tar_145 : tar Tryz.prog 145 = none := by kernel_rfl
@[go_sem] theorem tfo_145_0 : tfo Tryz.prog 145 0 = some (0, 3) := by kernel_rfl
@[go_sem] theorem tfo_145_1 : tfo Tryz.prog 145 1 = some (1, 143) := by kernel_rfl
@[go_sem] theorem tpl_145 : tpl Tryz.prog 145 = some [(0, 1), (1, 1)] := by kernel_rfl
@[go_sem] theorem tcs_145 : tcs Tryz.prog 145 = [(1, 2)] := by kernel_rfl
@[go_sem] theorem tkd_145 : tkd Tryz.prog 145 = some .other := by kernel_rfl
@[go_sem] theorem tsz_149 : tsz Tryz.prog 149 = some 2 := by kernel_rfl
@[go_sem] theorem tby_149 : tby Tryz.prog 149 = some 16 := by kernel_rfl
@[go_sem] theorem tze_149 : tze Tryz.prog 149 = some [.int .i64 0, .int .i64 0] := by kernel_rfl
@[go_sem] theorem tag_149 : tag Tryz.prog 149 = some true := by kernel_rfl
@[go_sem] theorem tar_149 : tar Tryz.prog 149 = none := by kernel_rfl
@[go_sem] theorem tfo_149_0 : tfo Tryz.prog 149 0 = some (0, 3) := by kernel_rfl
@[go_sem] theorem tfo_149_1 : tfo Tryz.prog 149 1 = some (1, 3) := by kernel_rfl
@[go_sem] theorem tpl_149 : tpl Tryz.prog 149 = some [(0, 1), (1, 1)] := by kernel_rfl
@[go_sem] theorem tcs_149 : tcs Tryz.prog 149 = [] := by kernel_rfl
@[go_sem] theorem tkd_149 : tkd Tryz.prog 149 = some .other := by kernel_rfl
@[go_sem] theorem tsz_150 : tsz Tryz.prog 150 = some 2 := by kernel_rfl
@[go_sem] theorem tby_150 : tby Tryz.prog 150 = some 16 := by kernel_rfl
@[go_sem] theorem tze_150 : tze Tryz.prog 150 = some [.int .i64 0, .int .i64 0] := by kernel_rfl
@[go_sem] theorem tag_150 : tag Tryz.prog 150 = some true := by kernel_rfl
@[go_sem] theorem tar_150 : tar Tryz.prog 150 = none := by kernel_rfl
@[go_sem] theorem tfo_150_0 : tfo Tryz.prog 150 0 = some (0, 3) := by kernel_rfl
@[go_sem] theorem tfo_150_1 : tfo Tryz.prog 150 1 = some (1, 3) := by kernel_rfl
@[go_sem] theorem tpl_150 : tpl Tryz.prog 150 = some [(0, 1), (1, 1)] := by kernel_rfl
@[go_sem] theorem tcs_150 : tcs Tryz.prog 150 = [] := by kernel_rfl
@[go_sem] theorem teq_150 : teq Tryz.prog 150 = some [(.int .i64), (.int .i64)] := by kernel_rfl
@[go_sem] theorem tkd_150 : tkd Tryz.prog 150 = some .other := by kernel_rfl
@[go_sem] theorem tsz_152 : tsz Tryz.prog 152 = some 3 := by kernel_rfl
@[go_sem] theorem tby_152 : tby Tryz.prog 152 = some 24 := by kernel_rfl
@[go_sem] theorem tze_152 : tze Tryz.prog 152 = some [.int .i64 0, .int .i64 0, .int .i64 0] := by kernel_rfl
@[go_sem] theorem tag_152 : tag Tryz.prog 152 = some true := by kernel_rfl
@[go_sem] theorem tar_152 : tar Tryz.prog 152 = none := by kernel_rfl
@[go_sem] theorem tfo_152_0 : tfo Tryz.prog 152 0 = some (0, 3) := by kernel_rfl
@[go_sem] theorem tfo_152_1 : tfo Tryz.prog 152 1 = some (1, 72) := by kernel_rfl
@[go_sem] theorem tpl_152 : tpl Tryz.prog 152 = some [(0, 1), (1, 2)] := by kernel_rfl
@[go_sem] theorem tcs_152 : tcs Tryz.prog 152 = [] := by kernel_rfl
@[go_sem] theorem tkd_152 : tkd Tryz.prog 152 = some .other := by kernel_rfl
@[go_sem] theorem tsz_153 : tsz Tryz.prog 153 = some 3 := by kernel_rfl
@[go_sem] theorem tby_153 : tby Tryz.prog 153 = some 24 := by kernel_rfl
@[go_sem] theorem tze_153 : tze Tryz.prog 153 = some [.int .i64 0, .int .i64 0, .int .i64 0] := by kernel_rfl
@[go_sem] theorem tag_153 : tag Tryz.prog 153 = some true := by kernel_rfl
@[go_sem] theorem tar_153 : tar Tryz.prog 153 = none := by kernel_rfl
@[go_sem] theorem tfo_153_0 : tfo Tryz.prog 153 0 = some (0, 3) := by kernel_rfl
@[go_sem] theorem tfo_153_1 : tfo Tryz.prog 153 1 = some (1, 72) := by kernel_rfl
@[go_sem] theorem tpl_153 : tpl Tryz.prog 153 = some [(0, 1), (1, 2)] := by kernel_rfl
@[go_sem] theorem tcs_153 : tcs Tryz.prog 153 = [] := by kernel_rfl
@[go_sem] theorem teq_153 : teq Tryz.prog 153 = some [(.int .i64), (.int .i64), (.int .i64)] := by kernel_rfl
@[go_sem] theorem tkd_153 : tkd Tryz.prog 153 = some .other := by kernel_rfl
@[go_sem] theorem tsz_160 : tsz Tryz.prog 160 = some 1 := by kernel_rfl
@[go_sem] theorem tby_160 : tby Tryz.prog 160 = some 24 := by kernel_rfl
@[go_sem] theorem tze_160 : tze Tryz.prog 160 = some [.slice none 0 0] := by kernel_rfl
@[go_sem] theorem tag_160 : tag Tryz.prog 160 = some false := by kernel_rfl
@[go_sem] theorem tel_160 : tel Tryz.prog 160 = some 145 := by kernel_rfl
@[go_sem] theorem tar_160 : tar Tryz.prog 160 = none := by kernel_rfl
@[go_sem] theorem tcs_160 : tcs Tryz.prog 160 = [(0, 2)] := by kernel_rfl
@[go_sem] theorem tkd_160 : tkd Tryz.prog 160 = some (.slice 145) := by kernel_rfl
@[go_sem] theorem tsz_161 : tsz Tryz.prog 161 = some 1 := by kernel_rfl
@[go_sem] theorem tby_161 : tby Tryz.prog 161 = some 24 := by kernel_rfl
@[go_sem] theorem tze_161 : tze Tryz.prog 161 = some [.slice none 0 0] := by kernel_rfl
@[go_sem] theorem tag_161 : tag Tryz.prog 161 = some false := by kernel_rfl
@[go_sem] theorem tel_161 : tel Tryz.prog 161 = some 189 := by kernel_rfl
@[go_sem] theorem tar_161 : tar Tryz.prog 161 = none := by kernel_rfl
@[go_sem] theorem tcs_161 : tcs Tryz.prog 161 = [(0, 3)] := by kernel_rfl
@[go_sem] theorem tkd_161 : tkd Tryz.prog 161 = some (.slice 189) := by kernel_rfl
@[go_sem] theorem tsz_162 : tsz Tryz.prog 162 = some 4 := by kernel_rfl
@[go_sem] theorem tby_162 : tby Tryz.prog 162 = some 80 := by kernel_rfl
@[go_sem] theorem tze_162 : tze Tryz.prog 162 = some [.int .i64 0, .slice none 0 0, .slice none 0 0, .slice none 0 0] := by kernel_rfl
@[go_sem] theorem tag_162 : tag Tryz.prog 162 = some true := by kernel_rfl
@[go_sem] theorem tar_162 : tar Tryz.prog 162 = none := by kernel_rfl
@[go_sem] theorem tfo_162_0 : tfo Tryz.prog 162 0 = some (0, 3) := by kernel_rfl
@[go_sem] theorem tfo_162_1 : tfo Tryz.prog 162 1 = some (1, 47) := by kernel_rfl
@[go_sem] theorem tfo_162_2 : tfo Tryz.prog 162 2 = some (2, 160) := by kernel_rfl
@[go_sem] theorem tfo_162_3 : tfo Tryz.prog 162 3 = some (3, 161) := by kernel_rfl
@[go_sem] theorem tpl_162 : tpl Tryz.prog 162 = some [(0, 1), (1, 1), (2, 1), (3, 1)] := by kernel_rfl
@[go_sem] theorem tcs_162 : tcs Tryz.prog 162 = [(1, 1), (2, 2), (3, 3)] := by kernel_rfl
@[go_sem] theorem tkd_162 : tkd Tryz.prog 162 = some .other := by kernel_rfl
@[go_sem] theorem tsz_163 : tsz Tryz.prog 163 = some 4 := by kernel_rfl
@[go_sem] theorem tby_163 : tby Tryz.prog 163 = some 80 := by kernel_rfl
@[go_sem] theorem tze_163 : tze Tryz.prog 163 = some [.int .i64 0, .slice none 0 0, .slice none 0 0, .slice none 0 0] := by kernel_rfl
@[go_sem] theorem tag_163 : tag Tryz.prog 163 = some true := by kernel_rfl
@[go_sem] theorem tar_163 : tar Tryz.prog 163 = none := by kernel_rfl
@[go_sem] theorem tfo_163_0 : tfo Tryz.prog 163 0 = some (0, 3) := by kernel_rfl
@[go_sem] theorem tfo_163_1 : tfo Tryz.prog 163 1 = some (1, 47) := by kernel_rfl
@[go_sem] theorem tfo_163_2 : tfo Tryz.prog 163 2 = some (2, 160) := by kernel_rfl
@[go_sem] theorem tfo_163_3 : tfo Tryz.prog 163 3 = some (3, 161) := by kernel_rfl
@[go_sem] theorem tpl_163 : tpl Tryz.prog 163 = some [(0, 1), (1, 1), (2, 1), (3, 1)] := by kernel_rfl
@[go_sem] theorem tcs_163 : tcs Tryz.prog 163 = [(1, 1), (2, 2), (3, 3)] := by kernel_rfl
@[go_sem] theorem tkd_163 : tkd Tryz.prog 163 = some .other := by kernel_rfl
@[go_sem] theorem tsz_166 : tsz Tryz.prog 166 = some 1 := by kernel_rfl
@[go_sem] theorem tby_166 : tby Tryz.prog 166 = some 24 := by kernel_rfl
@[go_sem] theorem tze_166 : tze Tryz.prog 166 = some [.slice none 0 0] := by kernel_rfl
@[go_sem] theorem tag_166 : tag Tryz.prog 166 = some false := by kernel_rfl
@[go_sem] theorem tel_166 : tel Tryz.prog 166 = some 28 := by kernel_rfl
@[go_sem] theorem tar_166 : tar Tryz.prog 166 = none := by kernel_rfl
@[go_sem] theorem tcs_166 : tcs Tryz.prog 166 = [(0, 1)] := by kernel_rfl
@[go_sem] theorem tkd_166 : tkd Tryz.prog 166 = some (.slice 28) := by kernel_rfl
@[go_sem] theorem tsz_174 : tsz Tryz.prog 174 = some 9 := by kernel_rfl
@[go_sem] theorem tby_174 : tby Tryz.prog 174 = some 152 := by kernel_rfl
@[go_sem] theorem tze_174 : tze Tryz.prog 174 = some [.int .i64 0, .slice none 0 0, .slice none 0 0, .slice none 0 0, .int .i64 0, .int .i64 0, .slice none 0 0, .int .i64 0, .slice none 0 0] := by kernel_rfl
@[go_sem] theorem tag_174 : tag Tryz.prog 174 = some true := by kernel_rfl
@[go_sem] theorem tar_174 : tar Tryz.prog 174 = none := by kernel_rfl
@[go_sem] theorem tfo_174_0 : tfo Tryz.prog 174 0 = some (0, 163) := by kernel_rfl
@[go_sem] theorem tfo_174_1 : tfo Tryz.prog 174 1 = some (4, 3) := by kernel_rfl
@[go_sem] theorem tfo_174_2 : tfo Tryz.prog 174 2 = some (5, 110) := by kernel_rfl
@[go_sem] theorem tfo_174_3 : tfo Tryz.prog 174 3 = some (7, 24) := by kernel_rfl
@[go_sem] theorem tpl_174 : tpl Tryz.prog 174 = some [(0, 4), (4, 1), (5, 2), (7, 2)] := by kernel_rfl
@[go_sem] theorem tcs_174 : tcs Tryz.prog 174 = [(1, 1), (2, 2), (3, 3), (6, 4), (8, 2)] := by kernel_rfl
@[go_sem] theorem tkd_174 : tkd Tryz.prog 174 = some .other := by kernel_rfl
@[go_sem] theorem tsz_175 : tsz Tryz.prog 175 = some 9 := by kernel_rfl
@[go_sem] theorem tby_175 : tby Tryz.prog 175 = some 152 := by kernel_rfl
@[go_sem] theorem tze_175 : tze Tryz.prog 175 = some [.int .i64 0, .slice none 0 0, .slice none 0 0, .slice none 0 0, .int .i64 0, .int .i64 0, .slice none 0 0, .int .i64 0, .slice none 0 0] := by kernel_rfl
@[go_sem] theorem tag_175 : tag Tryz.prog 175 = some true := by kernel_rfl
@[go_sem] theorem tar_175 : tar Tryz.prog 175 = none := by kernel_rfl
@[go_sem] theorem tfo_175_0 : tfo Tryz.prog 175 0 = some (0, 163) := by kernel_rfl
@[go_sem] theorem tfo_175_1 : tfo Tryz.prog 175 1 = some (4, 3) := by kernel_rfl
@[go_sem] theorem tfo_175_2 : tfo Tryz.prog 175 2 = some (5, 110) := by kernel_rfl
@[go_sem] theorem tfo_175_3 : tfo Tryz.prog 175 3 = some (7, 24) := by kernel_rfl
@[go_sem] theorem tpl_175 : tpl Tryz.prog 175 = some [(0, 4), (4, 1), (5, 2), (7, 2)] := by kernel_rfl
@[go_sem] theorem tcs_175 : tcs Tryz.prog 175 = [(1, 1), (2, 2), (3, 3), (6, 4), (8, 2)] := by kernel_rfl
@[go_sem] theorem tkd_175 : tkd Tryz.prog 175 = some .other := by kernel_rfl
@[go_sem] theorem tsz_181 : tsz Tryz.prog 181 = some 1 := by kernel_rfl
@[go_sem] theorem tby_181 : tby Tryz.prog 181 = some 24 := by kernel_rfl
@[go_sem] theorem tze_181 : tze Tryz.prog 181 = some [.slice none 0 0] := by kernel_rfl
@[go_sem] theorem tag_181 : tag Tryz.prog 181 = some false := by kernel_rfl
@[go_sem] theorem tel_181 : tel Tryz.prog 181 = some 184 := by kernel_rfl
@[go_sem] theorem tar_181 : tar Tryz.prog 181 = none := by kernel_rfl
@[go_sem] theorem tcs_181 : tcs Tryz.prog 181 = [(0, 2)] := by kernel_rfl
@[go_sem] theorem tkd_181 : tkd Tryz.prog 181 = some (.slice 184) := by kernel_rfl
@[go_sem] theorem tsz_182 : tsz Tryz.prog 182 = some 2 := by kernel_rfl
@[go_sem] theorem tby_182 : tby Tryz.prog 182 = some 32 := by kernel_rfl
@[go_sem] theorem tze_182 : tze Tryz.prog 182 = some [.int .i64 0, .slice none 0 0] := by kernel_rfl
@[go_sem] theorem tag_182 : tag Tryz.prog 182 = some true := by kernel_rfl
@[go_sem] theorem tar_182 : tar Tryz.prog 182 = none := by kernel_rfl
@[go_sem] theorem tfo_182_0 : tfo Tryz.prog 182 0 = some (0, 3) := by kernel_rfl
@[go_sem] theorem tfo_182_1 : tfo Tryz.prog 182 1 = some (1, 181) := by kernel_rfl
@[go_sem] theorem tpl_182 : tpl Tryz.prog 182 = some [(0, 1), (1, 1)] := by kernel_rfl
@[go_sem] theorem tcs_182 : tcs Tryz.prog 182 = [(1, 2)] := by kernel_rfl
@[go_sem] theorem tkd_182 : tkd Tryz.prog 182 = some .other := by kernel_rfl
@[go_sem] theorem tsz_183 : tsz Tryz.prog 183 = some 2 := by kernel_rfl
@[go_sem] theorem tby_183 : tby Tryz.prog 183 = some 32 := by kernel_rfl
@[go_sem] theorem tze_183 : tze Tryz.prog 183 = some [.int .i64 0, .slice none 0 0] := by kernel_rfl
@[go_sem] theorem tag_183 : tag Tryz.prog 183 = some true := by kernel_rfl
@[go_sem] theorem tar_183 : tar Tryz.prog 183 = none := by kernel_rfl
@[go_sem] theorem tfo_183_0 : tfo Tryz.prog 183 0 = some (0, 3) := by kernel_rfl
@[go_sem] theorem tfo_183_1 : tfo Tryz.prog 183 1 = some (1, 181) := by kernel_rfl
@[go_sem] theorem tpl_183 : tpl Tryz.prog 183 = some [(0, 1), (1, 1)] := by kernel_rfl
@[go_sem] theorem tcs_183 : tcs Tryz.prog 183 = [(1, 2)] := by kernel_rfl
@[go_sem] theorem tkd_183 : tkd Tryz.prog 183 = some .other := by kernel_rfl
@[go_sem] theorem tsz_184 : tsz Tryz.prog 184 = some 2 := by kernel_rfl
@[go_sem] theorem tby_184 : tby Tryz.prog 184 = some 16 := by kernel_rfl
@[go_sem] theorem tze_184 : tze Tryz.prog 184 = some [.int .i64 0, .int .i64 0] := by kernel_rfl
@[go_sem] theorem tag_184 : tag Tryz.prog 184 = some true := by kernel_rfl
@[go_sem] theorem tar_184 : tar Tryz.prog 184 = none := by kernel_rfl
@[go_sem] theorem tfo_184_0 : tfo Tryz.prog 184 0 = some (0, 3) := by kernel_rfl
@[go_sem] theorem tfo_184_1 : tfo Tryz.prog 184 1 = some (1, 3) := by kernel_rfl
@[go_sem] theorem tpl_184 : tpl Tryz.prog 184 = some [(0, 1), (1, 1)] := by kernel_rfl
@[go_sem] theorem tcs_184 : tcs Tryz.prog 184 = [] := by kernel_rfl
@[go_sem] theorem teq_184 : teq Tryz.prog 184 = some [(.int .i64), (.int .i64)] := by kernel_rfl
@[go_sem] theorem tkd_184 : tkd Tryz.prog 184 = some .other := by kernel_rfl
@[go_sem] theorem tsz_185 : tsz Tryz.prog 185 = some 3 := by kernel_rfl
@[go_sem] theorem tby_185 : tby Tryz.prog 185 = some 24 := by kernel_rfl
@[go_sem] theorem tze_185 : tze Tryz.prog 185 = some [.int .i64 0, .int .i64 0, .int .i64 0] := by kernel_rfl
@[go_sem] theorem tag_185 : tag Tryz.prog 185 = some true := by kernel_rfl
@[go_sem] theorem tar_185 : tar Tryz.prog 185 = none := by kernel_rfl
@[go_sem] theorem tfo_185_0 : tfo Tryz.prog 185 0 = some (0, 3) := by kernel_rfl
@[go_sem] theorem tfo_185_1 : tfo Tryz.prog 185 1 = some (1, 3) := by kernel_rfl
@[go_sem] theorem tfo_185_2 : tfo Tryz.prog 185 2 = some (2, 3) := by kernel_rfl
@[go_sem] theorem tpl_185 : tpl Tryz.prog 185 = some [(0, 1), (1, 1), (2, 1)] := by kernel_rfl
@[go_sem] theorem tcs_185 : tcs Tryz.prog 185 = [] := by kernel_rfl
@[go_sem] theorem tkd_185 : tkd Tryz.prog 185 = some .other := by kernel_rfl
@[go_sem] theorem tsz_186 : tsz Tryz.prog 186 = some 3 := by kernel_rfl
@[go_sem] theorem tby_186 : tby Tryz.prog 186 = some 24 := by kernel_rfl
@[go_sem] theorem tze_186 : tze Tryz.prog 186 = some [.int .i64 0, .int .i64 0, .int .i64 0] := by kernel_rfl
@[go_sem] theorem tag_186 : tag Tryz.prog 186 = some true := by kernel_rfl
@[go_sem] theorem tar_186 : tar Tryz.prog 186 = none := by kernel_rfl
@[go_sem] theorem tfo_186_0 : tfo Tryz.prog 186 0 = some (0, 3) := by kernel_rfl
@[go_sem] theorem tfo_186_1 : tfo Tryz.prog 186 1 = some (1, 3) := by kernel_rfl
@[go_sem] theorem tfo_186_2 : tfo Tryz.prog 186 2 = some (2, 3) := by kernel_rfl
@[go_sem] theorem tpl_186 : tpl Tryz.prog 186 = some [(0, 1), (1, 1), (2, 1)] := by kernel_rfl
@[go_sem] theorem tcs_186 : tcs Tryz.prog 186 = [] := by kernel_rfl
@[go_sem] theorem teq_186 : teq Tryz.prog 186 = some [(.int .i64), (.int .i64), (.int .i64)] := by kernel_rfl
@[go_sem] theorem tkd_186 : tkd Tryz.prog 186 = some .other := by kernel_rfl
@[go_sem] theorem tsz_189 : tsz Tryz.prog 189 = some 3 := by kernel_rfl
@[go_sem] theorem tby_189 : tby Tryz.prog 189 = some 24 := by kernel_rfl
@[go_sem] theorem tze_189 : tze Tryz.prog 189 = some [.int .i64 0, .int .i64 0, .int .i64 0] := by kernel_rfl
@[go_sem] theorem tag_189 : tag Tryz.prog 189 = some true := by kernel_rfl
@[go_sem] theorem tar_189 : tar Tryz.prog 189 = none := by kernel_rfl
@[go_sem] theorem tfo_189_0 : tfo Tryz.prog 189 0 = some (0, 3) := by kernel_rfl
@[go_sem] theorem tfo_189_1 : tfo Tryz.prog 189 1 = some (1, 3) := by kernel_rfl
@[go_sem] theorem tfo_189_2 : tfo Tryz.prog 189 2 = some (2, 3) := by kernel_rfl
@[go_sem] theorem tpl_189 : tpl Tryz.prog 189 = some [(0, 1), (1, 1), (2, 1)] := by kernel_rfl
@[go_sem] theorem tcs_189 : tcs Tryz.prog 189 = [] := by kernel_rfl
@[go_sem] theorem teq_189 : teq Tryz.prog 189 = some [(.int .i64), (.int .i64), (.int .i64)] := by kernel_rfl
@[go_sem] theorem tkd_189 : tkd Tryz.prog 189 = some .other := by kernel_rfl
@[go_sem] theorem tsz_198 : tsz Tryz.prog 198 = some 1 := by kernel_rfl
@[go_sem] theorem tby_198 : tby Tryz.prog 198 = some 8 := by kernel_rfl
@[go_sem] theorem tze_198 : tze Tryz.prog 198 = some [.int .u64 0] := by kernel_rfl
@[go_sem] theorem tag_198 : tag Tryz.prog 198 = some false := by kernel_rfl
@[go_sem] theorem tar_198 : tar Tryz.prog 198 = none := by kernel_rfl
@[go_sem] theorem tcs_198 : tcs Tryz.prog 198 = [] := by kernel_rfl
@[go_sem] theorem tkd_198 : tkd Tryz.prog 198 = some (.int .u64) := by kernel_rfl
@[go_sem] theorem tsz_206 : tsz Tryz.prog 206 = some 1 := by kernel_rfl
@[go_sem] theorem tby_206 : tby Tryz.prog 206 = some 8 := by kernel_rfl
@[go_sem] theorem tze_206 : tze Tryz.prog 206 = some [.map none] := by kernel_rfl
@[go_sem] theorem tag_206 : tag Tryz.prog 206 = some false := by kernel_rfl
@[go_sem] theorem tar_206 : tar Tryz.prog 206 = none := by kernel_rfl
@[go_sem] theorem tcs_206 : tcs Tryz.prog 206 = [] := by kernel_rfl
@[go_sem] theorem tmp_206 : tmp Tryz.prog 206 = some (133, 3) := by kernel_rfl
@[go_sem] theorem tkd_206 : tkd Tryz.prog 206 = some (.map 133 3) := by kernel_rfl
@[go_sem] theorem tsz_209 : tsz Tryz.prog 209 = some 1 := by kernel_rfl
@[go_sem] theorem tby_209 : tby Tryz.prog 209 = some 8 := by kernel_rfl
@[go_sem] theorem tze_209 : tze Tryz.prog 209 = some [.nilFunc] := by kernel_rfl
@[go_sem] theorem tag_209 : tag Tryz.prog 209 = some true := by kernel_rfl
@[go_sem] theorem tar_209 : tar Tryz.prog 209 = none := by kernel_rfl
@[go_sem] theorem tfo_209_0 : tfo Tryz.prog 209 0 = some (0, 51) := by kernel_rfl
@[go_sem] theorem tpl_209 : tpl Tryz.prog 209 = some [(0, 1)] := by kernel_rfl
@[go_sem] theorem tcs_209 : tcs Tryz.prog 209 = [] := by kernel_rfl
@[go_sem] theorem tkd_209 : tkd Tryz.prog 209 = some .other := by kernel_rfl
@[go_sem] theorem tsz_210 : tsz Tryz.prog 210 = some 1 := by kernel_rfl
@[go_sem] theorem tby_210 : tby Tryz.prog 210 = some 8 := by kernel_rfl
@[go_sem] theorem tze_210 : tze Tryz.prog 210 = some [.nilFunc] := by kernel_rfl
@[go_sem] theorem tag_210 : tag Tryz.prog 210 = some true := by kernel_rfl
@[go_sem] theorem tar_210 : tar Tryz.prog 210 = none := by kernel_rfl
@[go_sem] theorem tfo_210_0 : tfo Tryz.prog 210 0 = some (0, 51) := by kernel_rfl
@[go_sem] theorem tpl_210 : tpl Tryz.prog 210 = some [(0, 1)] := by kernel_rfl
@[go_sem] theorem tcs_210 : tcs Tryz.prog 210 = [] := by kernel_rfl
@[go_sem] theorem tkd_210 : tkd Tryz.prog 210 = some .other := by kernel_rfl
@[go_sem] theorem tsz_211 : tsz Tryz.prog 211 = some 1 := by kernel_rfl
@[go_sem] theorem tby_211 : tby Tryz.prog 211 = some 24 := by kernel_rfl
@[go_sem] theorem tze_211 : tze Tryz.prog 211 = some [.slice none 0 0] := by kernel_rfl
@[go_sem] theorem tag_211 : tag Tryz.prog 211 = some false := by kernel_rfl
@[go_sem] theorem tel_211 : tel Tryz.prog 211 = some 210 := by kernel_rfl
@[go_sem] theorem tar_211 : tar Tryz.prog 211 = none := by kernel_rfl
@[go_sem] theorem tcs_211 : tcs Tryz.prog 211 = [(0, 1)] := by kernel_rfl
@[go_sem] theorem tkd_211 : tkd Tryz.prog 211 = some (.slice 210) := by kernel_rfl
@[go_sem] theorem tsz_213 : tsz Tryz.prog 213 = some 1 := by kernel_rfl
@[go_sem] theorem tby_213 : tby Tryz.prog 213 = some 8 := by kernel_rfl
@[go_sem] theorem tze_213 : tze Tryz.prog 213 = some [.map none] := by kernel_rfl
@[go_sem] theorem tag_213 : tag Tryz.prog 213 = some false := by kernel_rfl
@[go_sem] theorem tar_213 : tar Tryz.prog 213 = none := by kernel_rfl
@[go_sem] theorem tcs_213 : tcs Tryz.prog 213 = [] := by kernel_rfl
@[go_sem] theorem tmp_213 : tmp Tryz.prog 213 = some (3, 3) := by kernel_rfl
@[go_sem] theorem tkd_213 : tkd Tryz.prog 213 = some (.map 3 3) := by kernel_rfl
@[go_sem] theorem tsz_230 : tsz Tryz.prog 230 = some 1 := by kernel_rfl
@[go_sem] theorem tby_230 : tby Tryz.prog 230 = some 4 := by kernel_rfl
@[go_sem] theorem tze_230 : tze Tryz.prog 230 = some [.int .u32 0] := by kernel_rfl
@[go_sem] theorem tag_230 : tag Tryz.prog 230 = some false := by kernel_rfl
@[go_sem] theorem tar_230 : tar Tryz.prog 230 = none := by kernel_rfl
@[go_sem] theorem tcs_230 : tcs Tryz.prog 230 = [] := by kernel_rfl
@[go_sem] theorem tkd_230 : tkd Tryz.prog 230 = some (.int .u32) := by kernel_rfl
@[go_sem] theorem tsz_233 : tsz Tryz.prog 233 = some 1 := by kernel_rfl
@[go_sem] theorem tby_233 : tby Tryz.prog 233 = some 8 := by kernel_rfl
@[go_sem] theorem tze_233 : tze Tryz.prog 233 = some [.int .u64 0] := by kernel_rfl
@[go_sem] theorem tag_233 : tag Tryz.prog 233 = some false := by kernel_rfl
@[go_sem] theorem tar_233 : tar Tryz.prog 233 = none := by kernel_rfl
@[go_sem] theorem tcs_233 : tcs Tryz.prog 233 = [] := by kernel_rfl
@[go_sem] theorem tkd_233 : tkd Tryz.prog 233 = some (.int .u64) := by kernel_rfl
@[go_sem] theorem tsz_246 : tsz Tryz.prog 246 = some 1 := by kernel_rfl
@[go_sem] theorem tby_246 : tby Tryz.prog 246 = some 8 := by kernel_rfl
@[go_sem] theorem tze_246 : tze Tryz.prog 246 = some [.pointer none] := by kernel_rfl
@[go_sem] theorem tag_246 : tag Tryz.prog 246 = some false := by kernel_rfl
@[go_sem] theorem tar_246 : tar Tryz.prog 246 = none := by kernel_rfl
@[go_sem] theorem tcs_246 : tcs Tryz.prog 246 = [] := by kernel_rfl
@[go_sem] theorem tptr_246 : tptr Tryz.prog 246 = true := by kernel_rfl
@[go_sem] theorem tkd_246 : tkd Tryz.prog 246 = some .other := by kernel_rfl
@[go_sem] theorem tsz_251 : tsz Tryz.prog 251 = some 1 := by kernel_rfl
@[go_sem] theorem tby_251 : tby Tryz.prog 251 = some 8 := by kernel_rfl
@[go_sem] theorem tze_251 : tze Tryz.prog 251 = some [.pointer none] := by kernel_rfl
@[go_sem] theorem tag_251 : tag Tryz.prog 251 = some false := by kernel_rfl
@[go_sem] theorem tar_251 : tar Tryz.prog 251 = none := by kernel_rfl
@[go_sem] theorem tcs_251 : tcs Tryz.prog 251 = [] := by kernel_rfl
@[go_sem] theorem tkd_251 : tkd Tryz.prog 251 = some .other := by kernel_rfl
@[go_sem] theorem fxk_3 : fxk Tryz.prog 3 = none := by kernel_rfl
@[go_sem] theorem fnOk_3 : fnOk Tryz.prog 3 = true := by kernel_rfl
@[go_sem] theorem fxk_4 : fxk Tryz.prog 4 = none := by kernel_rfl
@[go_sem] theorem fnOk_4 : fnOk Tryz.prog 4 = true := by kernel_rfl
@[go_sem] theorem fxk_5 : fxk Tryz.prog 5 = none := by kernel_rfl
@[go_sem] theorem fnOk_5 : fnOk Tryz.prog 5 = true := by kernel_rfl
@[go_sem] theorem fxk_6 : fxk Tryz.prog 6 = none := by kernel_rfl
@[go_sem] theorem fnOk_6 : fnOk Tryz.prog 6 = true := by kernel_rfl
@[go_sem] theorem fxk_7 : fxk Tryz.prog 7 = none := by kernel_rfl
@[go_sem] theorem fnOk_7 : fnOk Tryz.prog 7 = true := by kernel_rfl
@[go_sem] theorem fxk_8 : fxk Tryz.prog 8 = none := by kernel_rfl
@[go_sem] theorem fnOk_8 : fnOk Tryz.prog 8 = true := by kernel_rfl
@[go_sem] theorem fxk_9 : fxk Tryz.prog 9 = none := by kernel_rfl
@[go_sem] theorem fnOk_9 : fnOk Tryz.prog 9 = true := by kernel_rfl
@[go_sem] theorem fxk_10 : fxk Tryz.prog 10 = none := by kernel_rfl
@[go_sem] theorem fnOk_10 : fnOk Tryz.prog 10 = true := by kernel_rfl
@[go_sem] theorem fxk_11 : fxk Tryz.prog 11 = none := by kernel_rfl
@[go_sem] theorem fnOk_11 : fnOk Tryz.prog 11 = true := by kernel_rfl
@[go_sem] theorem fxk_12 : fxk Tryz.prog 12 = none := by kernel_rfl
@[go_sem] theorem fnOk_12 : fnOk Tryz.prog 12 = true := by kernel_rfl
@[go_sem] theorem fxk_13 : fxk Tryz.prog 13 = none := by kernel_rfl
@[go_sem] theorem fnOk_13 : fnOk Tryz.prog 13 = true := by kernel_rfl
@[go_sem] theorem fxk_14 : fxk Tryz.prog 14 = none := by kernel_rfl
@[go_sem] theorem fnOk_14 : fnOk Tryz.prog 14 = true := by kernel_rfl
@[go_sem] theorem fxk_15 : fxk Tryz.prog 15 = none := by kernel_rfl
@[go_sem] theorem fnOk_15 : fnOk Tryz.prog 15 = true := by kernel_rfl
@[go_sem] theorem fxk_16 : fxk Tryz.prog 16 = none := by kernel_rfl
@[go_sem] theorem fnOk_16 : fnOk Tryz.prog 16 = true := by kernel_rfl
@[go_sem] theorem fxk_17 : fxk Tryz.prog 17 = none := by kernel_rfl
@[go_sem] theorem fnOk_17 : fnOk Tryz.prog 17 = true := by kernel_rfl
@[go_sem] theorem fxk_18 : fxk Tryz.prog 18 = none := by kernel_rfl
@[go_sem] theorem fnOk_18 : fnOk Tryz.prog 18 = true := by kernel_rfl
@[go_sem] theorem fxk_19 : fxk Tryz.prog 19 = none := by kernel_rfl
@[go_sem] theorem fnOk_19 : fnOk Tryz.prog 19 = true := by kernel_rfl
@[go_sem] theorem fxk_20 : fxk Tryz.prog 20 = none := by kernel_rfl
@[go_sem] theorem fnOk_20 : fnOk Tryz.prog 20 = true := by kernel_rfl
@[go_sem] theorem fxk_21 : fxk Tryz.prog 21 = none := by kernel_rfl
@[go_sem] theorem fnOk_21 : fnOk Tryz.prog 21 = true := by kernel_rfl
@[go_sem] theorem fxk_22 : fxk Tryz.prog 22 = none := by kernel_rfl
@[go_sem] theorem fnOk_22 : fnOk Tryz.prog 22 = true := by kernel_rfl
@[go_sem] theorem fxk_23 : fxk Tryz.prog 23 = none := by kernel_rfl
@[go_sem] theorem fnOk_23 : fnOk Tryz.prog 23 = true := by kernel_rfl
@[go_sem] theorem fxk_24 : fxk Tryz.prog 24 = none := by kernel_rfl
@[go_sem] theorem fnOk_24 : fnOk Tryz.prog 24 = true := by kernel_rfl
@[go_sem] theorem fxk_25 : fxk Tryz.prog 25 = none := by kernel_rfl
@[go_sem] theorem fnOk_25 : fnOk Tryz.prog 25 = true := by kernel_rfl
@[go_sem] theorem fxk_26 : fxk Tryz.prog 26 = none := by kernel_rfl
@[go_sem] theorem fnOk_26 : fnOk Tryz.prog 26 = true := by kernel_rfl
@[go_sem] theorem fxk_27 : fxk Tryz.prog 27 = none := by kernel_rfl
@[go_sem] theorem fnOk_27 : fnOk Tryz.prog 27 = true := by kernel_rfl
@[go_sem] theorem fxk_28 : fxk Tryz.prog 28 = none := by kernel_rfl
@[go_sem] theorem fnOk_28 : fnOk Tryz.prog 28 = true := by kernel_rfl
@[go_sem] theorem fxk_29 : fxk Tryz.prog 29 = none := by kernel_rfl
@[go_sem] theorem fnOk_29 : fnOk Tryz.prog 29 = true := by kernel_rfl
@[go_sem] theorem fxk_30 : fxk Tryz.prog 30 = none := by kernel_rfl
@[go_sem] theorem fnOk_30 : fnOk Tryz.prog 30 = true := by kernel_rfl
@[go_sem] theorem fxk_31 : fxk Tryz.prog 31 = none := by kernel_rfl
@[go_sem] theorem fnOk_31 : fnOk Tryz.prog 31 = true := by kernel_rfl
@[go_sem] theorem fxk_32 : fxk Tryz.prog 32 = none := by kernel_rfl
@[go_sem] theorem fnOk_32 : fnOk Tryz.prog 32 = true := by kernel_rfl
@[go_sem] theorem fxk_33 : fxk Tryz.prog 33 = none := by kernel_rfl
@[go_sem] theorem fnOk_33 : fnOk Tryz.prog 33 = true := by kernel_rfl
@[go_sem] theorem fxk_34 : fxk Tryz.prog 34 = none := by kernel_rfl
@[go_sem] theorem fnOk_34 : fnOk Tryz.prog 34 = true := by kernel_rfl
@[go_sem] theorem fxk_35 : fxk Tryz.prog 35 = none := by kernel_rfl
@[go_sem] theorem fnOk_35 : fnOk Tryz.prog 35 = true := by kernel_rfl
@[go_sem] theorem fxk_36 : fxk Tryz.prog 36 = none := by kernel_rfl
@[go_sem] theorem fnOk_36 : fnOk Tryz.prog 36 = true := by kernel_rfl
@[go_sem] theorem fxk_37 : fxk Tryz.prog 37 = none := by kernel_rfl
@[go_sem] theorem fnOk_37 : fnOk Tryz.prog 37 = true := by kernel_rfl
@[go_sem] theorem fxk_38 : fxk Tryz.prog 38 = none := by kernel_rfl
@[go_sem] theorem fnOk_38 : fnOk Tryz.prog 38 = true := by kernel_rfl
@[go_sem] theorem fxk_39 : fxk Tryz.prog 39 = none := by kernel_rfl
@[go_sem] theorem fnOk_39 : fnOk Tryz.prog 39 = true := by kernel_rfl
@[go_sem] theorem fxk_40 : fxk Tryz.prog 40 = none := by kernel_rfl
@[go_sem] theorem fnOk_40 : fnOk Tryz.prog 40 = true := by kernel_rfl
@[go_sem] theorem fxk_41 : fxk Tryz.prog 41 = none := by kernel_rfl
@[go_sem] theorem fnOk_41 : fnOk Tryz.prog 41 = true := by kernel_rfl
@[go_sem] theorem fxk_42 : fxk Tryz.prog 42 = none := by kernel_rfl
@[go_sem] theorem fnOk_42 : fnOk Tryz.prog 42 = true := by kernel_rfl
@[go_sem] theorem fxk_43 : fxk Tryz.prog 43 = none := by kernel_rfl
@[go_sem] theorem fnOk_43 : fnOk Tryz.prog 43 = true := by kernel_rfl
@[go_sem] theorem fxk_44 : fxk Tryz.prog 44 = none := by kernel_rfl
@[go_sem] theorem fnOk_44 : fnOk Tryz.prog 44 = true := by kernel_rfl
@[go_sem] theorem fxk_45 : fxk Tryz.prog 45 = none := by kernel_rfl
@[go_sem] theorem fnOk_45 : fnOk Tryz.prog 45 = true := by kernel_rfl
@[go_sem] theorem fxk_46 : fxk Tryz.prog 46 = none := by kernel_rfl
@[go_sem] theorem fnOk_46 : fnOk Tryz.prog 46 = true := by kernel_rfl
@[go_sem] theorem fxk_47 : fxk Tryz.prog 47 = none := by kernel_rfl
@[go_sem] theorem fnOk_47 : fnOk Tryz.prog 47 = true := by kernel_rfl
@[go_sem] theorem fxk_48 : fxk Tryz.prog 48 = none := by kernel_rfl
@[go_sem] theorem fnOk_48 : fnOk Tryz.prog 48 = true := by kernel_rfl
@[go_sem] theorem fxk_49 : fxk Tryz.prog 49 = none := by kernel_rfl
@[go_sem] theorem fnOk_49 : fnOk Tryz.prog 49 = true := by kernel_rfl
@[go_sem] theorem fxk_50 : fxk Tryz.prog 50 = none := by kernel_rfl
@[go_sem] theorem fnOk_50 : fnOk Tryz.prog 50 = true := by kernel_rfl
@[go_sem] theorem fxk_51 : fxk Tryz.prog 51 = none := by kernel_rfl
@[go_sem] theorem fnOk_51 : fnOk Tryz.prog 51 = true := by kernel_rfl
@[go_sem] theorem fxk_52 : fxk Tryz.prog 52 = none := by kernel_rfl
@[go_sem] theorem fnOk_52 : fnOk Tryz.prog 52 = true := by kernel_rfl
@[go_sem] theorem fxk_53 : fxk Tryz.prog 53 = none := by kernel_rfl
@[go_sem] theorem fnOk_53 : fnOk Tryz.prog 53 = true := by kernel_rfl
@[go_sem] theorem fxk_54 : fxk Tryz.prog 54 = none := by kernel_rfl
@[go_sem] theorem fnOk_54 : fnOk Tryz.prog 54 = true := by kernel_rfl
@[go_sem] theorem fxk_55 : fxk Tryz.prog 55 = none := by kernel_rfl
@[go_sem] theorem fnOk_55 : fnOk Tryz.prog 55 = true := by kernel_rfl
@[go_sem] theorem fxk_56 : fxk Tryz.prog 56 = none := by kernel_rfl
@[go_sem] theorem fnOk_56 : fnOk Tryz.prog 56 = true := by kernel_rfl
@[go_sem] theorem fxk_57 : fxk Tryz.prog 57 = none := by kernel_rfl
@[go_sem] theorem fnOk_57 : fnOk Tryz.prog 57 = true := by kernel_rfl
@[go_sem] theorem fxk_58 : fxk Tryz.prog 58 = none := by kernel_rfl
@[go_sem] theorem fnOk_58 : fnOk Tryz.prog 58 = true := by kernel_rfl
@[go_sem] theorem fxk_59 : fxk Tryz.prog 59 = none := by kernel_rfl
@[go_sem] theorem fnOk_59 : fnOk Tryz.prog 59 = true := by kernel_rfl
@[go_sem] theorem fxk_60 : fxk Tryz.prog 60 = none := by kernel_rfl
@[go_sem] theorem fnOk_60 : fnOk Tryz.prog 60 = true := by kernel_rfl
@[go_sem] theorem fxk_61 : fxk Tryz.prog 61 = none := by kernel_rfl
@[go_sem] theorem fnOk_61 : fnOk Tryz.prog 61 = true := by kernel_rfl
@[go_sem] theorem fxk_62 : fxk Tryz.prog 62 = none := by kernel_rfl
@[go_sem] theorem fnOk_62 : fnOk Tryz.prog 62 = true := by kernel_rfl
@[go_sem] theorem fxk_63 : fxk Tryz.prog 63 = none := by kernel_rfl
@[go_sem] theorem fnOk_63 : fnOk Tryz.prog 63 = true := by kernel_rfl
@[go_sem] theorem fxk_64 : fxk Tryz.prog 64 = none := by kernel_rfl
@[go_sem] theorem fnOk_64 : fnOk Tryz.prog 64 = true := by kernel_rfl
@[go_sem] theorem fxk_65 : fxk Tryz.prog 65 = none := by kernel_rfl
@[go_sem] theorem fnOk_65 : fnOk Tryz.prog 65 = true := by kernel_rfl
@[go_sem] theorem fxk_66 : fxk Tryz.prog 66 = none := by kernel_rfl
@[go_sem] theorem fnOk_66 : fnOk Tryz.prog 66 = true := by kernel_rfl
@[go_sem] theorem fxk_67 : fxk Tryz.prog 67 = none := by kernel_rfl
@[go_sem] theorem fnOk_67 : fnOk Tryz.prog 67 = true := by kernel_rfl
@[go_sem] theorem fxk_68 : fxk Tryz.prog 68 = none := by kernel_rfl
@[go_sem] theorem fnOk_68 : fnOk Tryz.prog 68 = true := by kernel_rfl
@[go_sem] theorem fxk_69 : fxk Tryz.prog 69 = none := by kernel_rfl
@[go_sem] theorem fnOk_69 : fnOk Tryz.prog 69 = true := by kernel_rfl
@[go_sem] theorem fxk_70 : fxk Tryz.prog 70 = none := by kernel_rfl
@[go_sem] theorem fnOk_70 : fnOk Tryz.prog 70 = true := by kernel_rfl
@[go_sem] theorem fxk_71 : fxk Tryz.prog 71 = none := by kernel_rfl
@[go_sem] theorem fnOk_71 : fnOk Tryz.prog 71 = true := by kernel_rfl
@[go_sem] theorem fxk_72 : fxk Tryz.prog 72 = none := by kernel_rfl
@[go_sem] theorem fnOk_72 : fnOk Tryz.prog 72 = true := by kernel_rfl
@[go_sem] theorem fxk_73 : fxk Tryz.prog 73 = none := by kernel_rfl
@[go_sem] theorem fnOk_73 : fnOk Tryz.prog 73 = true := by kernel_rfl
@[go_sem] theorem fxk_74 : fxk Tryz.prog 74 = none := by kernel_rfl
@[go_sem] theorem fnOk_74 : fnOk Tryz.prog 74 = true := by kernel_rfl
@[go_sem] theorem fxk_75 : fxk Tryz.prog 75 = none := by kernel_rfl
@[go_sem] theorem fnOk_75 : fnOk Tryz.prog 75 = true := by kernel_rfl
@[go_sem] theorem fxk_76 : fxk Tryz.prog 76 = none := by kernel_rfl
@[go_sem] theorem fnOk_76 : fnOk Tryz.prog 76 = true := by kernel_rfl
@[go_sem] theorem fxk_77 : fxk Tryz.prog 77 = none := by kernel_rfl
@[go_sem] theorem fnOk_77 : fnOk Tryz.prog 77 = true := by kernel_rfl
@[go_sem] theorem fxk_78 : fxk Tryz.prog 78 = none := by kernel_rfl
@[go_sem] theorem fnOk_78 : fnOk Tryz.prog 78 = true := by kernel_rfl
@[go_sem] theorem fxk_79 : fxk Tryz.prog 79 = none := by kernel_rfl
@[go_sem] theorem fnOk_79 : fnOk Tryz.prog 79 = true := by kernel_rfl
@[go_sem] theorem fxk_80 : fxk Tryz.prog 80 = none := by kernel_rfl
@[go_sem] theorem fnOk_80 : fnOk Tryz.prog 80 = true := by kernel_rfl
@[go_sem] theorem fxk_81 : fxk Tryz.prog 81 = none := by kernel_rfl
@[go_sem] theorem fnOk_81 : fnOk Tryz.prog 81 = true := by kernel_rfl
@[go_sem] theorem fxk_82 : fxk Tryz.prog 82 = none := by kernel_rfl
@[go_sem] theorem fnOk_82 : fnOk Tryz.prog 82 = true := by kernel_rfl
@[go_sem] theorem fxk_83 : fxk Tryz.prog 83 = none := by kernel_rfl
@[go_sem] theorem fnOk_83 : fnOk Tryz.prog 83 = true := by kernel_rfl
@[go_sem] theorem fxk_84 : fxk Tryz.prog 84 = none := by kernel_rfl
@[go_sem] theorem fnOk_84 : fnOk Tryz.prog 84 = true := by kernel_rfl
@[go_sem] theorem fxk_85 : fxk Tryz.prog 85 = none := by kernel_rfl
@[go_sem] theorem fnOk_85 : fnOk Tryz.prog 85 = true := by kernel_rfl
@[go_sem] theorem fxk_86 : fxk Tryz.prog 86 = none := by kernel_rfl
@[go_sem] theorem fnOk_86 : fnOk Tryz.prog 86 = true := by kernel_rfl
@[go_sem] theorem fxk_87 : fxk Tryz.prog 87 = none := by kernel_rfl
@[go_sem] theorem fnOk_87 : fnOk Tryz.prog 87 = true := by kernel_rfl
@[go_sem] theorem fxk_88 : fxk Tryz.prog 88 = none := by kernel_rfl
@[go_sem] theorem fnOk_88 : fnOk Tryz.prog 88 = true := by kernel_rfl
@[go_sem] theorem fxk_89 : fxk Tryz.prog 89 = none := by kernel_rfl
@[go_sem] theorem fnOk_89 : fnOk Tryz.prog 89 = true := by kernel_rfl
@[go_sem] theorem fxk_90 : fxk Tryz.prog 90 = none := by kernel_rfl
@[go_sem] theorem fnOk_90 : fnOk Tryz.prog 90 = true := by kernel_rfl
@[go_sem] theorem fxk_91 : fxk Tryz.prog 91 = none := by kernel_rfl
@[go_sem] theorem fnOk_91 : fnOk Tryz.prog 91 = true := by kernel_rfl
@[go_sem] theorem fxk_92 : fxk Tryz.prog 92 = none := by kernel_rfl
@[go_sem] theorem fnOk_92 : fnOk Tryz.prog 92 = true := by kernel_rfl
@[go_sem] theorem fxk_93 : fxk Tryz.prog 93 = none := by kernel_rfl
@[go_sem] theorem fnOk_93 : fnOk Tryz.prog 93 = true := by kernel_rfl
@[go_sem] theorem fxk_94 : fxk Tryz.prog 94 = none := by kernel_rfl
@[go_sem] theorem fnOk_94 : fnOk Tryz.prog 94 = true := by kernel_rfl
@[go_sem] theorem fxk_95 : fxk Tryz.prog 95 = none := by kernel_rfl
@[go_sem] theorem fnOk_95 : fnOk Tryz.prog 95 = true := by kernel_rfl
@[go_sem] theorem fxk_96 : fxk Tryz.prog 96 = none := by kernel_rfl
@[go_sem] theorem fnOk_96 : fnOk Tryz.prog 96 = true := by kernel_rfl
@[go_sem] theorem fxk_97 : fxk Tryz.prog 97 = none := by kernel_rfl
@[go_sem] theorem fnOk_97 : fnOk Tryz.prog 97 = true := by kernel_rfl
@[go_sem] theorem fxk_98 : fxk Tryz.prog 98 = none := by kernel_rfl
@[go_sem] theorem fnOk_98 : fnOk Tryz.prog 98 = true := by kernel_rfl
@[go_sem] theorem fxk_99 : fxk Tryz.prog 99 = none := by kernel_rfl
@[go_sem] theorem fnOk_99 : fnOk Tryz.prog 99 = true := by kernel_rfl
@[go_sem] theorem fxk_100 : fxk Tryz.prog 100 = none := by kernel_rfl
@[go_sem] theorem fnOk_100 : fnOk Tryz.prog 100 = true := by kernel_rfl
@[go_sem] theorem fxk_101 : fxk Tryz.prog 101 = none := by kernel_rfl
@[go_sem] theorem fnOk_101 : fnOk Tryz.prog 101 = true := by kernel_rfl
@[go_sem] theorem fxk_102 : fxk Tryz.prog 102 = none := by kernel_rfl
@[go_sem] theorem fnOk_102 : fnOk Tryz.prog 102 = true := by kernel_rfl
@[go_sem] theorem fxk_103 : fxk Tryz.prog 103 = none := by kernel_rfl
@[go_sem] theorem fnOk_103 : fnOk Tryz.prog 103 = true := by kernel_rfl
@[go_sem] theorem fxk_104 : fxk Tryz.prog 104 = none := by kernel_rfl
@[go_sem] theorem fnOk_104 : fnOk Tryz.prog 104 = true := by kernel_rfl
@[go_sem] theorem fxk_105 : fxk Tryz.prog 105 = none := by kernel_rfl
@[go_sem] theorem fnOk_105 : fnOk Tryz.prog 105 = true := by kernel_rfl
@[go_sem] theorem fxk_106 : fxk Tryz.prog 106 = none := by kernel_rfl
@[go_sem] theorem fnOk_106 : fnOk Tryz.prog 106 = true := by kernel_rfl
@[go_sem] theorem fxk_107 : fxk Tryz.prog 107 = none := by kernel_rfl
@[go_sem] theorem fnOk_107 : fnOk Tryz.prog 107 = true := by kernel_rfl
@[go_sem] theorem fxk_108 : fxk Tryz.prog 108 = none := by kernel_rfl
@[go_sem] theorem fnOk_108 : fnOk Tryz.prog 108 = true := by kernel_rfl
@[go_sem] theorem fxk_109 : fxk Tryz.prog 109 = none := by kernel_rfl
@[go_sem] theorem fnOk_109 : fnOk Tryz.prog 109 = true := by kernel_rfl
@[go_sem] theorem fxk_110 : fxk Tryz.prog 110 = none := by kernel_rfl
@[go_sem] theorem fnOk_110 : fnOk Tryz.prog 110 = true := by kernel_rfl
@[go_sem] theorem fxk_111 : fxk Tryz.prog 111 = none := by kernel_rfl
@[go_sem] theorem fnOk_111 : fnOk Tryz.prog 111 = true := by kernel_rfl
@[go_sem] theorem fxk_112 : fxk Tryz.prog 112 = none := by kernel_rfl
@[go_sem] theorem fxk_113 : fxk Tryz.prog 113 = none := by kernel_rfl
@[go_sem] theorem fnOk_113 : fnOk Tryz.prog 113 = true := by kernel_rfl
@[go_sem] theorem fxk_114 : fxk Tryz.prog 114 = none := by kernel_rfl
@[go_sem] theorem fnOk_114 : fnOk Tryz.prog 114 = true := by kernel_rfl
@[go_sem] theorem fxk_115 : fxk Tryz.prog 115 = none := by kernel_rfl
@[go_sem] theorem fnOk_115 : fnOk Tryz.prog 115 = true := by kernel_rfl
@[go_sem] theorem fxk_116 : fxk Tryz.prog 116 = none := by kernel_rfl
@[go_sem] theorem fnOk_116 : fnOk Tryz.prog 116 = true := by kernel_rfl
@[go_sem] theorem fxk_117 : fxk Tryz.prog 117 = none := by kernel_rfl
@[go_sem] theorem fnOk_117 : fnOk Tryz.prog 117 = true := by kernel_rfl
@[go_sem] theorem fxk_118 : fxk Tryz.prog 118 = none := by kernel_rfl
@[go_sem] theorem fnOk_118 : fnOk Tryz.prog 118 = true := by kernel_rfl
@[go_sem] theorem fxk_119 : fxk Tryz.prog 119 = none := by kernel_rfl
@[go_sem] theorem fnOk_119 : fnOk Tryz.prog 119 = true := by kernel_rfl
@[go_sem] theorem fxk_120 : fxk Tryz.prog 120 = none := by kernel_rfl
@[go_sem] theorem fnOk_120 : fnOk Tryz.prog 120 = true := by kernel_rfl
@[go_sem] theorem fxk_121 : fxk Tryz.prog 121 = none := by kernel_rfl
@[go_sem] theorem fnOk_121 : fnOk Tryz.prog 121 = true := by kernel_rfl
@[go_sem] theorem fxk_122 : fxk Tryz.prog 122 = none := by kernel_rfl
@[go_sem] theorem fnOk_122 : fnOk Tryz.prog 122 = true := by kernel_rfl
@[go_sem] theorem fxk_123 : fxk Tryz.prog 123 = none := by kernel_rfl
@[go_sem] theorem fnOk_123 : fnOk Tryz.prog 123 = true := by kernel_rfl
@[go_sem] theorem fxk_124 : fxk Tryz.prog 124 = none := by kernel_rfl
@[go_sem] theorem fnOk_124 : fnOk Tryz.prog 124 = true := by kernel_rfl
@[go_sem] theorem fxk_125 : fxk Tryz.prog 125 = none := by kernel_rfl
@[go_sem] theorem fnOk_125 : fnOk Tryz.prog 125 = true := by kernel_rfl
@[go_sem] theorem fxk_126 : fxk Tryz.prog 126 = none := by kernel_rfl
@[go_sem] theorem fnOk_126 : fnOk Tryz.prog 126 = true := by kernel_rfl
@[go_sem] theorem fxk_127 : fxk Tryz.prog 127 = none := by kernel_rfl
@[go_sem] theorem fnOk_127 : fnOk Tryz.prog 127 = true := by kernel_rfl
@[go_sem] theorem fxk_128 : fxk Tryz.prog 128 = none := by kernel_rfl
@[go_sem] theorem fnOk_128 : fnOk Tryz.prog 128 = true := by kernel_rfl
@[go_sem] theorem fxk_129 : fxk Tryz.prog 129 = none := by kernel_rfl
@[go_sem] theorem fnOk_129 : fnOk Tryz.prog 129 = true := by kernel_rfl
@[go_sem] theorem fxk_130 : fxk Tryz.prog 130 = none := by kernel_rfl
@[go_sem] theorem fnOk_130 : fnOk Tryz.prog 130 = true := by kernel_rfl
@[go_sem] theorem fxk_131 : fxk Tryz.prog 131 = none := by kernel_rfl
@[go_sem] theorem fnOk_131 : fnOk Tryz.prog 131 = true := by kernel_rfl
@[go_sem] theorem fxk_132 : fxk Tryz.prog 132 = none := by kernel_rfl
@[go_sem] theorem fnOk_132 : fnOk Tryz.prog 132 = true := by kernel_rfl
@[go_sem] theorem fxk_133 : fxk Tryz.prog 133 = none := by kernel_rfl
@[go_sem] theorem fnOk_133 : fnOk Tryz.prog 133 = true := by kernel_rfl
@[go_sem] theorem fxk_134 : fxk Tryz.prog 134 = none := by kernel_rfl
@[go_sem] theorem fnOk_134 : fnOk Tryz.prog 134 = true := by kernel_rfl
@[go_sem] theorem fxk_135 : fxk Tryz.prog 135 = none := by kernel_rfl
@[go_sem] theorem fnOk_135 : fnOk Tryz.prog 135 = true := by kernel_rfl
@[go_sem] theorem fxk_136 : fxk Tryz.prog 136 = none := by kernel_rfl
@[go_sem] theorem fnOk_136 : fnOk Tryz.prog 136 = true := by kernel_rfl
@[go_sem] theorem fxk_137 : fxk Tryz.prog 137 = none := by kernel_rfl
@[go_sem] theorem fnOk_137 : fnOk Tryz.prog 137 = true := by kernel_rfl
@[go_sem] theorem fxk_138 : fxk Tryz.prog 138 = none := by kernel_rfl
@[go_sem] theorem fnOk_138 : fnOk Tryz.prog 138 = true := by kernel_rfl
@[go_sem] theorem fxk_139 : fxk Tryz.prog 139 = none := by kernel_rfl
@[go_sem] theorem fnOk_139 : fnOk Tryz.prog 139 = true := by kernel_rfl
@[go_sem] theorem fxk_140 : fxk Tryz.prog 140 = none := by kernel_rfl
@[go_sem] theorem fnOk_140 : fnOk Tryz.prog 140 = true := by kernel_rfl
@[go_sem] theorem fxk_141 : fxk Tryz.prog 141 = none := by kernel_rfl
@[go_sem] theorem fnOk_141 : fnOk Tryz.prog 141 = true := by kernel_rfl
@[go_sem] theorem fxk_142 : fxk Tryz.prog 142 = none := by kernel_rfl
@[go_sem] theorem fnOk_142 : fnOk Tryz.prog 142 = true := by kernel_rfl
@[go_sem] theorem fxk_143 : fxk Tryz.prog 143 = none := by kernel_rfl
@[go_sem] theorem fnOk_143 : fnOk Tryz.prog 143 = true := by kernel_rfl
@[go_sem] theorem fxk_144 : fxk Tryz.prog 144 = none := by kernel_rfl
@[go_sem] theorem fnOk_144 : fnOk Tryz.prog 144 = true := by kernel_rfl
@[go_sem] theorem fxk_145 : fxk Tryz.prog 145 = none := by kernel_rfl
@[go_sem] theorem fnOk_145 : fnOk Tryz.prog 145 = true := by kernel_rfl
@[go_sem] theorem fxk_146 : fxk Tryz.prog 146 = none := by kernel_rfl
@[go_sem] theorem fnOk_146 : fnOk Tryz.prog 146 = true := by kernel_rfl
@[go_sem] theorem fxk_147 : fxk Tryz.prog 147 = none := by kernel_rfl
@[go_sem] theorem fnOk_147 : fnOk Tryz.prog 147 = true := by kernel_rfl
@[go_sem] theorem fxk_148 : fxk Tryz.prog 148 = none := by kernel_rfl
@[go_sem] theorem fnOk_148 : fnOk Tryz.prog 148 = true := by kernel_rfl
@[go_sem] theorem fxk_149 : fxk Tryz.prog 149 = none := by kernel_rfl
@[go_sem] theorem fnOk_149 : fnOk Tryz.prog 149 = true := by kernel_rfl
@[go_sem] theorem fxk_150 : fxk Tryz.prog 150 = none := by kernel_rfl
@[go_sem] theorem fnOk_150 : fnOk Tryz.prog 150 = true := by kernel_rfl
@[go_sem] theorem fxk_151 : fxk Tryz.prog 151 = none := by kernel_rfl
@[go_sem] theorem fnOk_151 : fnOk Tryz.prog 151 = true := by kernel_rfl
@[go_sem] theorem fxk_152 : fxk Tryz.prog 152 = none := by kernel_rfl
@[go_sem] theorem fnOk_152 : fnOk Tryz.prog 152 = true := by kernel_rfl
@[go_sem] theorem fxk_153 : fxk Tryz.prog 153 = none := by kernel_rfl
@[go_sem] theorem fnOk_153 : fnOk Tryz.prog 153 = true := by kernel_rfl
theorem mixed : Tryz.prog.follows .mixedOrders = true := by kernel_rfl
end Go.Proofs.GY

attribute [go_sem] Go.Proofs.Tryz.ntmps3 Go.Proofs.Tryz.results3 Go.Proofs.Tryz.ntmps4 Go.Proofs.Tryz.results4 Go.Proofs.Tryz.ntmps5 Go.Proofs.Tryz.results5 Go.Proofs.Tryz.ntmps6 Go.Proofs.Tryz.results6 Go.Proofs.Tryz.ntmps7 Go.Proofs.Tryz.results7 Go.Proofs.Tryz.ntmps8 Go.Proofs.Tryz.results8 Go.Proofs.Tryz.ntmps9 Go.Proofs.Tryz.results9 Go.Proofs.Tryz.ntmps10 Go.Proofs.Tryz.results10 Go.Proofs.Tryz.ntmps11 Go.Proofs.Tryz.results11 Go.Proofs.Tryz.ntmps12 Go.Proofs.Tryz.results12 Go.Proofs.Tryz.ntmps13 Go.Proofs.Tryz.results13 Go.Proofs.Tryz.ntmps14 Go.Proofs.Tryz.results14 Go.Proofs.Tryz.ntmps15 Go.Proofs.Tryz.results15 Go.Proofs.Tryz.ntmps16 Go.Proofs.Tryz.results16 Go.Proofs.Tryz.ntmps17 Go.Proofs.Tryz.results17 Go.Proofs.Tryz.ntmps18 Go.Proofs.Tryz.results18 Go.Proofs.Tryz.ntmps19 Go.Proofs.Tryz.results19 Go.Proofs.Tryz.ntmps20 Go.Proofs.Tryz.results20 Go.Proofs.Tryz.ntmps21 Go.Proofs.Tryz.results21 Go.Proofs.Tryz.ntmps22 Go.Proofs.Tryz.results22 Go.Proofs.Tryz.ntmps23 Go.Proofs.Tryz.results23 Go.Proofs.Tryz.ntmps24 Go.Proofs.Tryz.results24 Go.Proofs.Tryz.ntmps25 Go.Proofs.Tryz.results25 Go.Proofs.Tryz.ntmps26 Go.Proofs.Tryz.results26 Go.Proofs.Tryz.ntmps27 Go.Proofs.Tryz.results27 Go.Proofs.Tryz.ntmps28 Go.Proofs.Tryz.results28 Go.Proofs.Tryz.ntmps29 Go.Proofs.Tryz.results29 Go.Proofs.Tryz.ntmps30 Go.Proofs.Tryz.results30 Go.Proofs.Tryz.ntmps31 Go.Proofs.Tryz.results31 Go.Proofs.Tryz.ntmps32 Go.Proofs.Tryz.results32 Go.Proofs.Tryz.ntmps33 Go.Proofs.Tryz.results33 Go.Proofs.Tryz.ntmps34 Go.Proofs.Tryz.results34 Go.Proofs.Tryz.ntmps35 Go.Proofs.Tryz.results35 Go.Proofs.Tryz.ntmps36 Go.Proofs.Tryz.results36 Go.Proofs.Tryz.ntmps37 Go.Proofs.Tryz.results37 Go.Proofs.Tryz.ntmps38 Go.Proofs.Tryz.results38 Go.Proofs.Tryz.ntmps39 Go.Proofs.Tryz.results39 Go.Proofs.Tryz.ntmps40 Go.Proofs.Tryz.results40 Go.Proofs.Tryz.ntmps41 Go.Proofs.Tryz.results41 Go.Proofs.Tryz.ntmps42 Go.Proofs.Tryz.results42 Go.Proofs.Tryz.ntmps43 Go.Proofs.Tryz.results43 Go.Proofs.Tryz.ntmps44 Go.Proofs.Tryz.results44 Go.Proofs.Tryz.ntmps45 Go.Proofs.Tryz.results45 Go.Proofs.Tryz.ntmps46 Go.Proofs.Tryz.results46 Go.Proofs.Tryz.ntmps47 Go.Proofs.Tryz.results47 Go.Proofs.Tryz.ntmps48 Go.Proofs.Tryz.results48 Go.Proofs.Tryz.ntmps49 Go.Proofs.Tryz.results49 Go.Proofs.Tryz.ntmps50 Go.Proofs.Tryz.results50 Go.Proofs.Tryz.ntmps51 Go.Proofs.Tryz.results51 Go.Proofs.Tryz.ntmps52 Go.Proofs.Tryz.results52 Go.Proofs.Tryz.ntmps53 Go.Proofs.Tryz.results53 Go.Proofs.Tryz.ntmps54 Go.Proofs.Tryz.results54 Go.Proofs.Tryz.ntmps55 Go.Proofs.Tryz.results55 Go.Proofs.Tryz.ntmps56 Go.Proofs.Tryz.results56 Go.Proofs.Tryz.ntmps57 Go.Proofs.Tryz.results57 Go.Proofs.Tryz.ntmps58 Go.Proofs.Tryz.results58 Go.Proofs.Tryz.ntmps59 Go.Proofs.Tryz.results59 Go.Proofs.Tryz.ntmps60 Go.Proofs.Tryz.results60 Go.Proofs.Tryz.ntmps61 Go.Proofs.Tryz.results61 Go.Proofs.Tryz.ntmps62 Go.Proofs.Tryz.results62 Go.Proofs.Tryz.ntmps63 Go.Proofs.Tryz.results63 Go.Proofs.Tryz.ntmps64 Go.Proofs.Tryz.results64 Go.Proofs.Tryz.ntmps65 Go.Proofs.Tryz.results65 Go.Proofs.Tryz.ntmps66 Go.Proofs.Tryz.results66 Go.Proofs.Tryz.ntmps67 Go.Proofs.Tryz.results67 Go.Proofs.Tryz.ntmps68 Go.Proofs.Tryz.results68 Go.Proofs.Tryz.ntmps69 Go.Proofs.Tryz.results69 Go.Proofs.Tryz.ntmps70 Go.Proofs.Tryz.results70 Go.Proofs.Tryz.ntmps71 Go.Proofs.Tryz.results71 Go.Proofs.Tryz.ntmps72 Go.Proofs.Tryz.results72 Go.Proofs.Tryz.ntmps73 Go.Proofs.Tryz.results73 Go.Proofs.Tryz.ntmps74 Go.Proofs.Tryz.results74 Go.Proofs.Tryz.ntmps75 Go.Proofs.Tryz.results75 Go.Proofs.Tryz.ntmps76 Go.Proofs.Tryz.results76 Go.Proofs.Tryz.ntmps77 Go.Proofs.Tryz.results77 Go.Proofs.Tryz.ntmps78 Go.Proofs.Tryz.results78 Go.Proofs.Tryz.ntmps79 Go.Proofs.Tryz.results79 Go.Proofs.Tryz.ntmps80 Go.Proofs.Tryz.results80 Go.Proofs.Tryz.ntmps81 Go.Proofs.Tryz.results81 Go.Proofs.Tryz.ntmps82 Go.Proofs.Tryz.results82 Go.Proofs.Tryz.ntmps83 Go.Proofs.Tryz.results83 Go.Proofs.Tryz.ntmps84 Go.Proofs.Tryz.results84 Go.Proofs.Tryz.ntmps85 Go.Proofs.Tryz.results85 Go.Proofs.Tryz.ntmps86 Go.Proofs.Tryz.results86 Go.Proofs.Tryz.ntmps87 Go.Proofs.Tryz.results87 Go.Proofs.Tryz.ntmps88 Go.Proofs.Tryz.results88 Go.Proofs.Tryz.ntmps89 Go.Proofs.Tryz.results89 Go.Proofs.Tryz.ntmps90 Go.Proofs.Tryz.results90 Go.Proofs.Tryz.ntmps91 Go.Proofs.Tryz.results91 Go.Proofs.Tryz.ntmps92 Go.Proofs.Tryz.results92 Go.Proofs.Tryz.ntmps93 Go.Proofs.Tryz.results93 Go.Proofs.Tryz.ntmps94 Go.Proofs.Tryz.results94 Go.Proofs.Tryz.ntmps95 Go.Proofs.Tryz.results95 Go.Proofs.Tryz.ntmps96 Go.Proofs.Tryz.results96 Go.Proofs.Tryz.ntmps97 Go.Proofs.Tryz.results97 Go.Proofs.Tryz.ntmps98 Go.Proofs.Tryz.results98 Go.Proofs.Tryz.ntmps99 Go.Proofs.Tryz.results99 Go.Proofs.Tryz.ntmps100 Go.Proofs.Tryz.results100 Go.Proofs.Tryz.ntmps101 Go.Proofs.Tryz.results101 Go.Proofs.Tryz.ntmps102 Go.Proofs.Tryz.results102 Go.Proofs.Tryz.ntmps103 Go.Proofs.Tryz.results103 Go.Proofs.Tryz.ntmps104 Go.Proofs.Tryz.results104 Go.Proofs.Tryz.ntmps105 Go.Proofs.Tryz.results105 Go.Proofs.Tryz.ntmps106 Go.Proofs.Tryz.results106 Go.Proofs.Tryz.ntmps107 Go.Proofs.Tryz.results107 Go.Proofs.Tryz.ntmps108 Go.Proofs.Tryz.results108 Go.Proofs.Tryz.ntmps109 Go.Proofs.Tryz.results109 Go.Proofs.Tryz.ntmps110 Go.Proofs.Tryz.results110 Go.Proofs.Tryz.ntmps111 Go.Proofs.Tryz.results111 Go.Proofs.Tryz.ntmps112 Go.Proofs.Tryz.results112 Go.Proofs.Tryz.ntmps113 Go.Proofs.Tryz.results113 Go.Proofs.Tryz.ntmps114 Go.Proofs.Tryz.results114 Go.Proofs.Tryz.ntmps115 Go.Proofs.Tryz.results115 Go.Proofs.Tryz.ntmps116 Go.Proofs.Tryz.results116 Go.Proofs.Tryz.ntmps117 Go.Proofs.Tryz.results117 Go.Proofs.Tryz.ntmps118 Go.Proofs.Tryz.results118 Go.Proofs.Tryz.ntmps119 Go.Proofs.Tryz.results119 Go.Proofs.Tryz.ntmps120 Go.Proofs.Tryz.results120 Go.Proofs.Tryz.ntmps121 Go.Proofs.Tryz.results121 Go.Proofs.Tryz.ntmps122 Go.Proofs.Tryz.results122 Go.Proofs.Tryz.ntmps123 Go.Proofs.Tryz.results123 Go.Proofs.Tryz.ntmps124 Go.Proofs.Tryz.results124 Go.Proofs.Tryz.ntmps125 Go.Proofs.Tryz.results125 Go.Proofs.Tryz.ntmps126 Go.Proofs.Tryz.results126 Go.Proofs.Tryz.ntmps127 Go.Proofs.Tryz.results127 Go.Proofs.Tryz.ntmps128 Go.Proofs.Tryz.results128 Go.Proofs.Tryz.ntmps129 Go.Proofs.Tryz.results129 Go.Proofs.Tryz.ntmps130 Go.Proofs.Tryz.results130 Go.Proofs.Tryz.ntmps131 Go.Proofs.Tryz.results131 Go.Proofs.Tryz.ntmps132 Go.Proofs.Tryz.results132 Go.Proofs.Tryz.ntmps133 Go.Proofs.Tryz.results133 Go.Proofs.Tryz.ntmps134 Go.Proofs.Tryz.results134 Go.Proofs.Tryz.ntmps135 Go.Proofs.Tryz.results135 Go.Proofs.Tryz.ntmps136 Go.Proofs.Tryz.results136 Go.Proofs.Tryz.ntmps137 Go.Proofs.Tryz.results137 Go.Proofs.Tryz.ntmps138 Go.Proofs.Tryz.results138 Go.Proofs.Tryz.ntmps139 Go.Proofs.Tryz.results139 Go.Proofs.Tryz.ntmps140 Go.Proofs.Tryz.results140 Go.Proofs.Tryz.ntmps141 Go.Proofs.Tryz.results141 Go.Proofs.Tryz.ntmps142 Go.Proofs.Tryz.results142 Go.Proofs.Tryz.ntmps143 Go.Proofs.Tryz.results143 Go.Proofs.Tryz.ntmps144 Go.Proofs.Tryz.results144 Go.Proofs.Tryz.ntmps145 Go.Proofs.Tryz.results145 Go.Proofs.Tryz.ntmps146 Go.Proofs.Tryz.results146 Go.Proofs.Tryz.ntmps147 Go.Proofs.Tryz.results147 Go.Proofs.Tryz.ntmps148 Go.Proofs.Tryz.results148 Go.Proofs.Tryz.ntmps149 Go.Proofs.Tryz.results149 Go.Proofs.Tryz.ntmps150 Go.Proofs.Tryz.results150 Go.Proofs.Tryz.ntmps151 Go.Proofs.Tryz.results151 Go.Proofs.Tryz.ntmps152 Go.Proofs.Tryz.results152 Go.Proofs.Tryz.ntmps153 Go.Proofs.Tryz.results153

namespace Go.Idl
theorem zW {p q : Prop} (hq : q) (h : p = q := by (simp (maxSteps := 2000000) only [go_sem, ↓reduceIte, ↓reduceDIte, reduceCtorEq, Nat.reducePow, Nat.reduceEqDiff, Nat.reduceAdd, Nat.reduceSub, Nat.reduceMul, Nat.reduceMod, Nat.reduceLeDiff, Nat.reduceLT, Nat.reduceBEq, Nat.reduceBNe, Int.reduceLT, Int.reduceLE, Int.reduceToNat, Int.reduceNeg, Int.reduceAdd, Int.reduceSub, Int.reduceMul, Int.reduceBEq, Int.reduceBNe, Int.reduceEq]; rfl)) : p := h.mpr hq
theorem zO {p q : Prop} (hq : q) (h : p = q := by (simp (maxSteps := 2000000) (disch := omega) only [go_sem, ↓reduceIte, ↓reduceDIte, reduceCtorEq, Nat.reducePow, Nat.reduceEqDiff, Nat.reduceAdd, Nat.reduceSub, Nat.reduceMul, Nat.reduceMod, Nat.reduceLeDiff, Nat.reduceLT, Nat.reduceBEq, Nat.reduceBNe, Int.reduceLT, Int.reduceLE, Int.reduceToNat, Int.reduceNeg, Int.reduceAdd, Int.reduceSub, Int.reduceMul, Int.reduceBEq, Int.reduceBNe, Int.reduceEq, if_pos, if_neg, w64, beqT, beqF, bneT, bneF, pr_get, ir_get, decide_eq_true, decide_eq_false]; rfl)) : p := h.mpr hq
theorem zT {p : Prop} (h : p := by simp (maxSteps := 2000000) only [go_sem, ↓reduceIte, ↓reduceDIte, reduceCtorEq, Nat.reducePow, Nat.reduceEqDiff, Nat.reduceAdd, Nat.reduceSub, Nat.reduceMul, Nat.reduceMod, Nat.reduceLeDiff, Nat.reduceLT, Nat.reduceBEq, Nat.reduceBNe, Int.reduceLT, Int.reduceLE, Int.reduceToNat, Int.reduceNeg, Int.reduceAdd, Int.reduceSub, Int.reduceMul, Int.reduceBEq, Int.reduceBNe, Int.reduceEq]) : p := h
theorem zU {p : Prop} (h : p := by simp (maxSteps := 2000000) (disch := omega) only [go_sem, ↓reduceIte, ↓reduceDIte, reduceCtorEq, Nat.reducePow, Nat.reduceEqDiff, Nat.reduceAdd, Nat.reduceSub, Nat.reduceMul, Nat.reduceMod, Nat.reduceLeDiff, Nat.reduceLT, Nat.reduceBEq, Nat.reduceBNe, Int.reduceLT, Int.reduceLE, Int.reduceToNat, Int.reduceNeg, Int.reduceAdd, Int.reduceSub, Int.reduceMul, Int.reduceBEq, Int.reduceBNe, Int.reduceEq, if_pos, if_neg, w64, beqT, beqF, bneT, bneF, pr_get, ir_get, decide_eq_true, decide_eq_false]) : p := h
theorem zB {p : Prop} (h : p := by first | trivial | (simp (maxSteps := 2000000) only [go_sem, ↓reduceIte, ↓reduceDIte, reduceCtorEq, Nat.reducePow, Nat.reduceEqDiff, Nat.reduceAdd, Nat.reduceSub, Nat.reduceMul, Nat.reduceMod, Nat.reduceLeDiff, Nat.reduceLT, Nat.reduceBEq, Nat.reduceBNe, Int.reduceLT, Int.reduceLE, Int.reduceToNat, Int.reduceNeg, Int.reduceAdd, Int.reduceSub, Int.reduceMul, Int.reduceBEq, Int.reduceBNe, Int.reduceEq]; done) | (split <;> simp (maxSteps := 2000000) only [go_sem, ↓reduceIte, ↓reduceDIte, reduceCtorEq, Nat.reducePow, Nat.reduceEqDiff, Nat.reduceAdd, Nat.reduceSub, Nat.reduceMul, Nat.reduceMod, Nat.reduceLeDiff, Nat.reduceLT, Nat.reduceBEq, Nat.reduceBNe, Int.reduceLT, Int.reduceLE, Int.reduceToNat, Int.reduceNeg, Int.reduceAdd, Int.reduceSub, Int.reduceMul, Int.reduceBEq, Int.reduceBNe, Int.reduceEq])) : p := h
theorem zC {p : Prop} (h : p := by first | trivial | (simp (maxSteps := 2000000) only [go_sem, ↓reduceIte, ↓reduceDIte, reduceCtorEq, Nat.reducePow, Nat.reduceEqDiff, Nat.reduceAdd, Nat.reduceSub, Nat.reduceMul, Nat.reduceMod, Nat.reduceLeDiff, Nat.reduceLT, Nat.reduceBEq, Nat.reduceBNe, Int.reduceLT, Int.reduceLE, Int.reduceToNat, Int.reduceNeg, Int.reduceAdd, Int.reduceSub, Int.reduceMul, Int.reduceBEq, Int.reduceBNe, Int.reduceEq]; done) | (simp (maxSteps := 2000000) (disch := omega) only [go_sem, ↓reduceIte, ↓reduceDIte, reduceCtorEq, Nat.reducePow, Nat.reduceEqDiff, Nat.reduceAdd, Nat.reduceSub, Nat.reduceMul, Nat.reduceMod, Nat.reduceLeDiff, Nat.reduceLT, Nat.reduceBEq, Nat.reduceBNe, Int.reduceLT, Int.reduceLE, Int.reduceToNat, Int.reduceNeg, Int.reduceAdd, Int.reduceSub, Int.reduceMul, Int.reduceBEq, Int.reduceBNe, Int.reduceEq, if_pos, if_neg, w64, beqT, beqF, bneT, bneF, pr_get, ir_get, decide_eq_true, decide_eq_false]; done) | (split <;> simp (maxSteps := 2000000) (disch := omega) only [go_sem, ↓reduceIte, ↓reduceDIte, reduceCtorEq, Nat.reducePow, Nat.reduceEqDiff, Nat.reduceAdd, Nat.reduceSub, Nat.reduceMul, Nat.reduceMod, Nat.reduceLeDiff, Nat.reduceLT, Nat.reduceBEq, Nat.reduceBNe, Int.reduceLT, Int.reduceLE, Int.reduceToNat, Int.reduceNeg, Int.reduceAdd, Int.reduceSub, Int.reduceMul, Int.reduceBEq, Int.reduceBNe, Int.reduceEq, if_pos, if_neg, w64, beqT, beqF, bneT, bneF, pr_get, ir_get, decide_eq_true, decide_eq_false])) : p := h
theorem zL {p : Prop} (h : p := by first | exact Nat.zero_le _ | exact Nat.le_refl _ | omega | exact Nat.le_of_ble_eq_true rfl) : p := h
end Go.Idl
