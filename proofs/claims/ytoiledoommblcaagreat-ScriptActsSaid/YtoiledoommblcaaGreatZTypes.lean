/- Facts that the proofs of this claim lean on. -/
import Derived.Test.YtoiledoommblcaaGreatIdTx
import Derived.Test.YtoiledoommblcaaGreatProg
namespace Go.Proofs.TZ
open Go Go.Idl Go.Proofs
@[go_sem] theorem tsz_2 : tsz Tryz.prog 2 = some 1 := by kernel_rfl
@[go_sem] theorem tby_2 : tby Tryz.prog 2 = some 8 := by kernel_rfl
@[go_sem] theorem tze_2 : tze Tryz.prog 2 = some [.int .i64 0] := by kernel_rfl
@[go_sem] theorem tag_2 : tag Tryz.prog 2 = some false := by kernel_rfl
@[go_sem] theorem tar_2 : tar Tryz.prog 2 = none := by kernel_rfl
@[go_sem] theorem tcs_2 : tcs Tryz.prog 2 = [] := by kernel_rfl
@[go_sem] theorem tkd_2 : tkd Tryz.prog 2 = some (.int .i64) := by kernel_rfl
@[go_sem] theorem tsz_3 : tsz Tryz.prog 3 = some 1 := by kernel_rfl
@[go_sem] theorem tby_3 : tby Tryz.prog 3 = some 8 := by kernel_rfl
@[go_sem] theorem tze_3 : tze Tryz.prog 3 = some [.int .i64 0] := by kernel_rfl
@[go_sem] theorem tag_3 : tag Tryz.prog 3 = some false := by kernel_rfl
@[go_sem] theorem tar_3 : tar Tryz.prog 3 = none := by kernel_rfl
@[go_sem] theorem tcs_3 : tcs Tryz.prog 3 = [] := by kernel_rfl
@[go_sem] theorem tkd_3 : tkd Tryz.prog 3 = some (.int .i64) := by kernel_rfl
@[go_sem] theorem tsz_4 : tsz Tryz.prog 4 = some 1 := by kernel_rfl
@[go_sem] theorem tby_4 : tby Tryz.prog 4 = some 1 := by kernel_rfl
@[go_sem] theorem tze_4 : tze Tryz.prog 4 = some [.bool false] := by kernel_rfl
@[go_sem] theorem tag_4 : tag Tryz.prog 4 = some false := by kernel_rfl
@[go_sem] theorem tar_4 : tar Tryz.prog 4 = none := by kernel_rfl
@[go_sem] theorem tcs_4 : tcs Tryz.prog 4 = [] := by kernel_rfl
@[go_sem] theorem tkd_4 : tkd Tryz.prog 4 = some .bool := by kernel_rfl
@[go_sem] theorem tsz_5 : tsz Tryz.prog 5 = some 1 := by kernel_rfl
@[go_sem] theorem tby_5 : tby Tryz.prog 5 = some 1 := by kernel_rfl
@[go_sem] theorem tze_5 : tze Tryz.prog 5 = some [.int .u8 0] := by kernel_rfl
@[go_sem] theorem tag_5 : tag Tryz.prog 5 = some false := by kernel_rfl
@[go_sem] theorem tar_5 : tar Tryz.prog 5 = none := by kernel_rfl
@[go_sem] theorem tcs_5 : tcs Tryz.prog 5 = [] := by kernel_rfl
@[go_sem] theorem tkd_5 : tkd Tryz.prog 5 = some (.int .u8) := by kernel_rfl
@[go_sem] theorem tsz_9 : tsz Tryz.prog 9 = some 1 := by kernel_rfl
@[go_sem] theorem tby_9 : tby Tryz.prog 9 = some 16 := by kernel_rfl
@[go_sem] theorem tze_9 : tze Tryz.prog 9 = some [.string ByteArray.empty] := by kernel_rfl
@[go_sem] theorem tag_9 : tag Tryz.prog 9 = some false := by kernel_rfl
@[go_sem] theorem tar_9 : tar Tryz.prog 9 = none := by kernel_rfl
@[go_sem] theorem tcs_9 : tcs Tryz.prog 9 = [] := by kernel_rfl
@[go_sem] theorem tkd_9 : tkd Tryz.prog 9 = some .string := by kernel_rfl
@[go_sem] theorem tsz_12 : tsz Tryz.prog 12 = some 1 := by kernel_rfl
@[go_sem] theorem tby_12 : tby Tryz.prog 12 = some 8 := by kernel_rfl
@[go_sem] theorem tze_12 : tze Tryz.prog 12 = some [.int .u64 0] := by kernel_rfl
@[go_sem] theorem tag_12 : tag Tryz.prog 12 = some false := by kernel_rfl
@[go_sem] theorem tar_12 : tar Tryz.prog 12 = none := by kernel_rfl
@[go_sem] theorem tcs_12 : tcs Tryz.prog 12 = [] := by kernel_rfl
@[go_sem] theorem tkd_12 : tkd Tryz.prog 12 = some (.int .u64) := by kernel_rfl
@[go_sem] theorem tsz_13 : tsz Tryz.prog 13 = some 2 := by kernel_rfl
@[go_sem] theorem tby_13 : tby Tryz.prog 13 = some 24 := by kernel_rfl
@[go_sem] theorem tze_13 : tze Tryz.prog 13 = some [.string ByteArray.empty, .int .u64 0] := by kernel_rfl
@[go_sem] theorem tag_13 : tag Tryz.prog 13 = some true := by kernel_rfl
@[go_sem] theorem tar_13 : tar Tryz.prog 13 = none := by kernel_rfl
@[go_sem] theorem tfo_13_0 : tfo Tryz.prog 13 0 = some (0, 9) := by kernel_rfl
@[go_sem] theorem tfo_13_1 : tfo Tryz.prog 13 1 = some (1, 12) := by kernel_rfl
@[go_sem] theorem tpl_13 : tpl Tryz.prog 13 = some [(0, 1), (1, 1)] := by kernel_rfl
@[go_sem] theorem tcs_13 : tcs Tryz.prog 13 = [] := by kernel_rfl
@[go_sem] theorem tkd_13 : tkd Tryz.prog 13 = some .other := by kernel_rfl
@[go_sem] theorem tsz_20 : tsz Tryz.prog 20 = some 1 := by kernel_rfl
@[go_sem] theorem tby_20 : tby Tryz.prog 20 = some 16 := by kernel_rfl
@[go_sem] theorem tze_20 : tze Tryz.prog 20 = some [.nilIface] := by kernel_rfl
@[go_sem] theorem tag_20 : tag Tryz.prog 20 = some false := by kernel_rfl
@[go_sem] theorem tar_20 : tar Tryz.prog 20 = none := by kernel_rfl
@[go_sem] theorem tcs_20 : tcs Tryz.prog 20 = [] := by kernel_rfl
@[go_sem] theorem tkd_20 : tkd Tryz.prog 20 = some .iface := by kernel_rfl
@[go_sem] theorem tsz_21 : tsz Tryz.prog 21 = some 1 := by kernel_rfl
@[go_sem] theorem tby_21 : tby Tryz.prog 21 = some 4 := by kernel_rfl
@[go_sem] theorem tze_21 : tze Tryz.prog 21 = some [.int .i32 0] := by kernel_rfl
@[go_sem] theorem tag_21 : tag Tryz.prog 21 = some false := by kernel_rfl
@[go_sem] theorem tar_21 : tar Tryz.prog 21 = none := by kernel_rfl
@[go_sem] theorem tcs_21 : tcs Tryz.prog 21 = [] := by kernel_rfl
@[go_sem] theorem tkd_21 : tkd Tryz.prog 21 = some (.int .i32) := by kernel_rfl
@[go_sem] theorem tsz_22 : tsz Tryz.prog 22 = some 1 := by kernel_rfl
@[go_sem] theorem tby_22 : tby Tryz.prog 22 = some 24 := by kernel_rfl
@[go_sem] theorem tze_22 : tze Tryz.prog 22 = some [.slice none 0 0] := by kernel_rfl
@[go_sem] theorem tag_22 : tag Tryz.prog 22 = some false := by kernel_rfl
@[go_sem] theorem tel_22 : tel Tryz.prog 22 = some 55 := by kernel_rfl
@[go_sem] theorem tar_22 : tar Tryz.prog 22 = none := by kernel_rfl
@[go_sem] theorem tcs_22 : tcs Tryz.prog 22 = [(0, 2)] := by kernel_rfl
@[go_sem] theorem tkd_22 : tkd Tryz.prog 22 = some (.slice 55) := by kernel_rfl
@[go_sem] theorem tsz_23 : tsz Tryz.prog 23 = some 2 := by kernel_rfl
@[go_sem] theorem tby_23 : tby Tryz.prog 23 = some 32 := by kernel_rfl
@[go_sem] theorem tze_23 : tze Tryz.prog 23 = some [.int .i64 0, .slice none 0 0] := by kernel_rfl
@[go_sem] theorem tag_23 : tag Tryz.prog 23 = some true := by kernel_rfl
@[go_sem] theorem tar_23 : tar Tryz.prog 23 = none := by kernel_rfl
@[go_sem] theorem tfo_23_0 : tfo Tryz.prog 23 0 = some (0, 3) := by kernel_rfl
@[go_sem] theorem tfo_23_1 : tfo Tryz.prog 23 1 = some (1, 22) := by kernel_rfl
@[go_sem] theorem tpl_23 : tpl Tryz.prog 23 = some [(0, 1), (1, 1)] := by kernel_rfl
@[go_sem] theorem tcs_23 : tcs Tryz.prog 23 = [(1, 2)] := by kernel_rfl
@[go_sem] theorem tkd_23 : tkd Tryz.prog 23 = some .other := by kernel_rfl
@[go_sem] theorem tsz_24 : tsz Tryz.prog 24 = some 2 := by kernel_rfl
@[go_sem] theorem tby_24 : tby Tryz.prog 24 = some 32 := by kernel_rfl
@[go_sem] theorem tze_24 : tze Tryz.prog 24 = some [.int .i64 0, .slice none 0 0] := by kernel_rfl
@[go_sem] theorem tag_24 : tag Tryz.prog 24 = some true := by kernel_rfl
@[go_sem] theorem tar_24 : tar Tryz.prog 24 = none := by kernel_rfl
@[go_sem] theorem tfo_24_0 : tfo Tryz.prog 24 0 = some (0, 3) := by kernel_rfl
@[go_sem] theorem tfo_24_1 : tfo Tryz.prog 24 1 = some (1, 22) := by kernel_rfl
@[go_sem] theorem tpl_24 : tpl Tryz.prog 24 = some [(0, 1), (1, 1)] := by kernel_rfl
@[go_sem] theorem tcs_24 : tcs Tryz.prog 24 = [(1, 2)] := by kernel_rfl
@[go_sem] theorem tkd_24 : tkd Tryz.prog 24 = some .other := by kernel_rfl
@[go_sem] theorem tsz_25 : tsz Tryz.prog 25 = some 1 := by kernel_rfl
@[go_sem] theorem tby_25 : tby Tryz.prog 25 = some 24 := by kernel_rfl
@[go_sem] theorem tze_25 : tze Tryz.prog 25 = some [.slice none 0 0] := by kernel_rfl
@[go_sem] theorem tag_25 : tag Tryz.prog 25 = some false := by kernel_rfl
@[go_sem] theorem tel_25 : tel Tryz.prog 25 = some 105 := by kernel_rfl
@[go_sem] theorem tar_25 : tar Tryz.prog 25 = none := by kernel_rfl
@[go_sem] theorem tcs_25 : tcs Tryz.prog 25 = [(0, 2)] := by kernel_rfl
@[go_sem] theorem tkd_25 : tkd Tryz.prog 25 = some (.slice 105) := by kernel_rfl
@[go_sem] theorem tsz_26 : tsz Tryz.prog 26 = some 4 := by kernel_rfl
@[go_sem] theorem tby_26 : tby Tryz.prog 26 = some 64 := by kernel_rfl
@[go_sem] theorem tze_26 : tze Tryz.prog 26 = some [.int .i64 0, .slice none 0 0, .slice none 0 0, .bool false] := by kernel_rfl
@[go_sem] theorem tag_26 : tag Tryz.prog 26 = some true := by kernel_rfl
@[go_sem] theorem tar_26 : tar Tryz.prog 26 = none := by kernel_rfl
@[go_sem] theorem tfo_26_0 : tfo Tryz.prog 26 0 = some (0, 24) := by kernel_rfl
@[go_sem] theorem tfo_26_1 : tfo Tryz.prog 26 1 = some (2, 25) := by kernel_rfl
@[go_sem] theorem tfo_26_2 : tfo Tryz.prog 26 2 = some (3, 4) := by kernel_rfl
@[go_sem] theorem tpl_26 : tpl Tryz.prog 26 = some [(0, 2), (2, 1), (3, 1)] := by kernel_rfl
@[go_sem] theorem tcs_26 : tcs Tryz.prog 26 = [(1, 2), (2, 2)] := by kernel_rfl
@[go_sem] theorem tkd_26 : tkd Tryz.prog 26 = some .other := by kernel_rfl
@[go_sem] theorem tsz_27 : tsz Tryz.prog 27 = some 4 := by kernel_rfl
@[go_sem] theorem tby_27 : tby Tryz.prog 27 = some 64 := by kernel_rfl
@[go_sem] theorem tze_27 : tze Tryz.prog 27 = some [.int .i64 0, .slice none 0 0, .slice none 0 0, .bool false] := by kernel_rfl
@[go_sem] theorem tag_27 : tag Tryz.prog 27 = some true := by kernel_rfl
@[go_sem] theorem tar_27 : tar Tryz.prog 27 = none := by kernel_rfl
@[go_sem] theorem tfo_27_0 : tfo Tryz.prog 27 0 = some (0, 24) := by kernel_rfl
@[go_sem] theorem tfo_27_1 : tfo Tryz.prog 27 1 = some (2, 25) := by kernel_rfl
@[go_sem] theorem tfo_27_2 : tfo Tryz.prog 27 2 = some (3, 4) := by kernel_rfl
@[go_sem] theorem tpl_27 : tpl Tryz.prog 27 = some [(0, 2), (2, 1), (3, 1)] := by kernel_rfl
@[go_sem] theorem tcs_27 : tcs Tryz.prog 27 = [(1, 2), (2, 2)] := by kernel_rfl
@[go_sem] theorem tkd_27 : tkd Tryz.prog 27 = some .other := by kernel_rfl
@[go_sem] theorem tsz_28 : tsz Tryz.prog 28 = some 1 := by kernel_rfl
@[go_sem] theorem tby_28 : tby Tryz.prog 28 = some 8 := by kernel_rfl
@[go_sem] theorem tze_28 : tze Tryz.prog 28 = some [.float .f64 0] := by kernel_rfl
@[go_sem] theorem tag_28 : tag Tryz.prog 28 = some false := by kernel_rfl
@[go_sem] theorem tar_28 : tar Tryz.prog 28 = none := by kernel_rfl
@[go_sem] theorem tcs_28 : tcs Tryz.prog 28 = [] := by kernel_rfl
@[go_sem] theorem tkd_28 : tkd Tryz.prog 28 = some (.float .f64) := by kernel_rfl
@[go_sem] theorem tsz_29 : tsz Tryz.prog 29 = some 1 := by kernel_rfl
@[go_sem] theorem tby_29 : tby Tryz.prog 29 = some 24 := by kernel_rfl
@[go_sem] theorem tze_29 : tze Tryz.prog 29 = some [.slice none 0 0] := by kernel_rfl
@[go_sem] theorem tag_29 : tag Tryz.prog 29 = some false := by kernel_rfl
@[go_sem] theorem tel_29 : tel Tryz.prog 29 = some 57 := by kernel_rfl
@[go_sem] theorem tar_29 : tar Tryz.prog 29 = none := by kernel_rfl
@[go_sem] theorem tcs_29 : tcs Tryz.prog 29 = [(0, 3)] := by kernel_rfl
@[go_sem] theorem tkd_29 : tkd Tryz.prog 29 = some (.slice 57) := by kernel_rfl
@[go_sem] theorem tsz_30 : tsz Tryz.prog 30 = some 6 := by kernel_rfl
@[go_sem] theorem tby_30 : tby Tryz.prog 30 = some 96 := by kernel_rfl
@[go_sem] theorem tze_30 : tze Tryz.prog 30 = some [.int .i64 0, .slice none 0 0, .slice none 0 0, .bool false, .float .f64 0, .slice none 0 0] := by kernel_rfl
@[go_sem] theorem tag_30 : tag Tryz.prog 30 = some true := by kernel_rfl
@[go_sem] theorem tar_30 : tar Tryz.prog 30 = none := by kernel_rfl
@[go_sem] theorem tfo_30_0 : tfo Tryz.prog 30 0 = some (0, 27) := by kernel_rfl
@[go_sem] theorem tfo_30_1 : tfo Tryz.prog 30 1 = some (4, 28) := by kernel_rfl
@[go_sem] theorem tfo_30_2 : tfo Tryz.prog 30 2 = some (5, 29) := by kernel_rfl
@[go_sem] theorem tpl_30 : tpl Tryz.prog 30 = some [(0, 4), (4, 1), (5, 1)] := by kernel_rfl
@[go_sem] theorem tcs_30 : tcs Tryz.prog 30 = [(1, 2), (2, 2), (5, 3)] := by kernel_rfl
@[go_sem] theorem tkd_30 : tkd Tryz.prog 30 = some .other := by kernel_rfl
@[go_sem] theorem tsz_31 : tsz Tryz.prog 31 = some 6 := by kernel_rfl
@[go_sem] theorem tby_31 : tby Tryz.prog 31 = some 96 := by kernel_rfl
@[go_sem] theorem tze_31 : tze Tryz.prog 31 = some [.int .i64 0, .slice none 0 0, .slice none 0 0, .bool false, .float .f64 0, .slice none 0 0] := by kernel_rfl
@[go_sem] theorem tag_31 : tag Tryz.prog 31 = some true := by kernel_rfl
@[go_sem] theorem tar_31 : tar Tryz.prog 31 = none := by kernel_rfl
@[go_sem] theorem tfo_31_0 : tfo Tryz.prog 31 0 = some (0, 27) := by kernel_rfl
@[go_sem] theorem tfo_31_1 : tfo Tryz.prog 31 1 = some (4, 28) := by kernel_rfl
@[go_sem] theorem tfo_31_2 : tfo Tryz.prog 31 2 = some (5, 29) := by kernel_rfl
@[go_sem] theorem tpl_31 : tpl Tryz.prog 31 = some [(0, 4), (4, 1), (5, 1)] := by kernel_rfl
@[go_sem] theorem tcs_31 : tcs Tryz.prog 31 = [(1, 2), (2, 2), (5, 3)] := by kernel_rfl
@[go_sem] theorem tkd_31 : tkd Tryz.prog 31 = some .other := by kernel_rfl
@[go_sem] theorem tsz_33 : tsz Tryz.prog 33 = some 1 := by kernel_rfl
@[go_sem] theorem tby_33 : tby Tryz.prog 33 = some 8 := by kernel_rfl
@[go_sem] theorem tze_33 : tze Tryz.prog 33 = some [.int .i64 0] := by kernel_rfl
@[go_sem] theorem tag_33 : tag Tryz.prog 33 = some false := by kernel_rfl
@[go_sem] theorem tar_33 : tar Tryz.prog 33 = none := by kernel_rfl
@[go_sem] theorem tcs_33 : tcs Tryz.prog 33 = [] := by kernel_rfl
@[go_sem] theorem tkd_33 : tkd Tryz.prog 33 = some (.int .i64) := by kernel_rfl
@[go_sem] theorem tsz_37 : tsz Tryz.prog 37 = some 2 := by kernel_rfl
@[go_sem] theorem tby_37 : tby Tryz.prog 37 = some 32 := by kernel_rfl
@[go_sem] theorem tze_37 : tze Tryz.prog 37 = some [.int .i64 0, .slice none 0 0] := by kernel_rfl
@[go_sem] theorem tag_37 : tag Tryz.prog 37 = some true := by kernel_rfl
@[go_sem] theorem tar_37 : tar Tryz.prog 37 = none := by kernel_rfl
@[go_sem] theorem tfo_37_0 : tfo Tryz.prog 37 0 = some (0, 3) := by kernel_rfl
@[go_sem] theorem tfo_37_1 : tfo Tryz.prog 37 1 = some (1, 22) := by kernel_rfl
@[go_sem] theorem tpl_37 : tpl Tryz.prog 37 = some [(0, 1), (1, 1)] := by kernel_rfl
@[go_sem] theorem tcs_37 : tcs Tryz.prog 37 = [(1, 2)] := by kernel_rfl
@[go_sem] theorem tkd_37 : tkd Tryz.prog 37 = some .other := by kernel_rfl
@[go_sem] theorem tsz_38 : tsz Tryz.prog 38 = some 1 := by kernel_rfl
@[go_sem] theorem tby_38 : tby Tryz.prog 38 = some 24 := by kernel_rfl
@[go_sem] theorem tze_38 : tze Tryz.prog 38 = some [.slice none 0 0] := by kernel_rfl
@[go_sem] theorem tag_38 : tag Tryz.prog 38 = some false := by kernel_rfl
@[go_sem] theorem tel_38 : tel Tryz.prog 38 = some 113 := by kernel_rfl
@[go_sem] theorem tar_38 : tar Tryz.prog 38 = none := by kernel_rfl
@[go_sem] theorem tcs_38 : tcs Tryz.prog 38 = [(0, 2)] := by kernel_rfl
@[go_sem] theorem tkd_38 : tkd Tryz.prog 38 = some (.slice 113) := by kernel_rfl
@[go_sem] theorem tsz_39 : tsz Tryz.prog 39 = some 4 := by kernel_rfl
@[go_sem] theorem tby_39 : tby Tryz.prog 39 = some 64 := by kernel_rfl
@[go_sem] theorem tze_39 : tze Tryz.prog 39 = some [.int .i64 0, .slice none 0 0, .slice none 0 0, .bool false] := by kernel_rfl
@[go_sem] theorem tag_39 : tag Tryz.prog 39 = some true := by kernel_rfl
@[go_sem] theorem tar_39 : tar Tryz.prog 39 = none := by kernel_rfl
@[go_sem] theorem tfo_39_0 : tfo Tryz.prog 39 0 = some (0, 37) := by kernel_rfl
@[go_sem] theorem tfo_39_1 : tfo Tryz.prog 39 1 = some (2, 38) := by kernel_rfl
@[go_sem] theorem tfo_39_2 : tfo Tryz.prog 39 2 = some (3, 4) := by kernel_rfl
@[go_sem] theorem tpl_39 : tpl Tryz.prog 39 = some [(0, 2), (2, 1), (3, 1)] := by kernel_rfl
@[go_sem] theorem tcs_39 : tcs Tryz.prog 39 = [(1, 2), (2, 2)] := by kernel_rfl
@[go_sem] theorem tkd_39 : tkd Tryz.prog 39 = some .other := by kernel_rfl
@[go_sem] theorem tsz_40 : tsz Tryz.prog 40 = some 4 := by kernel_rfl
@[go_sem] theorem tby_40 : tby Tryz.prog 40 = some 64 := by kernel_rfl
@[go_sem] theorem tze_40 : tze Tryz.prog 40 = some [.int .i64 0, .slice none 0 0, .slice none 0 0, .bool false] := by kernel_rfl
@[go_sem] theorem tag_40 : tag Tryz.prog 40 = some true := by kernel_rfl
@[go_sem] theorem tar_40 : tar Tryz.prog 40 = none := by kernel_rfl
@[go_sem] theorem tfo_40_0 : tfo Tryz.prog 40 0 = some (0, 37) := by kernel_rfl
@[go_sem] theorem tfo_40_1 : tfo Tryz.prog 40 1 = some (2, 38) := by kernel_rfl
@[go_sem] theorem tfo_40_2 : tfo Tryz.prog 40 2 = some (3, 4) := by kernel_rfl
@[go_sem] theorem tpl_40 : tpl Tryz.prog 40 = some [(0, 2), (2, 1), (3, 1)] := by kernel_rfl
@[go_sem] theorem tcs_40 : tcs Tryz.prog 40 = [(1, 2), (2, 2)] := by kernel_rfl
@[go_sem] theorem tkd_40 : tkd Tryz.prog 40 = some .other := by kernel_rfl
@[go_sem] theorem tsz_41 : tsz Tryz.prog 41 = some 1 := by kernel_rfl
@[go_sem] theorem tby_41 : tby Tryz.prog 41 = some 24 := by kernel_rfl
@[go_sem] theorem tze_41 : tze Tryz.prog 41 = some [.slice none 0 0] := by kernel_rfl
@[go_sem] theorem tag_41 : tag Tryz.prog 41 = some false := by kernel_rfl
@[go_sem] theorem tel_41 : tel Tryz.prog 41 = some 69 := by kernel_rfl
@[go_sem] theorem tar_41 : tar Tryz.prog 41 = none := by kernel_rfl
@[go_sem] theorem tcs_41 : tcs Tryz.prog 41 = [(0, 3)] := by kernel_rfl
@[go_sem] theorem tkd_41 : tkd Tryz.prog 41 = some (.slice 69) := by kernel_rfl
@[go_sem] theorem tsz_42 : tsz Tryz.prog 42 = some 6 := by kernel_rfl
@[go_sem] theorem tby_42 : tby Tryz.prog 42 = some 96 := by kernel_rfl
@[go_sem] theorem tze_42 : tze Tryz.prog 42 = some [.int .i64 0, .slice none 0 0, .slice none 0 0, .bool false, .float .f64 0, .slice none 0 0] := by kernel_rfl
@[go_sem] theorem tag_42 : tag Tryz.prog 42 = some true := by kernel_rfl
@[go_sem] theorem tar_42 : tar Tryz.prog 42 = none := by kernel_rfl
@[go_sem] theorem tfo_42_0 : tfo Tryz.prog 42 0 = some (0, 40) := by kernel_rfl
@[go_sem] theorem tfo_42_1 : tfo Tryz.prog 42 1 = some (4, 28) := by kernel_rfl
@[go_sem] theorem tfo_42_2 : tfo Tryz.prog 42 2 = some (5, 41) := by kernel_rfl
@[go_sem] theorem tpl_42 : tpl Tryz.prog 42 = some [(0, 4), (4, 1), (5, 1)] := by kernel_rfl
@[go_sem] theorem tcs_42 : tcs Tryz.prog 42 = [(1, 2), (2, 2), (5, 3)] := by kernel_rfl
@[go_sem] theorem tkd_42 : tkd Tryz.prog 42 = some .other := by kernel_rfl
@[go_sem] theorem tsz_43 : tsz Tryz.prog 43 = some 6 := by kernel_rfl
@[go_sem] theorem tby_43 : tby Tryz.prog 43 = some 96 := by kernel_rfl
@[go_sem] theorem tze_43 : tze Tryz.prog 43 = some [.int .i64 0, .slice none 0 0, .slice none 0 0, .bool false, .float .f64 0, .slice none 0 0] := by kernel_rfl
@[go_sem] theorem tag_43 : tag Tryz.prog 43 = some true := by kernel_rfl
@[go_sem] theorem tar_43 : tar Tryz.prog 43 = none := by kernel_rfl
@[go_sem] theorem tfo_43_0 : tfo Tryz.prog 43 0 = some (0, 40) := by kernel_rfl
@[go_sem] theorem tfo_43_1 : tfo Tryz.prog 43 1 = some (4, 28) := by kernel_rfl
@[go_sem] theorem tfo_43_2 : tfo Tryz.prog 43 2 = some (5, 41) := by kernel_rfl
@[go_sem] theorem tpl_43 : tpl Tryz.prog 43 = some [(0, 4), (4, 1), (5, 1)] := by kernel_rfl
@[go_sem] theorem tcs_43 : tcs Tryz.prog 43 = [(1, 2), (2, 2), (5, 3)] := by kernel_rfl
@[go_sem] theorem tkd_43 : tkd Tryz.prog 43 = some .other := by kernel_rfl
@[go_sem] theorem tsz_55 : tsz Tryz.prog 55 = some 2 := by kernel_rfl
@[go_sem] theorem tby_55 : tby Tryz.prog 55 = some 16 := by kernel_rfl
@[go_sem] theorem tze_55 : tze Tryz.prog 55 = some [.int .i64 0, .int .i64 0] := by kernel_rfl
@[go_sem] theorem tag_55 : tag Tryz.prog 55 = some true := by kernel_rfl
@[go_sem] theorem tar_55 : tar Tryz.prog 55 = some (2, 3) := by kernel_rfl
@[go_sem] theorem tpl_55 : tpl Tryz.prog 55 = none := by kernel_rfl
@[go_sem] theorem tcs_55 : tcs Tryz.prog 55 = [] := by kernel_rfl
@[go_sem] theorem teq_55 : teq Tryz.prog 55 = some [(.int .i64), (.int .i64)] := by kernel_rfl
@[go_sem] theorem tkey_55 : tkey Tryz.prog 55 = some (true, [(.int .i64), (.int .i64)]) := by kernel_rfl
@[go_sem] theorem tkd_55 : tkd Tryz.prog 55 = some .other := by kernel_rfl
@[go_sem] theorem tsz_56 : tsz Tryz.prog 56 = some 3 := by kernel_rfl
@[go_sem] theorem tby_56 : tby Tryz.prog 56 = some 24 := by kernel_rfl
@[go_sem] theorem tze_56 : tze Tryz.prog 56 = some [.int .i64 0, .int .i64 0, .int .i64 0] := by kernel_rfl
@[go_sem] theorem tag_56 : tag Tryz.prog 56 = some true := by kernel_rfl
@[go_sem] theorem tar_56 : tar Tryz.prog 56 = none := by kernel_rfl
@[go_sem] theorem tfo_56_0 : tfo Tryz.prog 56 0 = some (0, 3) := by kernel_rfl
@[go_sem] theorem tfo_56_1 : tfo Tryz.prog 56 1 = some (1, 3) := by kernel_rfl
@[go_sem] theorem tfo_56_2 : tfo Tryz.prog 56 2 = some (2, 3) := by kernel_rfl
@[go_sem] theorem tpl_56 : tpl Tryz.prog 56 = some [(0, 1), (1, 1), (2, 1)] := by kernel_rfl
@[go_sem] theorem tcs_56 : tcs Tryz.prog 56 = [] := by kernel_rfl
@[go_sem] theorem tkd_56 : tkd Tryz.prog 56 = some .other := by kernel_rfl
@[go_sem] theorem tsz_57 : tsz Tryz.prog 57 = some 3 := by kernel_rfl
@[go_sem] theorem tby_57 : tby Tryz.prog 57 = some 24 := by kernel_rfl
@[go_sem] theorem tze_57 : tze Tryz.prog 57 = some [.int .i64 0, .int .i64 0, .int .i64 0] := by kernel_rfl
@[go_sem] theorem tag_57 : tag Tryz.prog 57 = some true := by kernel_rfl
@[go_sem] theorem tar_57 : tar Tryz.prog 57 = none := by kernel_rfl
@[go_sem] theorem tfo_57_0 : tfo Tryz.prog 57 0 = some (0, 3) := by kernel_rfl
@[go_sem] theorem tfo_57_1 : tfo Tryz.prog 57 1 = some (1, 3) := by kernel_rfl
@[go_sem] theorem tfo_57_2 : tfo Tryz.prog 57 2 = some (2, 3) := by kernel_rfl
@[go_sem] theorem tpl_57 : tpl Tryz.prog 57 = some [(0, 1), (1, 1), (2, 1)] := by kernel_rfl
@[go_sem] theorem tcs_57 : tcs Tryz.prog 57 = [] := by kernel_rfl
@[go_sem] theorem teq_57 : teq Tryz.prog 57 = some [(.int .i64), (.int .i64), (.int .i64)] := by kernel_rfl
@[go_sem] theorem tkd_57 : tkd Tryz.prog 57 = some .other := by kernel_rfl
@[go_sem] theorem tsz_60 : tsz Tryz.prog 60 = some 1 := by kernel_rfl
@[go_sem] theorem tby_60 : tby Tryz.prog 60 = some 24 := by kernel_rfl
@[go_sem] theorem tze_60 : tze Tryz.prog 60 = some [.slice none 0 0] := by kernel_rfl
@[go_sem] theorem tag_60 : tag Tryz.prog 60 = some false := by kernel_rfl
@[go_sem] theorem tel_60 : tel Tryz.prog 60 = some 3 := by kernel_rfl
@[go_sem] theorem tar_60 : tar Tryz.prog 60 = none := by kernel_rfl
@[go_sem] theorem tcs_60 : tcs Tryz.prog 60 = [(0, 1)] := by kernel_rfl
@[go_sem] theorem tkd_60 : tkd Tryz.prog 60 = some (.slice 3) := by kernel_rfl
@[go_sem] theorem tsz_69 : tsz Tryz.prog 69 = some 3 := by kernel_rfl
@[go_sem] theorem tby_69 : tby Tryz.prog 69 = some 24 := by kernel_rfl
@[go_sem] theorem tze_69 : tze Tryz.prog 69 = some [.int .i64 0, .int .i64 0, .int .i64 0] := by kernel_rfl
@[go_sem] theorem tag_69 : tag Tryz.prog 69 = some true := by kernel_rfl
@[go_sem] theorem tar_69 : tar Tryz.prog 69 = none := by kernel_rfl
@[go_sem] theorem tfo_69_0 : tfo Tryz.prog 69 0 = some (0, 3) := by kernel_rfl
@[go_sem] theorem tfo_69_1 : tfo Tryz.prog 69 1 = some (1, 3) := by kernel_rfl
@[go_sem] theorem tfo_69_2 : tfo Tryz.prog 69 2 = some (2, 3) := by kernel_rfl
@[go_sem] theorem tpl_69 : tpl Tryz.prog 69 = some [(0, 1), (1, 1), (2, 1)] := by kernel_rfl
@[go_sem] theorem tcs_69 : tcs Tryz.prog 69 = [] := by kernel_rfl
@[go_sem] theorem teq_69 : teq Tryz.prog 69 = some [(.int .i64), (.int .i64), (.int .i64)] := by kernel_rfl
@[go_sem] theorem tkd_69 : tkd Tryz.prog 69 = some .other := by kernel_rfl
@[go_sem] theorem tsz_70 : tsz Tryz.prog 70 = some 0 := by kernel_rfl
@[go_sem] theorem tby_70 : tby Tryz.prog 70 = some 0 := by kernel_rfl
@[go_sem] theorem tze_70 : tze Tryz.prog 70 = some [] := by kernel_rfl
@[go_sem] theorem tag_70 : tag Tryz.prog 70 = some true := by kernel_rfl
@[go_sem] theorem tar_70 : tar Tryz.prog 70 = none := by kernel_rfl
@[go_sem] theorem tpl_70 : tpl Tryz.prog 70 = some [] := by kernel_rfl
@[go_sem] theorem tcs_70 : tcs Tryz.prog 70 = [] := by kernel_rfl
@[go_sem] theorem tkd_70 : tkd Tryz.prog 70 = some .other := by kernel_rfl
@[go_sem] theorem tsz_71 : tsz Tryz.prog 71 = some 0 := by kernel_rfl
@[go_sem] theorem tby_71 : tby Tryz.prog 71 = some 0 := by kernel_rfl
@[go_sem] theorem tze_71 : tze Tryz.prog 71 = some [] := by kernel_rfl
@[go_sem] theorem tag_71 : tag Tryz.prog 71 = some true := by kernel_rfl
@[go_sem] theorem tar_71 : tar Tryz.prog 71 = none := by kernel_rfl
@[go_sem] theorem tpl_71 : tpl Tryz.prog 71 = some [] := by kernel_rfl
@[go_sem] theorem tcs_71 : tcs Tryz.prog 71 = [] := by kernel_rfl
@[go_sem] theorem tkd_71 : tkd Tryz.prog 71 = some .other := by kernel_rfl
@[go_sem] theorem tsz_73 : tsz Tryz.prog 73 = some 1 := by kernel_rfl
@[go_sem] theorem tby_73 : tby Tryz.prog 73 = some 8 := by kernel_rfl
@[go_sem] theorem tze_73 : tze Tryz.prog 73 = some [.pointer none] := by kernel_rfl
@[go_sem] theorem tag_73 : tag Tryz.prog 73 = some false := by kernel_rfl
@[go_sem] theorem tar_73 : tar Tryz.prog 73 = none := by kernel_rfl
@[go_sem] theorem tcs_73 : tcs Tryz.prog 73 = [] := by kernel_rfl
@[go_sem] theorem tptr_73 : tptr Tryz.prog 73 = true := by kernel_rfl
@[go_sem] theorem tkd_73 : tkd Tryz.prog 73 = some .other := by kernel_rfl
@[go_sem] theorem tsz_74 : tsz Tryz.prog 74 = some 2 := by kernel_rfl
@[go_sem] theorem tby_74 : tby Tryz.prog 74 = some 24 := by kernel_rfl
@[go_sem] theorem tze_74 : tze Tryz.prog 74 = some [.string ByteArray.empty, .int .i64 0] := by kernel_rfl
@[go_sem] theorem tag_74 : tag Tryz.prog 74 = some true := by kernel_rfl
@[go_sem] theorem tar_74 : tar Tryz.prog 74 = none := by kernel_rfl
@[go_sem] theorem tfo_74_0 : tfo Tryz.prog 74 0 = some (0, 9) := by kernel_rfl
@[go_sem] theorem tfo_74_1 : tfo Tryz.prog 74 1 = some (1, 3) := by kernel_rfl
@[go_sem] theorem tpl_74 : tpl Tryz.prog 74 = some [(0, 1), (1, 1)] := by kernel_rfl
@[go_sem] theorem tcs_74 : tcs Tryz.prog 74 = [] := by kernel_rfl
@[go_sem] theorem tkd_74 : tkd Tryz.prog 74 = some .other := by kernel_rfl
@[go_sem] theorem tsz_75 : tsz Tryz.prog 75 = some 2 := by kernel_rfl
@[go_sem] theorem tby_75 : tby Tryz.prog 75 = some 24 := by kernel_rfl
@[go_sem] theorem tze_75 : tze Tryz.prog 75 = some [.string ByteArray.empty, .int .i64 0] := by kernel_rfl
@[go_sem] theorem tag_75 : tag Tryz.prog 75 = some true := by kernel_rfl
@[go_sem] theorem tar_75 : tar Tryz.prog 75 = none := by kernel_rfl
@[go_sem] theorem tfo_75_0 : tfo Tryz.prog 75 0 = some (0, 9) := by kernel_rfl
@[go_sem] theorem tfo_75_1 : tfo Tryz.prog 75 1 = some (1, 3) := by kernel_rfl
@[go_sem] theorem tpl_75 : tpl Tryz.prog 75 = some [(0, 1), (1, 1)] := by kernel_rfl
@[go_sem] theorem tcs_75 : tcs Tryz.prog 75 = [] := by kernel_rfl
@[go_sem] theorem teq_75 : teq Tryz.prog 75 = some [.string, (.int .i64)] := by kernel_rfl
@[go_sem] theorem tkd_75 : tkd Tryz.prog 75 = some .other := by kernel_rfl
@[go_sem] theorem tsz_78 : tsz Tryz.prog 78 = some 1 := by kernel_rfl
@[go_sem] theorem tby_78 : tby Tryz.prog 78 = some 8 := by kernel_rfl
@[go_sem] theorem tze_78 : tze Tryz.prog 78 = some [.int .u64 0] := by kernel_rfl
@[go_sem] theorem tag_78 : tag Tryz.prog 78 = some false := by kernel_rfl
@[go_sem] theorem tar_78 : tar Tryz.prog 78 = none := by kernel_rfl
@[go_sem] theorem tcs_78 : tcs Tryz.prog 78 = [] := by kernel_rfl
@[go_sem] theorem tkd_78 : tkd Tryz.prog 78 = some (.int .u64) := by kernel_rfl
@[go_sem] theorem tsz_82 : tsz Tryz.prog 82 = some 1 := by kernel_rfl
@[go_sem] theorem tby_82 : tby Tryz.prog 82 = some 8 := by kernel_rfl
@[go_sem] theorem tze_82 : tze Tryz.prog 82 = some [.pointer none] := by kernel_rfl
@[go_sem] theorem tag_82 : tag Tryz.prog 82 = some false := by kernel_rfl
@[go_sem] theorem tar_82 : tar Tryz.prog 82 = none := by kernel_rfl
@[go_sem] theorem tcs_82 : tcs Tryz.prog 82 = [] := by kernel_rfl
@[go_sem] theorem tptr_82 : tptr Tryz.prog 82 = true := by kernel_rfl
@[go_sem] theorem tkd_82 : tkd Tryz.prog 82 = some .other := by kernel_rfl
@[go_sem] theorem tsz_83 : tsz Tryz.prog 83 = some 3 := by kernel_rfl
@[go_sem] theorem tby_83 : tby Tryz.prog 83 = some 32 := by kernel_rfl
@[go_sem] theorem tze_83 : tze Tryz.prog 83 = some [.string ByteArray.empty, .int .i64 0, .bool false] := by kernel_rfl
@[go_sem] theorem tag_83 : tag Tryz.prog 83 = some true := by kernel_rfl
@[go_sem] theorem tar_83 : tar Tryz.prog 83 = none := by kernel_rfl
@[go_sem] theorem tfo_83_0 : tfo Tryz.prog 83 0 = some (0, 9) := by kernel_rfl
@[go_sem] theorem tfo_83_1 : tfo Tryz.prog 83 1 = some (1, 3) := by kernel_rfl
@[go_sem] theorem tfo_83_2 : tfo Tryz.prog 83 2 = some (2, 4) := by kernel_rfl
@[go_sem] theorem tpl_83 : tpl Tryz.prog 83 = some [(0, 1), (1, 1), (2, 1)] := by kernel_rfl
@[go_sem] theorem tcs_83 : tcs Tryz.prog 83 = [] := by kernel_rfl
@[go_sem] theorem tkd_83 : tkd Tryz.prog 83 = some .other := by kernel_rfl
@[go_sem] theorem tsz_84 : tsz Tryz.prog 84 = some 3 := by kernel_rfl
@[go_sem] theorem tby_84 : tby Tryz.prog 84 = some 32 := by kernel_rfl
@[go_sem] theorem tze_84 : tze Tryz.prog 84 = some [.string ByteArray.empty, .int .i64 0, .bool false] := by kernel_rfl
@[go_sem] theorem tag_84 : tag Tryz.prog 84 = some true := by kernel_rfl
@[go_sem] theorem tar_84 : tar Tryz.prog 84 = none := by kernel_rfl
@[go_sem] theorem tfo_84_0 : tfo Tryz.prog 84 0 = some (0, 9) := by kernel_rfl
@[go_sem] theorem tfo_84_1 : tfo Tryz.prog 84 1 = some (1, 3) := by kernel_rfl
@[go_sem] theorem tfo_84_2 : tfo Tryz.prog 84 2 = some (2, 4) := by kernel_rfl
@[go_sem] theorem tpl_84 : tpl Tryz.prog 84 = some [(0, 1), (1, 1), (2, 1)] := by kernel_rfl
@[go_sem] theorem tcs_84 : tcs Tryz.prog 84 = [] := by kernel_rfl
@[go_sem] theorem teq_84 : teq Tryz.prog 84 = some [.string, (.int .i64), .bool] := by kernel_rfl
@[go_sem] theorem tkd_84 : tkd Tryz.prog 84 = some .other := by kernel_rfl
@[go_sem] theorem tsz_92 : tsz Tryz.prog 92 = some 3 := by kernel_rfl
@[go_sem] theorem tby_92 : tby Tryz.prog 92 = some 48 := by kernel_rfl
@[go_sem] theorem tze_92 : tze Tryz.prog 92 = some [.string ByteArray.empty, .string ByteArray.empty, .string ByteArray.empty] := by kernel_rfl
@[go_sem] theorem tag_92 : tag Tryz.prog 92 = some true := by kernel_rfl
@[go_sem] theorem tar_92 : tar Tryz.prog 92 = none := by kernel_rfl
@[go_sem] theorem tfo_92_0 : tfo Tryz.prog 92 0 = some (0, 9) := by kernel_rfl
@[go_sem] theorem tfo_92_1 : tfo Tryz.prog 92 1 = some (1, 9) := by kernel_rfl
@[go_sem] theorem tfo_92_2 : tfo Tryz.prog 92 2 = some (2, 9) := by kernel_rfl
@[go_sem] theorem tpl_92 : tpl Tryz.prog 92 = some [(0, 1), (1, 1), (2, 1)] := by kernel_rfl
@[go_sem] theorem tcs_92 : tcs Tryz.prog 92 = [] := by kernel_rfl
@[go_sem] theorem tkd_92 : tkd Tryz.prog 92 = some .other := by kernel_rfl
@[go_sem] theorem tsz_93 : tsz Tryz.prog 93 = some 3 := by kernel_rfl
@[go_sem] theorem tby_93 : tby Tryz.prog 93 = some 48 := by kernel_rfl
@[go_sem] theorem tze_93 : tze Tryz.prog 93 = some [.string ByteArray.empty, .string ByteArray.empty, .string ByteArray.empty] := by kernel_rfl
@[go_sem] theorem tag_93 : tag Tryz.prog 93 = some true := by kernel_rfl
@[go_sem] theorem tar_93 : tar Tryz.prog 93 = none := by kernel_rfl
@[go_sem] theorem tfo_93_0 : tfo Tryz.prog 93 0 = some (0, 9) := by kernel_rfl
@[go_sem] theorem tfo_93_1 : tfo Tryz.prog 93 1 = some (1, 9) := by kernel_rfl
@[go_sem] theorem tfo_93_2 : tfo Tryz.prog 93 2 = some (2, 9) := by kernel_rfl
@[go_sem] theorem tpl_93 : tpl Tryz.prog 93 = some [(0, 1), (1, 1), (2, 1)] := by kernel_rfl
@[go_sem] theorem tcs_93 : tcs Tryz.prog 93 = [] := by kernel_rfl
@[go_sem] theorem teq_93 : teq Tryz.prog 93 = some [.string, .string, .string] := by kernel_rfl
@[go_sem] theorem tkd_93 : tkd Tryz.prog 93 = some .other := by kernel_rfl
@[go_sem] theorem tsz_100 : tsz Tryz.prog 100 = some 1 := by kernel_rfl
@[go_sem] theorem tby_100 : tby Tryz.prog 100 = some 24 := by kernel_rfl
@[go_sem] theorem tze_100 : tze Tryz.prog 100 = some [.slice none 0 0] := by kernel_rfl
@[go_sem] theorem tag_100 : tag Tryz.prog 100 = some false := by kernel_rfl
@[go_sem] theorem tel_100 : tel Tryz.prog 100 = some 5 := by kernel_rfl
@[go_sem] theorem tar_100 : tar Tryz.prog 100 = none := by kernel_rfl
@[go_sem] theorem tcs_100 : tcs Tryz.prog 100 = [(0, 1)] := by kernel_rfl
@[go_sem] theorem tkd_100 : tkd Tryz.prog 100 = some (.slice 5) := by kernel_rfl
@[go_sem] theorem tsz_103 : tsz Tryz.prog 103 = some 1 := by kernel_rfl
@[go_sem] theorem tby_103 : tby Tryz.prog 103 = some 24 := by kernel_rfl
@[go_sem] theorem tze_103 : tze Tryz.prog 103 = some [.slice none 0 0] := by kernel_rfl
@[go_sem] theorem tag_103 : tag Tryz.prog 103 = some false := by kernel_rfl
@[go_sem] theorem tel_103 : tel Tryz.prog 103 = some 109 := by kernel_rfl
@[go_sem] theorem tar_103 : tar Tryz.prog 103 = none := by kernel_rfl
@[go_sem] theorem tcs_103 : tcs Tryz.prog 103 = [(0, 4)] := by kernel_rfl
@[go_sem] theorem tkd_103 : tkd Tryz.prog 103 = some (.slice 109) := by kernel_rfl
@[go_sem] theorem tsz_104 : tsz Tryz.prog 104 = some 2 := by kernel_rfl
@[go_sem] theorem tby_104 : tby Tryz.prog 104 = some 32 := by kernel_rfl
@[go_sem] theorem tze_104 : tze Tryz.prog 104 = some [.int .i64 0, .slice none 0 0] := by kernel_rfl
@[go_sem] theorem tag_104 : tag Tryz.prog 104 = some true := by kernel_rfl
@[go_sem] theorem tar_104 : tar Tryz.prog 104 = none := by kernel_rfl
@[go_sem] theorem tfo_104_0 : tfo Tryz.prog 104 0 = some (0, 3) := by kernel_rfl
@[go_sem] theorem tfo_104_1 : tfo Tryz.prog 104 1 = some (1, 103) := by kernel_rfl
@[go_sem] theorem tpl_104 : tpl Tryz.prog 104 = some [(0, 1), (1, 1)] := by kernel_rfl
@[go_sem] theorem tcs_104 : tcs Tryz.prog 104 = [(1, 4)] := by kernel_rfl
@[go_sem] theorem tkd_104 : tkd Tryz.prog 104 = some .other := by kernel_rfl
@[go_sem] theorem tsz_105 : tsz Tryz.prog 105 = some 2 := by kernel_rfl
@[go_sem] theorem tby_105 : tby Tryz.prog 105 = some 32 := by kernel_rfl
@[go_sem] theorem tze_105 : tze Tryz.prog 105 = some [.int .i64 0, .slice none 0 0] := by kernel_rfl
@[go_sem] theorem tag_105 : tag Tryz.prog 105 = some true := by kernel_rfl
@[go_sem] theorem tar_105 : tar Tryz.prog 105 = none := by kernel_rfl
@[go_sem] theorem tfo_105_0 : tfo Tryz.prog 105 0 = some (0, 3) := by kernel_rfl
@[go_sem] theorem tfo_105_1 : tfo Tryz.prog 105 1 = some (1, 103) := by kernel_rfl
@[go_sem] theorem tpl_105 : tpl Tryz.prog 105 = some [(0, 1), (1, 1)] := by kernel_rfl
@[go_sem] theorem tcs_105 : tcs Tryz.prog 105 = [(1, 4)] := by kernel_rfl
@[go_sem] theorem tkd_105 : tkd Tryz.prog 105 = some .other := by kernel_rfl
@[go_sem] theorem tsz_106 : tsz Tryz.prog 106 = some 1 := by kernel_rfl
@[go_sem] theorem tby_106 : tby Tryz.prog 106 = some 24 := by kernel_rfl
@[go_sem] theorem tze_106 : tze Tryz.prog 106 = some [.slice none 0 0] := by kernel_rfl
@[go_sem] theorem tag_106 : tag Tryz.prog 106 = some false := by kernel_rfl
@[go_sem] theorem tel_106 : tel Tryz.prog 106 = some 143 := by kernel_rfl
@[go_sem] theorem tar_106 : tar Tryz.prog 106 = none := by kernel_rfl
@[go_sem] theorem tcs_106 : tcs Tryz.prog 106 = [(0, 2)] := by kernel_rfl
@[go_sem] theorem tkd_106 : tkd Tryz.prog 106 = some (.slice 143) := by kernel_rfl
@[go_sem] theorem tsz_107 : tsz Tryz.prog 107 = some 1 := by kernel_rfl
@[go_sem] theorem tby_107 : tby Tryz.prog 107 = some 24 := by kernel_rfl
@[go_sem] theorem tze_107 : tze Tryz.prog 107 = some [.slice none 0 0] := by kernel_rfl
@[go_sem] theorem tag_107 : tag Tryz.prog 107 = some false := by kernel_rfl
@[go_sem] theorem tel_107 : tel Tryz.prog 107 = some 147 := by kernel_rfl
@[go_sem] theorem tar_107 : tar Tryz.prog 107 = none := by kernel_rfl
@[go_sem] theorem tcs_107 : tcs Tryz.prog 107 = [(0, 3)] := by kernel_rfl
@[go_sem] theorem tkd_107 : tkd Tryz.prog 107 = some (.slice 147) := by kernel_rfl
@[go_sem] theorem tsz_108 : tsz Tryz.prog 108 = some 4 := by kernel_rfl
@[go_sem] theorem tby_108 : tby Tryz.prog 108 = some 80 := by kernel_rfl
@[go_sem] theorem tze_108 : tze Tryz.prog 108 = some [.int .i64 0, .slice none 0 0, .slice none 0 0, .slice none 0 0] := by kernel_rfl
@[go_sem] theorem tag_108 : tag Tryz.prog 108 = some true := by kernel_rfl
@[go_sem] theorem tar_108 : tar Tryz.prog 108 = none := by kernel_rfl
@[go_sem] theorem tfo_108_0 : tfo Tryz.prog 108 0 = some (0, 3) := by kernel_rfl
@[go_sem] theorem tfo_108_1 : tfo Tryz.prog 108 1 = some (1, 60) := by kernel_rfl
@[go_sem] theorem tfo_108_2 : tfo Tryz.prog 108 2 = some (2, 106) := by kernel_rfl
@[go_sem] theorem tfo_108_3 : tfo Tryz.prog 108 3 = some (3, 107) := by kernel_rfl
@[go_sem] theorem tpl_108 : tpl Tryz.prog 108 = some [(0, 1), (1, 1), (2, 1), (3, 1)] := by kernel_rfl
@[go_sem] theorem tcs_108 : tcs Tryz.prog 108 = [(1, 1), (2, 2), (3, 3)] := by kernel_rfl
@[go_sem] theorem tkd_108 : tkd Tryz.prog 108 = some .other := by kernel_rfl
@[go_sem] theorem tsz_109 : tsz Tryz.prog 109 = some 4 := by kernel_rfl
@[go_sem] theorem tby_109 : tby Tryz.prog 109 = some 80 := by kernel_rfl
@[go_sem] theorem tze_109 : tze Tryz.prog 109 = some [.int .i64 0, .slice none 0 0, .slice none 0 0, .slice none 0 0] := by kernel_rfl
@[go_sem] theorem tag_109 : tag Tryz.prog 109 = some true := by kernel_rfl
@[go_sem] theorem tar_109 : tar Tryz.prog 109 = none := by kernel_rfl
@[go_sem] theorem tfo_109_0 : tfo Tryz.prog 109 0 = some (0, 3) := by kernel_rfl
@[go_sem] theorem tfo_109_1 : tfo Tryz.prog 109 1 = some (1, 60) := by kernel_rfl
@[go_sem] theorem tfo_109_2 : tfo Tryz.prog 109 2 = some (2, 106) := by kernel_rfl
@[go_sem] theorem tfo_109_3 : tfo Tryz.prog 109 3 = some (3, 107) := by kernel_rfl
@[go_sem] theorem tpl_109 : tpl Tryz.prog 109 = some [(0, 1), (1, 1), (2, 1), (3, 1)] := by kernel_rfl
@[go_sem] theorem tcs_109 : tcs Tryz.prog 109 = [(1, 1), (2, 2), (3, 3)] := by kernel_rfl
@[go_sem] theorem tkd_109 : tkd Tryz.prog 109 = some .other := by kernel_rfl
@[go_sem] theorem tsz_111 : tsz Tryz.prog 111 = some 1 := by kernel_rfl
@[go_sem] theorem tby_111 : tby Tryz.prog 111 = some 24 := by kernel_rfl
@[go_sem] theorem tze_111 : tze Tryz.prog 111 = some [.slice none 0 0] := by kernel_rfl
@[go_sem] theorem tag_111 : tag Tryz.prog 111 = some false := by kernel_rfl
@[go_sem] theorem tel_111 : tel Tryz.prog 111 = some 118 := by kernel_rfl
@[go_sem] theorem tar_111 : tar Tryz.prog 111 = none := by kernel_rfl
@[go_sem] theorem tcs_111 : tcs Tryz.prog 111 = [(0, 4)] := by kernel_rfl
@[go_sem] theorem tkd_111 : tkd Tryz.prog 111 = some (.slice 118) := by kernel_rfl
@[go_sem] theorem tsz_112 : tsz Tryz.prog 112 = some 2 := by kernel_rfl
@[go_sem] theorem tby_112 : tby Tryz.prog 112 = some 32 := by kernel_rfl
@[go_sem] theorem tze_112 : tze Tryz.prog 112 = some [.int .i64 0, .slice none 0 0] := by kernel_rfl
@[go_sem] theorem tag_112 : tag Tryz.prog 112 = some true := by kernel_rfl
@[go_sem] theorem tar_112 : tar Tryz.prog 112 = none := by kernel_rfl
@[go_sem] theorem tfo_112_0 : tfo Tryz.prog 112 0 = some (0, 3) := by kernel_rfl
@[go_sem] theorem tfo_112_1 : tfo Tryz.prog 112 1 = some (1, 111) := by kernel_rfl
@[go_sem] theorem tpl_112 : tpl Tryz.prog 112 = some [(0, 1), (1, 1)] := by kernel_rfl
@[go_sem] theorem tcs_112 : tcs Tryz.prog 112 = [(1, 4)] := by kernel_rfl
@[go_sem] theorem tkd_112 : tkd Tryz.prog 112 = some .other := by kernel_rfl
@[go_sem] theorem tsz_113 : tsz Tryz.prog 113 = some 2 := by kernel_rfl
@[go_sem] theorem tby_113 : tby Tryz.prog 113 = some 32 := by kernel_rfl
@[go_sem] theorem tze_113 : tze Tryz.prog 113 = some [.int .i64 0, .slice none 0 0] := by kernel_rfl
@[go_sem] theorem tag_113 : tag Tryz.prog 113 = some true := by kernel_rfl
@[go_sem] theorem tar_113 : tar Tryz.prog 113 = none := by kernel_rfl
@[go_sem] theorem tfo_113_0 : tfo Tryz.prog 113 0 = some (0, 3) := by kernel_rfl
@[go_sem] theorem tfo_113_1 : tfo Tryz.prog 113 1 = some (1, 111) := by kernel_rfl
@[go_sem] theorem tpl_113 : tpl Tryz.prog 113 = some [(0, 1), (1, 1)] := by kernel_rfl
@[go_sem] theorem tcs_113 : tcs Tryz.prog 113 = [(1, 4)] := by kernel_rfl
@[go_sem] theorem tkd_113 : tkd Tryz.prog 113 = some .other := by kernel_rfl
@[go_sem] theorem tsz_115 : tsz Tryz.prog 115 = some 1 := by kernel_rfl
@[go_sem] theorem tby_115 : tby Tryz.prog 115 = some 24 := by kernel_rfl
@[go_sem] theorem tze_115 : tze Tryz.prog 115 = some [.slice none 0 0] := by kernel_rfl
@[go_sem] theorem tag_115 : tag Tryz.prog 115 = some false := by kernel_rfl
@[go_sem] theorem tel_115 : tel Tryz.prog 115 = some 150 := by kernel_rfl
@[go_sem] theorem tar_115 : tar Tryz.prog 115 = none := by kernel_rfl
@[go_sem] theorem tcs_115 : tcs Tryz.prog 115 = [(0, 2)] := by kernel_rfl
@[go_sem] theorem tkd_115 : tkd Tryz.prog 115 = some (.slice 150) := by kernel_rfl
@[go_sem] theorem tsz_116 : tsz Tryz.prog 116 = some 1 := by kernel_rfl
@[go_sem] theorem tby_116 : tby Tryz.prog 116 = some 24 := by kernel_rfl
@[go_sem] theorem tze_116 : tze Tryz.prog 116 = some [.slice none 0 0] := by kernel_rfl
@[go_sem] theorem tag_116 : tag Tryz.prog 116 = some false := by kernel_rfl
@[go_sem] theorem tel_116 : tel Tryz.prog 116 = some 152 := by kernel_rfl
@[go_sem] theorem tar_116 : tar Tryz.prog 116 = none := by kernel_rfl
@[go_sem] theorem tcs_116 : tcs Tryz.prog 116 = [(0, 3)] := by kernel_rfl
@[go_sem] theorem tkd_116 : tkd Tryz.prog 116 = some (.slice 152) := by kernel_rfl
@[go_sem] theorem tsz_117 : tsz Tryz.prog 117 = some 4 := by kernel_rfl
@[go_sem] theorem tby_117 : tby Tryz.prog 117 = some 80 := by kernel_rfl
@[go_sem] theorem tze_117 : tze Tryz.prog 117 = some [.int .i64 0, .slice none 0 0, .slice none 0 0, .slice none 0 0] := by kernel_rfl
@[go_sem] theorem tag_117 : tag Tryz.prog 117 = some true := by kernel_rfl
@[go_sem] theorem tar_117 : tar Tryz.prog 117 = none := by kernel_rfl
@[go_sem] theorem tfo_117_0 : tfo Tryz.prog 117 0 = some (0, 3) := by kernel_rfl
@[go_sem] theorem tfo_117_1 : tfo Tryz.prog 117 1 = some (1, 60) := by kernel_rfl
@[go_sem] theorem tfo_117_2 : tfo Tryz.prog 117 2 = some (2, 115) := by kernel_rfl
@[go_sem] theorem tfo_117_3 : tfo Tryz.prog 117 3 = some (3, 116) := by kernel_rfl
@[go_sem] theorem tpl_117 : tpl Tryz.prog 117 = some [(0, 1), (1, 1), (2, 1), (3, 1)] := by kernel_rfl
@[go_sem] theorem tcs_117 : tcs Tryz.prog 117 = [(1, 1), (2, 2), (3, 3)] := by kernel_rfl
@[go_sem] theorem tkd_117 : tkd Tryz.prog 117 = some .other := by kernel_rfl
@[go_sem] theorem tsz_118 : tsz Tryz.prog 118 = some 4 := by kernel_rfl
@[go_sem] theorem tby_118 : tby Tryz.prog 118 = some 80 := by kernel_rfl
@[go_sem] theorem tze_118 : tze Tryz.prog 118 = some [.int .i64 0, .slice none 0 0, .slice none 0 0, .slice none 0 0] := by kernel_rfl
@[go_sem] theorem tag_118 : tag Tryz.prog 118 = some true := by kernel_rfl
@[go_sem] theorem tar_118 : tar Tryz.prog 118 = none := by kernel_rfl
@[go_sem] theorem tfo_118_0 : tfo Tryz.prog 118 0 = some (0, 3) := by kernel_rfl
@[go_sem] theorem tfo_118_1 : tfo Tryz.prog 118 1 = some (1, 60) := by kernel_rfl
@[go_sem] theorem tfo_118_2 : tfo Tryz.prog 118 2 = some (2, 115) := by kernel_rfl
@[go_sem] theorem tfo_118_3 : tfo Tryz.prog 118 3 = some (3, 116) := by kernel_rfl
@[go_sem] theorem tpl_118 : tpl Tryz.prog 118 = some [(0, 1), (1, 1), (2, 1), (3, 1)] := by kernel_rfl
@[go_sem] theorem tcs_118 : tcs Tryz.prog 118 = [(1, 1), (2, 2), (3, 3)] := by kernel_rfl
@[go_sem] theorem tkd_118 : tkd Tryz.prog 118 = some .other := by kernel_rfl
@[go_sem] theorem tsz_125 : tsz Tryz.prog 125 = some 1 := by kernel_rfl
@[go_sem] theorem tby_125 : tby Tryz.prog 125 = some 8 := by kernel_rfl
@[go_sem] theorem tze_125 : tze Tryz.prog 125 = some [.map none] := by kernel_rfl
@[go_sem] theorem tag_125 : tag Tryz.prog 125 = some false := by kernel_rfl
@[go_sem] theorem tar_125 : tar Tryz.prog 125 = none := by kernel_rfl
@[go_sem] theorem tcs_125 : tcs Tryz.prog 125 = [] := by kernel_rfl
@[go_sem] theorem tmp_125 : tmp Tryz.prog 125 = some (55, 3) := by kernel_rfl
@[go_sem] theorem tkd_125 : tkd Tryz.prog 125 = some (.map 55 3) := by kernel_rfl
@[go_sem] theorem tsz_130 : tsz Tryz.prog 130 = some 9 := by kernel_rfl
@[go_sem] theorem tby_130 : tby Tryz.prog 130 = some 152 := by kernel_rfl
@[go_sem] theorem tze_130 : tze Tryz.prog 130 = some [.int .i64 0, .slice none 0 0, .slice none 0 0, .slice none 0 0, .int .i64 0, .int .i64 0, .slice none 0 0, .int .i64 0, .slice none 0 0] := by kernel_rfl
@[go_sem] theorem tag_130 : tag Tryz.prog 130 = some true := by kernel_rfl
@[go_sem] theorem tar_130 : tar Tryz.prog 130 = none := by kernel_rfl
@[go_sem] theorem tfo_130_0 : tfo Tryz.prog 130 0 = some (0, 109) := by kernel_rfl
@[go_sem] theorem tfo_130_1 : tfo Tryz.prog 130 1 = some (4, 3) := by kernel_rfl
@[go_sem] theorem tfo_130_2 : tfo Tryz.prog 130 2 = some (5, 105) := by kernel_rfl
@[go_sem] theorem tfo_130_3 : tfo Tryz.prog 130 3 = some (7, 24) := by kernel_rfl
@[go_sem] theorem tpl_130 : tpl Tryz.prog 130 = some [(0, 4), (4, 1), (5, 2), (7, 2)] := by kernel_rfl
@[go_sem] theorem tcs_130 : tcs Tryz.prog 130 = [(1, 1), (2, 2), (3, 3), (6, 4), (8, 2)] := by kernel_rfl
@[go_sem] theorem tkd_130 : tkd Tryz.prog 130 = some .other := by kernel_rfl
@[go_sem] theorem tsz_131 : tsz Tryz.prog 131 = some 9 := by kernel_rfl
@[go_sem] theorem tby_131 : tby Tryz.prog 131 = some 152 := by kernel_rfl
@[go_sem] theorem tze_131 : tze Tryz.prog 131 = some [.int .i64 0, .slice none 0 0, .slice none 0 0, .slice none 0 0, .int .i64 0, .int .i64 0, .slice none 0 0, .int .i64 0, .slice none 0 0] := by kernel_rfl
@[go_sem] theorem tag_131 : tag Tryz.prog 131 = some true := by kernel_rfl
@[go_sem] theorem tar_131 : tar Tryz.prog 131 = none := by kernel_rfl
@[go_sem] theorem tfo_131_0 : tfo Tryz.prog 131 0 = some (0, 109) := by kernel_rfl
@[go_sem] theorem tfo_131_1 : tfo Tryz.prog 131 1 = some (4, 3) := by kernel_rfl
@[go_sem] theorem tfo_131_2 : tfo Tryz.prog 131 2 = some (5, 105) := by kernel_rfl
@[go_sem] theorem tfo_131_3 : tfo Tryz.prog 131 3 = some (7, 24) := by kernel_rfl
@[go_sem] theorem tpl_131 : tpl Tryz.prog 131 = some [(0, 4), (4, 1), (5, 2), (7, 2)] := by kernel_rfl
@[go_sem] theorem tcs_131 : tcs Tryz.prog 131 = [(1, 1), (2, 2), (3, 3), (6, 4), (8, 2)] := by kernel_rfl
@[go_sem] theorem tkd_131 : tkd Tryz.prog 131 = some .other := by kernel_rfl
@[go_sem] theorem tsz_140 : tsz Tryz.prog 140 = some 1 := by kernel_rfl
@[go_sem] theorem tby_140 : tby Tryz.prog 140 = some 8 := by kernel_rfl
@[go_sem] theorem tze_140 : tze Tryz.prog 140 = some [.int .u64 0] := by kernel_rfl
@[go_sem] theorem tag_140 : tag Tryz.prog 140 = some false := by kernel_rfl
@[go_sem] theorem tar_140 : tar Tryz.prog 140 = none := by kernel_rfl
@[go_sem] theorem tcs_140 : tcs Tryz.prog 140 = [] := by kernel_rfl
@[go_sem] theorem tkd_140 : tkd Tryz.prog 140 = some (.int .u64) := by kernel_rfl
@[go_sem] theorem tsz_141 : tsz Tryz.prog 141 = some 1 := by kernel_rfl
@[go_sem] theorem tby_141 : tby Tryz.prog 141 = some 24 := by kernel_rfl
@[go_sem] theorem tze_141 : tze Tryz.prog 141 = some [.slice none 0 0] := by kernel_rfl
@[go_sem] theorem tag_141 : tag Tryz.prog 141 = some false := by kernel_rfl
@[go_sem] theorem tel_141 : tel Tryz.prog 141 = some 145 := by kernel_rfl
@[go_sem] theorem tar_141 : tar Tryz.prog 141 = none := by kernel_rfl
@[go_sem] theorem tcs_141 : tcs Tryz.prog 141 = [(0, 2)] := by kernel_rfl
@[go_sem] theorem tkd_141 : tkd Tryz.prog 141 = some (.slice 145) := by kernel_rfl
@[go_sem] theorem tsz_142 : tsz Tryz.prog 142 = some 2 := by kernel_rfl
@[go_sem] theorem tby_142 : tby Tryz.prog 142 = some 32 := by kernel_rfl
@[go_sem] theorem tze_142 : tze Tryz.prog 142 = some [.int .i64 0, .slice none 0 0] := by kernel_rfl
@[go_sem] theorem tag_142 : tag Tryz.prog 142 = some true := by kernel_rfl
@[go_sem] theorem tar_142 : tar Tryz.prog 142 = none := by kernel_rfl
@[go_sem] theorem tfo_142_0 : tfo Tryz.prog 142 0 = some (0, 3) := by kernel_rfl
@[go_sem] theorem tfo_142_1 : tfo Tryz.prog 142 1 = some (1, 141) := by kernel_rfl
@[go_sem] theorem tpl_142 : tpl Tryz.prog 142 = some [(0, 1), (1, 1)] := by kernel_rfl
@[go_sem] theorem tcs_142 : tcs Tryz.prog 142 = [(1, 2)] := by kernel_rfl
@[go_sem] theorem tkd_142 : tkd Tryz.prog 142 = some .other := by kernel_rfl
@[go_sem] theorem tsz_143 : tsz Tryz.prog 143 = some 2 := by kernel_rfl
@[go_sem] theorem tby_143 : tby Tryz.prog 143 = some 32 := by kernel_rfl
@[go_sem] theorem tze_143 : tze Tryz.prog 143 = some [.int .i64 0, .slice none 0 0] := by kernel_rfl
@[go_sem] theorem tag_143 : tag Tryz.prog 143 = some true := by kernel_rfl
@[go_sem] theorem tar_143 : tar Tryz.prog 143 = none := by kernel_rfl
@[go_sem] theorem tfo_143_0 : tfo Tryz.prog 143 0 = some (0, 3) := by kernel_rfl
@[go_sem] theorem tfo_143_1 : tfo Tryz.prog 143 1 = some (1, 141) := by kernel_rfl
@[go_sem] theorem tpl_143 : tpl Tryz.prog 143 = some [(0, 1), (1, 1)] := by kernel_rfl
@[go_sem] theorem tcs_143 : tcs Tryz.prog 143 = [(1, 2)] := by kernel_rfl
@[go_sem] theorem tkd_143 : tkd Tryz.prog 143 = some .other := by kernel_rfl
@[go_sem] theorem tsz_144 : tsz Tryz.prog 144 = some 2 := by kernel_rfl
@[go_sem] theorem tby_144 : tby Tryz.prog 144 = some 16 := by kernel_rfl
@[go_sem] theorem tze_144 : tze Tryz.prog 144 = some [.int .i64 0, .int .i64 0] := by kernel_rfl
@[go_sem] theorem tag_144 : tag Tryz.prog 144 = some true := by kernel_rfl
@[go_sem] theorem tar_144 : tar Tryz.prog 144 = none := by kernel_rfl
@[go_sem] theorem tfo_144_0 : tfo Tryz.prog 144 0 = some (0, 3) := by kernel_rfl
@[go_sem] theorem tfo_144_1 : tfo Tryz.prog 144 1 = some (1, 3) := by kernel_rfl
@[go_sem] theorem tpl_144 : tpl Tryz.prog 144 = some [(0, 1), (1, 1)] := by kernel_rfl
@[go_sem] theorem tcs_144 : tcs Tryz.prog 144 = [] := by kernel_rfl
@[go_sem] theorem tkd_144 : tkd Tryz.prog 144 = some .other := by kernel_rfl
@[go_sem] theorem tsz_145 : tsz Tryz.prog 145 = some 2 := by kernel_rfl
@[go_sem] theorem tby_145 : tby Tryz.prog 145 = some 16 := by kernel_rfl
@[go_sem] theorem tze_145 : tze Tryz.prog 145 = some [.int .i64 0, .int .i64 0] := by kernel_rfl
@[go_sem] theorem tag_145 : tag Tryz.prog 145 = some true := by kernel_rfl
@[go_sem] theorem tar_145 : tar Tryz.prog 145 = none := by kernel_rfl
@[go_sem] theorem tfo_145_0 : tfo Tryz.prog 145 0 = some (0, 3) := by kernel_rfl
@[go_sem] theorem tfo_145_1 : tfo Tryz.prog 145 1 = some (1, 3) := by kernel_rfl
@[go_sem] theorem tpl_145 : tpl Tryz.prog 145 = some [(0, 1), (1, 1)] := by kernel_rfl
@[go_sem] theorem tcs_145 : tcs Tryz.prog 145 = [] := by kernel_rfl
@[go_sem] theorem teq_145 : teq Tryz.prog 145 = some [(.int .i64), (.int .i64)] := by kernel_rfl
@[go_sem] theorem tkd_145 : tkd Tryz.prog 145 = some .other := by kernel_rfl
@[go_sem] theorem tsz_146 : tsz Tryz.prog 146 = some 3 := by kernel_rfl
@[go_sem] theorem tby_146 : tby Tryz.prog 146 = some 24 := by kernel_rfl
@[go_sem] theorem tze_146 : tze Tryz.prog 146 = some [.int .i64 0, .int .i64 0, .int .i64 0] := by kernel_rfl
@[go_sem] theorem tag_146 : tag Tryz.prog 146 = some true := by kernel_rfl
@[go_sem] theorem tar_146 : tar Tryz.prog 146 = none := by kernel_rfl
@[go_sem] theorem tfo_146_0 : tfo Tryz.prog 146 0 = some (0, 3) := by kernel_rfl
@[go_sem] theorem tfo_146_1 : tfo Tryz.prog 146 1 = some (1, 3) := by kernel_rfl
@[go_sem] theorem tfo_146_2 : tfo Tryz.prog 146 2 = some (2, 3) := by kernel_rfl
@[go_sem] theorem tpl_146 : tpl Tryz.prog 146 = some [(0, 1), (1, 1), (2, 1)] := by kernel_rfl
@[go_sem] theorem tcs_146 : tcs Tryz.prog 146 = [] := by kernel_rfl
@[go_sem] theorem tkd_146 : tkd Tryz.prog 146 = some .other := by kernel_rfl
@[go_sem] theorem tsz_147 : tsz Tryz.prog 147 = some 3 := by kernel_rfl
@[go_sem] theorem tby_147 : tby Tryz.prog 147 = some 24 := by kernel_rfl
@[go_sem] theorem tze_147 : tze Tryz.prog 147 = some [.int .i64 0, .int .i64 0, .int .i64 0] := by kernel_rfl
@[go_sem] theorem tag_147 : tag Tryz.prog 147 = some true := by kernel_rfl
@[go_sem] theorem tar_147 : tar Tryz.prog 147 = none := by kernel_rfl
@[go_sem] theorem tfo_147_0 : tfo Tryz.prog 147 0 = some (0, 3) := by kernel_rfl
@[go_sem] theorem tfo_147_1 : tfo Tryz.prog 147 1 = some (1, 3) := by kernel_rfl
@[go_sem] theorem tfo_147_2 : tfo Tryz.prog 147 2 = some (2, 3) := by kernel_rfl
@[go_sem] theorem tpl_147 : tpl Tryz.prog 147 = some [(0, 1), (1, 1), (2, 1)] := by kernel_rfl
@[go_sem] theorem tcs_147 : tcs Tryz.prog 147 = [] := by kernel_rfl
@[go_sem] theorem teq_147 : teq Tryz.prog 147 = some [(.int .i64), (.int .i64), (.int .i64)] := by kernel_rfl
@[go_sem] theorem tkd_147 : tkd Tryz.prog 147 = some .other := by kernel_rfl
@[go_sem] theorem tsz_148 : tsz Tryz.prog 148 = some 1 := by kernel_rfl
@[go_sem] theorem tby_148 : tby Tryz.prog 148 = some 24 := by kernel_rfl
@[go_sem] theorem tze_148 : tze Tryz.prog 148 = some [.slice none 0 0] := by kernel_rfl
@[go_sem] theorem tag_148 : tag Tryz.prog 148 = some false := by kernel_rfl
@[go_sem] theorem tel_148 : tel Tryz.prog 148 = some 151 := by kernel_rfl
@[go_sem] theorem tar_148 : tar Tryz.prog 148 = none := by kernel_rfl
@[go_sem] theorem tcs_148 : tcs Tryz.prog 148 = [(0, 2)] := by kernel_rfl
@[go_sem] theorem tkd_148 : tkd Tryz.prog 148 = some (.slice 151) := by kernel_rfl
@[go_sem] theorem tsz_149 : tsz Tryz.prog 149 = some 2 := by kernel_rfl
@[go_sem] theorem tby_149 : tby Tryz.prog 149 = some 32 := by kernel_rfl
@[go_sem] theorem tze_149 : tze Tryz.prog 149 = some [.int .i64 0, .slice none 0 0] := by kernel_rfl
@[go_sem] theorem tag_149 : tag Tryz.prog 149 = some true := by kernel_rfl
@[go_sem] theorem tar_149 : tar Tryz.prog 149 = none := by kernel_rfl
@[go_sem] theorem tfo_149_0 : tfo Tryz.prog 149 0 = some (0, 3) := by kernel_rfl
@[go_sem] theorem tfo_149_1 : tfo Tryz.prog 149 1 = some (1, 148) := by kernel_rfl
@[go_sem] theorem tpl_149 : tpl Tryz.prog 149 = some [(0, 1), (1, 1)] := by kernel_rfl
@[go_sem] theorem tcs_149 : tcs Tryz.prog 149 = [(1, 2)] := by kernel_rfl
@[go_sem] theorem tkd_149 : tkd Tryz.prog 149 = some .other := by kernel_rfl
@[go_sem] theorem tsz_150 : tsz Tryz.prog 150 = some 2 := by kernel_rfl
@[go_sem] theorem tby_150 : tby Tryz.prog 150 = some 32 := by kernel_rfl
@[go_sem] theorem tze_150 : tze Tryz.prog 150 = some [.int .i64 0, .slice none 0 0] := by kernel_rfl
@[go_sem] theorem tag_150 : tag Tryz.prog 150 = some true := by kernel_rfl
@[go_sem] theorem tar_150 : tar Tryz.prog 150 = none := by kernel_rfl
@[go_sem] theorem tfo_150_0 : tfo Tryz.prog 150 0 = some (0, 3) := by kernel_rfl
@[go_sem] theorem tfo_150_1 : tfo Tryz.prog 150 1 = some (1, 148) := by kernel_rfl
@[go_sem] theorem tpl_150 : tpl Tryz.prog 150 = some [(0, 1), (1, 1)] := by kernel_rfl
@[go_sem] theorem tcs_150 : tcs Tryz.prog 150 = [(1, 2)] := by kernel_rfl
@[go_sem] theorem tkd_150 : tkd Tryz.prog 150 = some .other := by kernel_rfl
@[go_sem] theorem tsz_151 : tsz Tryz.prog 151 = some 2 := by kernel_rfl
@[go_sem] theorem tby_151 : tby Tryz.prog 151 = some 16 := by kernel_rfl
@[go_sem] theorem tze_151 : tze Tryz.prog 151 = some [.int .i64 0, .int .i64 0] := by kernel_rfl
@[go_sem] theorem tag_151 : tag Tryz.prog 151 = some true := by kernel_rfl
@[go_sem] theorem tar_151 : tar Tryz.prog 151 = none := by kernel_rfl
@[go_sem] theorem tfo_151_0 : tfo Tryz.prog 151 0 = some (0, 3) := by kernel_rfl
@[go_sem] theorem tfo_151_1 : tfo Tryz.prog 151 1 = some (1, 3) := by kernel_rfl
@[go_sem] theorem tpl_151 : tpl Tryz.prog 151 = some [(0, 1), (1, 1)] := by kernel_rfl
@[go_sem] theorem tcs_151 : tcs Tryz.prog 151 = [] := by kernel_rfl
@[go_sem] theorem teq_151 : teq Tryz.prog 151 = some [(.int .i64), (.int .i64)] := by kernel_rfl
@[go_sem] theorem tkd_151 : tkd Tryz.prog 151 = some .other := by kernel_rfl
@[go_sem] theorem tsz_152 : tsz Tryz.prog 152 = some 3 := by kernel_rfl
@[go_sem] theorem tby_152 : tby Tryz.prog 152 = some 24 := by kernel_rfl
@[go_sem] theorem tze_152 : tze Tryz.prog 152 = some [.int .i64 0, .int .i64 0, .int .i64 0] := by kernel_rfl
@[go_sem] theorem tag_152 : tag Tryz.prog 152 = some true := by kernel_rfl
@[go_sem] theorem tar_152 : tar Tryz.prog 152 = none := by kernel_rfl
@[go_sem] theorem tfo_152_0 : tfo Tryz.prog 152 0 = some (0, 3) := by kernel_rfl
@[go_sem] theorem tfo_152_1 : tfo Tryz.prog 152 1 = some (1, 3) := by kernel_rfl
@[go_sem] theorem tfo_152_2 : tfo Tryz.prog 152 2 = some (2, 3) := by kernel_rfl
@[go_sem] theorem tpl_152 : tpl Tryz.prog 152 = some [(0, 1), (1, 1), (2, 1)] := by kernel_rfl
@[go_sem] theorem tcs_152 : tcs Tryz.prog 152 = [] := by kernel_rfl
@[go_sem] theorem teq_152 : teq Tryz.prog 152 = some [(.int .i64), (.int .i64), (.int .i64)] := by kernel_rfl
@[go_sem] theorem tkd_152 : tkd Tryz.prog 152 = some .other := by kernel_rfl
@[go_sem] theorem tsz_155 : tsz Tryz.prog 155 = some 1 := by kernel_rfl
@[go_sem] theorem tby_155 : tby Tryz.prog 155 = some 8 := by kernel_rfl
@[go_sem] theorem tze_155 : tze Tryz.prog 155 = some [.pointer none] := by kernel_rfl
@[go_sem] theorem tag_155 : tag Tryz.prog 155 = some false := by kernel_rfl
@[go_sem] theorem tar_155 : tar Tryz.prog 155 = none := by kernel_rfl
@[go_sem] theorem tcs_155 : tcs Tryz.prog 155 = [] := by kernel_rfl
@[go_sem] theorem tptr_155 : tptr Tryz.prog 155 = true := by kernel_rfl
@[go_sem] theorem tkd_155 : tkd Tryz.prog 155 = some .other := by kernel_rfl
@[go_sem] theorem tsz_160 : tsz Tryz.prog 160 = some 1 := by kernel_rfl
@[go_sem] theorem tby_160 : tby Tryz.prog 160 = some 8 := by kernel_rfl
@[go_sem] theorem tze_160 : tze Tryz.prog 160 = some [.nilFunc] := by kernel_rfl
@[go_sem] theorem tag_160 : tag Tryz.prog 160 = some true := by kernel_rfl
@[go_sem] theorem tar_160 : tar Tryz.prog 160 = none := by kernel_rfl
@[go_sem] theorem tfo_160_0 : tfo Tryz.prog 160 0 = some (0, 53) := by kernel_rfl
@[go_sem] theorem tpl_160 : tpl Tryz.prog 160 = some [(0, 1)] := by kernel_rfl
@[go_sem] theorem tcs_160 : tcs Tryz.prog 160 = [] := by kernel_rfl
@[go_sem] theorem tkd_160 : tkd Tryz.prog 160 = some .other := by kernel_rfl
@[go_sem] theorem tsz_161 : tsz Tryz.prog 161 = some 1 := by kernel_rfl
@[go_sem] theorem tby_161 : tby Tryz.prog 161 = some 8 := by kernel_rfl
@[go_sem] theorem tze_161 : tze Tryz.prog 161 = some [.nilFunc] := by kernel_rfl
@[go_sem] theorem tag_161 : tag Tryz.prog 161 = some true := by kernel_rfl
@[go_sem] theorem tar_161 : tar Tryz.prog 161 = none := by kernel_rfl
@[go_sem] theorem tfo_161_0 : tfo Tryz.prog 161 0 = some (0, 53) := by kernel_rfl
@[go_sem] theorem tpl_161 : tpl Tryz.prog 161 = some [(0, 1)] := by kernel_rfl
@[go_sem] theorem tcs_161 : tcs Tryz.prog 161 = [] := by kernel_rfl
@[go_sem] theorem tkd_161 : tkd Tryz.prog 161 = some .other := by kernel_rfl
@[go_sem] theorem tsz_162 : tsz Tryz.prog 162 = some 1 := by kernel_rfl
@[go_sem] theorem tby_162 : tby Tryz.prog 162 = some 24 := by kernel_rfl
@[go_sem] theorem tze_162 : tze Tryz.prog 162 = some [.slice none 0 0] := by kernel_rfl
@[go_sem] theorem tag_162 : tag Tryz.prog 162 = some false := by kernel_rfl
@[go_sem] theorem tel_162 : tel Tryz.prog 162 = some 161 := by kernel_rfl
@[go_sem] theorem tar_162 : tar Tryz.prog 162 = none := by kernel_rfl
@[go_sem] theorem tcs_162 : tcs Tryz.prog 162 = [(0, 1)] := by kernel_rfl
@[go_sem] theorem tkd_162 : tkd Tryz.prog 162 = some (.slice 161) := by kernel_rfl
@[go_sem] theorem tsz_166 : tsz Tryz.prog 166 = some 1 := by kernel_rfl
@[go_sem] theorem tby_166 : tby Tryz.prog 166 = some 8 := by kernel_rfl
@[go_sem] theorem tze_166 : tze Tryz.prog 166 = some [.int .i64 0] := by kernel_rfl
@[go_sem] theorem tag_166 : tag Tryz.prog 166 = some true := by kernel_rfl
@[go_sem] theorem tar_166 : tar Tryz.prog 166 = none := by kernel_rfl
@[go_sem] theorem tfo_166_0 : tfo Tryz.prog 166 0 = some (0, 33) := by kernel_rfl
@[go_sem] theorem tpl_166 : tpl Tryz.prog 166 = some [(0, 1)] := by kernel_rfl
@[go_sem] theorem tcs_166 : tcs Tryz.prog 166 = [] := by kernel_rfl
@[go_sem] theorem tkd_166 : tkd Tryz.prog 166 = some .other := by kernel_rfl
@[go_sem] theorem tsz_167 : tsz Tryz.prog 167 = some 1 := by kernel_rfl
@[go_sem] theorem tby_167 : tby Tryz.prog 167 = some 8 := by kernel_rfl
@[go_sem] theorem tze_167 : tze Tryz.prog 167 = some [.int .i64 0] := by kernel_rfl
@[go_sem] theorem tag_167 : tag Tryz.prog 167 = some true := by kernel_rfl
@[go_sem] theorem tar_167 : tar Tryz.prog 167 = none := by kernel_rfl
@[go_sem] theorem tfo_167_0 : tfo Tryz.prog 167 0 = some (0, 33) := by kernel_rfl
@[go_sem] theorem tpl_167 : tpl Tryz.prog 167 = some [(0, 1)] := by kernel_rfl
@[go_sem] theorem tcs_167 : tcs Tryz.prog 167 = [] := by kernel_rfl
@[go_sem] theorem tkd_167 : tkd Tryz.prog 167 = some .other := by kernel_rfl
@[go_sem] theorem tsz_181 : tsz Tryz.prog 181 = some 1 := by kernel_rfl
@[go_sem] theorem tby_181 : tby Tryz.prog 181 = some 4 := by kernel_rfl
@[go_sem] theorem tze_181 : tze Tryz.prog 181 = some [.int .u32 0] := by kernel_rfl
@[go_sem] theorem tag_181 : tag Tryz.prog 181 = some false := by kernel_rfl
@[go_sem] theorem tar_181 : tar Tryz.prog 181 = none := by kernel_rfl
@[go_sem] theorem tcs_181 : tcs Tryz.prog 181 = [] := by kernel_rfl
@[go_sem] theorem tkd_181 : tkd Tryz.prog 181 = some (.int .u32) := by kernel_rfl
@[go_sem] theorem tsz_198 : tsz Tryz.prog 198 = some 1 := by kernel_rfl
@[go_sem] theorem tby_198 : tby Tryz.prog 198 = some 8 := by kernel_rfl
@[go_sem] theorem tze_198 : tze Tryz.prog 198 = some [.pointer none] := by kernel_rfl
@[go_sem] theorem tag_198 : tag Tryz.prog 198 = some false := by kernel_rfl
@[go_sem] theorem tar_198 : tar Tryz.prog 198 = none := by kernel_rfl
@[go_sem] theorem tcs_198 : tcs Tryz.prog 198 = [] := by kernel_rfl
@[go_sem] theorem tptr_198 : tptr Tryz.prog 198 = true := by kernel_rfl
@[go_sem] theorem tkd_198 : tkd Tryz.prog 198 = some .other := by kernel_rfl
@[go_sem] theorem tsz_204 : tsz Tryz.prog 204 = some 1 := by kernel_rfl
@[go_sem] theorem tby_204 : tby Tryz.prog 204 = some 8 := by kernel_rfl
@[go_sem] theorem tze_204 : tze Tryz.prog 204 = some [.pointer none] := by kernel_rfl
@[go_sem] theorem tag_204 : tag Tryz.prog 204 = some false := by kernel_rfl
@[go_sem] theorem tar_204 : tar Tryz.prog 204 = none := by kernel_rfl
@[go_sem] theorem tcs_204 : tcs Tryz.prog 204 = [] := by kernel_rfl
@[go_sem] theorem tkd_204 : tkd Tryz.prog 204 = some .other := by kernel_rfl
@[go_sem] theorem tsz_205 : tsz Tryz.prog 205 = some 1 := by kernel_rfl
@[go_sem] theorem tby_205 : tby Tryz.prog 205 = some 24 := by kernel_rfl
@[go_sem] theorem tze_205 : tze Tryz.prog 205 = some [.slice none 0 0] := by kernel_rfl
@[go_sem] theorem tag_205 : tag Tryz.prog 205 = some false := by kernel_rfl
@[go_sem] theorem tel_205 : tel Tryz.prog 205 = some 210 := by kernel_rfl
@[go_sem] theorem tar_205 : tar Tryz.prog 205 = none := by kernel_rfl
@[go_sem] theorem tcs_205 : tcs Tryz.prog 205 = [(0, 1)] := by kernel_rfl
@[go_sem] theorem tkd_205 : tkd Tryz.prog 205 = some (.slice 210) := by kernel_rfl
@[go_sem] theorem tsz_206 : tsz Tryz.prog 206 = some 3 := by kernel_rfl
@[go_sem] theorem tby_206 : tby Tryz.prog 206 = some 72 := by kernel_rfl
@[go_sem] theorem tze_206 : tze Tryz.prog 206 = some [.slice none 0 0, .slice none 0 0, .slice none 0 0] := by kernel_rfl
@[go_sem] theorem tag_206 : tag Tryz.prog 206 = some true := by kernel_rfl
@[go_sem] theorem tar_206 : tar Tryz.prog 206 = none := by kernel_rfl
@[go_sem] theorem tfo_206_0 : tfo Tryz.prog 206 0 = some (0, 60) := by kernel_rfl
@[go_sem] theorem tfo_206_1 : tfo Tryz.prog 206 1 = some (1, 205) := by kernel_rfl
@[go_sem] theorem tfo_206_2 : tfo Tryz.prog 206 2 = some (2, 60) := by kernel_rfl
@[go_sem] theorem tpl_206 : tpl Tryz.prog 206 = some [(0, 1), (1, 1), (2, 1)] := by kernel_rfl
@[go_sem] theorem tcs_206 : tcs Tryz.prog 206 = [(0, 1), (1, 1), (2, 1)] := by kernel_rfl
@[go_sem] theorem tkd_206 : tkd Tryz.prog 206 = some .other := by kernel_rfl
@[go_sem] theorem tsz_207 : tsz Tryz.prog 207 = some 3 := by kernel_rfl
@[go_sem] theorem tby_207 : tby Tryz.prog 207 = some 72 := by kernel_rfl
@[go_sem] theorem tze_207 : tze Tryz.prog 207 = some [.slice none 0 0, .slice none 0 0, .slice none 0 0] := by kernel_rfl
@[go_sem] theorem tag_207 : tag Tryz.prog 207 = some true := by kernel_rfl
@[go_sem] theorem tar_207 : tar Tryz.prog 207 = none := by kernel_rfl
@[go_sem] theorem tfo_207_0 : tfo Tryz.prog 207 0 = some (0, 60) := by kernel_rfl
@[go_sem] theorem tfo_207_1 : tfo Tryz.prog 207 1 = some (1, 205) := by kernel_rfl
@[go_sem] theorem tfo_207_2 : tfo Tryz.prog 207 2 = some (2, 60) := by kernel_rfl
@[go_sem] theorem tpl_207 : tpl Tryz.prog 207 = some [(0, 1), (1, 1), (2, 1)] := by kernel_rfl
@[go_sem] theorem tcs_207 : tcs Tryz.prog 207 = [(0, 1), (1, 1), (2, 1)] := by kernel_rfl
@[go_sem] theorem tkd_207 : tkd Tryz.prog 207 = some .other := by kernel_rfl
@[go_sem] theorem tsz_208 : tsz Tryz.prog 208 = some 5 := by kernel_rfl
@[go_sem] theorem tby_208 : tby Tryz.prog 208 = some 40 := by kernel_rfl
@[go_sem] theorem tze_208 : tze Tryz.prog 208 = some [.int .i64 0, .int .i64 0, .int .i64 0, .int .i64 0, .int .i64 0] := by kernel_rfl
@[go_sem] theorem tag_208 : tag Tryz.prog 208 = some true := by kernel_rfl
@[go_sem] theorem tar_208 : tar Tryz.prog 208 = none := by kernel_rfl
@[go_sem] theorem tfo_208_0 : tfo Tryz.prog 208 0 = some (0, 3) := by kernel_rfl
@[go_sem] theorem tfo_208_1 : tfo Tryz.prog 208 1 = some (1, 3) := by kernel_rfl
@[go_sem] theorem tfo_208_2 : tfo Tryz.prog 208 2 = some (2, 3) := by kernel_rfl
@[go_sem] theorem tfo_208_3 : tfo Tryz.prog 208 3 = some (3, 3) := by kernel_rfl
@[go_sem] theorem tfo_208_4 : tfo Tryz.prog 208 4 = some (4, 3) := by kernel_rfl
@[go_sem] theorem tpl_208 : tpl Tryz.prog 208 = some [(0, 1), (1, 1), (2, 1), (3, 1), (4, 1)] := by kernel_rfl
@[go_sem] theorem tcs_208 : tcs Tryz.prog 208 = [] := by kernel_rfl
@[go_sem] theorem tkd_208 : tkd Tryz.prog 208 = some .other := by kernel_rfl
@[go_sem] theorem tsz_209 : tsz Tryz.prog 209 = some 5 := by kernel_rfl
@[go_sem] theorem tby_209 : tby Tryz.prog 209 = some 40 := by kernel_rfl
@[go_sem] theorem tze_209 : tze Tryz.prog 209 = some [.int .i64 0, .int .i64 0, .int .i64 0, .int .i64 0, .int .i64 0] := by kernel_rfl
@[go_sem] theorem tag_209 : tag Tryz.prog 209 = some true := by kernel_rfl
@[go_sem] theorem tar_209 : tar Tryz.prog 209 = none := by kernel_rfl
@[go_sem] theorem tfo_209_0 : tfo Tryz.prog 209 0 = some (0, 3) := by kernel_rfl
@[go_sem] theorem tfo_209_1 : tfo Tryz.prog 209 1 = some (1, 3) := by kernel_rfl
@[go_sem] theorem tfo_209_2 : tfo Tryz.prog 209 2 = some (2, 3) := by kernel_rfl
@[go_sem] theorem tfo_209_3 : tfo Tryz.prog 209 3 = some (3, 3) := by kernel_rfl
@[go_sem] theorem tfo_209_4 : tfo Tryz.prog 209 4 = some (4, 3) := by kernel_rfl
@[go_sem] theorem tpl_209 : tpl Tryz.prog 209 = some [(0, 1), (1, 1), (2, 1), (3, 1), (4, 1)] := by kernel_rfl
@[go_sem] theorem tcs_209 : tcs Tryz.prog 209 = [] := by kernel_rfl
@[go_sem] theorem teq_209 : teq Tryz.prog 209 = some [(.int .i64), (.int .i64), (.int .i64), (.int .i64), (.int .i64)] := by kernel_rfl
@[go_sem] theorem tkd_209 : tkd Tryz.prog 209 = some .other := by kernel_rfl
@[go_sem] theorem tsz_210 : tsz Tryz.prog 210 = some 1 := by kernel_rfl
@[go_sem] theorem tby_210 : tby Tryz.prog 210 = some 24 := by kernel_rfl
@[go_sem] theorem tze_210 : tze Tryz.prog 210 = some [.slice none 0 0] := by kernel_rfl
@[go_sem] theorem tag_210 : tag Tryz.prog 210 = some false := by kernel_rfl
@[go_sem] theorem tel_210 : tel Tryz.prog 210 = some 212 := by kernel_rfl
@[go_sem] theorem tar_210 : tar Tryz.prog 210 = none := by kernel_rfl
@[go_sem] theorem tcs_210 : tcs Tryz.prog 210 = [(0, 2)] := by kernel_rfl
@[go_sem] theorem tkd_210 : tkd Tryz.prog 210 = some (.slice 212) := by kernel_rfl
@[go_sem] theorem tsz_211 : tsz Tryz.prog 211 = some 2 := by kernel_rfl
@[go_sem] theorem tby_211 : tby Tryz.prog 211 = some 16 := by kernel_rfl
@[go_sem] theorem tze_211 : tze Tryz.prog 211 = some [.int .i64 0, .int .i64 0] := by kernel_rfl
@[go_sem] theorem tag_211 : tag Tryz.prog 211 = some true := by kernel_rfl
@[go_sem] theorem tar_211 : tar Tryz.prog 211 = none := by kernel_rfl
@[go_sem] theorem tfo_211_0 : tfo Tryz.prog 211 0 = some (0, 3) := by kernel_rfl
@[go_sem] theorem tfo_211_1 : tfo Tryz.prog 211 1 = some (1, 3) := by kernel_rfl
@[go_sem] theorem tpl_211 : tpl Tryz.prog 211 = some [(0, 1), (1, 1)] := by kernel_rfl
@[go_sem] theorem tcs_211 : tcs Tryz.prog 211 = [] := by kernel_rfl
@[go_sem] theorem tkd_211 : tkd Tryz.prog 211 = some .other := by kernel_rfl
@[go_sem] theorem tsz_212 : tsz Tryz.prog 212 = some 2 := by kernel_rfl
@[go_sem] theorem tby_212 : tby Tryz.prog 212 = some 16 := by kernel_rfl
@[go_sem] theorem tze_212 : tze Tryz.prog 212 = some [.int .i64 0, .int .i64 0] := by kernel_rfl
@[go_sem] theorem tag_212 : tag Tryz.prog 212 = some true := by kernel_rfl
@[go_sem] theorem tar_212 : tar Tryz.prog 212 = none := by kernel_rfl
@[go_sem] theorem tfo_212_0 : tfo Tryz.prog 212 0 = some (0, 3) := by kernel_rfl
@[go_sem] theorem tfo_212_1 : tfo Tryz.prog 212 1 = some (1, 3) := by kernel_rfl
@[go_sem] theorem tpl_212 : tpl Tryz.prog 212 = some [(0, 1), (1, 1)] := by kernel_rfl
@[go_sem] theorem tcs_212 : tcs Tryz.prog 212 = [] := by kernel_rfl
@[go_sem] theorem teq_212 : teq Tryz.prog 212 = some [(.int .i64), (.int .i64)] := by kernel_rfl
@[go_sem] theorem tkd_212 : tkd Tryz.prog 212 = some .other := by kernel_rfl
@[go_sem] theorem fxk_3 : fxk Tryz.prog 3 = none := by kernel_rfl
@[go_sem] theorem fnOk_3 : fnOk Tryz.prog 3 = true := by kernel_rfl
@[go_sem] theorem fxk_4 : fxk Tryz.prog 4 = none := by kernel_rfl
@[go_sem] theorem fnOk_4 : fnOk Tryz.prog 4 = true := by kernel_rfl
@[go_sem] theorem fxk_5 : fxk Tryz.prog 5 = none := by kernel_rfl
@[go_sem] theorem fnOk_5 : fnOk Tryz.prog 5 = true := by kernel_rfl
@[go_sem] theorem fxk_6 : fxk Tryz.prog 6 = none := by kernel_rfl
@[go_sem] theorem fnOk_6 : fnOk Tryz.prog 6 = true := by kernel_rfl
@[go_sem] theorem fxk_7 : fxk Tryz.prog 7 = none := by kernel_rfl
@[go_sem] theorem fnOk_7 : fnOk Tryz.prog 7 = true := by kernel_rfl
@[go_sem] theorem fxk_8 : fxk Tryz.prog 8 = none := by kernel_rfl
@[go_sem] theorem fnOk_8 : fnOk Tryz.prog 8 = true := by kernel_rfl
@[go_sem] theorem fxk_9 : fxk Tryz.prog 9 = none := by kernel_rfl
@[go_sem] theorem fnOk_9 : fnOk Tryz.prog 9 = true := by kernel_rfl
@[go_sem] theorem fxk_10 : fxk Tryz.prog 10 = none := by kernel_rfl
@[go_sem] theorem fnOk_10 : fnOk Tryz.prog 10 = true := by kernel_rfl
@[go_sem] theorem fxk_11 : fxk Tryz.prog 11 = none := by kernel_rfl
@[go_sem] theorem fnOk_11 : fnOk Tryz.prog 11 = true := by kernel_rfl
@[go_sem] theorem fxk_12 : fxk Tryz.prog 12 = none := by kernel_rfl
@[go_sem] theorem fnOk_12 : fnOk Tryz.prog 12 = true := by kernel_rfl
@[go_sem] theorem fxk_13 : fxk Tryz.prog 13 = none := by kernel_rfl
@[go_sem] theorem fnOk_13 : fnOk Tryz.prog 13 = true := by kernel_rfl
@[go_sem] theorem fxk_14 : fxk Tryz.prog 14 = none := by kernel_rfl
@[go_sem] theorem fnOk_14 : fnOk Tryz.prog 14 = true := by kernel_rfl
@[go_sem] theorem fxk_15 : fxk Tryz.prog 15 = none := by kernel_rfl
@[go_sem] theorem fnOk_15 : fnOk Tryz.prog 15 = true := by kernel_rfl
@[go_sem] theorem fxk_16 : fxk Tryz.prog 16 = none := by kernel_rfl
@[go_sem] theorem fnOk_16 : fnOk Tryz.prog 16 = true := by kernel_rfl
@[go_sem] theorem fxk_17 : fxk Tryz.prog 17 = none := by kernel_rfl
@[go_sem] theorem fnOk_17 : fnOk Tryz.prog 17 = true := by kernel_rfl
@[go_sem] theorem fxk_18 : fxk Tryz.prog 18 = none := by kernel_rfl
@[go_sem] theorem fnOk_18 : fnOk Tryz.prog 18 = true := by kernel_rfl
@[go_sem] theorem fxk_19 : fxk Tryz.prog 19 = none := by kernel_rfl
@[go_sem] theorem fnOk_19 : fnOk Tryz.prog 19 = true := by kernel_rfl
@[go_sem] theorem fxk_20 : fxk Tryz.prog 20 = none := by kernel_rfl
@[go_sem] theorem fnOk_20 : fnOk Tryz.prog 20 = true := by kernel_rfl
@[go_sem] theorem fxk_21 : fxk Tryz.prog 21 = none := by kernel_rfl
@[go_sem] theorem fnOk_21 : fnOk Tryz.prog 21 = true := by kernel_rfl
@[go_sem] theorem fxk_22 : fxk Tryz.prog 22 = none := by kernel_rfl
@[go_sem] theorem fnOk_22 : fnOk Tryz.prog 22 = true := by kernel_rfl
@[go_sem] theorem fxk_23 : fxk Tryz.prog 23 = none := by kernel_rfl
@[go_sem] theorem fnOk_23 : fnOk Tryz.prog 23 = true := by kernel_rfl
@[go_sem] theorem fxk_24 : fxk Tryz.prog 24 = none := by kernel_rfl
@[go_sem] theorem fnOk_24 : fnOk Tryz.prog 24 = true := by kernel_rfl
@[go_sem] theorem fxk_25 : fxk Tryz.prog 25 = none := by kernel_rfl
@[go_sem] theorem fnOk_25 : fnOk Tryz.prog 25 = true := by kernel_rfl
@[go_sem] theorem fxk_26 : fxk Tryz.prog 26 = none := by kernel_rfl
@[go_sem] theorem fnOk_26 : fnOk Tryz.prog 26 = true := by kernel_rfl
@[go_sem] theorem fxk_27 : fxk Tryz.prog 27 = none := by kernel_rfl
@[go_sem] theorem fnOk_27 : fnOk Tryz.prog 27 = true := by kernel_rfl
@[go_sem] theorem fxk_28 : fxk Tryz.prog 28 = none := by kernel_rfl
@[go_sem] theorem fnOk_28 : fnOk Tryz.prog 28 = true := by kernel_rfl
@[go_sem] theorem fxk_29 : fxk Tryz.prog 29 = none := by kernel_rfl
@[go_sem] theorem fnOk_29 : fnOk Tryz.prog 29 = true := by kernel_rfl
@[go_sem] theorem fxk_30 : fxk Tryz.prog 30 = some .frombits := by kernel_rfl
@[go_sem] theorem fxk_31 : fxk Tryz.prog 31 = none := by kernel_rfl
@[go_sem] theorem fnOk_31 : fnOk Tryz.prog 31 = true := by kernel_rfl
@[go_sem] theorem fxk_32 : fxk Tryz.prog 32 = none := by kernel_rfl
@[go_sem] theorem fnOk_32 : fnOk Tryz.prog 32 = true := by kernel_rfl
@[go_sem] theorem fxk_33 : fxk Tryz.prog 33 = none := by kernel_rfl
@[go_sem] theorem fnOk_33 : fnOk Tryz.prog 33 = true := by kernel_rfl
@[go_sem] theorem fxk_34 : fxk Tryz.prog 34 = none := by kernel_rfl
@[go_sem] theorem fnOk_34 : fnOk Tryz.prog 34 = true := by kernel_rfl
@[go_sem] theorem fxk_35 : fxk Tryz.prog 35 = none := by kernel_rfl
@[go_sem] theorem fnOk_35 : fnOk Tryz.prog 35 = true := by kernel_rfl
@[go_sem] theorem fxk_36 : fxk Tryz.prog 36 = none := by kernel_rfl
@[go_sem] theorem fnOk_36 : fnOk Tryz.prog 36 = true := by kernel_rfl
@[go_sem] theorem fxk_37 : fxk Tryz.prog 37 = none := by kernel_rfl
@[go_sem] theorem fnOk_37 : fnOk Tryz.prog 37 = true := by kernel_rfl
@[go_sem] theorem fxk_38 : fxk Tryz.prog 38 = none := by kernel_rfl
@[go_sem] theorem fnOk_38 : fnOk Tryz.prog 38 = true := by kernel_rfl
@[go_sem] theorem fxk_39 : fxk Tryz.prog 39 = none := by kernel_rfl
@[go_sem] theorem fnOk_39 : fnOk Tryz.prog 39 = true := by kernel_rfl
@[go_sem] theorem fxk_40 : fxk Tryz.prog 40 = none := by kernel_rfl
@[go_sem] theorem fnOk_40 : fnOk Tryz.prog 40 = true := by kernel_rfl
@[go_sem] theorem fxk_41 : fxk Tryz.prog 41 = none := by kernel_rfl
@[go_sem] theorem fnOk_41 : fnOk Tryz.prog 41 = true := by kernel_rfl
@[go_sem] theorem fxk_42 : fxk Tryz.prog 42 = none := by kernel_rfl
@[go_sem] theorem fnOk_42 : fnOk Tryz.prog 42 = true := by kernel_rfl
@[go_sem] theorem fxk_43 : fxk Tryz.prog 43 = none := by kernel_rfl
@[go_sem] theorem fnOk_43 : fnOk Tryz.prog 43 = true := by kernel_rfl
@[go_sem] theorem fxk_44 : fxk Tryz.prog 44 = none := by kernel_rfl
@[go_sem] theorem fnOk_44 : fnOk Tryz.prog 44 = true := by kernel_rfl
@[go_sem] theorem fxk_45 : fxk Tryz.prog 45 = some .bits := by kernel_rfl
@[go_sem] theorem fxk_46 : fxk Tryz.prog 46 = none := by kernel_rfl
@[go_sem] theorem fnOk_46 : fnOk Tryz.prog 46 = true := by kernel_rfl
@[go_sem] theorem fxk_47 : fxk Tryz.prog 47 = none := by kernel_rfl
@[go_sem] theorem fnOk_47 : fnOk Tryz.prog 47 = true := by kernel_rfl
@[go_sem] theorem fxk_48 : fxk Tryz.prog 48 = none := by kernel_rfl
@[go_sem] theorem fnOk_48 : fnOk Tryz.prog 48 = true := by kernel_rfl
@[go_sem] theorem fxk_49 : fxk Tryz.prog 49 = none := by kernel_rfl
@[go_sem] theorem fnOk_49 : fnOk Tryz.prog 49 = true := by kernel_rfl
@[go_sem] theorem fxk_50 : fxk Tryz.prog 50 = none := by kernel_rfl
@[go_sem] theorem fnOk_50 : fnOk Tryz.prog 50 = true := by kernel_rfl
@[go_sem] theorem fxk_51 : fxk Tryz.prog 51 = none := by kernel_rfl
@[go_sem] theorem fnOk_51 : fnOk Tryz.prog 51 = true := by kernel_rfl
@[go_sem] theorem fxk_52 : fxk Tryz.prog 52 = none := by kernel_rfl
@[go_sem] theorem fnOk_52 : fnOk Tryz.prog 52 = true := by kernel_rfl
@[go_sem] theorem fxk_53 : fxk Tryz.prog 53 = none := by kernel_rfl
@[go_sem] theorem fnOk_53 : fnOk Tryz.prog 53 = true := by kernel_rfl
@[go_sem] theorem fxk_54 : fxk Tryz.prog 54 = none := by kernel_rfl
@[go_sem] theorem fnOk_54 : fnOk Tryz.prog 54 = true := by kernel_rfl
@[go_sem] theorem fxk_55 : fxk Tryz.prog 55 = none := by kernel_rfl
@[go_sem] theorem fnOk_55 : fnOk Tryz.prog 55 = true := by kernel_rfl
@[go_sem] theorem fxk_56 : fxk Tryz.prog 56 = none := by kernel_rfl
@[go_sem] theorem fnOk_56 : fnOk Tryz.prog 56 = true := by kernel_rfl
@[go_sem] theorem fxk_57 : fxk Tryz.prog 57 = none := by kernel_rfl
@[go_sem] theorem fnOk_57 : fnOk Tryz.prog 57 = true := by kernel_rfl
@[go_sem] theorem fxk_58 : fxk Tryz.prog 58 = none := by kernel_rfl
@[go_sem] theorem fnOk_58 : fnOk Tryz.prog 58 = true := by kernel_rfl
@[go_sem] theorem fxk_59 : fxk Tryz.prog 59 = none := by kernel_rfl
@[go_sem] theorem fnOk_59 : fnOk Tryz.prog 59 = true := by kernel_rfl
@[go_sem] theorem fxk_60 : fxk Tryz.prog 60 = none := by kernel_rfl
@[go_sem] theorem fnOk_60 : fnOk Tryz.prog 60 = true := by kernel_rfl
@[go_sem] theorem fxk_61 : fxk Tryz.prog 61 = none := by kernel_rfl
@[go_sem] theorem fnOk_61 : fnOk Tryz.prog 61 = true := by kernel_rfl
@[go_sem] theorem fxk_62 : fxk Tryz.prog 62 = none := by kernel_rfl
@[go_sem] theorem fnOk_62 : fnOk Tryz.prog 62 = true := by kernel_rfl
@[go_sem] theorem fxk_63 : fxk Tryz.prog 63 = none := by kernel_rfl
@[go_sem] theorem fnOk_63 : fnOk Tryz.prog 63 = true := by kernel_rfl
@[go_sem] theorem fxk_64 : fxk Tryz.prog 64 = none := by kernel_rfl
@[go_sem] theorem fnOk_64 : fnOk Tryz.prog 64 = true := by kernel_rfl
@[go_sem] theorem fxk_65 : fxk Tryz.prog 65 = none := by kernel_rfl
@[go_sem] theorem fnOk_65 : fnOk Tryz.prog 65 = true := by kernel_rfl
@[go_sem] theorem fxk_66 : fxk Tryz.prog 66 = none := by kernel_rfl
@[go_sem] theorem fnOk_66 : fnOk Tryz.prog 66 = true := by kernel_rfl
@[go_sem] theorem fxk_67 : fxk Tryz.prog 67 = none := by kernel_rfl
@[go_sem] theorem fnOk_67 : fnOk Tryz.prog 67 = true := by kernel_rfl
@[go_sem] theorem fxk_68 : fxk Tryz.prog 68 = none := by kernel_rfl
@[go_sem] theorem fnOk_68 : fnOk Tryz.prog 68 = true := by kernel_rfl
@[go_sem] theorem fxk_69 : fxk Tryz.prog 69 = none := by kernel_rfl
@[go_sem] theorem fnOk_69 : fnOk Tryz.prog 69 = true := by kernel_rfl
@[go_sem] theorem fxk_70 : fxk Tryz.prog 70 = none := by kernel_rfl
@[go_sem] theorem fnOk_70 : fnOk Tryz.prog 70 = true := by kernel_rfl
@[go_sem] theorem fxk_71 : fxk Tryz.prog 71 = none := by kernel_rfl
@[go_sem] theorem fnOk_71 : fnOk Tryz.prog 71 = true := by kernel_rfl
@[go_sem] theorem fxk_72 : fxk Tryz.prog 72 = none := by kernel_rfl
@[go_sem] theorem fnOk_72 : fnOk Tryz.prog 72 = true := by kernel_rfl
@[go_sem] theorem fxk_73 : fxk Tryz.prog 73 = none := by kernel_rfl
@[go_sem] theorem fnOk_73 : fnOk Tryz.prog 73 = true := by kernel_rfl
@[go_sem] theorem fxk_74 : fxk Tryz.prog 74 = none := by kernel_rfl
@[go_sem] theorem fnOk_74 : fnOk Tryz.prog 74 = true := by kernel_rfl
@[go_sem] theorem fxk_75 : fxk Tryz.prog 75 = none := by kernel_rfl
@[go_sem] theorem fnOk_75 : fnOk Tryz.prog 75 = true := by kernel_rfl
@[go_sem] theorem fxk_76 : fxk Tryz.prog 76 = none := by kernel_rfl
@[go_sem] theorem fnOk_76 : fnOk Tryz.prog 76 = true := by kernel_rfl
@[go_sem] theorem fxk_77 : fxk Tryz.prog 77 = none := by kernel_rfl
@[go_sem] theorem fnOk_77 : fnOk Tryz.prog 77 = true := by kernel_rfl
@[go_sem] theorem fxk_78 : fxk Tryz.prog 78 = none := by kernel_rfl
@[go_sem] theorem fnOk_78 : fnOk Tryz.prog 78 = true := by kernel_rfl
@[go_sem] theorem fxk_79 : fxk Tryz.prog 79 = none := by kernel_rfl
@[go_sem] theorem fnOk_79 : fnOk Tryz.prog 79 = true := by kernel_rfl
@[go_sem] theorem fxk_80 : fxk Tryz.prog 80 = none := by kernel_rfl
@[go_sem] theorem fnOk_80 : fnOk Tryz.prog 80 = true := by kernel_rfl
@[go_sem] theorem fxk_81 : fxk Tryz.prog 81 = none := by kernel_rfl
@[go_sem] theorem fnOk_81 : fnOk Tryz.prog 81 = true := by kernel_rfl
@[go_sem] theorem fxk_82 : fxk Tryz.prog 82 = none := by kernel_rfl
@[go_sem] theorem fnOk_82 : fnOk Tryz.prog 82 = true := by kernel_rfl
@[go_sem] theorem fxk_83 : fxk Tryz.prog 83 = none := by kernel_rfl
@[go_sem] theorem fnOk_83 : fnOk Tryz.prog 83 = true := by kernel_rfl
@[go_sem] theorem fxk_84 : fxk Tryz.prog 84 = none := by kernel_rfl
@[go_sem] theorem fnOk_84 : fnOk Tryz.prog 84 = true := by kernel_rfl
@[go_sem] theorem fxk_85 : fxk Tryz.prog 85 = none := by kernel_rfl
@[go_sem] theorem fnOk_85 : fnOk Tryz.prog 85 = true := by kernel_rfl
@[go_sem] theorem fxk_86 : fxk Tryz.prog 86 = none := by kernel_rfl
@[go_sem] theorem fnOk_86 : fnOk Tryz.prog 86 = true := by kernel_rfl
@[go_sem] theorem fxk_87 : fxk Tryz.prog 87 = none := by kernel_rfl
@[go_sem] theorem fnOk_87 : fnOk Tryz.prog 87 = true := by kernel_rfl
@[go_sem] theorem fxk_88 : fxk Tryz.prog 88 = none := by kernel_rfl
@[go_sem] theorem fnOk_88 : fnOk Tryz.prog 88 = true := by kernel_rfl
@[go_sem] theorem fxk_89 : fxk Tryz.prog 89 = none := by kernel_rfl
@[go_sem] theorem fnOk_89 : fnOk Tryz.prog 89 = true := by kernel_rfl
@[go_sem] theorem fxk_90 : fxk Tryz.prog 90 = none := by kernel_rfl
@[go_sem] theorem fnOk_90 : fnOk Tryz.prog 90 = true := by kernel_rfl
@[go_sem] theorem fxk_91 : fxk Tryz.prog 91 = none := by kernel_rfl
@[go_sem] theorem fnOk_91 : fnOk Tryz.prog 91 = true := by kernel_rfl
@[go_sem] theorem fxk_92 : fxk Tryz.prog 92 = none := by kernel_rfl
@[go_sem] theorem fnOk_92 : fnOk Tryz.prog 92 = true := by kernel_rfl
@[go_sem] theorem fxk_93 : fxk Tryz.prog 93 = none := by kernel_rfl
@[go_sem] theorem fnOk_93 : fnOk Tryz.prog 93 = true := by kernel_rfl
@[go_sem] theorem fxk_94 : fxk Tryz.prog 94 = none := by kernel_rfl
@[go_sem] theorem fnOk_94 : fnOk Tryz.prog 94 = true := by kernel_rfl
@[go_sem] theorem fxk_95 : fxk Tryz.prog 95 = none := by kernel_rfl
@[go_sem] theorem fnOk_95 : fnOk Tryz.prog 95 = true := by kernel_rfl
@[go_sem] theorem fxk_96 : fxk Tryz.prog 96 = none := by kernel_rfl
@[go_sem] theorem fnOk_96 : fnOk Tryz.prog 96 = true := by kernel_rfl
@[go_sem] theorem fxk_97 : fxk Tryz.prog 97 = some .floor := by kernel_rfl
@[go_sem] theorem fxk_98 : fxk Tryz.prog 98 = none := by kernel_rfl
@[go_sem] theorem fnOk_98 : fnOk Tryz.prog 98 = true := by kernel_rfl
@[go_sem] theorem fxk_99 : fxk Tryz.prog 99 = none := by kernel_rfl
@[go_sem] theorem fnOk_99 : fnOk Tryz.prog 99 = true := by kernel_rfl
@[go_sem] theorem fxk_100 : fxk Tryz.prog 100 = none := by kernel_rfl
@[go_sem] theorem fnOk_100 : fnOk Tryz.prog 100 = true := by kernel_rfl
@[go_sem] theorem fxk_101 : fxk Tryz.prog 101 = none := by kernel_rfl
@[go_sem] theorem fnOk_101 : fnOk Tryz.prog 101 = true := by kernel_rfl
@[go_sem] theorem fxk_102 : fxk Tryz.prog 102 = none := by kernel_rfl
@[go_sem] theorem fnOk_102 : fnOk Tryz.prog 102 = true := by kernel_rfl
@[go_sem] theorem fxk_103 : fxk Tryz.prog 103 = none := by kernel_rfl
@[go_sem] theorem fnOk_103 : fnOk Tryz.prog 103 = true := by kernel_rfl
@[go_sem] theorem fxk_104 : fxk Tryz.prog 104 = none := by kernel_rfl
@[go_sem] theorem fnOk_104 : fnOk Tryz.prog 104 = true := by kernel_rfl
@[go_sem] theorem fxk_105 : fxk Tryz.prog 105 = none := by kernel_rfl
@[go_sem] theorem fnOk_105 : fnOk Tryz.prog 105 = true := by kernel_rfl
@[go_sem] theorem fxk_106 : fxk Tryz.prog 106 = none := by kernel_rfl
@[go_sem] theorem fnOk_106 : fnOk Tryz.prog 106 = true := by kernel_rfl
@[go_sem] theorem fxk_107 : fxk Tryz.prog 107 = none := by kernel_rfl
@[go_sem] theorem fnOk_107 : fnOk Tryz.prog 107 = true := by kernel_rfl
@[go_sem] theorem fxk_108 : fxk Tryz.prog 108 = none := by kernel_rfl
@[go_sem] theorem fnOk_108 : fnOk Tryz.prog 108 = true := by kernel_rfl
@[go_sem] theorem fxk_109 : fxk Tryz.prog 109 = none := by kernel_rfl
@[go_sem] theorem fnOk_109 : fnOk Tryz.prog 109 = true := by kernel_rfl
@[go_sem] theorem fxk_110 : fxk Tryz.prog 110 = none := by kernel_rfl
@[go_sem] theorem fnOk_110 : fnOk Tryz.prog 110 = true := by kernel_rfl
@[go_sem] theorem fxk_111 : fxk Tryz.prog 111 = none := by kernel_rfl
@[go_sem] theorem fnOk_111 : fnOk Tryz.prog 111 = true := by kernel_rfl
@[go_sem] theorem fxk_112 : fxk Tryz.prog 112 = none := by kernel_rfl
@[go_sem] theorem fnOk_112 : fnOk Tryz.prog 112 = true := by kernel_rfl
@[go_sem] theorem fxk_113 : fxk Tryz.prog 113 = none := by kernel_rfl
@[go_sem] theorem fnOk_113 : fnOk Tryz.prog 113 = true := by kernel_rfl
@[go_sem] theorem fxk_114 : fxk Tryz.prog 114 = none := by kernel_rfl
@[go_sem] theorem fnOk_114 : fnOk Tryz.prog 114 = true := by kernel_rfl
@[go_sem] theorem fxk_115 : fxk Tryz.prog 115 = none := by kernel_rfl
@[go_sem] theorem fnOk_115 : fnOk Tryz.prog 115 = true := by kernel_rfl
@[go_sem] theorem fxk_116 : fxk Tryz.prog 116 = none := by kernel_rfl
@[go_sem] theorem fnOk_116 : fnOk Tryz.prog 116 = true := by kernel_rfl
@[go_sem] theorem fxk_117 : fxk Tryz.prog 117 = none := by kernel_rfl
@[go_sem] theorem fnOk_117 : fnOk Tryz.prog 117 = true := by kernel_rfl
@[go_sem] theorem fxk_118 : fxk Tryz.prog 118 = none := by kernel_rfl
@[go_sem] theorem fnOk_118 : fnOk Tryz.prog 118 = true := by kernel_rfl
@[go_sem] theorem fxk_119 : fxk Tryz.prog 119 = none := by kernel_rfl
@[go_sem] theorem fnOk_119 : fnOk Tryz.prog 119 = true := by kernel_rfl
@[go_sem] theorem fxk_120 : fxk Tryz.prog 120 = none := by kernel_rfl
@[go_sem] theorem fnOk_120 : fnOk Tryz.prog 120 = true := by kernel_rfl
@[go_sem] theorem fxk_121 : fxk Tryz.prog 121 = none := by kernel_rfl
@[go_sem] theorem fxk_122 : fxk Tryz.prog 122 = none := by kernel_rfl
@[go_sem] theorem fnOk_122 : fnOk Tryz.prog 122 = true := by kernel_rfl
theorem mixed : Tryz.prog.follows .mixedOrders = true := by kernel_rfl
end Go.Proofs.TZ
