/- Facts that the proofs of this claim lean on. -/
import Derived.Test.YtlbjmfpbpiicdaaIdEf
import Derived.Test.YtlbjmfpbpiicdaaProg
namespace Go.Proofs.TT
open Go Go.Idl Go.Proofs
@[go_sem] theorem tsz_2 : tsz Try.prog 2 = some 1 := by kernel_rfl
@[go_sem] theorem tby_2 : tby Try.prog 2 = some 8 := by kernel_rfl
@[go_sem] theorem tze_2 : tze Try.prog 2 = some [.int .i64 0] := by kernel_rfl
@[go_sem] theorem tag_2 : tag Try.prog 2 = some false := by kernel_rfl
@[go_sem] theorem tar_2 : tar Try.prog 2 = none := by kernel_rfl
@[go_sem] theorem tcs_2 : tcs Try.prog 2 = [] := by kernel_rfl
@[go_sem] theorem tkd_2 : tkd Try.prog 2 = some (.int .i64) := by kernel_rfl
@[go_sem] theorem tsz_3 : tsz Try.prog 3 = some 1 := by kernel_rfl
@[go_sem] theorem tby_3 : tby Try.prog 3 = some 8 := by kernel_rfl
@[go_sem] theorem tze_3 : tze Try.prog 3 = some [.int .i64 0] := by kernel_rfl
@[go_sem] theorem tag_3 : tag Try.prog 3 = some false := by kernel_rfl
@[go_sem] theorem tar_3 : tar Try.prog 3 = none := by kernel_rfl
@[go_sem] theorem tcs_3 : tcs Try.prog 3 = [] := by kernel_rfl
@[go_sem] theorem tkd_3 : tkd Try.prog 3 = some (.int .i64) := by kernel_rfl
@[go_sem] theorem tsz_4 : tsz Try.prog 4 = some 1 := by kernel_rfl
@[go_sem] theorem tby_4 : tby Try.prog 4 = some 1 := by kernel_rfl
@[go_sem] theorem tze_4 : tze Try.prog 4 = some [.bool false] := by kernel_rfl
@[go_sem] theorem tag_4 : tag Try.prog 4 = some false := by kernel_rfl
@[go_sem] theorem tar_4 : tar Try.prog 4 = none := by kernel_rfl
@[go_sem] theorem tcs_4 : tcs Try.prog 4 = [] := by kernel_rfl
@[go_sem] theorem tkd_4 : tkd Try.prog 4 = some .bool := by kernel_rfl
@[go_sem] theorem tsz_5 : tsz Try.prog 5 = some 1 := by kernel_rfl
@[go_sem] theorem tby_5 : tby Try.prog 5 = some 1 := by kernel_rfl
@[go_sem] theorem tze_5 : tze Try.prog 5 = some [.int .u8 0] := by kernel_rfl
@[go_sem] theorem tag_5 : tag Try.prog 5 = some false := by kernel_rfl
@[go_sem] theorem tar_5 : tar Try.prog 5 = none := by kernel_rfl
@[go_sem] theorem tcs_5 : tcs Try.prog 5 = [] := by kernel_rfl
@[go_sem] theorem tkd_5 : tkd Try.prog 5 = some (.int .u8) := by kernel_rfl
@[go_sem] theorem tsz_9 : tsz Try.prog 9 = some 1 := by kernel_rfl
@[go_sem] theorem tby_9 : tby Try.prog 9 = some 16 := by kernel_rfl
@[go_sem] theorem tze_9 : tze Try.prog 9 = some [.string ByteArray.empty] := by kernel_rfl
@[go_sem] theorem tag_9 : tag Try.prog 9 = some false := by kernel_rfl
@[go_sem] theorem tar_9 : tar Try.prog 9 = none := by kernel_rfl
@[go_sem] theorem tcs_9 : tcs Try.prog 9 = [] := by kernel_rfl
@[go_sem] theorem tkd_9 : tkd Try.prog 9 = some .string := by kernel_rfl
@[go_sem] theorem tsz_12 : tsz Try.prog 12 = some 1 := by kernel_rfl
@[go_sem] theorem tby_12 : tby Try.prog 12 = some 8 := by kernel_rfl
@[go_sem] theorem tze_12 : tze Try.prog 12 = some [.int .u64 0] := by kernel_rfl
@[go_sem] theorem tag_12 : tag Try.prog 12 = some false := by kernel_rfl
@[go_sem] theorem tar_12 : tar Try.prog 12 = none := by kernel_rfl
@[go_sem] theorem tcs_12 : tcs Try.prog 12 = [] := by kernel_rfl
@[go_sem] theorem tkd_12 : tkd Try.prog 12 = some (.int .u64) := by kernel_rfl
@[go_sem] theorem tsz_13 : tsz Try.prog 13 = some 2 := by kernel_rfl
@[go_sem] theorem tby_13 : tby Try.prog 13 = some 24 := by kernel_rfl
@[go_sem] theorem tze_13 : tze Try.prog 13 = some [.string ByteArray.empty, .int .u64 0] := by kernel_rfl
@[go_sem] theorem tag_13 : tag Try.prog 13 = some true := by kernel_rfl
@[go_sem] theorem tar_13 : tar Try.prog 13 = none := by kernel_rfl
@[go_sem] theorem tfo_13_0 : tfo Try.prog 13 0 = some (0, 9) := by kernel_rfl
@[go_sem] theorem tfo_13_1 : tfo Try.prog 13 1 = some (1, 12) := by kernel_rfl
@[go_sem] theorem tpl_13 : tpl Try.prog 13 = some [(0, 1), (1, 1)] := by kernel_rfl
@[go_sem] theorem tcs_13 : tcs Try.prog 13 = [] := by kernel_rfl
@[go_sem] theorem tkd_13 : tkd Try.prog 13 = some .other := by kernel_rfl
@[go_sem] theorem tsz_20 : tsz Try.prog 20 = some 1 := by kernel_rfl
@[go_sem] theorem tby_20 : tby Try.prog 20 = some 16 := by kernel_rfl
@[go_sem] theorem tze_20 : tze Try.prog 20 = some [.nilIface] := by kernel_rfl
@[go_sem] theorem tag_20 : tag Try.prog 20 = some false := by kernel_rfl
@[go_sem] theorem tar_20 : tar Try.prog 20 = none := by kernel_rfl
@[go_sem] theorem tcs_20 : tcs Try.prog 20 = [] := by kernel_rfl
@[go_sem] theorem tkd_20 : tkd Try.prog 20 = some .iface := by kernel_rfl
@[go_sem] theorem tsz_21 : tsz Try.prog 21 = some 1 := by kernel_rfl
@[go_sem] theorem tby_21 : tby Try.prog 21 = some 4 := by kernel_rfl
@[go_sem] theorem tze_21 : tze Try.prog 21 = some [.int .i32 0] := by kernel_rfl
@[go_sem] theorem tag_21 : tag Try.prog 21 = some false := by kernel_rfl
@[go_sem] theorem tar_21 : tar Try.prog 21 = none := by kernel_rfl
@[go_sem] theorem tcs_21 : tcs Try.prog 21 = [] := by kernel_rfl
@[go_sem] theorem tkd_21 : tkd Try.prog 21 = some (.int .i32) := by kernel_rfl
@[go_sem] theorem tsz_22 : tsz Try.prog 22 = some 1 := by kernel_rfl
@[go_sem] theorem tby_22 : tby Try.prog 22 = some 24 := by kernel_rfl
@[go_sem] theorem tze_22 : tze Try.prog 22 = some [.slice none 0 0] := by kernel_rfl
@[go_sem] theorem tag_22 : tag Try.prog 22 = some false := by kernel_rfl
@[go_sem] theorem tel_22 : tel Try.prog 22 = some 44 := by kernel_rfl
@[go_sem] theorem tar_22 : tar Try.prog 22 = none := by kernel_rfl
@[go_sem] theorem tcs_22 : tcs Try.prog 22 = [(0, 2)] := by kernel_rfl
@[go_sem] theorem tkd_22 : tkd Try.prog 22 = some (.slice 44) := by kernel_rfl
@[go_sem] theorem tsz_23 : tsz Try.prog 23 = some 2 := by kernel_rfl
@[go_sem] theorem tby_23 : tby Try.prog 23 = some 32 := by kernel_rfl
@[go_sem] theorem tze_23 : tze Try.prog 23 = some [.int .i64 0, .slice none 0 0] := by kernel_rfl
@[go_sem] theorem tag_23 : tag Try.prog 23 = some true := by kernel_rfl
@[go_sem] theorem tar_23 : tar Try.prog 23 = none := by kernel_rfl
@[go_sem] theorem tfo_23_0 : tfo Try.prog 23 0 = some (0, 3) := by kernel_rfl
@[go_sem] theorem tfo_23_1 : tfo Try.prog 23 1 = some (1, 22) := by kernel_rfl
@[go_sem] theorem tpl_23 : tpl Try.prog 23 = some [(0, 1), (1, 1)] := by kernel_rfl
@[go_sem] theorem tcs_23 : tcs Try.prog 23 = [(1, 2)] := by kernel_rfl
@[go_sem] theorem tkd_23 : tkd Try.prog 23 = some .other := by kernel_rfl
@[go_sem] theorem tsz_24 : tsz Try.prog 24 = some 2 := by kernel_rfl
@[go_sem] theorem tby_24 : tby Try.prog 24 = some 32 := by kernel_rfl
@[go_sem] theorem tze_24 : tze Try.prog 24 = some [.int .i64 0, .slice none 0 0] := by kernel_rfl
@[go_sem] theorem tag_24 : tag Try.prog 24 = some true := by kernel_rfl
@[go_sem] theorem tar_24 : tar Try.prog 24 = none := by kernel_rfl
@[go_sem] theorem tfo_24_0 : tfo Try.prog 24 0 = some (0, 3) := by kernel_rfl
@[go_sem] theorem tfo_24_1 : tfo Try.prog 24 1 = some (1, 22) := by kernel_rfl
@[go_sem] theorem tpl_24 : tpl Try.prog 24 = some [(0, 1), (1, 1)] := by kernel_rfl
@[go_sem] theorem tcs_24 : tcs Try.prog 24 = [(1, 2)] := by kernel_rfl
@[go_sem] theorem tkd_24 : tkd Try.prog 24 = some .other := by kernel_rfl
@[go_sem] theorem tsz_25 : tsz Try.prog 25 = some 1 := by kernel_rfl
@[go_sem] theorem tby_25 : tby Try.prog 25 = some 24 := by kernel_rfl
@[go_sem] theorem tze_25 : tze Try.prog 25 = some [.slice none 0 0] := by kernel_rfl
@[go_sem] theorem tag_25 : tag Try.prog 25 = some false := by kernel_rfl
@[go_sem] theorem tel_25 : tel Try.prog 25 = some 40 := by kernel_rfl
@[go_sem] theorem tar_25 : tar Try.prog 25 = none := by kernel_rfl
@[go_sem] theorem tcs_25 : tcs Try.prog 25 = [(0, 1)] := by kernel_rfl
@[go_sem] theorem tkd_25 : tkd Try.prog 25 = some (.slice 40) := by kernel_rfl
@[go_sem] theorem tsz_28 : tsz Try.prog 28 = some 2 := by kernel_rfl
@[go_sem] theorem tby_28 : tby Try.prog 28 = some 32 := by kernel_rfl
@[go_sem] theorem tze_28 : tze Try.prog 28 = some [.int .i64 0, .slice none 0 0] := by kernel_rfl
@[go_sem] theorem tag_28 : tag Try.prog 28 = some true := by kernel_rfl
@[go_sem] theorem tar_28 : tar Try.prog 28 = none := by kernel_rfl
@[go_sem] theorem tfo_28_0 : tfo Try.prog 28 0 = some (0, 3) := by kernel_rfl
@[go_sem] theorem tfo_28_1 : tfo Try.prog 28 1 = some (1, 22) := by kernel_rfl
@[go_sem] theorem tpl_28 : tpl Try.prog 28 = some [(0, 1), (1, 1)] := by kernel_rfl
@[go_sem] theorem tcs_28 : tcs Try.prog 28 = [(1, 2)] := by kernel_rfl
@[go_sem] theorem tkd_28 : tkd Try.prog 28 = some .other := by kernel_rfl
@[go_sem] theorem tsz_31 : tsz Try.prog 31 = some 1 := by kernel_rfl
@[go_sem] theorem tby_31 : tby Try.prog 31 = some 24 := by kernel_rfl
@[go_sem] theorem tze_31 : tze Try.prog 31 = some [.slice none 0 0] := by kernel_rfl
@[go_sem] theorem tag_31 : tag Try.prog 31 = some false := by kernel_rfl
@[go_sem] theorem tel_31 : tel Try.prog 31 = some 36 := by kernel_rfl
@[go_sem] theorem tar_31 : tar Try.prog 31 = none := by kernel_rfl
@[go_sem] theorem tcs_31 : tcs Try.prog 31 = [(0, 4)] := by kernel_rfl
@[go_sem] theorem tkd_31 : tkd Try.prog 31 = some (.slice 36) := by kernel_rfl
@[go_sem] theorem tsz_32 : tsz Try.prog 32 = some 1 := by kernel_rfl
@[go_sem] theorem tby_32 : tby Try.prog 32 = some 24 := by kernel_rfl
@[go_sem] theorem tze_32 : tze Try.prog 32 = some [.slice none 0 0] := by kernel_rfl
@[go_sem] theorem tag_32 : tag Try.prog 32 = some false := by kernel_rfl
@[go_sem] theorem tel_32 : tel Try.prog 32 = some 39 := by kernel_rfl
@[go_sem] theorem tar_32 : tar Try.prog 32 = none := by kernel_rfl
@[go_sem] theorem tcs_32 : tcs Try.prog 32 = [(0, 3)] := by kernel_rfl
@[go_sem] theorem tkd_32 : tkd Try.prog 32 = some (.slice 39) := by kernel_rfl
@[go_sem] theorem tsz_33 : tsz Try.prog 33 = some 1 := by kernel_rfl
@[go_sem] theorem tby_33 : tby Try.prog 33 = some 24 := by kernel_rfl
@[go_sem] theorem tze_33 : tze Try.prog 33 = some [.slice none 0 0] := by kernel_rfl
@[go_sem] theorem tag_33 : tag Try.prog 33 = some false := by kernel_rfl
@[go_sem] theorem tel_33 : tel Try.prog 33 = some 3 := by kernel_rfl
@[go_sem] theorem tar_33 : tar Try.prog 33 = none := by kernel_rfl
@[go_sem] theorem tcs_33 : tcs Try.prog 33 = [(0, 1)] := by kernel_rfl
@[go_sem] theorem tkd_33 : tkd Try.prog 33 = some (.slice 3) := by kernel_rfl
@[go_sem] theorem tsz_35 : tsz Try.prog 35 = some 4 := by kernel_rfl
@[go_sem] theorem tby_35 : tby Try.prog 35 = some 48 := by kernel_rfl
@[go_sem] theorem tze_35 : tze Try.prog 35 = some [.int .i64 0, .int .i64 0, .int .i64 0, .slice none 0 0] := by kernel_rfl
@[go_sem] theorem tag_35 : tag Try.prog 35 = some true := by kernel_rfl
@[go_sem] theorem tar_35 : tar Try.prog 35 = none := by kernel_rfl
@[go_sem] theorem tfo_35_0 : tfo Try.prog 35 0 = some (0, 3) := by kernel_rfl
@[go_sem] theorem tfo_35_1 : tfo Try.prog 35 1 = some (1, 3) := by kernel_rfl
@[go_sem] theorem tfo_35_2 : tfo Try.prog 35 2 = some (2, 3) := by kernel_rfl
@[go_sem] theorem tfo_35_3 : tfo Try.prog 35 3 = some (3, 33) := by kernel_rfl
@[go_sem] theorem tpl_35 : tpl Try.prog 35 = some [(0, 1), (1, 1), (2, 1), (3, 1)] := by kernel_rfl
@[go_sem] theorem tcs_35 : tcs Try.prog 35 = [(3, 1)] := by kernel_rfl
@[go_sem] theorem tkd_35 : tkd Try.prog 35 = some .other := by kernel_rfl
@[go_sem] theorem tsz_36 : tsz Try.prog 36 = some 4 := by kernel_rfl
@[go_sem] theorem tby_36 : tby Try.prog 36 = some 48 := by kernel_rfl
@[go_sem] theorem tze_36 : tze Try.prog 36 = some [.int .i64 0, .int .i64 0, .int .i64 0, .slice none 0 0] := by kernel_rfl
@[go_sem] theorem tag_36 : tag Try.prog 36 = some true := by kernel_rfl
@[go_sem] theorem tar_36 : tar Try.prog 36 = none := by kernel_rfl
@[go_sem] theorem tfo_36_0 : tfo Try.prog 36 0 = some (0, 3) := by kernel_rfl
@[go_sem] theorem tfo_36_1 : tfo Try.prog 36 1 = some (1, 3) := by kernel_rfl
@[go_sem] theorem tfo_36_2 : tfo Try.prog 36 2 = some (2, 3) := by kernel_rfl
@[go_sem] theorem tfo_36_3 : tfo Try.prog 36 3 = some (3, 33) := by kernel_rfl
@[go_sem] theorem tpl_36 : tpl Try.prog 36 = some [(0, 1), (1, 1), (2, 1), (3, 1)] := by kernel_rfl
@[go_sem] theorem tcs_36 : tcs Try.prog 36 = [(3, 1)] := by kernel_rfl
@[go_sem] theorem tkd_36 : tkd Try.prog 36 = some .other := by kernel_rfl
@[go_sem] theorem tsz_38 : tsz Try.prog 38 = some 3 := by kernel_rfl
@[go_sem] theorem tby_38 : tby Try.prog 38 = some 16 := by kernel_rfl
@[go_sem] theorem tze_38 : tze Try.prog 38 = some [.int .i64 0, .bool false, .bool false] := by kernel_rfl
@[go_sem] theorem tag_38 : tag Try.prog 38 = some true := by kernel_rfl
@[go_sem] theorem tar_38 : tar Try.prog 38 = none := by kernel_rfl
@[go_sem] theorem tfo_38_0 : tfo Try.prog 38 0 = some (0, 3) := by kernel_rfl
@[go_sem] theorem tfo_38_1 : tfo Try.prog 38 1 = some (1, 4) := by kernel_rfl
@[go_sem] theorem tfo_38_2 : tfo Try.prog 38 2 = some (2, 4) := by kernel_rfl
@[go_sem] theorem tpl_38 : tpl Try.prog 38 = some [(0, 1), (1, 1), (2, 1)] := by kernel_rfl
@[go_sem] theorem tcs_38 : tcs Try.prog 38 = [] := by kernel_rfl
@[go_sem] theorem tkd_38 : tkd Try.prog 38 = some .other := by kernel_rfl
@[go_sem] theorem tsz_39 : tsz Try.prog 39 = some 3 := by kernel_rfl
@[go_sem] theorem tby_39 : tby Try.prog 39 = some 16 := by kernel_rfl
@[go_sem] theorem tze_39 : tze Try.prog 39 = some [.int .i64 0, .bool false, .bool false] := by kernel_rfl
@[go_sem] theorem tag_39 : tag Try.prog 39 = some true := by kernel_rfl
@[go_sem] theorem tar_39 : tar Try.prog 39 = none := by kernel_rfl
@[go_sem] theorem tfo_39_0 : tfo Try.prog 39 0 = some (0, 3) := by kernel_rfl
@[go_sem] theorem tfo_39_1 : tfo Try.prog 39 1 = some (1, 4) := by kernel_rfl
@[go_sem] theorem tfo_39_2 : tfo Try.prog 39 2 = some (2, 4) := by kernel_rfl
@[go_sem] theorem tpl_39 : tpl Try.prog 39 = some [(0, 1), (1, 1), (2, 1)] := by kernel_rfl
@[go_sem] theorem tcs_39 : tcs Try.prog 39 = [] := by kernel_rfl
@[go_sem] theorem tkd_39 : tkd Try.prog 39 = some .other := by kernel_rfl
@[go_sem] theorem tsz_40 : tsz Try.prog 40 = some 1 := by kernel_rfl
@[go_sem] theorem tby_40 : tby Try.prog 40 = some 2 := by kernel_rfl
@[go_sem] theorem tze_40 : tze Try.prog 40 = some [.int .u16 0] := by kernel_rfl
@[go_sem] theorem tag_40 : tag Try.prog 40 = some false := by kernel_rfl
@[go_sem] theorem tar_40 : tar Try.prog 40 = none := by kernel_rfl
@[go_sem] theorem tcs_40 : tcs Try.prog 40 = [] := by kernel_rfl
@[go_sem] theorem tkd_40 : tkd Try.prog 40 = some (.int .u16) := by kernel_rfl
@[go_sem] theorem tsz_44 : tsz Try.prog 44 = some 2 := by kernel_rfl
@[go_sem] theorem tby_44 : tby Try.prog 44 = some 16 := by kernel_rfl
@[go_sem] theorem tze_44 : tze Try.prog 44 = some [.int .i64 0, .int .i64 0] := by kernel_rfl
@[go_sem] theorem tag_44 : tag Try.prog 44 = some true := by kernel_rfl
@[go_sem] theorem tar_44 : tar Try.prog 44 = some (2, 3) := by kernel_rfl
@[go_sem] theorem tpl_44 : tpl Try.prog 44 = none := by kernel_rfl
@[go_sem] theorem tcs_44 : tcs Try.prog 44 = [] := by kernel_rfl
@[go_sem] theorem tkd_44 : tkd Try.prog 44 = some .other := by kernel_rfl
@[go_sem] theorem tsz_46 : tsz Try.prog 46 = some 1 := by kernel_rfl
@[go_sem] theorem tby_46 : tby Try.prog 46 = some 24 := by kernel_rfl
@[go_sem] theorem tze_46 : tze Try.prog 46 = some [.slice none 0 0] := by kernel_rfl
@[go_sem] theorem tag_46 : tag Try.prog 46 = some false := by kernel_rfl
@[go_sem] theorem tel_46 : tel Try.prog 46 = some 4 := by kernel_rfl
@[go_sem] theorem tar_46 : tar Try.prog 46 = none := by kernel_rfl
@[go_sem] theorem tcs_46 : tcs Try.prog 46 = [(0, 1)] := by kernel_rfl
@[go_sem] theorem tkd_46 : tkd Try.prog 46 = some (.slice 4) := by kernel_rfl
@[go_sem] theorem tsz_47 : tsz Try.prog 47 = some 1 := by kernel_rfl
@[go_sem] theorem tby_47 : tby Try.prog 47 = some 8 := by kernel_rfl
@[go_sem] theorem tze_47 : tze Try.prog 47 = some [.int .i64 0] := by kernel_rfl
@[go_sem] theorem tag_47 : tag Try.prog 47 = some false := by kernel_rfl
@[go_sem] theorem tar_47 : tar Try.prog 47 = none := by kernel_rfl
@[go_sem] theorem tcs_47 : tcs Try.prog 47 = [] := by kernel_rfl
@[go_sem] theorem tkd_47 : tkd Try.prog 47 = some (.int .i64) := by kernel_rfl
@[go_sem] theorem tsz_51 : tsz Try.prog 51 = some 4 := by kernel_rfl
@[go_sem] theorem tby_51 : tby Try.prog 51 = some 48 := by kernel_rfl
@[go_sem] theorem tze_51 : tze Try.prog 51 = some [.int .i64 0, .int .i64 0, .int .i64 0, .slice none 0 0] := by kernel_rfl
@[go_sem] theorem tag_51 : tag Try.prog 51 = some true := by kernel_rfl
@[go_sem] theorem tar_51 : tar Try.prog 51 = none := by kernel_rfl
@[go_sem] theorem tfo_51_0 : tfo Try.prog 51 0 = some (0, 3) := by kernel_rfl
@[go_sem] theorem tfo_51_1 : tfo Try.prog 51 1 = some (1, 3) := by kernel_rfl
@[go_sem] theorem tfo_51_2 : tfo Try.prog 51 2 = some (2, 3) := by kernel_rfl
@[go_sem] theorem tfo_51_3 : tfo Try.prog 51 3 = some (3, 33) := by kernel_rfl
@[go_sem] theorem tpl_51 : tpl Try.prog 51 = some [(0, 1), (1, 1), (2, 1), (3, 1)] := by kernel_rfl
@[go_sem] theorem tcs_51 : tcs Try.prog 51 = [(3, 1)] := by kernel_rfl
@[go_sem] theorem tkd_51 : tkd Try.prog 51 = some .other := by kernel_rfl
@[go_sem] theorem tsz_57 : tsz Try.prog 57 = some 1 := by kernel_rfl
@[go_sem] theorem tby_57 : tby Try.prog 57 = some 24 := by kernel_rfl
@[go_sem] theorem tze_57 : tze Try.prog 57 = some [.slice none 0 0] := by kernel_rfl
@[go_sem] theorem tag_57 : tag Try.prog 57 = some false := by kernel_rfl
@[go_sem] theorem tel_57 : tel Try.prog 57 = some 59 := by kernel_rfl
@[go_sem] theorem tar_57 : tar Try.prog 57 = none := by kernel_rfl
@[go_sem] theorem tcs_57 : tcs Try.prog 57 = [(0, 5)] := by kernel_rfl
@[go_sem] theorem tkd_57 : tkd Try.prog 57 = some (.slice 59) := by kernel_rfl
@[go_sem] theorem tsz_58 : tsz Try.prog 58 = some 5 := by kernel_rfl
@[go_sem] theorem tby_58 : tby Try.prog 58 = some 32 := by kernel_rfl
@[go_sem] theorem tze_58 : tze Try.prog 58 = some [.bool false, .bool false, .int .i64 0, .int .i64 0, .int .i64 0] := by kernel_rfl
@[go_sem] theorem tag_58 : tag Try.prog 58 = some true := by kernel_rfl
@[go_sem] theorem tar_58 : tar Try.prog 58 = none := by kernel_rfl
@[go_sem] theorem tfo_58_0 : tfo Try.prog 58 0 = some (0, 4) := by kernel_rfl
@[go_sem] theorem tfo_58_1 : tfo Try.prog 58 1 = some (1, 4) := by kernel_rfl
@[go_sem] theorem tfo_58_2 : tfo Try.prog 58 2 = some (2, 3) := by kernel_rfl
@[go_sem] theorem tfo_58_3 : tfo Try.prog 58 3 = some (3, 3) := by kernel_rfl
@[go_sem] theorem tfo_58_4 : tfo Try.prog 58 4 = some (4, 3) := by kernel_rfl
@[go_sem] theorem tpl_58 : tpl Try.prog 58 = some [(0, 1), (1, 1), (2, 1), (3, 1), (4, 1)] := by kernel_rfl
@[go_sem] theorem tcs_58 : tcs Try.prog 58 = [] := by kernel_rfl
@[go_sem] theorem tkd_58 : tkd Try.prog 58 = some .other := by kernel_rfl
@[go_sem] theorem tsz_59 : tsz Try.prog 59 = some 5 := by kernel_rfl
@[go_sem] theorem tby_59 : tby Try.prog 59 = some 32 := by kernel_rfl
@[go_sem] theorem tze_59 : tze Try.prog 59 = some [.bool false, .bool false, .int .i64 0, .int .i64 0, .int .i64 0] := by kernel_rfl
@[go_sem] theorem tag_59 : tag Try.prog 59 = some true := by kernel_rfl
@[go_sem] theorem tar_59 : tar Try.prog 59 = none := by kernel_rfl
@[go_sem] theorem tfo_59_0 : tfo Try.prog 59 0 = some (0, 4) := by kernel_rfl
@[go_sem] theorem tfo_59_1 : tfo Try.prog 59 1 = some (1, 4) := by kernel_rfl
@[go_sem] theorem tfo_59_2 : tfo Try.prog 59 2 = some (2, 3) := by kernel_rfl
@[go_sem] theorem tfo_59_3 : tfo Try.prog 59 3 = some (3, 3) := by kernel_rfl
@[go_sem] theorem tfo_59_4 : tfo Try.prog 59 4 = some (4, 3) := by kernel_rfl
@[go_sem] theorem tpl_59 : tpl Try.prog 59 = some [(0, 1), (1, 1), (2, 1), (3, 1), (4, 1)] := by kernel_rfl
@[go_sem] theorem tcs_59 : tcs Try.prog 59 = [] := by kernel_rfl
@[go_sem] theorem tkd_59 : tkd Try.prog 59 = some .other := by kernel_rfl
@[go_sem] theorem tsz_73 : tsz Try.prog 73 = some 1 := by kernel_rfl
@[go_sem] theorem tby_73 : tby Try.prog 73 = some 4 := by kernel_rfl
@[go_sem] theorem tze_73 : tze Try.prog 73 = some [.int .u32 0] := by kernel_rfl
@[go_sem] theorem tag_73 : tag Try.prog 73 = some false := by kernel_rfl
@[go_sem] theorem tar_73 : tar Try.prog 73 = none := by kernel_rfl
@[go_sem] theorem tcs_73 : tcs Try.prog 73 = [] := by kernel_rfl
@[go_sem] theorem tkd_73 : tkd Try.prog 73 = some (.int .u32) := by kernel_rfl
@[go_sem] theorem tsz_77 : tsz Try.prog 77 = some 1 := by kernel_rfl
@[go_sem] theorem tby_77 : tby Try.prog 77 = some 8 := by kernel_rfl
@[go_sem] theorem tze_77 : tze Try.prog 77 = some [.pointer none] := by kernel_rfl
@[go_sem] theorem tag_77 : tag Try.prog 77 = some false := by kernel_rfl
@[go_sem] theorem tar_77 : tar Try.prog 77 = none := by kernel_rfl
@[go_sem] theorem tcs_77 : tcs Try.prog 77 = [] := by kernel_rfl
@[go_sem] theorem tkd_77 : tkd Try.prog 77 = some .other := by kernel_rfl
@[go_sem] theorem tsz_82 : tsz Try.prog 82 = some 1 := by kernel_rfl
@[go_sem] theorem tby_82 : tby Try.prog 82 = some 8 := by kernel_rfl
@[go_sem] theorem tze_82 : tze Try.prog 82 = some [.pointer none] := by kernel_rfl
@[go_sem] theorem tag_82 : tag Try.prog 82 = some false := by kernel_rfl
@[go_sem] theorem tar_82 : tar Try.prog 82 = none := by kernel_rfl
@[go_sem] theorem tcs_82 : tcs Try.prog 82 = [] := by kernel_rfl
@[go_sem] theorem tkd_82 : tkd Try.prog 82 = some .other := by kernel_rfl
@[go_sem] theorem fxk_3 : fxk Try.prog 3 = none := by kernel_rfl
@[go_sem] theorem fnOk_3 : fnOk Try.prog 3 = true := by kernel_rfl
@[go_sem] theorem fxk_4 : fxk Try.prog 4 = none := by kernel_rfl
@[go_sem] theorem fnOk_4 : fnOk Try.prog 4 = true := by kernel_rfl
@[go_sem] theorem fxk_5 : fxk Try.prog 5 = none := by kernel_rfl
@[go_sem] theorem fnOk_5 : fnOk Try.prog 5 = true := by kernel_rfl
@[go_sem] theorem fxk_6 : fxk Try.prog 6 = none := by kernel_rfl
@[go_sem] theorem fnOk_6 : fnOk Try.prog 6 = true := by kernel_rfl
@[go_sem] theorem fxk_7 : fxk Try.prog 7 = none := by kernel_rfl
@[go_sem] theorem fnOk_7 : fnOk Try.prog 7 = true := by kernel_rfl
@[go_sem] theorem fxk_8 : fxk Try.prog 8 = none := by kernel_rfl
@[go_sem] theorem fnOk_8 : fnOk Try.prog 8 = true := by kernel_rfl
@[go_sem] theorem fxk_9 : fxk Try.prog 9 = none := by kernel_rfl
@[go_sem] theorem fnOk_9 : fnOk Try.prog 9 = true := by kernel_rfl
@[go_sem] theorem fxk_10 : fxk Try.prog 10 = none := by kernel_rfl
@[go_sem] theorem fnOk_10 : fnOk Try.prog 10 = true := by kernel_rfl
@[go_sem] theorem fxk_11 : fxk Try.prog 11 = none := by kernel_rfl
@[go_sem] theorem fnOk_11 : fnOk Try.prog 11 = true := by kernel_rfl
@[go_sem] theorem fxk_12 : fxk Try.prog 12 = none := by kernel_rfl
@[go_sem] theorem fnOk_12 : fnOk Try.prog 12 = true := by kernel_rfl
@[go_sem] theorem fxk_13 : fxk Try.prog 13 = none := by kernel_rfl
@[go_sem] theorem fnOk_13 : fnOk Try.prog 13 = true := by kernel_rfl
@[go_sem] theorem fxk_14 : fxk Try.prog 14 = none := by kernel_rfl
@[go_sem] theorem fnOk_14 : fnOk Try.prog 14 = true := by kernel_rfl
@[go_sem] theorem fxk_15 : fxk Try.prog 15 = none := by kernel_rfl
@[go_sem] theorem fnOk_15 : fnOk Try.prog 15 = true := by kernel_rfl
@[go_sem] theorem fxk_16 : fxk Try.prog 16 = none := by kernel_rfl
@[go_sem] theorem fnOk_16 : fnOk Try.prog 16 = true := by kernel_rfl
@[go_sem] theorem fxk_17 : fxk Try.prog 17 = none := by kernel_rfl
@[go_sem] theorem fnOk_17 : fnOk Try.prog 17 = true := by kernel_rfl
@[go_sem] theorem fxk_18 : fxk Try.prog 18 = none := by kernel_rfl
@[go_sem] theorem fnOk_18 : fnOk Try.prog 18 = true := by kernel_rfl
@[go_sem] theorem fxk_19 : fxk Try.prog 19 = none := by kernel_rfl
@[go_sem] theorem fnOk_19 : fnOk Try.prog 19 = true := by kernel_rfl
@[go_sem] theorem fxk_20 : fxk Try.prog 20 = none := by kernel_rfl
@[go_sem] theorem fnOk_20 : fnOk Try.prog 20 = true := by kernel_rfl
@[go_sem] theorem fxk_21 : fxk Try.prog 21 = none := by kernel_rfl
@[go_sem] theorem fnOk_21 : fnOk Try.prog 21 = true := by kernel_rfl
@[go_sem] theorem fxk_22 : fxk Try.prog 22 = none := by kernel_rfl
@[go_sem] theorem fnOk_22 : fnOk Try.prog 22 = true := by kernel_rfl
@[go_sem] theorem fxk_23 : fxk Try.prog 23 = none := by kernel_rfl
@[go_sem] theorem fnOk_23 : fnOk Try.prog 23 = true := by kernel_rfl
@[go_sem] theorem fxk_24 : fxk Try.prog 24 = none := by kernel_rfl
@[go_sem] theorem fnOk_24 : fnOk Try.prog 24 = true := by kernel_rfl
@[go_sem] theorem fxk_25 : fxk Try.prog 25 = none := by kernel_rfl
@[go_sem] theorem fxk_26 : fxk Try.prog 26 = none := by kernel_rfl
@[go_sem] theorem fxk_27 : fxk Try.prog 27 = none := by kernel_rfl
@[go_sem] theorem fxk_28 : fxk Try.prog 28 = none := by kernel_rfl
@[go_sem] theorem fxk_29 : fxk Try.prog 29 = none := by kernel_rfl
@[go_sem] theorem fxk_30 : fxk Try.prog 30 = none := by kernel_rfl
@[go_sem] theorem fxk_31 : fxk Try.prog 31 = none := by kernel_rfl
@[go_sem] theorem fxk_32 : fxk Try.prog 32 = none := by kernel_rfl
@[go_sem] theorem fxk_33 : fxk Try.prog 33 = none := by kernel_rfl
@[go_sem] theorem fxk_34 : fxk Try.prog 34 = none := by kernel_rfl
@[go_sem] theorem fxk_35 : fxk Try.prog 35 = none := by kernel_rfl
@[go_sem] theorem fxk_36 : fxk Try.prog 36 = none := by kernel_rfl
theorem mixed : Try.prog.follows .mixedOrders = true := by kernel_rfl
end Go.Proofs.TT
