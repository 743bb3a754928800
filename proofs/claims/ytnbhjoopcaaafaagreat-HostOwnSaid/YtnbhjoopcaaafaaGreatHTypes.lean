/- Facts that the proofs of this claim lean on. -/
import Derived.Test.YtnbhjoopcaaafaaGreatIdNl
import Derived.Test.YtnbhjoopcaaafaaGreatProg
set_option linter.unusedSimpArgs false
set_option linter.unusedVariables false
namespace Go.Proofs.HO
open Go Go.Idl Go.Proofs
@[go_sem] theorem tsz_3:tsz Tryz.prog 3=some 1:=by kernel_rfl
@[go_sem] theorem tby_3:tby Tryz.prog 3=some 8:=by kernel_rfl
@[go_sem] theorem tze_3:tze Tryz.prog 3=some [.int .i64 0]:=by kernel_rfl
@[go_sem] theorem tag_3:tag Tryz.prog 3=some false:=by kernel_rfl
@[go_sem] theorem tcs_3:tcs Tryz.prog 3= []:=by kernel_rfl
@[go_sem] theorem tkd_3:tkd Tryz.prog 3=some (.int .i64):=by kernel_rfl
@[go_sem] theorem tsz_4:tsz Tryz.prog 4=some 1:=by kernel_rfl
@[go_sem] theorem tag_4:tag Tryz.prog 4=some false:=by kernel_rfl
@[go_sem] theorem tsz_22:tsz Tryz.prog 22=some 1:=by kernel_rfl
@[go_sem] theorem tag_22:tag Tryz.prog 22=some false:=by kernel_rfl
@[go_sem] theorem tel_22:tel Tryz.prog 22=some 103:=by kernel_rfl
@[go_sem] theorem tkd_22:tkd Tryz.prog 22=some (.slice 103):=by kernel_rfl
@[go_sem] theorem tsz_24:tsz Tryz.prog 24=some 2:=by kernel_rfl
@[go_sem] theorem tze_24:tze Tryz.prog 24=some [.int .i64 0, .slice none 0 0]:=by kernel_rfl
@[go_sem] theorem tag_24:tag Tryz.prog 24=some true:=by kernel_rfl
@[go_sem] theorem tfo_24_0:tfo Tryz.prog 24 0=some (0,3):=by kernel_rfl
@[go_sem] theorem tfo_24_1:tfo Tryz.prog 24 1=some (1,22):=by kernel_rfl
@[go_sem] theorem tcs_24:tcs Tryz.prog 24= [(1,2)]:=by kernel_rfl
@[go_sem] theorem tsz_25:tsz Tryz.prog 25=some 1:=by kernel_rfl
@[go_sem] theorem tag_25:tag Tryz.prog 25=some false:=by kernel_rfl
@[go_sem] theorem tel_25:tel Tryz.prog 25=some 123:=by kernel_rfl
@[go_sem] theorem tcs_25:tcs Tryz.prog 25= [(0,2)]:=by kernel_rfl
@[go_sem] theorem tkd_25:tkd Tryz.prog 25=some (.slice 123):=by kernel_rfl
@[go_sem] theorem tsz_27:tsz Tryz.prog 27=some 4:=by kernel_rfl
@[go_sem] theorem tze_27:tze Tryz.prog 27=some [.int .i64 0, .slice none 0 0, .slice none 0 0, .bool false]:=by kernel_rfl
@[go_sem] theorem tag_27:tag Tryz.prog 27=some true:=by kernel_rfl
@[go_sem] theorem tar_27:tar Tryz.prog 27=none:=by kernel_rfl
@[go_sem] theorem tfo_27_0:tfo Tryz.prog 27 0=some (0,24):=by kernel_rfl
@[go_sem] theorem tfo_27_1:tfo Tryz.prog 27 1=some (2,25):=by kernel_rfl
@[go_sem] theorem tfo_27_2:tfo Tryz.prog 27 2=some (3,4):=by kernel_rfl
@[go_sem] theorem tpl_27:tpl Tryz.prog 27=some [(0,2),(2,1),(3,1)]:=by kernel_rfl
@[go_sem] theorem tcs_27:tcs Tryz.prog 27= [(1,2),(2,2)]:=by kernel_rfl
@[go_sem] theorem tsz_30:tsz Tryz.prog 30=some 2:=by kernel_rfl
@[go_sem] theorem tze_30:tze Tryz.prog 30=some [.int .i64 0, .slice none 0 0]:=by kernel_rfl
@[go_sem] theorem tag_30:tag Tryz.prog 30=some true:=by kernel_rfl
@[go_sem] theorem tar_30:tar Tryz.prog 30=none:=by kernel_rfl
@[go_sem] theorem tfo_30_0:tfo Tryz.prog 30 0=some (0,3):=by kernel_rfl
@[go_sem] theorem tfo_30_1:tfo Tryz.prog 30 1=some (1,22):=by kernel_rfl
@[go_sem] theorem tpl_30:tpl Tryz.prog 30=some [(0,1),(1,1)]:=by kernel_rfl
@[go_sem] theorem tcs_30:tcs Tryz.prog 30= [(1,2)]:=by kernel_rfl
@[go_sem] theorem tsz_31:tsz Tryz.prog 31=some 1:=by kernel_rfl
@[go_sem] theorem tag_31:tag Tryz.prog 31=some false:=by kernel_rfl
@[go_sem] theorem tel_31:tel Tryz.prog 31=some 112:=by kernel_rfl
@[go_sem] theorem tcs_31:tcs Tryz.prog 31= [(0,2)]:=by kernel_rfl
@[go_sem] theorem tkd_31:tkd Tryz.prog 31=some (.slice 112):=by kernel_rfl
@[go_sem] theorem tsz_33:tsz Tryz.prog 33=some 4:=by kernel_rfl
@[go_sem] theorem tze_33:tze Tryz.prog 33=some [.int .i64 0, .slice none 0 0, .slice none 0 0, .bool false]:=by kernel_rfl
@[go_sem] theorem tag_33:tag Tryz.prog 33=some true:=by kernel_rfl
@[go_sem] theorem tar_33:tar Tryz.prog 33=none:=by kernel_rfl
@[go_sem] theorem tfo_33_0:tfo Tryz.prog 33 0=some (0,30):=by kernel_rfl
@[go_sem] theorem tfo_33_1:tfo Tryz.prog 33 1=some (2,31):=by kernel_rfl
@[go_sem] theorem tpl_33:tpl Tryz.prog 33=some [(0,2),(2,1),(3,1)]:=by kernel_rfl
@[go_sem] theorem tcs_33:tcs Tryz.prog 33= [(1,2),(2,2)]:=by kernel_rfl
@[go_sem] theorem tsz_37:tsz Tryz.prog 37=some 1:=by kernel_rfl
@[go_sem] theorem tag_37:tag Tryz.prog 37=some false:=by kernel_rfl
@[go_sem] theorem tel_37:tel Tryz.prog 37=some 79:=by kernel_rfl
@[go_sem] theorem tcs_37:tcs Tryz.prog 37= [(0,1)]:=by kernel_rfl
@[go_sem] theorem tkd_37:tkd Tryz.prog 37=some (.slice 79):=by kernel_rfl
@[go_sem] theorem tsz_38:tsz Tryz.prog 38=some 1:=by kernel_rfl
@[go_sem] theorem tag_38:tag Tryz.prog 38=some false:=by kernel_rfl
@[go_sem] theorem tel_38:tel Tryz.prog 38=some 67:=by kernel_rfl
@[go_sem] theorem tcs_38:tcs Tryz.prog 38= [(0,1)]:=by kernel_rfl
@[go_sem] theorem tkd_38:tkd Tryz.prog 38=some (.slice 67):=by kernel_rfl
@[go_sem] theorem tsz_40:tsz Tryz.prog 40=some 5:=by kernel_rfl
@[go_sem] theorem tze_40:tze Tryz.prog 40=some [.int .i64 0, .int .i64 0, .int .i64 0, .slice none 0 0, .slice none 0 0]:=by kernel_rfl
@[go_sem] theorem tag_40:tag Tryz.prog 40=some true:=by kernel_rfl
@[go_sem] theorem tar_40:tar Tryz.prog 40=none:=by kernel_rfl
@[go_sem] theorem tfo_40_0:tfo Tryz.prog 40 0=some (0,3):=by kernel_rfl
@[go_sem] theorem tfo_40_1:tfo Tryz.prog 40 1=some (1,3):=by kernel_rfl
@[go_sem] theorem tfo_40_2:tfo Tryz.prog 40 2=some (2,3):=by kernel_rfl
@[go_sem] theorem tfo_40_3:tfo Tryz.prog 40 3=some (3,37):=by kernel_rfl
@[go_sem] theorem tfo_40_4:tfo Tryz.prog 40 4=some (4,38):=by kernel_rfl
@[go_sem] theorem tpl_40:tpl Tryz.prog 40=some [(0,1),(1,1),(2,1),(3,1),(4,1)]:=by kernel_rfl
@[go_sem] theorem tcs_40:tcs Tryz.prog 40= [(3,1),(4,1)]:=by kernel_rfl
@[go_sem] theorem tkd_40:tkd Tryz.prog 40=some .other:=by kernel_rfl
@[go_sem] theorem tsz_43:tsz Tryz.prog 43=some 5:=by kernel_rfl
@[go_sem] theorem tze_43:tze Tryz.prog 43=some [.int .i64 0, .int .i64 0, .int .i64 0, .slice none 0 0, .slice none 0 0]:=by kernel_rfl
@[go_sem] theorem tag_43:tag Tryz.prog 43=some true:=by kernel_rfl
@[go_sem] theorem tar_43:tar Tryz.prog 43=none:=by kernel_rfl
@[go_sem] theorem tfo_43_0:tfo Tryz.prog 43 0=some (0,3):=by kernel_rfl
@[go_sem] theorem tfo_43_1:tfo Tryz.prog 43 1=some (1,3):=by kernel_rfl
@[go_sem] theorem tfo_43_2:tfo Tryz.prog 43 2=some (2,3):=by kernel_rfl
@[go_sem] theorem tfo_43_3:tfo Tryz.prog 43 3=some (3,37):=by kernel_rfl
@[go_sem] theorem tfo_43_4:tfo Tryz.prog 43 4=some (4,38):=by kernel_rfl
@[go_sem] theorem tpl_43:tpl Tryz.prog 43=some [(0,1),(1,1),(2,1),(3,1),(4,1)]:=by kernel_rfl
@[go_sem] theorem tcs_43:tcs Tryz.prog 43= [(3,1),(4,1)]:=by kernel_rfl
@[go_sem] theorem tel_47:tel Tryz.prog 47=some 86:=by kernel_rfl
@[go_sem] theorem tkd_47:tkd Tryz.prog 47=some (.slice 86):=by kernel_rfl
@[go_sem] theorem tsz_52:tsz Tryz.prog 52=some 2:=by kernel_rfl
@[go_sem] theorem tby_52:tby Tryz.prog 52=some 16:=by kernel_rfl
@[go_sem] theorem tze_52:tze Tryz.prog 52=some [.int .i64 0, .int .i64 0]:=by kernel_rfl
@[go_sem] theorem tag_52:tag Tryz.prog 52=some true:=by kernel_rfl
@[go_sem] theorem tar_52:tar Tryz.prog 52=none:=by kernel_rfl
@[go_sem] theorem tfo_52_0:tfo Tryz.prog 52 0=some (0,3):=by kernel_rfl
@[go_sem] theorem tfo_52_1:tfo Tryz.prog 52 1=some (1,3):=by kernel_rfl
@[go_sem] theorem tpl_52:tpl Tryz.prog 52=some [(0,1),(1,1)]:=by kernel_rfl
@[go_sem] theorem tcs_52:tcs Tryz.prog 52= []:=by kernel_rfl
@[go_sem] theorem teq_52:teq Tryz.prog 52=some [(.int .i64),(.int .i64)]:=by kernel_rfl
@[go_sem] theorem tfo_54_0:tfo Tryz.prog 54 0=some (0,3):=by kernel_rfl
@[go_sem] theorem tfo_54_1:tfo Tryz.prog 54 1=some (1,3):=by kernel_rfl
@[go_sem] theorem tfo_54_2:tfo Tryz.prog 54 2=some (2,52):=by kernel_rfl
@[go_sem] theorem tsz_67:tsz Tryz.prog 67=some 1:=by kernel_rfl
@[go_sem] theorem tby_67:tby Tryz.prog 67=some 24:=by kernel_rfl
@[go_sem] theorem tze_67:tze Tryz.prog 67=some [.slice none 0 0]:=by kernel_rfl
@[go_sem] theorem tag_67:tag Tryz.prog 67=some false:=by kernel_rfl
@[go_sem] theorem tel_67:tel Tryz.prog 67=some 3:=by kernel_rfl
@[go_sem] theorem tar_67:tar Tryz.prog 67=none:=by kernel_rfl
@[go_sem] theorem tcs_67:tcs Tryz.prog 67= [(0,1)]:=by kernel_rfl
@[go_sem] theorem tkd_67:tkd Tryz.prog 67=some (.slice 3):=by kernel_rfl
@[go_sem] theorem tze_69:tze Tryz.prog 69=some [.int .i64 0, .int .i64 0, .int .i64 0, .slice none 0 0, .slice none 0 0, .slice none 0 0]:=by kernel_rfl
@[go_sem] theorem tar_69:tar Tryz.prog 69=none:=by kernel_rfl
@[go_sem] theorem tfo_69_0:tfo Tryz.prog 69 0=some (0,3):=by kernel_rfl
@[go_sem] theorem tfo_69_1:tfo Tryz.prog 69 1=some (1,3):=by kernel_rfl
@[go_sem] theorem tfo_69_2:tfo Tryz.prog 69 2=some (2,3):=by kernel_rfl
@[go_sem] theorem tfo_69_3:tfo Tryz.prog 69 3=some (3,67):=by kernel_rfl
@[go_sem] theorem tfo_69_4:tfo Tryz.prog 69 4=some (4,37):=by kernel_rfl
@[go_sem] theorem tfo_69_5:tfo Tryz.prog 69 5=some (5,38):=by kernel_rfl
@[go_sem] theorem tpl_69:tpl Tryz.prog 69=some [(0,1),(1,1),(2,1),(3,1),(4,1),(5,1)]:=by kernel_rfl
@[go_sem] theorem tcs_69:tcs Tryz.prog 69= [(3,1),(4,1),(5,1)]:=by kernel_rfl
@[go_sem] theorem tsz_71:tsz Tryz.prog 71=some 6:=by kernel_rfl
@[go_sem] theorem tze_71:tze Tryz.prog 71=some [.int .i64 0, .int .i64 0, .int .i64 0, .slice none 0 0, .slice none 0 0, .slice none 0 0]:=by kernel_rfl
@[go_sem] theorem tag_71:tag Tryz.prog 71=some true:=by kernel_rfl
@[go_sem] theorem tar_71:tar Tryz.prog 71=none:=by kernel_rfl
@[go_sem] theorem tfo_71_0:tfo Tryz.prog 71 0=some (0,3):=by kernel_rfl
@[go_sem] theorem tfo_71_1:tfo Tryz.prog 71 1=some (1,3):=by kernel_rfl
@[go_sem] theorem tfo_71_2:tfo Tryz.prog 71 2=some (2,3):=by kernel_rfl
@[go_sem] theorem tfo_71_3:tfo Tryz.prog 71 3=some (3,67):=by kernel_rfl
@[go_sem] theorem tfo_71_4:tfo Tryz.prog 71 4=some (4,37):=by kernel_rfl
@[go_sem] theorem tfo_71_5:tfo Tryz.prog 71 5=some (5,38):=by kernel_rfl
@[go_sem] theorem tpl_71:tpl Tryz.prog 71=some [(0,1),(1,1),(2,1),(3,1),(4,1),(5,1)]:=by kernel_rfl
@[go_sem] theorem tcs_71:tcs Tryz.prog 71= [(3,1),(4,1),(5,1)]:=by kernel_rfl
@[go_sem] theorem tel_78:tel Tryz.prog 78=some 40:=by kernel_rfl
@[go_sem] theorem tsz_79:tsz Tryz.prog 79=some 1:=by kernel_rfl
@[go_sem] theorem tby_79:tby Tryz.prog 79=some 24:=by kernel_rfl
@[go_sem] theorem tze_79:tze Tryz.prog 79=some [.slice none 0 0]:=by kernel_rfl
@[go_sem] theorem tag_79:tag Tryz.prog 79=some false:=by kernel_rfl
@[go_sem] theorem tel_79:tel Tryz.prog 79=some 52:=by kernel_rfl
@[go_sem] theorem tcs_79:tcs Tryz.prog 79= [(0,2)]:=by kernel_rfl
@[go_sem] theorem tkd_79:tkd Tryz.prog 79=some (.slice 52):=by kernel_rfl
@[go_sem] theorem tsz_86:tsz Tryz.prog 86=some 3:=by kernel_rfl
@[go_sem] theorem tby_86:tby Tryz.prog 86=some 24:=by kernel_rfl
@[go_sem] theorem tze_86:tze Tryz.prog 86=some [.int .i64 0, .int .i64 0, .int .i64 0]:=by kernel_rfl
@[go_sem] theorem tar_86:tar Tryz.prog 86=none:=by kernel_rfl
@[go_sem] theorem tpl_86:tpl Tryz.prog 86=some [(0,1),(1,2)]:=by kernel_rfl
@[go_sem] theorem tsz_103:tsz Tryz.prog 103=some 2:=by kernel_rfl
@[go_sem] theorem tze_103:tze Tryz.prog 103=some [.int .i64 0, .int .i64 0]:=by kernel_rfl
@[go_sem] theorem tag_103:tag Tryz.prog 103=some true:=by kernel_rfl
@[go_sem] theorem tar_103:tar Tryz.prog 103=some (2,3):=by kernel_rfl
@[go_sem] theorem tpl_103:tpl Tryz.prog 103=none:=by kernel_rfl
@[go_sem] theorem tcs_103:tcs Tryz.prog 103= []:=by kernel_rfl
@[go_sem] theorem teq_103:teq Tryz.prog 103=some [(.int .i64),(.int .i64)]:=by kernel_rfl
@[go_sem] theorem tkey_103:tkey Tryz.prog 103=some (true, [(.int .i64),(.int .i64)]):=by kernel_rfl
@[go_sem] theorem tsz_110:tsz Tryz.prog 110=some 1:=by kernel_rfl
@[go_sem] theorem tag_110:tag Tryz.prog 110=some false:=by kernel_rfl
@[go_sem] theorem tel_110:tel Tryz.prog 110=some 116:=by kernel_rfl
@[go_sem] theorem tkd_110:tkd Tryz.prog 110=some (.slice 116):=by kernel_rfl
@[go_sem] theorem tsz_112:tsz Tryz.prog 112=some 2:=by kernel_rfl
@[go_sem] theorem tby_112:tby Tryz.prog 112=some 32:=by kernel_rfl
@[go_sem] theorem tze_112:tze Tryz.prog 112=some [.int .i64 0, .slice none 0 0]:=by kernel_rfl
@[go_sem] theorem tag_112:tag Tryz.prog 112=some true:=by kernel_rfl
@[go_sem] theorem tar_112:tar Tryz.prog 112=none:=by kernel_rfl
@[go_sem] theorem tfo_112_0:tfo Tryz.prog 112 0=some (0,3):=by kernel_rfl
@[go_sem] theorem tfo_112_1:tfo Tryz.prog 112 1=some (1,110):=by kernel_rfl
@[go_sem] theorem tpl_112:tpl Tryz.prog 112=some [(0,1),(1,1)]:=by kernel_rfl
@[go_sem] theorem tcs_112:tcs Tryz.prog 112= [(1,4)]:=by kernel_rfl
@[go_sem] theorem tsz_113:tsz Tryz.prog 113=some 1:=by kernel_rfl
@[go_sem] theorem tag_113:tag Tryz.prog 113=some false:=by kernel_rfl
@[go_sem] theorem tel_113:tel Tryz.prog 113=some 144:=by kernel_rfl
@[go_sem] theorem tkd_113:tkd Tryz.prog 113=some (.slice 144):=by kernel_rfl
@[go_sem] theorem tsz_114:tsz Tryz.prog 114=some 1:=by kernel_rfl
@[go_sem] theorem tag_114:tag Tryz.prog 114=some false:=by kernel_rfl
@[go_sem] theorem tel_114:tel Tryz.prog 114=some 170:=by kernel_rfl
@[go_sem] theorem tkd_114:tkd Tryz.prog 114=some (.slice 170):=by kernel_rfl
@[go_sem] theorem tsz_116:tsz Tryz.prog 116=some 4:=by kernel_rfl
@[go_sem] theorem tby_116:tby Tryz.prog 116=some 80:=by kernel_rfl
@[go_sem] theorem tze_116:tze Tryz.prog 116=some [.int .i64 0, .slice none 0 0, .slice none 0 0, .slice none 0 0]:=by kernel_rfl
@[go_sem] theorem tag_116:tag Tryz.prog 116=some true:=by kernel_rfl
@[go_sem] theorem tar_116:tar Tryz.prog 116=none:=by kernel_rfl
@[go_sem] theorem tfo_116_0:tfo Tryz.prog 116 0=some (0,3):=by kernel_rfl
@[go_sem] theorem tfo_116_1:tfo Tryz.prog 116 1=some (1,67):=by kernel_rfl
@[go_sem] theorem tfo_116_2:tfo Tryz.prog 116 2=some (2,113):=by kernel_rfl
@[go_sem] theorem tfo_116_3:tfo Tryz.prog 116 3=some (3,114):=by kernel_rfl
@[go_sem] theorem tpl_116:tpl Tryz.prog 116=some [(0,1),(1,1),(2,1),(3,1)]:=by kernel_rfl
@[go_sem] theorem tcs_116:tcs Tryz.prog 116= [(1,1),(2,2),(3,3)]:=by kernel_rfl
@[go_sem] theorem tsz_121:tsz Tryz.prog 121=some 1:=by kernel_rfl
@[go_sem] theorem tag_121:tag Tryz.prog 121=some false:=by kernel_rfl
@[go_sem] theorem tel_121:tel Tryz.prog 121=some 166:=by kernel_rfl
@[go_sem] theorem tkd_121:tkd Tryz.prog 121=some (.slice 166):=by kernel_rfl
@[go_sem] theorem tsz_123:tsz Tryz.prog 123=some 2:=by kernel_rfl
@[go_sem] theorem tby_123:tby Tryz.prog 123=some 32:=by kernel_rfl
@[go_sem] theorem tze_123:tze Tryz.prog 123=some [.int .i64 0, .slice none 0 0]:=by kernel_rfl
@[go_sem] theorem tag_123:tag Tryz.prog 123=some true:=by kernel_rfl
@[go_sem] theorem tar_123:tar Tryz.prog 123=none:=by kernel_rfl
@[go_sem] theorem tfo_123_0:tfo Tryz.prog 123 0=some (0,3):=by kernel_rfl
@[go_sem] theorem tfo_123_1:tfo Tryz.prog 123 1=some (1,121):=by kernel_rfl
@[go_sem] theorem tpl_123:tpl Tryz.prog 123=some [(0,1),(1,1)]:=by kernel_rfl
@[go_sem] theorem tsz_131:tsz Tryz.prog 131=some 1:=by kernel_rfl
@[go_sem] theorem tag_131:tag Tryz.prog 131=some false:=by kernel_rfl
@[go_sem] theorem tel_131:tel Tryz.prog 131=some 138:=by kernel_rfl
@[go_sem] theorem tcs_131:tcs Tryz.prog 131= [(0,2)]:=by kernel_rfl
@[go_sem] theorem tkd_131:tkd Tryz.prog 131=some (.slice 138):=by kernel_rfl
@[go_sem] theorem tsz_133:tsz Tryz.prog 133=some 2:=by kernel_rfl
@[go_sem] theorem tby_133:tby Tryz.prog 133=some 32:=by kernel_rfl
@[go_sem] theorem tze_133:tze Tryz.prog 133=some [.int .i64 0, .slice none 0 0]:=by kernel_rfl
@[go_sem] theorem tag_133:tag Tryz.prog 133=some true:=by kernel_rfl
@[go_sem] theorem tar_133:tar Tryz.prog 133=none:=by kernel_rfl
@[go_sem] theorem tfo_133_0:tfo Tryz.prog 133 0=some (0,3):=by kernel_rfl
@[go_sem] theorem tfo_133_1:tfo Tryz.prog 133 1=some (1,131):=by kernel_rfl
@[go_sem] theorem tpl_133:tpl Tryz.prog 133=some [(0,1),(1,1)]:=by kernel_rfl
@[go_sem] theorem tsz_138:tsz Tryz.prog 138=some 2:=by kernel_rfl
@[go_sem] theorem tby_138:tby Tryz.prog 138=some 16:=by kernel_rfl
@[go_sem] theorem tze_138:tze Tryz.prog 138=some [.int .i64 0, .int .i64 0]:=by kernel_rfl
@[go_sem] theorem tag_138:tag Tryz.prog 138=some true:=by kernel_rfl
@[go_sem] theorem tfo_138_0:tfo Tryz.prog 138 0=some (0,3):=by kernel_rfl
@[go_sem] theorem tfo_138_1:tfo Tryz.prog 138 1=some (1,3):=by kernel_rfl
@[go_sem] theorem tcs_138:tcs Tryz.prog 138= []:=by kernel_rfl
@[go_sem] theorem tsz_142:tsz Tryz.prog 142=some 1:=by kernel_rfl
@[go_sem] theorem tag_142:tag Tryz.prog 142=some false:=by kernel_rfl
@[go_sem] theorem tel_142:tel Tryz.prog 142=some 149:=by kernel_rfl
@[go_sem] theorem tkd_142:tkd Tryz.prog 142=some (.slice 149):=by kernel_rfl
@[go_sem] theorem tsz_144:tsz Tryz.prog 144=some 2:=by kernel_rfl
@[go_sem] theorem tby_144:tby Tryz.prog 144=some 32:=by kernel_rfl
@[go_sem] theorem tze_144:tze Tryz.prog 144=some [.int .i64 0, .slice none 0 0]:=by kernel_rfl
@[go_sem] theorem tag_144:tag Tryz.prog 144=some true:=by kernel_rfl
@[go_sem] theorem tar_144:tar Tryz.prog 144=none:=by kernel_rfl
@[go_sem] theorem tfo_144_0:tfo Tryz.prog 144 0=some (0,3):=by kernel_rfl
@[go_sem] theorem tfo_144_1:tfo Tryz.prog 144 1=some (1,142):=by kernel_rfl
@[go_sem] theorem tpl_144:tpl Tryz.prog 144=some [(0,1),(1,1)]:=by kernel_rfl
@[go_sem] theorem tsz_149:tsz Tryz.prog 149=some 2:=by kernel_rfl
@[go_sem] theorem tby_149:tby Tryz.prog 149=some 16:=by kernel_rfl
@[go_sem] theorem tze_149:tze Tryz.prog 149=some [.int .i64 0, .int .i64 0]:=by kernel_rfl
@[go_sem] theorem tar_149:tar Tryz.prog 149=none:=by kernel_rfl
@[go_sem] theorem tfo_149_0:tfo Tryz.prog 149 0=some (0,3):=by kernel_rfl
@[go_sem] theorem tfo_149_1:tfo Tryz.prog 149 1=some (1,3):=by kernel_rfl
@[go_sem] theorem tpl_149:tpl Tryz.prog 149=some [(0,1),(1,1)]:=by kernel_rfl
@[go_sem] theorem tsz_163:tsz Tryz.prog 163=some 1:=by kernel_rfl
@[go_sem] theorem tag_163:tag Tryz.prog 163=some false:=by kernel_rfl
@[go_sem] theorem tel_163:tel Tryz.prog 163=some 133:=by kernel_rfl
@[go_sem] theorem tkd_163:tkd Tryz.prog 163=some (.slice 133):=by kernel_rfl
@[go_sem] theorem tsz_164:tsz Tryz.prog 164=some 1:=by kernel_rfl
@[go_sem] theorem tag_164:tag Tryz.prog 164=some false:=by kernel_rfl
@[go_sem] theorem tel_164:tel Tryz.prog 164=some 181:=by kernel_rfl
@[go_sem] theorem tcs_164:tcs Tryz.prog 164= [(0,3)]:=by kernel_rfl
@[go_sem] theorem tkd_164:tkd Tryz.prog 164=some (.slice 181):=by kernel_rfl
@[go_sem] theorem tsz_166:tsz Tryz.prog 166=some 4:=by kernel_rfl
@[go_sem] theorem tby_166:tby Tryz.prog 166=some 80:=by kernel_rfl
@[go_sem] theorem tze_166:tze Tryz.prog 166=some [.int .i64 0, .slice none 0 0, .slice none 0 0, .slice none 0 0]:=by kernel_rfl
@[go_sem] theorem tag_166:tag Tryz.prog 166=some true:=by kernel_rfl
@[go_sem] theorem tar_166:tar Tryz.prog 166=none:=by kernel_rfl
@[go_sem] theorem tfo_166_0:tfo Tryz.prog 166 0=some (0,3):=by kernel_rfl
@[go_sem] theorem tfo_166_1:tfo Tryz.prog 166 1=some (1,67):=by kernel_rfl
@[go_sem] theorem tfo_166_2:tfo Tryz.prog 166 2=some (2,163):=by kernel_rfl
@[go_sem] theorem tfo_166_3:tfo Tryz.prog 166 3=some (3,164):=by kernel_rfl
@[go_sem] theorem tpl_166:tpl Tryz.prog 166=some [(0,1),(1,1),(2,1),(3,1)]:=by kernel_rfl
@[go_sem] theorem tcs_166:tcs Tryz.prog 166= [(1,1),(2,2),(3,3)]:=by kernel_rfl
@[go_sem] theorem tsz_170:tsz Tryz.prog 170=some 3:=by kernel_rfl
@[go_sem] theorem tby_170:tby Tryz.prog 170=some 24:=by kernel_rfl
@[go_sem] theorem tze_170:tze Tryz.prog 170=some [.int .i64 0, .int .i64 0, .int .i64 0]:=by kernel_rfl
@[go_sem] theorem tag_170:tag Tryz.prog 170=some true:=by kernel_rfl
@[go_sem] theorem tar_170:tar Tryz.prog 170=none:=by kernel_rfl
@[go_sem] theorem tfo_170_0:tfo Tryz.prog 170 0=some (0,3):=by kernel_rfl
@[go_sem] theorem tfo_170_1:tfo Tryz.prog 170 1=some (1,3):=by kernel_rfl
@[go_sem] theorem tfo_170_2:tfo Tryz.prog 170 2=some (2,3):=by kernel_rfl
@[go_sem] theorem tpl_170:tpl Tryz.prog 170=some [(0,1),(1,1),(2,1)]:=by kernel_rfl
@[go_sem] theorem tsz_174:tsz Tryz.prog 174=some 9:=by kernel_rfl
@[go_sem] theorem tze_174:tze Tryz.prog 174=some [.int .i64 0, .slice none 0 0, .slice none 0 0, .slice none 0 0, .int .i64 0, .int .i64 0, .slice none 0 0, .int .i64 0, .slice none 0 0]:=by kernel_rfl
@[go_sem] theorem tag_174:tag Tryz.prog 174=some true:=by kernel_rfl
@[go_sem] theorem tar_174:tar Tryz.prog 174=none:=by kernel_rfl
@[go_sem] theorem tfo_174_0:tfo Tryz.prog 174 0=some (0,166):=by kernel_rfl
@[go_sem] theorem tfo_174_1:tfo Tryz.prog 174 1=some (4,3):=by kernel_rfl
@[go_sem] theorem tfo_174_2:tfo Tryz.prog 174 2=some (5,123):=by kernel_rfl
@[go_sem] theorem tfo_174_3:tfo Tryz.prog 174 3=some (7,24):=by kernel_rfl
@[go_sem] theorem tpl_174:tpl Tryz.prog 174=some [(0,4),(4,1),(5,2),(7,2)]:=by kernel_rfl
@[go_sem] theorem tcs_174:tcs Tryz.prog 174= [(1,1),(2,2),(3,3),(6,4),(8,2)]:=by kernel_rfl
@[go_sem] theorem tsz_181:tsz Tryz.prog 181=some 3:=by kernel_rfl
@[go_sem] theorem tby_181:tby Tryz.prog 181=some 24:=by kernel_rfl
@[go_sem] theorem tze_181:tze Tryz.prog 181=some [.int .i64 0, .int .i64 0, .int .i64 0]:=by kernel_rfl
@[go_sem] theorem tag_181:tag Tryz.prog 181=some true:=by kernel_rfl
@[go_sem] theorem tfo_181_0:tfo Tryz.prog 181 0=some (0,3):=by kernel_rfl
@[go_sem] theorem tfo_181_1:tfo Tryz.prog 181 1=some (1,3):=by kernel_rfl
@[go_sem] theorem tfo_181_2:tfo Tryz.prog 181 2=some (2,3):=by kernel_rfl
@[go_sem] theorem tcs_181:tcs Tryz.prog 181= []:=by kernel_rfl
@[go_sem] theorem tkd_185:tkd Tryz.prog 185=some (.int .u64):=by kernel_rfl
@[go_sem] theorem tmp_195:tmp Tryz.prog 195=some (103,3):=by kernel_rfl
@[go_sem] theorem tsz_198:tsz Tryz.prog 198=some 1:=by kernel_rfl
@[go_sem] theorem tze_198:tze Tryz.prog 198=some [.nilFunc]:=by kernel_rfl
@[go_sem] theorem tag_198:tag Tryz.prog 198=some true:=by kernel_rfl
@[go_sem] theorem tar_198:tar Tryz.prog 198=none:=by kernel_rfl
@[go_sem] theorem tfo_198_0:tfo Tryz.prog 198 0=some (0,41):=by kernel_rfl
@[go_sem] theorem tpl_198:tpl Tryz.prog 198=some [(0,1)]:=by kernel_rfl
@[go_sem] theorem tkd_198:tkd Tryz.prog 198=some .other:=by kernel_rfl
@[go_sem] theorem tel_199:tel Tryz.prog 199=some 198:=by kernel_rfl
@[go_sem] theorem tkd_199:tkd Tryz.prog 199=some (.slice 198):=by kernel_rfl
@[go_sem] theorem fxk_10:fxk Tryz.prog 10=none:=by kernel_rfl
@[go_sem] theorem fnOk_10:fnOk Tryz.prog 10=true:=by kernel_rfl
@[go_sem] theorem fxk_11:fxk Tryz.prog 11=none:=by kernel_rfl
@[go_sem] theorem fnOk_11:fnOk Tryz.prog 11=true:=by kernel_rfl
@[go_sem] theorem fxk_12:fxk Tryz.prog 12=none:=by kernel_rfl
@[go_sem] theorem fnOk_12:fnOk Tryz.prog 12=true:=by kernel_rfl
@[go_sem] theorem fxk_13:fxk Tryz.prog 13=none:=by kernel_rfl
@[go_sem] theorem fnOk_13:fnOk Tryz.prog 13=true:=by kernel_rfl
@[go_sem] theorem fxk_14:fxk Tryz.prog 14=none:=by kernel_rfl
@[go_sem] theorem fnOk_14:fnOk Tryz.prog 14=true:=by kernel_rfl
@[go_sem] theorem fxk_17:fxk Tryz.prog 17=none:=by kernel_rfl
@[go_sem] theorem fnOk_17:fnOk Tryz.prog 17=true:=by kernel_rfl
@[go_sem] theorem fxk_18:fxk Tryz.prog 18=none:=by kernel_rfl
@[go_sem] theorem fnOk_18:fnOk Tryz.prog 18=true:=by kernel_rfl
@[go_sem] theorem fxk_19:fxk Tryz.prog 19=none:=by kernel_rfl
@[go_sem] theorem fnOk_19:fnOk Tryz.prog 19=true:=by kernel_rfl
@[go_sem] theorem fxk_21:fxk Tryz.prog 21=none:=by kernel_rfl
@[go_sem] theorem fnOk_21:fnOk Tryz.prog 21=true:=by kernel_rfl
@[go_sem] theorem fxk_29:fxk Tryz.prog 29=none:=by kernel_rfl
@[go_sem] theorem fnOk_29:fnOk Tryz.prog 29=true:=by kernel_rfl
@[go_sem] theorem fxk_31:fxk Tryz.prog 31=none:=by kernel_rfl
@[go_sem] theorem fnOk_31:fnOk Tryz.prog 31=true:=by kernel_rfl
@[go_sem] theorem fxk_33:fxk Tryz.prog 33=none:=by kernel_rfl
@[go_sem] theorem fnOk_33:fnOk Tryz.prog 33=true:=by kernel_rfl
@[go_sem] theorem fxk_34:fxk Tryz.prog 34=none:=by kernel_rfl
@[go_sem] theorem fnOk_34:fnOk Tryz.prog 34=true:=by kernel_rfl
@[go_sem] theorem fxk_35:fxk Tryz.prog 35=none:=by kernel_rfl
@[go_sem] theorem fnOk_35:fnOk Tryz.prog 35=true:=by kernel_rfl
@[go_sem] theorem fxk_41:fxk Tryz.prog 41=none:=by kernel_rfl
@[go_sem] theorem fnOk_41:fnOk Tryz.prog 41=true:=by kernel_rfl
@[go_sem] theorem fxk_45:fxk Tryz.prog 45=none:=by kernel_rfl
@[go_sem] theorem fnOk_45:fnOk Tryz.prog 45=true:=by kernel_rfl
@[go_sem] theorem fxk_46:fxk Tryz.prog 46=none:=by kernel_rfl
@[go_sem] theorem fnOk_46:fnOk Tryz.prog 46=true:=by kernel_rfl
@[go_sem] theorem fxk_47:fxk Tryz.prog 47=none:=by kernel_rfl
@[go_sem] theorem fnOk_47:fnOk Tryz.prog 47=true:=by kernel_rfl
@[go_sem] theorem fxk_48:fxk Tryz.prog 48=none:=by kernel_rfl
@[go_sem] theorem fnOk_48:fnOk Tryz.prog 48=true:=by kernel_rfl
@[go_sem] theorem fxk_49:fxk Tryz.prog 49=none:=by kernel_rfl
@[go_sem] theorem fnOk_49:fnOk Tryz.prog 49=true:=by kernel_rfl
@[go_sem] theorem fxk_50:fxk Tryz.prog 50=none:=by kernel_rfl
@[go_sem] theorem fnOk_50:fnOk Tryz.prog 50=true:=by kernel_rfl
@[go_sem] theorem fxk_51:fxk Tryz.prog 51=none:=by kernel_rfl
@[go_sem] theorem fnOk_51:fnOk Tryz.prog 51=true:=by kernel_rfl
@[go_sem] theorem fxk_52:fxk Tryz.prog 52=none:=by kernel_rfl
@[go_sem] theorem fnOk_52:fnOk Tryz.prog 52=true:=by kernel_rfl
@[go_sem] theorem fxk_53:fxk Tryz.prog 53=none:=by kernel_rfl
@[go_sem] theorem fnOk_53:fnOk Tryz.prog 53=true:=by kernel_rfl
@[go_sem] theorem fxk_54:fxk Tryz.prog 54=none:=by kernel_rfl
@[go_sem] theorem fnOk_54:fnOk Tryz.prog 54=true:=by kernel_rfl
@[go_sem] theorem fxk_55:fxk Tryz.prog 55=none:=by kernel_rfl
@[go_sem] theorem fnOk_55:fnOk Tryz.prog 55=true:=by kernel_rfl
@[go_sem] theorem fxk_56:fxk Tryz.prog 56=none:=by kernel_rfl
@[go_sem] theorem fnOk_56:fnOk Tryz.prog 56=true:=by kernel_rfl
@[go_sem] theorem fxk_58:fxk Tryz.prog 58=none:=by kernel_rfl
@[go_sem] theorem fnOk_58:fnOk Tryz.prog 58=true:=by kernel_rfl
@[go_sem] theorem fxk_59:fxk Tryz.prog 59=none:=by kernel_rfl
@[go_sem] theorem fnOk_59:fnOk Tryz.prog 59=true:=by kernel_rfl
@[go_sem] theorem fxk_60:fxk Tryz.prog 60=none:=by kernel_rfl
@[go_sem] theorem fnOk_60:fnOk Tryz.prog 60=true:=by kernel_rfl
@[go_sem] theorem fxk_61:fxk Tryz.prog 61=none:=by kernel_rfl
@[go_sem] theorem fnOk_61:fnOk Tryz.prog 61=true:=by kernel_rfl
@[go_sem] theorem fxk_62:fxk Tryz.prog 62=none:=by kernel_rfl
@[go_sem] theorem fnOk_62:fnOk Tryz.prog 62=true:=by kernel_rfl
@[go_sem] theorem fxk_63:fxk Tryz.prog 63=none:=by kernel_rfl
@[go_sem] theorem fnOk_63:fnOk Tryz.prog 63=true:=by kernel_rfl
@[go_sem] theorem fxk_64:fxk Tryz.prog 64=none:=by kernel_rfl
@[go_sem] theorem fnOk_64:fnOk Tryz.prog 64=true:=by kernel_rfl
@[go_sem] theorem fxk_68:fxk Tryz.prog 68=none:=by kernel_rfl
@[go_sem] theorem fnOk_68:fnOk Tryz.prog 68=true:=by kernel_rfl
@[go_sem] theorem fxk_70:fxk Tryz.prog 70=none:=by kernel_rfl
@[go_sem] theorem fnOk_70:fnOk Tryz.prog 70=true:=by kernel_rfl
@[go_sem] theorem fxk_71:fxk Tryz.prog 71=none:=by kernel_rfl
@[go_sem] theorem fnOk_71:fnOk Tryz.prog 71=true:=by kernel_rfl
@[go_sem] theorem fxk_72:fxk Tryz.prog 72=none:=by kernel_rfl
@[go_sem] theorem fnOk_72:fnOk Tryz.prog 72=true:=by kernel_rfl
@[go_sem] theorem fnOk_73:fnOk Tryz.prog 73=true:=by kernel_rfl
@[go_sem] theorem fxk_74:fxk Tryz.prog 74=none:=by kernel_rfl
@[go_sem] theorem fnOk_74:fnOk Tryz.prog 74=true:=by kernel_rfl
@[go_sem] theorem fxk_76:fxk Tryz.prog 76=none:=by kernel_rfl
@[go_sem] theorem fnOk_76:fnOk Tryz.prog 76=true:=by kernel_rfl
@[go_sem] theorem fxk_77:fxk Tryz.prog 77=none:=by kernel_rfl
@[go_sem] theorem fnOk_77:fnOk Tryz.prog 77=true:=by kernel_rfl
@[go_sem] theorem fxk_78:fxk Tryz.prog 78=none:=by kernel_rfl
@[go_sem] theorem fnOk_78:fnOk Tryz.prog 78=true:=by kernel_rfl
@[go_sem] theorem fxk_81:fxk Tryz.prog 81=none:=by kernel_rfl
@[go_sem] theorem fnOk_81:fnOk Tryz.prog 81=true:=by kernel_rfl
@[go_sem] theorem fxk_82:fxk Tryz.prog 82=none:=by kernel_rfl
@[go_sem] theorem fnOk_82:fnOk Tryz.prog 82=true:=by kernel_rfl
@[go_sem] theorem fxk_83:fxk Tryz.prog 83=none:=by kernel_rfl
@[go_sem] theorem fnOk_83:fnOk Tryz.prog 83=true:=by kernel_rfl
@[go_sem] theorem fxk_84:fxk Tryz.prog 84=none:=by kernel_rfl
@[go_sem] theorem fnOk_84:fnOk Tryz.prog 84=true:=by kernel_rfl
@[go_sem] theorem fxk_85:fxk Tryz.prog 85=none:=by kernel_rfl
@[go_sem] theorem fnOk_85:fnOk Tryz.prog 85=true:=by kernel_rfl
@[go_sem] theorem fxk_86:fxk Tryz.prog 86=none:=by kernel_rfl
@[go_sem] theorem fnOk_86:fnOk Tryz.prog 86=true:=by kernel_rfl
@[go_sem] theorem fxk_87:fxk Tryz.prog 87=none:=by kernel_rfl
@[go_sem] theorem fnOk_87:fnOk Tryz.prog 87=true:=by kernel_rfl
@[go_sem] theorem fxk_88:fxk Tryz.prog 88=none:=by kernel_rfl
@[go_sem] theorem fnOk_88:fnOk Tryz.prog 88=true:=by kernel_rfl
@[go_sem] theorem fxk_89:fxk Tryz.prog 89=none:=by kernel_rfl
@[go_sem] theorem fnOk_89:fnOk Tryz.prog 89=true:=by kernel_rfl
@[go_sem] theorem fxk_90:fxk Tryz.prog 90=none:=by kernel_rfl
@[go_sem] theorem fnOk_90:fnOk Tryz.prog 90=true:=by kernel_rfl
@[go_sem] theorem fxk_91:fxk Tryz.prog 91=none:=by kernel_rfl
@[go_sem] theorem fnOk_91:fnOk Tryz.prog 91=true:=by kernel_rfl
@[go_sem] theorem fxk_93:fxk Tryz.prog 93=none:=by kernel_rfl
@[go_sem] theorem fnOk_93:fnOk Tryz.prog 93=true:=by kernel_rfl
@[go_sem] theorem fxk_94:fxk Tryz.prog 94=none:=by kernel_rfl
@[go_sem] theorem fnOk_94:fnOk Tryz.prog 94=true:=by kernel_rfl
@[go_sem] theorem fxk_95:fxk Tryz.prog 95=none:=by kernel_rfl
@[go_sem] theorem fnOk_95:fnOk Tryz.prog 95=true:=by kernel_rfl
@[go_sem] theorem fxk_96:fxk Tryz.prog 96=none:=by kernel_rfl
@[go_sem] theorem fxk_98:fxk Tryz.prog 98=none:=by kernel_rfl
@[go_sem] theorem fnOk_98:fnOk Tryz.prog 98=true:=by kernel_rfl
@[go_sem] theorem fxk_99:fxk Tryz.prog 99=none:=by kernel_rfl
@[go_sem] theorem fnOk_99:fnOk Tryz.prog 99=true:=by kernel_rfl
@[go_sem] theorem fxk_100:fxk Tryz.prog 100=none:=by kernel_rfl
@[go_sem] theorem fnOk_100:fnOk Tryz.prog 100=true:=by kernel_rfl
@[go_sem] theorem fxk_105:fxk Tryz.prog 105=none:=by kernel_rfl
@[go_sem] theorem fnOk_105:fnOk Tryz.prog 105=true:=by kernel_rfl
@[go_sem] theorem fxk_106:fxk Tryz.prog 106=none:=by kernel_rfl
@[go_sem] theorem fnOk_106:fnOk Tryz.prog 106=true:=by kernel_rfl
@[go_sem] theorem fxk_107:fxk Tryz.prog 107=none:=by kernel_rfl
@[go_sem] theorem fnOk_107:fnOk Tryz.prog 107=true:=by kernel_rfl
@[go_sem] theorem fxk_108:fxk Tryz.prog 108=none:=by kernel_rfl
@[go_sem] theorem fnOk_108:fnOk Tryz.prog 108=true:=by kernel_rfl
@[go_sem] theorem fxk_109:fxk Tryz.prog 109=none:=by kernel_rfl
@[go_sem] theorem fnOk_109:fnOk Tryz.prog 109=true:=by kernel_rfl
@[go_sem] theorem fnOk_110:fnOk Tryz.prog 110=true:=by kernel_rfl
@[go_sem] theorem fnOk_111:fnOk Tryz.prog 111=true:=by kernel_rfl
@[go_sem] theorem fnOk_112:fnOk Tryz.prog 112=true:=by kernel_rfl
@[go_sem] theorem fnOk_113:fnOk Tryz.prog 113=true:=by kernel_rfl
@[go_sem] theorem fnOk_114:fnOk Tryz.prog 114=true:=by kernel_rfl
@[go_sem] theorem fxk_115:fxk Tryz.prog 115=none:=by kernel_rfl
@[go_sem] theorem fnOk_115:fnOk Tryz.prog 115=true:=by kernel_rfl
@[go_sem] theorem fxk_117:fxk Tryz.prog 117=none:=by kernel_rfl
@[go_sem] theorem fnOk_117:fnOk Tryz.prog 117=true:=by kernel_rfl
@[go_sem] theorem fnOk_118:fnOk Tryz.prog 118=true:=by kernel_rfl
@[go_sem] theorem fnOk_119:fnOk Tryz.prog 119=true:=by kernel_rfl
@[go_sem] theorem fxk_120:fxk Tryz.prog 120=none:=by kernel_rfl
@[go_sem] theorem fnOk_120:fnOk Tryz.prog 120=true:=by kernel_rfl
@[go_sem] theorem fnOk_121:fnOk Tryz.prog 121=true:=by kernel_rfl
@[go_sem] theorem fxk_122:fxk Tryz.prog 122=none:=by kernel_rfl
@[go_sem] theorem fnOk_122:fnOk Tryz.prog 122=true:=by kernel_rfl
@[go_sem] theorem fxk_123:fxk Tryz.prog 123=none:=by kernel_rfl
@[go_sem] theorem fnOk_123:fnOk Tryz.prog 123=true:=by kernel_rfl
@[go_sem] theorem fnOk_124:fnOk Tryz.prog 124=true:=by kernel_rfl
@[go_sem] theorem fxk_125:fxk Tryz.prog 125=none:=by kernel_rfl
@[go_sem] theorem fnOk_125:fnOk Tryz.prog 125=true:=by kernel_rfl
@[go_sem] theorem fxk_126:fxk Tryz.prog 126=none:=by kernel_rfl
@[go_sem] theorem fnOk_126:fnOk Tryz.prog 126=true:=by kernel_rfl
@[go_sem] theorem fxk_127:fxk Tryz.prog 127=none:=by kernel_rfl
@[go_sem] theorem fnOk_127:fnOk Tryz.prog 127=true:=by kernel_rfl
@[go_sem] theorem fnOk_128:fnOk Tryz.prog 128=true:=by kernel_rfl
@[go_sem] theorem fxk_129:fxk Tryz.prog 129=none:=by kernel_rfl
@[go_sem] theorem fnOk_129:fnOk Tryz.prog 129=true:=by kernel_rfl
@[go_sem] theorem fxk_132:fxk Tryz.prog 132=none:=by kernel_rfl
@[go_sem] theorem fnOk_132:fnOk Tryz.prog 132=true:=by kernel_rfl
@[go_sem] theorem fxk_133:fxk Tryz.prog 133=none:=by kernel_rfl
@[go_sem] theorem fnOk_133:fnOk Tryz.prog 133=true:=by kernel_rfl
theorem mixed:Tryz.prog.follows .mixedOrders=true:=by kernel_rfl
end Go.Proofs.HO
attribute [go_sem] Go.Proofs.Tryz.ntmps3 Go.Proofs.Tryz.results3 Go.Proofs.Tryz.ntmps4 Go.Proofs.Tryz.results4 Go.Proofs.Tryz.ntmps5 Go.Proofs.Tryz.results5 Go.Proofs.Tryz.ntmps6 Go.Proofs.Tryz.results6 Go.Proofs.Tryz.ntmps7 Go.Proofs.Tryz.results7 Go.Proofs.Tryz.ntmps8 Go.Proofs.Tryz.results8 Go.Proofs.Tryz.ntmps9 Go.Proofs.Tryz.results9 Go.Proofs.Tryz.ntmps10 Go.Proofs.Tryz.results10 Go.Proofs.Tryz.ntmps11 Go.Proofs.Tryz.results11 Go.Proofs.Tryz.ntmps12 Go.Proofs.Tryz.results12 Go.Proofs.Tryz.ntmps13 Go.Proofs.Tryz.results13 Go.Proofs.Tryz.ntmps14 Go.Proofs.Tryz.results14 Go.Proofs.Tryz.ntmps15 Go.Proofs.Tryz.results15 Go.Proofs.Tryz.ntmps16 Go.Proofs.Tryz.results16 Go.Proofs.Tryz.ntmps17 Go.Proofs.Tryz.results17 Go.Proofs.Tryz.ntmps18 Go.Proofs.Tryz.results18 Go.Proofs.Tryz.ntmps19 Go.Proofs.Tryz.results19 Go.Proofs.Tryz.ntmps20 Go.Proofs.Tryz.results20 Go.Proofs.Tryz.ntmps21 Go.Proofs.Tryz.results21 Go.Proofs.Tryz.ntmps22 Go.Proofs.Tryz.results22 Go.Proofs.Tryz.ntmps23 Go.Proofs.Tryz.results23 Go.Proofs.Tryz.ntmps24 Go.Proofs.Tryz.results24 Go.Proofs.Tryz.ntmps25 Go.Proofs.Tryz.results25 Go.Proofs.Tryz.ntmps26 Go.Proofs.Tryz.results26 Go.Proofs.Tryz.ntmps27 Go.Proofs.Tryz.results27 Go.Proofs.Tryz.ntmps28 Go.Proofs.Tryz.results28 Go.Proofs.Tryz.ntmps29 Go.Proofs.Tryz.results29 Go.Proofs.Tryz.ntmps30 Go.Proofs.Tryz.results30 Go.Proofs.Tryz.ntmps31 Go.Proofs.Tryz.results31 Go.Proofs.Tryz.ntmps32 Go.Proofs.Tryz.results32 Go.Proofs.Tryz.ntmps33 Go.Proofs.Tryz.results33 Go.Proofs.Tryz.ntmps34 Go.Proofs.Tryz.results34 Go.Proofs.Tryz.ntmps35 Go.Proofs.Tryz.results35 Go.Proofs.Tryz.ntmps36 Go.Proofs.Tryz.results36 Go.Proofs.Tryz.ntmps37 Go.Proofs.Tryz.results37 Go.Proofs.Tryz.ntmps38 Go.Proofs.Tryz.results38 Go.Proofs.Tryz.ntmps39 Go.Proofs.Tryz.results39 Go.Proofs.Tryz.ntmps40 Go.Proofs.Tryz.results40 Go.Proofs.Tryz.ntmps41 Go.Proofs.Tryz.results41 Go.Proofs.Tryz.ntmps42 Go.Proofs.Tryz.results42 Go.Proofs.Tryz.ntmps43 Go.Proofs.Tryz.results43 Go.Proofs.Tryz.ntmps44 Go.Proofs.Tryz.results44 Go.Proofs.Tryz.ntmps45 Go.Proofs.Tryz.results45 Go.Proofs.Tryz.ntmps46 Go.Proofs.Tryz.results46 Go.Proofs.Tryz.ntmps47 Go.Proofs.Tryz.results47 Go.Proofs.Tryz.ntmps48 Go.Proofs.Tryz.results48 Go.Proofs.Tryz.ntmps49 Go.Proofs.Tryz.results49 Go.Proofs.Tryz.ntmps50 Go.Proofs.Tryz.results50 Go.Proofs.Tryz.ntmps51 Go.Proofs.Tryz.results51 Go.Proofs.Tryz.ntmps52 Go.Proofs.Tryz.results52 Go.Proofs.Tryz.ntmps53 Go.Proofs.Tryz.results53 Go.Proofs.Tryz.ntmps54 Go.Proofs.Tryz.results54 Go.Proofs.Tryz.ntmps55 Go.Proofs.Tryz.results55 Go.Proofs.Tryz.ntmps56 Go.Proofs.Tryz.results56 Go.Proofs.Tryz.ntmps57 Go.Proofs.Tryz.results57 Go.Proofs.Tryz.ntmps58 Go.Proofs.Tryz.results58 Go.Proofs.Tryz.ntmps59 Go.Proofs.Tryz.results59 Go.Proofs.Tryz.ntmps60 Go.Proofs.Tryz.results60 Go.Proofs.Tryz.ntmps61 Go.Proofs.Tryz.results61 Go.Proofs.Tryz.ntmps62 Go.Proofs.Tryz.results62 Go.Proofs.Tryz.ntmps63 Go.Proofs.Tryz.results63 Go.Proofs.Tryz.ntmps64 Go.Proofs.Tryz.results64 Go.Proofs.Tryz.ntmps65 Go.Proofs.Tryz.results65 Go.Proofs.Tryz.ntmps66 Go.Proofs.Tryz.results66 Go.Proofs.Tryz.ntmps67 Go.Proofs.Tryz.results67 Go.Proofs.Tryz.ntmps68 Go.Proofs.Tryz.results68 Go.Proofs.Tryz.ntmps69 Go.Proofs.Tryz.results69 Go.Proofs.Tryz.ntmps70 Go.Proofs.Tryz.results70 Go.Proofs.Tryz.ntmps71 Go.Proofs.Tryz.results71 Go.Proofs.Tryz.ntmps72 Go.Proofs.Tryz.results72 Go.Proofs.Tryz.ntmps73 Go.Proofs.Tryz.results73 Go.Proofs.Tryz.ntmps74 Go.Proofs.Tryz.results74 Go.Proofs.Tryz.ntmps75 Go.Proofs.Tryz.results75 Go.Proofs.Tryz.ntmps76 Go.Proofs.Tryz.results76 Go.Proofs.Tryz.ntmps77 Go.Proofs.Tryz.results77 Go.Proofs.Tryz.ntmps78 Go.Proofs.Tryz.results78 Go.Proofs.Tryz.ntmps79 Go.Proofs.Tryz.results79 Go.Proofs.Tryz.ntmps80 Go.Proofs.Tryz.results80 Go.Proofs.Tryz.ntmps81 Go.Proofs.Tryz.results81 Go.Proofs.Tryz.ntmps82 Go.Proofs.Tryz.results82 Go.Proofs.Tryz.ntmps83 Go.Proofs.Tryz.results83 Go.Proofs.Tryz.ntmps84 Go.Proofs.Tryz.results84 Go.Proofs.Tryz.ntmps85 Go.Proofs.Tryz.results85 Go.Proofs.Tryz.ntmps86 Go.Proofs.Tryz.results86 Go.Proofs.Tryz.ntmps87 Go.Proofs.Tryz.results87 Go.Proofs.Tryz.ntmps88 Go.Proofs.Tryz.results88 Go.Proofs.Tryz.ntmps89 Go.Proofs.Tryz.results89 Go.Proofs.Tryz.ntmps90 Go.Proofs.Tryz.results90 Go.Proofs.Tryz.ntmps91 Go.Proofs.Tryz.results91 Go.Proofs.Tryz.ntmps92 Go.Proofs.Tryz.results92 Go.Proofs.Tryz.ntmps93 Go.Proofs.Tryz.results93 Go.Proofs.Tryz.ntmps94 Go.Proofs.Tryz.results94 Go.Proofs.Tryz.ntmps95 Go.Proofs.Tryz.results95 Go.Proofs.Tryz.ntmps96 Go.Proofs.Tryz.results96 Go.Proofs.Tryz.ntmps97 Go.Proofs.Tryz.results97 Go.Proofs.Tryz.ntmps98 Go.Proofs.Tryz.results98 Go.Proofs.Tryz.ntmps99 Go.Proofs.Tryz.results99 Go.Proofs.Tryz.ntmps100 Go.Proofs.Tryz.results100 Go.Proofs.Tryz.ntmps101 Go.Proofs.Tryz.results101 Go.Proofs.Tryz.ntmps102 Go.Proofs.Tryz.results102 Go.Proofs.Tryz.ntmps103 Go.Proofs.Tryz.results103 Go.Proofs.Tryz.ntmps104 Go.Proofs.Tryz.results104 Go.Proofs.Tryz.ntmps105 Go.Proofs.Tryz.results105 Go.Proofs.Tryz.ntmps106 Go.Proofs.Tryz.results106 Go.Proofs.Tryz.ntmps107 Go.Proofs.Tryz.results107 Go.Proofs.Tryz.ntmps108 Go.Proofs.Tryz.results108 Go.Proofs.Tryz.ntmps109 Go.Proofs.Tryz.results109 Go.Proofs.Tryz.ntmps110 Go.Proofs.Tryz.results110 Go.Proofs.Tryz.ntmps111 Go.Proofs.Tryz.results111 Go.Proofs.Tryz.ntmps112 Go.Proofs.Tryz.results112 Go.Proofs.Tryz.ntmps113 Go.Proofs.Tryz.results113 Go.Proofs.Tryz.ntmps114 Go.Proofs.Tryz.results114 Go.Proofs.Tryz.ntmps115 Go.Proofs.Tryz.results115 Go.Proofs.Tryz.ntmps116 Go.Proofs.Tryz.results116 Go.Proofs.Tryz.ntmps117 Go.Proofs.Tryz.results117 Go.Proofs.Tryz.ntmps118 Go.Proofs.Tryz.results118 Go.Proofs.Tryz.ntmps119 Go.Proofs.Tryz.results119 Go.Proofs.Tryz.ntmps120 Go.Proofs.Tryz.results120 Go.Proofs.Tryz.ntmps121 Go.Proofs.Tryz.results121 Go.Proofs.Tryz.ntmps122 Go.Proofs.Tryz.results122 Go.Proofs.Tryz.ntmps123 Go.Proofs.Tryz.results123 Go.Proofs.Tryz.ntmps124 Go.Proofs.Tryz.results124 Go.Proofs.Tryz.ntmps125 Go.Proofs.Tryz.results125 Go.Proofs.Tryz.ntmps126 Go.Proofs.Tryz.results126 Go.Proofs.Tryz.ntmps127 Go.Proofs.Tryz.results127 Go.Proofs.Tryz.ntmps128 Go.Proofs.Tryz.results128 Go.Proofs.Tryz.ntmps129 Go.Proofs.Tryz.results129 Go.Proofs.Tryz.ntmps130 Go.Proofs.Tryz.results130 Go.Proofs.Tryz.ntmps131 Go.Proofs.Tryz.results131 Go.Proofs.Tryz.ntmps132 Go.Proofs.Tryz.results132 Go.Proofs.Tryz.ntmps133 Go.Proofs.Tryz.results133
namespace Go.Idl
theorem zW {p q:Prop} (hq:q) (h:p=q:=by(simp (maxSteps:=2000000) only [go_sem,↓reduceIte,↓reduceDIte,reduceCtorEq,Nat.reducePow,Nat.reduceEqDiff,Nat.reduceAdd,Nat.reduceSub,Nat.reduceMul,Nat.reduceMod,Nat.reduceLeDiff,Nat.reduceLT,Nat.reduceBEq,Nat.reduceBNe,Int.reduceLT,Int.reduceLE,Int.reduceToNat,Int.reduceNeg,Int.reduceAdd,Int.reduceSub,Int.reduceMul,Int.reduceBEq,Int.reduceBNe,Int.reduceEq];rfl)):p:=h.mpr hq
theorem zO {p q:Prop} (hq:q) (h:p=q:=by(simp (maxSteps:=2000000) (disch:=omega) only [go_sem,↓reduceIte,↓reduceDIte,reduceCtorEq,Nat.reducePow,Nat.reduceEqDiff,Nat.reduceAdd,Nat.reduceSub,Nat.reduceMul,Nat.reduceMod,Nat.reduceLeDiff,Nat.reduceLT,Nat.reduceBEq,Nat.reduceBNe,Int.reduceLT,Int.reduceLE,Int.reduceToNat,Int.reduceNeg,Int.reduceAdd,Int.reduceSub,Int.reduceMul,Int.reduceBEq,Int.reduceBNe,Int.reduceEq,if_pos,if_neg,w64,beqT,beqF,bneT,bneF,pr_get,ir_get,decide_eq_true,decide_eq_false];rfl)):p:=h.mpr hq
theorem zT {p:Prop} (h:p:=by simp (maxSteps:=2000000) only [go_sem,↓reduceIte,↓reduceDIte,reduceCtorEq,Nat.reducePow,Nat.reduceEqDiff,Nat.reduceAdd,Nat.reduceSub,Nat.reduceMul,Nat.reduceMod,Nat.reduceLeDiff,Nat.reduceLT,Nat.reduceBEq,Nat.reduceBNe,Int.reduceLT,Int.reduceLE,Int.reduceToNat,Int.reduceNeg,Int.reduceAdd,Int.reduceSub,Int.reduceMul,Int.reduceBEq,Int.reduceBNe,Int.reduceEq]):p:=h
theorem zU {p:Prop} (h:p:=by simp (maxSteps:=2000000) (disch:=omega) only [go_sem,↓reduceIte,↓reduceDIte,reduceCtorEq,Nat.reducePow,Nat.reduceEqDiff,Nat.reduceAdd,Nat.reduceSub,Nat.reduceMul,Nat.reduceMod,Nat.reduceLeDiff,Nat.reduceLT,Nat.reduceBEq,Nat.reduceBNe,Int.reduceLT,Int.reduceLE,Int.reduceToNat,Int.reduceNeg,Int.reduceAdd,Int.reduceSub,Int.reduceMul,Int.reduceBEq,Int.reduceBNe,Int.reduceEq,if_pos,if_neg,w64,beqT,beqF,bneT,bneF,pr_get,ir_get,decide_eq_true,decide_eq_false]):p:=h
theorem zB {p:Prop} (h:p:=by first | trivial | (simp (maxSteps:=2000000) only [go_sem,↓reduceIte,↓reduceDIte,reduceCtorEq,Nat.reducePow,Nat.reduceEqDiff,Nat.reduceAdd,Nat.reduceSub,Nat.reduceMul,Nat.reduceMod,Nat.reduceLeDiff,Nat.reduceLT,Nat.reduceBEq,Nat.reduceBNe,Int.reduceLT,Int.reduceLE,Int.reduceToNat,Int.reduceNeg,Int.reduceAdd,Int.reduceSub,Int.reduceMul,Int.reduceBEq,Int.reduceBNe,Int.reduceEq];done) | (split<;>simp (maxSteps:=2000000) only [go_sem,↓reduceIte,↓reduceDIte,reduceCtorEq,Nat.reducePow,Nat.reduceEqDiff,Nat.reduceAdd,Nat.reduceSub,Nat.reduceMul,Nat.reduceMod,Nat.reduceLeDiff,Nat.reduceLT,Nat.reduceBEq,Nat.reduceBNe,Int.reduceLT,Int.reduceLE,Int.reduceToNat,Int.reduceNeg,Int.reduceAdd,Int.reduceSub,Int.reduceMul,Int.reduceBEq,Int.reduceBNe,Int.reduceEq])):p:=h
theorem zC {p:Prop} (h:p:=by first | trivial | (simp (maxSteps:=2000000) only [go_sem,↓reduceIte,↓reduceDIte,reduceCtorEq,Nat.reducePow,Nat.reduceEqDiff,Nat.reduceAdd,Nat.reduceSub,Nat.reduceMul,Nat.reduceMod,Nat.reduceLeDiff,Nat.reduceLT,Nat.reduceBEq,Nat.reduceBNe,Int.reduceLT,Int.reduceLE,Int.reduceToNat,Int.reduceNeg,Int.reduceAdd,Int.reduceSub,Int.reduceMul,Int.reduceBEq,Int.reduceBNe,Int.reduceEq];done) | (simp (maxSteps:=2000000) (disch:=omega) only [go_sem,↓reduceIte,↓reduceDIte,reduceCtorEq,Nat.reducePow,Nat.reduceEqDiff,Nat.reduceAdd,Nat.reduceSub,Nat.reduceMul,Nat.reduceMod,Nat.reduceLeDiff,Nat.reduceLT,Nat.reduceBEq,Nat.reduceBNe,Int.reduceLT,Int.reduceLE,Int.reduceToNat,Int.reduceNeg,Int.reduceAdd,Int.reduceSub,Int.reduceMul,Int.reduceBEq,Int.reduceBNe,Int.reduceEq,if_pos,if_neg,w64,beqT,beqF,bneT,bneF,pr_get,ir_get,decide_eq_true,decide_eq_false];done) | (split<;>simp (maxSteps:=2000000) (disch:=omega) only [go_sem,↓reduceIte,↓reduceDIte,reduceCtorEq,Nat.reducePow,Nat.reduceEqDiff,Nat.reduceAdd,Nat.reduceSub,Nat.reduceMul,Nat.reduceMod,Nat.reduceLeDiff,Nat.reduceLT,Nat.reduceBEq,Nat.reduceBNe,Int.reduceLT,Int.reduceLE,Int.reduceToNat,Int.reduceNeg,Int.reduceAdd,Int.reduceSub,Int.reduceMul,Int.reduceBEq,Int.reduceBNe,Int.reduceEq,if_pos,if_neg,w64,beqT,beqF,bneT,bneF,pr_get,ir_get,decide_eq_true,decide_eq_false])):p:=h
theorem zD.{u}:(∀ {c:Prop} {h:Decidable c},c→ ∀ {α:Sort u} {t e:α},(if c then t else e)=t)∧(∀ {c:Prop} {h:Decidable c},¬c→ ∀ {α:Sort u} {t e:α},(if c then t else e)=e):=⟨@if_pos, @if_neg⟩
theorem zE:(∀ {n:Int}, -9223372036854775808≤n∧n≤9223372036854775807→Go.IntKind.i64.wrap n=n)∧(∀ {x y:Int},x=y→(x==y)=true)∧(∀ {x y:Int},¬x=y→(x==y)=false)∧(∀ {x y:Int},¬x=y→(x != y)=true)∧(∀ {x y:Int},x=y→(x != y)=false)∧
 (∀ {α:Type} {f:α→List PV} {l:List α} {i:Nat} (h:i < l.length),(pr f l)[i]? =some (f l[i]))∧(∀ {α:Type} {f:α→List PV} {l:List α} {i:Nat} (h:i < l.length),(ir f l)[i]? =some (List.map IV.p (f l[i])))∧
 (∀ {p:Prop} [inst:Decidable p],p→decide p=true)∧(∀ {p:Prop} [inst:Decidable p],¬p→decide p=false):=⟨@w64, @beqT, @beqF, @bneT, @bneF, @pr_get, @ir_get, @decide_eq_true, @decide_eq_false⟩
theorem zL {p:Prop} (h:p:=by first | exact Nat.zero_le _ | exact Nat.le_refl _ | omega | exact Nat.le_of_ble_eq_true rfl):p:=h
end Go.Idl
