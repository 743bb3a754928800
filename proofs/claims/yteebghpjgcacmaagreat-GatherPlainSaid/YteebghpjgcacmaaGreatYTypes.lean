/- Facts that the proofs of this claim lean on. -/
import Derived.Test.YteebghpjgcacmaaGreatIdNl
import Derived.Test.YteebghpjgcacmaaGreatProg
set_option linter.unusedSimpArgs false
set_option linter.unusedVariables false
namespace Go.Proofs.GY
open Go Go.Idl Go.Proofs
@[go_sem] theorem zf0:tsz Tryz.prog 3=some 1∧tby Tryz.prog 3=some 8∧tze Tryz.prog 3=some [.int .i64 0]∧tag Tryz.prog 3=some false∧tcs Tryz.prog 3= []∧tkey Tryz.prog 3=some (false, [(.int .i64)])∧tkd Tryz.prog 3=some (.int .i64)∧tsz Tryz.prog 4=some 1:=by and_intros<;>kernel_rfl
@[go_sem] theorem zf1:tag Tryz.prog 4=some false∧tcs Tryz.prog 4= []∧tsz Tryz.prog 22=some 1∧tag Tryz.prog 22=some false∧tel Tryz.prog 22=some 133∧tkd Tryz.prog 22=some (.slice 133)∧tsz Tryz.prog 24=some 2∧tze Tryz.prog 24=some [.int .i64 0, .slice none 0 0]:=by and_intros<;>kernel_rfl
@[go_sem] theorem zf2:tag Tryz.prog 24=some true∧tfo Tryz.prog 24 0=some (0,3)∧tfo Tryz.prog 24 1=some (1,22)∧tcs Tryz.prog 24= [(1,2)]∧tsz Tryz.prog 25=some 1∧tag Tryz.prog 25=some false∧tel Tryz.prog 25=some 110∧tcs Tryz.prog 25= [(0,2)]:=by and_intros<;>kernel_rfl
@[go_sem] theorem zf3:tkd Tryz.prog 25=some (.slice 110)∧tsz Tryz.prog 27=some 4∧tze Tryz.prog 27=some [.int .i64 0, .slice none 0 0, .slice none 0 0, .bool false]∧tag Tryz.prog 27=some true∧tar Tryz.prog 27=none∧tfo Tryz.prog 27 0=some (0,24)∧tfo Tryz.prog 27 1=some (2,25)∧tfo Tryz.prog 27 2=some (3,4):=by and_intros<;>kernel_rfl
@[go_sem] theorem zf4:tpl Tryz.prog 27=some [(0,2),(2,1),(3,1)]∧tcs Tryz.prog 27= [(1,2),(2,2)]∧tel Tryz.prog 28=some 68∧tcs Tryz.prog 28= [(0,6)]∧tkd Tryz.prog 28=some (.slice 68)∧tsz Tryz.prog 31=some 2∧tze Tryz.prog 31=some [.int .i64 0, .slice none 0 0]∧tag Tryz.prog 31=some true:=by and_intros<;>kernel_rfl
@[go_sem] theorem zf5:tar Tryz.prog 31=none∧tfo Tryz.prog 31 0=some (0,3)∧tfo Tryz.prog 31 1=some (1,22)∧tpl Tryz.prog 31=some [(0,1),(1,1)]∧tcs Tryz.prog 31= [(1,2)]∧tsz Tryz.prog 32=some 1∧tag Tryz.prog 32=some false∧tel Tryz.prog 32=some 115:=by and_intros<;>kernel_rfl
@[go_sem] theorem zf6:tcs Tryz.prog 32= [(0,2)]∧tkd Tryz.prog 32=some (.slice 115)∧tsz Tryz.prog 34=some 4∧tze Tryz.prog 34=some [.int .i64 0, .slice none 0 0, .slice none 0 0, .bool false]∧tag Tryz.prog 34=some true∧tar Tryz.prog 34=none∧tfo Tryz.prog 34 0=some (0,31)∧tfo Tryz.prog 34 1=some (2,32):=by and_intros<;>kernel_rfl
@[go_sem] theorem zf7:tpl Tryz.prog 34=some [(0,2),(2,1),(3,1)]∧tcs Tryz.prog 34= [(1,2),(2,2)]∧tsz Tryz.prog 38=some 1∧tze Tryz.prog 38=some [.int .i64 0]∧tag Tryz.prog 38=some false∧tsz Tryz.prog 47=some 1∧tby Tryz.prog 47=some 24∧tze Tryz.prog 47=some [.slice none 0 0]:=by and_intros<;>kernel_rfl
@[go_sem] theorem zf8:tag Tryz.prog 47=some false∧tel Tryz.prog 47=some 3∧tar Tryz.prog 47=none∧tcs Tryz.prog 47= [(0,1)]∧tkd Tryz.prog 47=some (.slice 3)∧tsz Tryz.prog 52=some 1∧tag Tryz.prog 52=some false∧tel Tryz.prog 52=some 69:=by and_intros<;>kernel_rfl
@[go_sem] theorem zf9:tcs Tryz.prog 52= [(0,1)]∧tkd Tryz.prog 52=some (.slice 69)∧tsz Tryz.prog 54=some 3∧tze Tryz.prog 54=some [.slice none 0 0, .slice none 0 0, .slice none 0 0]∧tag Tryz.prog 54=some true∧tar Tryz.prog 54=none∧tfo Tryz.prog 54 0=some (0,47)∧tfo Tryz.prog 54 1=some (1,52):=by and_intros<;>kernel_rfl
@[go_sem] theorem zf10:tfo Tryz.prog 54 2=some (2,47)∧tpl Tryz.prog 54=some [(0,1),(1,1),(2,1)]∧tcs Tryz.prog 54= [(0,1),(1,1),(2,1)]∧tsz Tryz.prog 57=some 3∧tze Tryz.prog 57=some [.slice none 0 0, .slice none 0 0, .slice none 0 0]∧tag Tryz.prog 57=some true∧tar Tryz.prog 57=none∧tfo Tryz.prog 57 0=some (0,47):=by and_intros<;>kernel_rfl
@[go_sem] theorem zf11:tfo Tryz.prog 57 1=some (1,52)∧tfo Tryz.prog 57 2=some (2,47)∧tpl Tryz.prog 57=some [(0,1),(1,1),(2,1)]∧tcs Tryz.prog 57= [(0,1),(1,1),(2,1)]∧tsz Tryz.prog 66=some 1∧tag Tryz.prog 66=some false∧tel Tryz.prog 66=some 47∧tcs Tryz.prog 66= [(0,1)]:=by and_intros<;>kernel_rfl
@[go_sem] theorem zf12:tkd Tryz.prog 66=some (.slice 47)∧tsz Tryz.prog 68=some 6∧tby Tryz.prog 68=some 96∧tze Tryz.prog 68=some [.int .i64 0, .int .i64 0, .int .i64 0, .slice none 0 0, .slice none 0 0, .slice none 0 0]∧tag Tryz.prog 68=some true∧tar Tryz.prog 68=none∧tfo Tryz.prog 68 0=some (0,3)∧tfo Tryz.prog 68 1=some (1,3):=by and_intros<;>kernel_rfl
@[go_sem] theorem zf13:tfo Tryz.prog 68 2=some (2,3)∧tfo Tryz.prog 68 3=some (3,47)∧tfo Tryz.prog 68 4=some (4,52)∧tfo Tryz.prog 68 5=some (5,66)∧tpl Tryz.prog 68=some [(0,1),(1,1),(2,1),(3,1),(4,1),(5,1)]∧tcs Tryz.prog 68= [(3,1),(4,1),(5,1)]∧tsz Tryz.prog 69=some 1∧tby Tryz.prog 69=some 24:=by and_intros<;>kernel_rfl
@[go_sem] theorem zf14:tze Tryz.prog 69=some [.slice none 0 0]∧tag Tryz.prog 69=some false∧tel Tryz.prog 69=some 72∧tcs Tryz.prog 69= [(0,2)]∧tkd Tryz.prog 69=some (.slice 72)∧tsz Tryz.prog 72=some 2∧tby Tryz.prog 72=some 16∧tze Tryz.prog 72=some [.int .i64 0, .int .i64 0]:=by and_intros<;>kernel_rfl
@[go_sem] theorem zf15:tag Tryz.prog 72=some true∧tar Tryz.prog 72=none∧tfo Tryz.prog 72 0=some (0,3)∧tfo Tryz.prog 72 1=some (1,3)∧tpl Tryz.prog 72=some [(0,1),(1,1)]∧tcs Tryz.prog 72= []∧teq Tryz.prog 72=some [(.int .i64),(.int .i64)]∧tel Tryz.prog 74=some 82:=by and_intros<;>kernel_rfl
@[go_sem] theorem zf16:tkd Tryz.prog 74=some (.slice 82)∧tel Tryz.prog 76=some 78∧tkd Tryz.prog 76=some (.slice 78)∧tsz Tryz.prog 78=some 5∧tby Tryz.prog 78=some 72∧tze Tryz.prog 78=some [.int .i64 0, .int .i64 0, .int .i64 0, .slice none 0 0, .slice none 0 0]∧tag Tryz.prog 78=some true∧tar Tryz.prog 78=none:=by and_intros<;>kernel_rfl
@[go_sem] theorem zf17:tfo Tryz.prog 78 0=some (0,3)∧tfo Tryz.prog 78 1=some (1,3)∧tfo Tryz.prog 78 2=some (2,3)∧tfo Tryz.prog 78 3=some (3,52)∧tfo Tryz.prog 78 4=some (4,66)∧tpl Tryz.prog 78=some [(0,1),(1,1),(2,1),(3,1),(4,1)]∧tcs Tryz.prog 78= [(3,1),(4,1)]∧tsz Tryz.prog 82=some 5:=by and_intros<;>kernel_rfl
@[go_sem] theorem zf18:tag Tryz.prog 82=some true∧tfo Tryz.prog 82 0=some (0,3)∧tfo Tryz.prog 82 1=some (1,3)∧tfo Tryz.prog 82 2=some (2,3)∧tfo Tryz.prog 82 3=some (3,3)∧tfo Tryz.prog 82 4=some (4,3)∧tcs Tryz.prog 82= []∧tsz Tryz.prog 85=some 5:=by and_intros<;>kernel_rfl
@[go_sem] theorem zf19:tze Tryz.prog 85=some [.int .i64 0, .int .i64 0, .int .i64 0, .int .i64 0, .int .i64 0]∧tag Tryz.prog 85=some true∧tar Tryz.prog 85=none∧tfo Tryz.prog 85 0=some (0,3)∧tfo Tryz.prog 85 1=some (1,3)∧tfo Tryz.prog 85 3=some (3,3)∧tpl Tryz.prog 85=some [(0,1),(1,1),(2,1),(3,1),(4,1)]∧tcs Tryz.prog 85= []:=by and_intros<;>kernel_rfl
@[go_sem] theorem zf20:tel Tryz.prog 87=some 153∧tkd Tryz.prog 87=some (.slice 153)∧tsz Tryz.prog 108=some 1∧tag Tryz.prog 108=some false∧tel Tryz.prog 108=some 163∧tkd Tryz.prog 108=some (.slice 163)∧tsz Tryz.prog 110=some 2∧tby Tryz.prog 110=some 32:=by and_intros<;>kernel_rfl
@[go_sem] theorem zf21:tze Tryz.prog 110=some [.int .i64 0, .slice none 0 0]∧tag Tryz.prog 110=some true∧tar Tryz.prog 110=none∧tfo Tryz.prog 110 0=some (0,3)∧tfo Tryz.prog 110 1=some (1,108)∧tpl Tryz.prog 110=some [(0,1),(1,1)]∧tsz Tryz.prog 113=some 1∧tag Tryz.prog 113=some false:=by and_intros<;>kernel_rfl
@[go_sem] theorem zf22:tel Tryz.prog 113=some 122∧tkd Tryz.prog 113=some (.slice 122)∧tsz Tryz.prog 115=some 2∧tby Tryz.prog 115=some 32∧tze Tryz.prog 115=some [.int .i64 0, .slice none 0 0]∧tag Tryz.prog 115=some true∧tar Tryz.prog 115=none∧tfo Tryz.prog 115 0=some (0,3):=by and_intros<;>kernel_rfl
@[go_sem] theorem zf23:tfo Tryz.prog 115 1=some (1,113)∧tpl Tryz.prog 115=some [(0,1),(1,1)]∧tcs Tryz.prog 115= [(1,4)]∧tcs Tryz.prog 117= []∧tsz Tryz.prog 119=some 1∧tag Tryz.prog 119=some false∧tel Tryz.prog 119=some 183∧tkd Tryz.prog 119=some (.slice 183):=by and_intros<;>kernel_rfl
@[go_sem] theorem zf24:tsz Tryz.prog 120=some 1∧tag Tryz.prog 120=some false∧tel Tryz.prog 120=some 186∧tkd Tryz.prog 120=some (.slice 186)∧tsz Tryz.prog 122=some 4∧tby Tryz.prog 122=some 80∧tze Tryz.prog 122=some [.int .i64 0, .slice none 0 0, .slice none 0 0, .slice none 0 0]∧tag Tryz.prog 122=some true:=by and_intros<;>kernel_rfl
@[go_sem] theorem zf25:tar Tryz.prog 122=none∧tfo Tryz.prog 122 0=some (0,3)∧tfo Tryz.prog 122 1=some (1,47)∧tfo Tryz.prog 122 2=some (2,119)∧tfo Tryz.prog 122 3=some (3,120)∧tpl Tryz.prog 122=some [(0,1),(1,1),(2,1),(3,1)]∧tcs Tryz.prog 122= [(1,1),(2,2),(3,3)]∧tsz Tryz.prog 128=some 0:=by and_intros<;>kernel_rfl
@[go_sem] theorem zf26:tze Tryz.prog 128=some []∧tar Tryz.prog 128=none∧tpl Tryz.prog 128=some []∧tkd Tryz.prog 128=some .other∧tsz Tryz.prog 133=some 2∧tze Tryz.prog 133=some [.int .i64 0, .int .i64 0]∧tag Tryz.prog 133=some true∧tar Tryz.prog 133=some (2,3):=by and_intros<;>kernel_rfl
@[go_sem] theorem zf27:tpl Tryz.prog 133=none∧tcs Tryz.prog 133= []∧teq Tryz.prog 133=some [(.int .i64),(.int .i64)]∧tkey Tryz.prog 133=some (true, [(.int .i64),(.int .i64)])∧tmp Tryz.prog 141=some (3,80)∧tsz Tryz.prog 143=some 1∧tag Tryz.prog 143=some false∧tel Tryz.prog 143=some 150:=by and_intros<;>kernel_rfl
@[go_sem] theorem zf28:tcs Tryz.prog 143= [(0,2)]∧tkd Tryz.prog 143=some (.slice 150)∧tsz Tryz.prog 145=some 2∧tby Tryz.prog 145=some 32∧tze Tryz.prog 145=some [.int .i64 0, .slice none 0 0]∧tag Tryz.prog 145=some true∧tar Tryz.prog 145=none∧tfo Tryz.prog 145 0=some (0,3):=by and_intros<;>kernel_rfl
@[go_sem] theorem zf29:tfo Tryz.prog 145 1=some (1,143)∧tpl Tryz.prog 145=some [(0,1),(1,1)]∧tsz Tryz.prog 150=some 2∧tby Tryz.prog 150=some 16∧tze Tryz.prog 150=some [.int .i64 0, .int .i64 0]∧tag Tryz.prog 150=some true∧tfo Tryz.prog 150 0=some (0,3)∧tfo Tryz.prog 150 1=some (1,3):=by and_intros<;>kernel_rfl
@[go_sem] theorem zf30:tcs Tryz.prog 150= []∧tsz Tryz.prog 153=some 3∧tby Tryz.prog 153=some 24∧tze Tryz.prog 153=some [.int .i64 0, .int .i64 0, .int .i64 0]∧tar Tryz.prog 153=none∧tpl Tryz.prog 153=some [(0,1),(1,2)]∧tcs Tryz.prog 156= []∧tsz Tryz.prog 160=some 1:=by and_intros<;>kernel_rfl
@[go_sem] theorem zf31:tag Tryz.prog 160=some false∧tel Tryz.prog 160=some 145∧tkd Tryz.prog 160=some (.slice 145)∧tsz Tryz.prog 161=some 1∧tag Tryz.prog 161=some false∧tel Tryz.prog 161=some 189∧tcs Tryz.prog 161= [(0,3)]∧tkd Tryz.prog 161=some (.slice 189):=by and_intros<;>kernel_rfl
@[go_sem] theorem zf32:tsz Tryz.prog 163=some 4∧tby Tryz.prog 163=some 80∧tze Tryz.prog 163=some [.int .i64 0, .slice none 0 0, .slice none 0 0, .slice none 0 0]∧tag Tryz.prog 163=some true∧tar Tryz.prog 163=none∧tfo Tryz.prog 163 0=some (0,3)∧tfo Tryz.prog 163 1=some (1,47)∧tfo Tryz.prog 163 2=some (2,160):=by and_intros<;>kernel_rfl
@[go_sem] theorem zf33:tfo Tryz.prog 163 3=some (3,161)∧tpl Tryz.prog 163=some [(0,1),(1,1),(2,1),(3,1)]∧tcs Tryz.prog 163= [(1,1),(2,2),(3,3)]∧tcs Tryz.prog 172= []∧tsz Tryz.prog 175=some 9∧tze Tryz.prog 175=some [.int .i64 0, .slice none 0 0, .slice none 0 0, .slice none 0 0, .int .i64 0, .int .i64 0, .slice none 0 0, .int .i64 0, .slice none 0 0]∧tag Tryz.prog 175=some true∧tar Tryz.prog 175=none:=by and_intros<;>kernel_rfl
@[go_sem] theorem zf34:tfo Tryz.prog 175 0=some (0,163)∧tfo Tryz.prog 175 1=some (4,3)∧tfo Tryz.prog 175 2=some (5,110)∧tfo Tryz.prog 175 3=some (7,24)∧tpl Tryz.prog 175=some [(0,4),(4,1),(5,2),(7,2)]∧tcs Tryz.prog 175= [(1,1),(2,2),(3,3),(6,4),(8,2)]∧tsz Tryz.prog 181=some 1∧tag Tryz.prog 181=some false:=by and_intros<;>kernel_rfl
@[go_sem] theorem zf35:tel Tryz.prog 181=some 184∧tkd Tryz.prog 181=some (.slice 184)∧tsz Tryz.prog 183=some 2∧tby Tryz.prog 183=some 32∧tze Tryz.prog 183=some [.int .i64 0, .slice none 0 0]∧tag Tryz.prog 183=some true∧tar Tryz.prog 183=none∧tfo Tryz.prog 183 0=some (0,3):=by and_intros<;>kernel_rfl
@[go_sem] theorem zf36:tfo Tryz.prog 183 1=some (1,181)∧tpl Tryz.prog 183=some [(0,1),(1,1)]∧tsz Tryz.prog 184=some 2∧tby Tryz.prog 184=some 16∧tze Tryz.prog 184=some [.int .i64 0, .int .i64 0]∧tar Tryz.prog 184=none∧tfo Tryz.prog 184 0=some (0,3)∧tfo Tryz.prog 184 1=some (1,3):=by and_intros<;>kernel_rfl
@[go_sem] theorem zf37:tpl Tryz.prog 184=some [(0,1),(1,1)]∧tsz Tryz.prog 186=some 3∧tby Tryz.prog 186=some 24∧tze Tryz.prog 186=some [.int .i64 0, .int .i64 0, .int .i64 0]∧tag Tryz.prog 186=some true∧tar Tryz.prog 186=none∧tfo Tryz.prog 186 0=some (0,3)∧tfo Tryz.prog 186 1=some (1,3):=by and_intros<;>kernel_rfl
@[go_sem] theorem zf38:tfo Tryz.prog 186 2=some (2,3)∧tpl Tryz.prog 186=some [(0,1),(1,1),(2,1)]∧tsz Tryz.prog 189=some 3∧tby Tryz.prog 189=some 24∧tze Tryz.prog 189=some [.int .i64 0, .int .i64 0, .int .i64 0]∧tag Tryz.prog 189=some true∧tfo Tryz.prog 189 0=some (0,3)∧tfo Tryz.prog 189 1=some (1,3):=by and_intros<;>kernel_rfl
@[go_sem] theorem zf39:tfo Tryz.prog 189 2=some (2,3)∧tcs Tryz.prog 189= []∧tcs Tryz.prog 193= []∧tkd Tryz.prog 198=some (.int .u64)∧tcs Tryz.prog 201= []∧tcs Tryz.prog 203= []∧tmp Tryz.prog 206=some (133,3)∧tsz Tryz.prog 210=some 1:=by and_intros<;>kernel_rfl
@[go_sem] theorem zf40:tze Tryz.prog 210=some [.nilFunc]∧tag Tryz.prog 210=some true∧tar Tryz.prog 210=none∧tfo Tryz.prog 210 0=some (0,51)∧tpl Tryz.prog 210=some [(0,1)]∧tkd Tryz.prog 210=some .other∧tel Tryz.prog 211=some 210∧tkd Tryz.prog 211=some (.slice 210):=by and_intros<;>kernel_rfl
@[go_sem] theorem zf41:tsz Tryz.prog 213=some 1∧tze Tryz.prog 213=some [.map none]∧tag Tryz.prog 213=some false∧tcs Tryz.prog 220= []∧tcs Tryz.prog 222= []:=by and_intros<;>kernel_rfl
@[go_sem] theorem fxk_7:fxk Tryz.prog 7=none:=by kernel_rfl
@[go_sem] theorem fnOk_7:fnOk Tryz.prog 7=true:=by kernel_rfl
@[go_sem] theorem fxk_9:fxk Tryz.prog 9=none:=by kernel_rfl
@[go_sem] theorem fnOk_9:fnOk Tryz.prog 9=true:=by kernel_rfl
@[go_sem] theorem fxk_14:fxk Tryz.prog 14=none:=by kernel_rfl
@[go_sem] theorem fnOk_14:fnOk Tryz.prog 14=true:=by kernel_rfl
@[go_sem] theorem fxk_16:fxk Tryz.prog 16=none:=by kernel_rfl
@[go_sem] theorem fnOk_16:fnOk Tryz.prog 16=true:=by kernel_rfl
@[go_sem] theorem fxk_19:fxk Tryz.prog 19=none:=by kernel_rfl
@[go_sem] theorem fnOk_19:fnOk Tryz.prog 19=true:=by kernel_rfl
@[go_sem] theorem fxk_20:fxk Tryz.prog 20=none:=by kernel_rfl
@[go_sem] theorem fnOk_20:fnOk Tryz.prog 20=true:=by kernel_rfl
@[go_sem] theorem fxk_21:fxk Tryz.prog 21=none:=by kernel_rfl
@[go_sem] theorem fnOk_21:fnOk Tryz.prog 21=true:=by kernel_rfl
@[go_sem] theorem fxk_23:fxk Tryz.prog 23=none:=by kernel_rfl
@[go_sem] theorem fnOk_23:fnOk Tryz.prog 23=true:=by kernel_rfl
@[go_sem] theorem fxk_24:fxk Tryz.prog 24=none:=by kernel_rfl
@[go_sem] theorem fnOk_24:fnOk Tryz.prog 24=true:=by kernel_rfl
@[go_sem] theorem fxk_25:fxk Tryz.prog 25=none:=by kernel_rfl
@[go_sem] theorem fnOk_25:fnOk Tryz.prog 25=true:=by kernel_rfl
@[go_sem] theorem fxk_26:fxk Tryz.prog 26=none:=by kernel_rfl
@[go_sem] theorem fnOk_26:fnOk Tryz.prog 26=true:=by kernel_rfl
@[go_sem] theorem fxk_29:fxk Tryz.prog 29=none:=by kernel_rfl
@[go_sem] theorem fnOk_29:fnOk Tryz.prog 29=true:=by kernel_rfl
@[go_sem] theorem fxk_30:fxk Tryz.prog 30=none:=by kernel_rfl
@[go_sem] theorem fnOk_30:fnOk Tryz.prog 30=true:=by kernel_rfl
@[go_sem] theorem fxk_31:fxk Tryz.prog 31=none:=by kernel_rfl
@[go_sem] theorem fnOk_31:fnOk Tryz.prog 31=true:=by kernel_rfl
@[go_sem] theorem fxk_32:fxk Tryz.prog 32=none:=by kernel_rfl
@[go_sem] theorem fnOk_32:fnOk Tryz.prog 32=true:=by kernel_rfl
@[go_sem] theorem fxk_33:fxk Tryz.prog 33=none:=by kernel_rfl
@[go_sem] theorem fnOk_33:fnOk Tryz.prog 33=true:=by kernel_rfl
@[go_sem] theorem fxk_34:fxk Tryz.prog 34=none:=by kernel_rfl
@[go_sem] theorem fnOk_34:fnOk Tryz.prog 34=true:=by kernel_rfl
@[go_sem] theorem fxk_35:fxk Tryz.prog 35=none:=by kernel_rfl
@[go_sem] theorem fnOk_35:fnOk Tryz.prog 35=true:=by kernel_rfl
@[go_sem] theorem fxk_36:fxk Tryz.prog 36=none:=by kernel_rfl
@[go_sem] theorem fnOk_36:fnOk Tryz.prog 36=true:=by kernel_rfl
@[go_sem] theorem fxk_37:fxk Tryz.prog 37=none:=by kernel_rfl
@[go_sem] theorem fnOk_37:fnOk Tryz.prog 37=true:=by kernel_rfl
@[go_sem] theorem fxk_38:fxk Tryz.prog 38=none:=by kernel_rfl
@[go_sem] theorem fnOk_38:fnOk Tryz.prog 38=true:=by kernel_rfl
@[go_sem] theorem fxk_39:fxk Tryz.prog 39=none:=by kernel_rfl
@[go_sem] theorem fnOk_39:fnOk Tryz.prog 39=true:=by kernel_rfl
@[go_sem] theorem fxk_40:fxk Tryz.prog 40=none:=by kernel_rfl
@[go_sem] theorem fnOk_40:fnOk Tryz.prog 40=true:=by kernel_rfl
@[go_sem] theorem fxk_42:fxk Tryz.prog 42=none:=by kernel_rfl
@[go_sem] theorem fnOk_42:fnOk Tryz.prog 42=true:=by kernel_rfl
@[go_sem] theorem fxk_46:fxk Tryz.prog 46=none:=by kernel_rfl
@[go_sem] theorem fnOk_46:fnOk Tryz.prog 46=true:=by kernel_rfl
@[go_sem] theorem fxk_49:fxk Tryz.prog 49=none:=by kernel_rfl
@[go_sem] theorem fnOk_49:fnOk Tryz.prog 49=true:=by kernel_rfl
@[go_sem] theorem fxk_51:fxk Tryz.prog 51=none:=by kernel_rfl
@[go_sem] theorem fnOk_51:fnOk Tryz.prog 51=true:=by kernel_rfl
@[go_sem] theorem fxk_52:fxk Tryz.prog 52=none:=by kernel_rfl
@[go_sem] theorem fnOk_52:fnOk Tryz.prog 52=true:=by kernel_rfl
@[go_sem] theorem fxk_53:fxk Tryz.prog 53=none:=by kernel_rfl
@[go_sem] theorem fnOk_53:fnOk Tryz.prog 53=true:=by kernel_rfl
@[go_sem] theorem fxk_54:fxk Tryz.prog 54=none:=by kernel_rfl
@[go_sem] theorem fnOk_54:fnOk Tryz.prog 54=true:=by kernel_rfl
@[go_sem] theorem fxk_56:fxk Tryz.prog 56=none:=by kernel_rfl
@[go_sem] theorem fnOk_56:fnOk Tryz.prog 56=true:=by kernel_rfl
@[go_sem] theorem fxk_58:fxk Tryz.prog 58=none:=by kernel_rfl
@[go_sem] theorem fnOk_58:fnOk Tryz.prog 58=true:=by kernel_rfl
@[go_sem] theorem fxk_59:fxk Tryz.prog 59=none:=by kernel_rfl
@[go_sem] theorem fnOk_59:fnOk Tryz.prog 59=true:=by kernel_rfl
@[go_sem] theorem fxk_60:fxk Tryz.prog 60=none:=by kernel_rfl
@[go_sem] theorem fnOk_60:fnOk Tryz.prog 60=true:=by kernel_rfl
@[go_sem] theorem fxk_61:fxk Tryz.prog 61=none:=by kernel_rfl
@[go_sem] theorem fnOk_61:fnOk Tryz.prog 61=true:=by kernel_rfl
@[go_sem] theorem fxk_64:fxk Tryz.prog 64=none:=by kernel_rfl
@[go_sem] theorem fnOk_64:fnOk Tryz.prog 64=true:=by kernel_rfl
@[go_sem] theorem fxk_65:fxk Tryz.prog 65=none:=by kernel_rfl
@[go_sem] theorem fnOk_65:fnOk Tryz.prog 65=true:=by kernel_rfl
@[go_sem] theorem fxk_66:fxk Tryz.prog 66=none:=by kernel_rfl
@[go_sem] theorem fnOk_66:fnOk Tryz.prog 66=true:=by kernel_rfl
@[go_sem] theorem fxk_70:fxk Tryz.prog 70=none:=by kernel_rfl
@[go_sem] theorem fnOk_70:fnOk Tryz.prog 70=true:=by kernel_rfl
@[go_sem] theorem fxk_71:fxk Tryz.prog 71=none:=by kernel_rfl
@[go_sem] theorem fnOk_71:fnOk Tryz.prog 71=true:=by kernel_rfl
@[go_sem] theorem fxk_72:fxk Tryz.prog 72=none:=by kernel_rfl
@[go_sem] theorem fnOk_72:fnOk Tryz.prog 72=true:=by kernel_rfl
@[go_sem] theorem fxk_73:fxk Tryz.prog 73=none:=by kernel_rfl
@[go_sem] theorem fnOk_73:fnOk Tryz.prog 73=true:=by kernel_rfl
@[go_sem] theorem fxk_74:fxk Tryz.prog 74=none:=by kernel_rfl
@[go_sem] theorem fnOk_74:fnOk Tryz.prog 74=true:=by kernel_rfl
@[go_sem] theorem fxk_75:fxk Tryz.prog 75=none:=by kernel_rfl
@[go_sem] theorem fnOk_75:fnOk Tryz.prog 75=true:=by kernel_rfl
@[go_sem] theorem fxk_76:fxk Tryz.prog 76=none:=by kernel_rfl
@[go_sem] theorem fnOk_76:fnOk Tryz.prog 76=true:=by kernel_rfl
@[go_sem] theorem fxk_77:fxk Tryz.prog 77=none:=by kernel_rfl
@[go_sem] theorem fnOk_77:fnOk Tryz.prog 77=true:=by kernel_rfl
@[go_sem] theorem fxk_78:fxk Tryz.prog 78=none:=by kernel_rfl
@[go_sem] theorem fnOk_78:fnOk Tryz.prog 78=true:=by kernel_rfl
@[go_sem] theorem fxk_79:fxk Tryz.prog 79=none:=by kernel_rfl
@[go_sem] theorem fnOk_79:fnOk Tryz.prog 79=true:=by kernel_rfl
@[go_sem] theorem fxk_80:fxk Tryz.prog 80=none:=by kernel_rfl
@[go_sem] theorem fnOk_80:fnOk Tryz.prog 80=true:=by kernel_rfl
@[go_sem] theorem fnOk_81:fnOk Tryz.prog 81=true:=by kernel_rfl
@[go_sem] theorem fxk_82:fxk Tryz.prog 82=none:=by kernel_rfl
@[go_sem] theorem fnOk_82:fnOk Tryz.prog 82=true:=by kernel_rfl
@[go_sem] theorem fxk_83:fxk Tryz.prog 83=none:=by kernel_rfl
@[go_sem] theorem fnOk_83:fnOk Tryz.prog 83=true:=by kernel_rfl
@[go_sem] theorem fxk_84:fxk Tryz.prog 84=none:=by kernel_rfl
@[go_sem] theorem fnOk_84:fnOk Tryz.prog 84=true:=by kernel_rfl
@[go_sem] theorem fxk_85:fxk Tryz.prog 85=none:=by kernel_rfl
@[go_sem] theorem fnOk_85:fnOk Tryz.prog 85=true:=by kernel_rfl
@[go_sem] theorem fxk_87:fxk Tryz.prog 87=none:=by kernel_rfl
@[go_sem] theorem fnOk_87:fnOk Tryz.prog 87=true:=by kernel_rfl
@[go_sem] theorem fxk_88:fxk Tryz.prog 88=none:=by kernel_rfl
@[go_sem] theorem fnOk_88:fnOk Tryz.prog 88=true:=by kernel_rfl
@[go_sem] theorem fxk_89:fxk Tryz.prog 89=none:=by kernel_rfl
@[go_sem] theorem fnOk_89:fnOk Tryz.prog 89=true:=by kernel_rfl
@[go_sem] theorem fxk_91:fxk Tryz.prog 91=none:=by kernel_rfl
@[go_sem] theorem fnOk_91:fnOk Tryz.prog 91=true:=by kernel_rfl
@[go_sem] theorem fxk_92:fxk Tryz.prog 92=none:=by kernel_rfl
@[go_sem] theorem fnOk_92:fnOk Tryz.prog 92=true:=by kernel_rfl
@[go_sem] theorem fxk_93:fxk Tryz.prog 93=none:=by kernel_rfl
@[go_sem] theorem fnOk_93:fnOk Tryz.prog 93=true:=by kernel_rfl
@[go_sem] theorem fxk_94:fxk Tryz.prog 94=none:=by kernel_rfl
@[go_sem] theorem fnOk_94:fnOk Tryz.prog 94=true:=by kernel_rfl
@[go_sem] theorem fxk_95:fxk Tryz.prog 95=none:=by kernel_rfl
@[go_sem] theorem fnOk_95:fnOk Tryz.prog 95=true:=by kernel_rfl
@[go_sem] theorem fxk_96:fxk Tryz.prog 96=none:=by kernel_rfl
@[go_sem] theorem fnOk_96:fnOk Tryz.prog 96=true:=by kernel_rfl
@[go_sem] theorem fxk_97:fxk Tryz.prog 97=none:=by kernel_rfl
@[go_sem] theorem fnOk_97:fnOk Tryz.prog 97=true:=by kernel_rfl
@[go_sem] theorem fxk_98:fxk Tryz.prog 98=none:=by kernel_rfl
@[go_sem] theorem fnOk_98:fnOk Tryz.prog 98=true:=by kernel_rfl
@[go_sem] theorem fxk_99:fxk Tryz.prog 99=none:=by kernel_rfl
@[go_sem] theorem fnOk_99:fnOk Tryz.prog 99=true:=by kernel_rfl
@[go_sem] theorem fxk_100:fxk Tryz.prog 100=none:=by kernel_rfl
@[go_sem] theorem fnOk_100:fnOk Tryz.prog 100=true:=by kernel_rfl
@[go_sem] theorem fxk_101:fxk Tryz.prog 101=none:=by kernel_rfl
@[go_sem] theorem fnOk_101:fnOk Tryz.prog 101=true:=by kernel_rfl
@[go_sem] theorem fxk_103:fxk Tryz.prog 103=none:=by kernel_rfl
@[go_sem] theorem fnOk_103:fnOk Tryz.prog 103=true:=by kernel_rfl
@[go_sem] theorem fxk_104:fxk Tryz.prog 104=none:=by kernel_rfl
@[go_sem] theorem fnOk_104:fnOk Tryz.prog 104=true:=by kernel_rfl
@[go_sem] theorem fxk_105:fxk Tryz.prog 105=none:=by kernel_rfl
@[go_sem] theorem fnOk_105:fnOk Tryz.prog 105=true:=by kernel_rfl
@[go_sem] theorem fxk_106:fxk Tryz.prog 106=none:=by kernel_rfl
@[go_sem] theorem fnOk_106:fnOk Tryz.prog 106=true:=by kernel_rfl
@[go_sem] theorem fxk_107:fxk Tryz.prog 107=none:=by kernel_rfl
@[go_sem] theorem fnOk_107:fnOk Tryz.prog 107=true:=by kernel_rfl
@[go_sem] theorem fnOk_108:fnOk Tryz.prog 108=true:=by kernel_rfl
@[go_sem] theorem fxk_109:fxk Tryz.prog 109=none:=by kernel_rfl
@[go_sem] theorem fnOk_109:fnOk Tryz.prog 109=true:=by kernel_rfl
@[go_sem] theorem fxk_110:fxk Tryz.prog 110=none:=by kernel_rfl
@[go_sem] theorem fnOk_110:fnOk Tryz.prog 110=true:=by kernel_rfl
@[go_sem] theorem fxk_111:fxk Tryz.prog 111=none:=by kernel_rfl
@[go_sem] theorem fnOk_111:fnOk Tryz.prog 111=true:=by kernel_rfl
@[go_sem] theorem fxk_112:fxk Tryz.prog 112=none:=by kernel_rfl
@[go_sem] theorem fxk_114:fxk Tryz.prog 114=none:=by kernel_rfl
@[go_sem] theorem fnOk_114:fnOk Tryz.prog 114=true:=by kernel_rfl
@[go_sem] theorem fnOk_115:fnOk Tryz.prog 115=true:=by kernel_rfl
@[go_sem] theorem fxk_116:fxk Tryz.prog 116=none:=by kernel_rfl
@[go_sem] theorem fnOk_116:fnOk Tryz.prog 116=true:=by kernel_rfl
@[go_sem] theorem fnOk_117:fnOk Tryz.prog 117=true:=by kernel_rfl
@[go_sem] theorem fxk_120:fxk Tryz.prog 120=none:=by kernel_rfl
@[go_sem] theorem fnOk_120:fnOk Tryz.prog 120=true:=by kernel_rfl
@[go_sem] theorem fxk_121:fxk Tryz.prog 121=none:=by kernel_rfl
@[go_sem] theorem fnOk_121:fnOk Tryz.prog 121=true:=by kernel_rfl
@[go_sem] theorem fxk_122:fxk Tryz.prog 122=none:=by kernel_rfl
@[go_sem] theorem fnOk_122:fnOk Tryz.prog 122=true:=by kernel_rfl
@[go_sem] theorem fxk_123:fxk Tryz.prog 123=none:=by kernel_rfl
@[go_sem] theorem fnOk_123:fnOk Tryz.prog 123=true:=by kernel_rfl
@[go_sem] theorem fnOk_124:fnOk Tryz.prog 124=true:=by kernel_rfl
@[go_sem] theorem fnOk_125:fnOk Tryz.prog 125=true:=by kernel_rfl
@[go_sem] theorem fnOk_126:fnOk Tryz.prog 126=true:=by kernel_rfl
@[go_sem] theorem fnOk_127:fnOk Tryz.prog 127=true:=by kernel_rfl
@[go_sem] theorem fnOk_128:fnOk Tryz.prog 128=true:=by kernel_rfl
@[go_sem] theorem fxk_129:fxk Tryz.prog 129=none:=by kernel_rfl
@[go_sem] theorem fnOk_129:fnOk Tryz.prog 129=true:=by kernel_rfl
@[go_sem] theorem fxk_130:fxk Tryz.prog 130=none:=by kernel_rfl
@[go_sem] theorem fnOk_130:fnOk Tryz.prog 130=true:=by kernel_rfl
@[go_sem] theorem fxk_131:fxk Tryz.prog 131=none:=by kernel_rfl
@[go_sem] theorem fnOk_131:fnOk Tryz.prog 131=true:=by kernel_rfl
@[go_sem] theorem fxk_132:fxk Tryz.prog 132=none:=by kernel_rfl
@[go_sem] theorem fnOk_132:fnOk Tryz.prog 132=true:=by kernel_rfl
@[go_sem] theorem fxk_133:fxk Tryz.prog 133=none:=by kernel_rfl
@[go_sem] theorem fnOk_133:fnOk Tryz.prog 133=true:=by kernel_rfl
@[go_sem] theorem fnOk_134:fnOk Tryz.prog 134=true:=by kernel_rfl
@[go_sem] theorem fxk_135:fxk Tryz.prog 135=none:=by kernel_rfl
@[go_sem] theorem fnOk_135:fnOk Tryz.prog 135=true:=by kernel_rfl
@[go_sem] theorem fxk_136:fxk Tryz.prog 136=none:=by kernel_rfl
@[go_sem] theorem fnOk_136:fnOk Tryz.prog 136=true:=by kernel_rfl
@[go_sem] theorem fnOk_137:fnOk Tryz.prog 137=true:=by kernel_rfl
@[go_sem] theorem fxk_140:fxk Tryz.prog 140=none:=by kernel_rfl
@[go_sem] theorem fnOk_140:fnOk Tryz.prog 140=true:=by kernel_rfl
@[go_sem] theorem fxk_141:fxk Tryz.prog 141=none:=by kernel_rfl
@[go_sem] theorem fnOk_141:fnOk Tryz.prog 141=true:=by kernel_rfl
@[go_sem] theorem fnOk_142:fnOk Tryz.prog 142=true:=by kernel_rfl
@[go_sem] theorem fxk_143:fxk Tryz.prog 143=none:=by kernel_rfl
@[go_sem] theorem fnOk_143:fnOk Tryz.prog 143=true:=by kernel_rfl
@[go_sem] theorem fxk_144:fxk Tryz.prog 144=none:=by kernel_rfl
@[go_sem] theorem fnOk_144:fnOk Tryz.prog 144=true:=by kernel_rfl
@[go_sem] theorem fxk_145:fxk Tryz.prog 145=none:=by kernel_rfl
@[go_sem] theorem fnOk_145:fnOk Tryz.prog 145=true:=by kernel_rfl
@[go_sem] theorem fnOk_146:fnOk Tryz.prog 146=true:=by kernel_rfl
@[go_sem] theorem fxk_147:fxk Tryz.prog 147=none:=by kernel_rfl
@[go_sem] theorem fnOk_147:fnOk Tryz.prog 147=true:=by kernel_rfl
@[go_sem] theorem fxk_148:fxk Tryz.prog 148=none:=by kernel_rfl
@[go_sem] theorem fnOk_148:fnOk Tryz.prog 148=true:=by kernel_rfl
@[go_sem] theorem fxk_152:fxk Tryz.prog 152=none:=by kernel_rfl
@[go_sem] theorem fnOk_152:fnOk Tryz.prog 152=true:=by kernel_rfl
@[go_sem] theorem fxk_153:fxk Tryz.prog 153=none:=by kernel_rfl
@[go_sem] theorem fnOk_153:fnOk Tryz.prog 153=true:=by kernel_rfl
theorem qap:Tryz.prog.follows .mixedOrders=true:=by kernel_rfl
end Go.Proofs.GY
attribute [go_sem] Go.Proofs.Tryz.ntmps3 Go.Proofs.Tryz.results3 Go.Proofs.Tryz.ntmps4 Go.Proofs.Tryz.results4 Go.Proofs.Tryz.ntmps5 Go.Proofs.Tryz.results5 Go.Proofs.Tryz.ntmps6 Go.Proofs.Tryz.results6 Go.Proofs.Tryz.ntmps7 Go.Proofs.Tryz.results7 Go.Proofs.Tryz.ntmps8 Go.Proofs.Tryz.results8 Go.Proofs.Tryz.ntmps9 Go.Proofs.Tryz.results9 Go.Proofs.Tryz.ntmps10 Go.Proofs.Tryz.results10 Go.Proofs.Tryz.ntmps11 Go.Proofs.Tryz.results11 Go.Proofs.Tryz.ntmps12 Go.Proofs.Tryz.results12 Go.Proofs.Tryz.ntmps13 Go.Proofs.Tryz.results13 Go.Proofs.Tryz.ntmps14 Go.Proofs.Tryz.results14 Go.Proofs.Tryz.ntmps15 Go.Proofs.Tryz.results15 Go.Proofs.Tryz.ntmps16 Go.Proofs.Tryz.results16 Go.Proofs.Tryz.ntmps17 Go.Proofs.Tryz.results17 Go.Proofs.Tryz.ntmps18 Go.Proofs.Tryz.results18 Go.Proofs.Tryz.ntmps19 Go.Proofs.Tryz.results19 Go.Proofs.Tryz.ntmps20 Go.Proofs.Tryz.results20 Go.Proofs.Tryz.ntmps21 Go.Proofs.Tryz.results21 Go.Proofs.Tryz.ntmps22 Go.Proofs.Tryz.results22 Go.Proofs.Tryz.ntmps23 Go.Proofs.Tryz.results23 Go.Proofs.Tryz.ntmps24 Go.Proofs.Tryz.results24 Go.Proofs.Tryz.ntmps25 Go.Proofs.Tryz.results25 Go.Proofs.Tryz.ntmps26 Go.Proofs.Tryz.results26 Go.Proofs.Tryz.ntmps27 Go.Proofs.Tryz.results27 Go.Proofs.Tryz.ntmps28 Go.Proofs.Tryz.results28 Go.Proofs.Tryz.ntmps29 Go.Proofs.Tryz.results29 Go.Proofs.Tryz.ntmps30 Go.Proofs.Tryz.results30 Go.Proofs.Tryz.ntmps31 Go.Proofs.Tryz.results31 Go.Proofs.Tryz.ntmps32 Go.Proofs.Tryz.results32 Go.Proofs.Tryz.ntmps33 Go.Proofs.Tryz.results33 Go.Proofs.Tryz.ntmps34 Go.Proofs.Tryz.results34 Go.Proofs.Tryz.ntmps35 Go.Proofs.Tryz.results35 Go.Proofs.Tryz.ntmps36 Go.Proofs.Tryz.results36 Go.Proofs.Tryz.ntmps37 Go.Proofs.Tryz.results37 Go.Proofs.Tryz.ntmps38 Go.Proofs.Tryz.results38 Go.Proofs.Tryz.ntmps39 Go.Proofs.Tryz.results39 Go.Proofs.Tryz.ntmps40 Go.Proofs.Tryz.results40 Go.Proofs.Tryz.ntmps41 Go.Proofs.Tryz.results41 Go.Proofs.Tryz.ntmps42 Go.Proofs.Tryz.results42 Go.Proofs.Tryz.ntmps43 Go.Proofs.Tryz.results43 Go.Proofs.Tryz.ntmps44 Go.Proofs.Tryz.results44 Go.Proofs.Tryz.ntmps45 Go.Proofs.Tryz.results45 Go.Proofs.Tryz.ntmps46 Go.Proofs.Tryz.results46 Go.Proofs.Tryz.ntmps47 Go.Proofs.Tryz.results47 Go.Proofs.Tryz.ntmps48 Go.Proofs.Tryz.results48 Go.Proofs.Tryz.ntmps49 Go.Proofs.Tryz.results49 Go.Proofs.Tryz.ntmps50 Go.Proofs.Tryz.results50 Go.Proofs.Tryz.ntmps51 Go.Proofs.Tryz.results51 Go.Proofs.Tryz.ntmps52 Go.Proofs.Tryz.results52 Go.Proofs.Tryz.ntmps53 Go.Proofs.Tryz.results53 Go.Proofs.Tryz.ntmps54 Go.Proofs.Tryz.results54 Go.Proofs.Tryz.ntmps55 Go.Proofs.Tryz.results55 Go.Proofs.Tryz.ntmps56 Go.Proofs.Tryz.results56 Go.Proofs.Tryz.ntmps57 Go.Proofs.Tryz.results57 Go.Proofs.Tryz.ntmps58 Go.Proofs.Tryz.results58 Go.Proofs.Tryz.ntmps59 Go.Proofs.Tryz.results59 Go.Proofs.Tryz.ntmps60 Go.Proofs.Tryz.results60 Go.Proofs.Tryz.ntmps61 Go.Proofs.Tryz.results61 Go.Proofs.Tryz.ntmps62 Go.Proofs.Tryz.results62 Go.Proofs.Tryz.ntmps63 Go.Proofs.Tryz.results63 Go.Proofs.Tryz.ntmps64 Go.Proofs.Tryz.results64 Go.Proofs.Tryz.ntmps65 Go.Proofs.Tryz.results65 Go.Proofs.Tryz.ntmps66 Go.Proofs.Tryz.results66 Go.Proofs.Tryz.ntmps67 Go.Proofs.Tryz.results67 Go.Proofs.Tryz.ntmps68 Go.Proofs.Tryz.results68 Go.Proofs.Tryz.ntmps69 Go.Proofs.Tryz.results69 Go.Proofs.Tryz.ntmps70 Go.Proofs.Tryz.results70 Go.Proofs.Tryz.ntmps71 Go.Proofs.Tryz.results71 Go.Proofs.Tryz.ntmps72 Go.Proofs.Tryz.results72 Go.Proofs.Tryz.ntmps73 Go.Proofs.Tryz.results73 Go.Proofs.Tryz.ntmps74 Go.Proofs.Tryz.results74 Go.Proofs.Tryz.ntmps75 Go.Proofs.Tryz.results75 Go.Proofs.Tryz.ntmps76 Go.Proofs.Tryz.results76 Go.Proofs.Tryz.ntmps77 Go.Proofs.Tryz.results77 Go.Proofs.Tryz.ntmps78 Go.Proofs.Tryz.results78 Go.Proofs.Tryz.ntmps79 Go.Proofs.Tryz.results79 Go.Proofs.Tryz.ntmps80 Go.Proofs.Tryz.results80 Go.Proofs.Tryz.ntmps81 Go.Proofs.Tryz.results81 Go.Proofs.Tryz.ntmps82 Go.Proofs.Tryz.results82 Go.Proofs.Tryz.ntmps83 Go.Proofs.Tryz.results83 Go.Proofs.Tryz.ntmps84 Go.Proofs.Tryz.results84 Go.Proofs.Tryz.ntmps85 Go.Proofs.Tryz.results85 Go.Proofs.Tryz.ntmps86 Go.Proofs.Tryz.results86 Go.Proofs.Tryz.ntmps87 Go.Proofs.Tryz.results87 Go.Proofs.Tryz.ntmps88 Go.Proofs.Tryz.results88 Go.Proofs.Tryz.ntmps89 Go.Proofs.Tryz.results89 Go.Proofs.Tryz.ntmps90 Go.Proofs.Tryz.results90 Go.Proofs.Tryz.ntmps91 Go.Proofs.Tryz.results91 Go.Proofs.Tryz.ntmps92 Go.Proofs.Tryz.results92 Go.Proofs.Tryz.ntmps93 Go.Proofs.Tryz.results93 Go.Proofs.Tryz.ntmps94 Go.Proofs.Tryz.results94 Go.Proofs.Tryz.ntmps95 Go.Proofs.Tryz.results95 Go.Proofs.Tryz.ntmps96 Go.Proofs.Tryz.results96 Go.Proofs.Tryz.ntmps97 Go.Proofs.Tryz.results97 Go.Proofs.Tryz.ntmps98 Go.Proofs.Tryz.results98 Go.Proofs.Tryz.ntmps99 Go.Proofs.Tryz.results99 Go.Proofs.Tryz.ntmps100 Go.Proofs.Tryz.results100 Go.Proofs.Tryz.ntmps101 Go.Proofs.Tryz.results101 Go.Proofs.Tryz.ntmps102 Go.Proofs.Tryz.results102 Go.Proofs.Tryz.ntmps103 Go.Proofs.Tryz.results103 Go.Proofs.Tryz.ntmps104 Go.Proofs.Tryz.results104 Go.Proofs.Tryz.ntmps105 Go.Proofs.Tryz.results105 Go.Proofs.Tryz.ntmps106 Go.Proofs.Tryz.results106 Go.Proofs.Tryz.ntmps107 Go.Proofs.Tryz.results107 Go.Proofs.Tryz.ntmps108 Go.Proofs.Tryz.results108 Go.Proofs.Tryz.ntmps109 Go.Proofs.Tryz.results109 Go.Proofs.Tryz.ntmps110 Go.Proofs.Tryz.results110 Go.Proofs.Tryz.ntmps111 Go.Proofs.Tryz.results111 Go.Proofs.Tryz.ntmps112 Go.Proofs.Tryz.results112 Go.Proofs.Tryz.ntmps113 Go.Proofs.Tryz.results113 Go.Proofs.Tryz.ntmps114 Go.Proofs.Tryz.results114 Go.Proofs.Tryz.ntmps115 Go.Proofs.Tryz.results115 Go.Proofs.Tryz.ntmps116 Go.Proofs.Tryz.results116 Go.Proofs.Tryz.ntmps117 Go.Proofs.Tryz.results117 Go.Proofs.Tryz.ntmps118 Go.Proofs.Tryz.results118 Go.Proofs.Tryz.ntmps119 Go.Proofs.Tryz.results119 Go.Proofs.Tryz.ntmps120 Go.Proofs.Tryz.results120 Go.Proofs.Tryz.ntmps121 Go.Proofs.Tryz.results121 Go.Proofs.Tryz.ntmps122 Go.Proofs.Tryz.results122 Go.Proofs.Tryz.ntmps123 Go.Proofs.Tryz.results123 Go.Proofs.Tryz.ntmps124 Go.Proofs.Tryz.results124 Go.Proofs.Tryz.ntmps125 Go.Proofs.Tryz.results125 Go.Proofs.Tryz.ntmps126 Go.Proofs.Tryz.results126 Go.Proofs.Tryz.ntmps127 Go.Proofs.Tryz.results127 Go.Proofs.Tryz.ntmps128 Go.Proofs.Tryz.results128 Go.Proofs.Tryz.ntmps129 Go.Proofs.Tryz.results129 Go.Proofs.Tryz.ntmps130 Go.Proofs.Tryz.results130 Go.Proofs.Tryz.ntmps131 Go.Proofs.Tryz.results131 Go.Proofs.Tryz.ntmps132 Go.Proofs.Tryz.results132 Go.Proofs.Tryz.ntmps133 Go.Proofs.Tryz.results133 Go.Proofs.Tryz.ntmps134 Go.Proofs.Tryz.results134 Go.Proofs.Tryz.ntmps135 Go.Proofs.Tryz.results135 Go.Proofs.Tryz.ntmps136 Go.Proofs.Tryz.results136 Go.Proofs.Tryz.ntmps137 Go.Proofs.Tryz.results137 Go.Proofs.Tryz.ntmps138 Go.Proofs.Tryz.results138 Go.Proofs.Tryz.ntmps139 Go.Proofs.Tryz.results139 Go.Proofs.Tryz.ntmps140 Go.Proofs.Tryz.results140 Go.Proofs.Tryz.ntmps141 Go.Proofs.Tryz.results141 Go.Proofs.Tryz.ntmps142 Go.Proofs.Tryz.results142 Go.Proofs.Tryz.ntmps143 Go.Proofs.Tryz.results143 Go.Proofs.Tryz.ntmps144 Go.Proofs.Tryz.results144 Go.Proofs.Tryz.ntmps145 Go.Proofs.Tryz.results145 Go.Proofs.Tryz.ntmps146 Go.Proofs.Tryz.results146 Go.Proofs.Tryz.ntmps147 Go.Proofs.Tryz.results147 Go.Proofs.Tryz.ntmps148 Go.Proofs.Tryz.results148 Go.Proofs.Tryz.ntmps149 Go.Proofs.Tryz.results149 Go.Proofs.Tryz.ntmps150 Go.Proofs.Tryz.results150 Go.Proofs.Tryz.ntmps151 Go.Proofs.Tryz.results151 Go.Proofs.Tryz.ntmps152 Go.Proofs.Tryz.results152 Go.Proofs.Tryz.ntmps153 Go.Proofs.Tryz.results153
namespace Go.Idl
theorem zW {p q:Prop} (hq:q) (h:p=q:=by(simp (maxSteps:=2000000) only [go_sem,↓reduceIte,↓reduceDIte,reduceCtorEq,Nat.reducePow,Nat.reduceEqDiff,Nat.reduceAdd,Nat.reduceSub,Nat.reduceMul,Nat.reduceMod,Nat.reduceLeDiff,Nat.reduceLT,Nat.reduceBEq,Nat.reduceBNe,Int.reduceLT,Int.reduceLE,Int.reduceToNat,Int.reduceNeg,Int.reduceAdd,Int.reduceSub,Int.reduceMul,Int.reduceBEq,Int.reduceBNe,Int.reduceEq];rfl)):p:=h.mpr hq
theorem zO {p q:Prop} (hq:q) (h:p=q:=by(simp (maxSteps:=2000000) (disch:=omega) only [go_sem,↓reduceIte,↓reduceDIte,reduceCtorEq,Nat.reducePow,Nat.reduceEqDiff,Nat.reduceAdd,Nat.reduceSub,Nat.reduceMul,Nat.reduceMod,Nat.reduceLeDiff,Nat.reduceLT,Nat.reduceBEq,Nat.reduceBNe,Int.reduceLT,Int.reduceLE,Int.reduceToNat,Int.reduceNeg,Int.reduceAdd,Int.reduceSub,Int.reduceMul,Int.reduceBEq,Int.reduceBNe,Int.reduceEq,if_pos,if_neg,w64,beqT,beqF,bneT,bneF,qel,qcL,decide_eq_true,decide_eq_false];rfl)):p:=h.mpr hq
theorem zT {p:Prop} (h:p:=by simp (maxSteps:=2000000) only [go_sem,↓reduceIte,↓reduceDIte,reduceCtorEq,Nat.reducePow,Nat.reduceEqDiff,Nat.reduceAdd,Nat.reduceSub,Nat.reduceMul,Nat.reduceMod,Nat.reduceLeDiff,Nat.reduceLT,Nat.reduceBEq,Nat.reduceBNe,Int.reduceLT,Int.reduceLE,Int.reduceToNat,Int.reduceNeg,Int.reduceAdd,Int.reduceSub,Int.reduceMul,Int.reduceBEq,Int.reduceBNe,Int.reduceEq]):p:=h
theorem zU {p:Prop} (h:p:=by simp (maxSteps:=2000000) (disch:=omega) only [go_sem,↓reduceIte,↓reduceDIte,reduceCtorEq,Nat.reducePow,Nat.reduceEqDiff,Nat.reduceAdd,Nat.reduceSub,Nat.reduceMul,Nat.reduceMod,Nat.reduceLeDiff,Nat.reduceLT,Nat.reduceBEq,Nat.reduceBNe,Int.reduceLT,Int.reduceLE,Int.reduceToNat,Int.reduceNeg,Int.reduceAdd,Int.reduceSub,Int.reduceMul,Int.reduceBEq,Int.reduceBNe,Int.reduceEq,if_pos,if_neg,w64,beqT,beqF,bneT,bneF,qel,qcL,decide_eq_true,decide_eq_false]):p:=h
theorem zB {p:Prop} (h:p:=by first | trivial | (simp (maxSteps:=2000000) only [go_sem,↓reduceIte,↓reduceDIte,reduceCtorEq,Nat.reducePow,Nat.reduceEqDiff,Nat.reduceAdd,Nat.reduceSub,Nat.reduceMul,Nat.reduceMod,Nat.reduceLeDiff,Nat.reduceLT,Nat.reduceBEq,Nat.reduceBNe,Int.reduceLT,Int.reduceLE,Int.reduceToNat,Int.reduceNeg,Int.reduceAdd,Int.reduceSub,Int.reduceMul,Int.reduceBEq,Int.reduceBNe,Int.reduceEq];done) | (split<;>simp (maxSteps:=2000000) only [go_sem,↓reduceIte,↓reduceDIte,reduceCtorEq,Nat.reducePow,Nat.reduceEqDiff,Nat.reduceAdd,Nat.reduceSub,Nat.reduceMul,Nat.reduceMod,Nat.reduceLeDiff,Nat.reduceLT,Nat.reduceBEq,Nat.reduceBNe,Int.reduceLT,Int.reduceLE,Int.reduceToNat,Int.reduceNeg,Int.reduceAdd,Int.reduceSub,Int.reduceMul,Int.reduceBEq,Int.reduceBNe,Int.reduceEq])):p:=h
theorem zC {p:Prop} (h:p:=by first | trivial | (simp (maxSteps:=2000000) only [go_sem,↓reduceIte,↓reduceDIte,reduceCtorEq,Nat.reducePow,Nat.reduceEqDiff,Nat.reduceAdd,Nat.reduceSub,Nat.reduceMul,Nat.reduceMod,Nat.reduceLeDiff,Nat.reduceLT,Nat.reduceBEq,Nat.reduceBNe,Int.reduceLT,Int.reduceLE,Int.reduceToNat,Int.reduceNeg,Int.reduceAdd,Int.reduceSub,Int.reduceMul,Int.reduceBEq,Int.reduceBNe,Int.reduceEq];done) | (simp (maxSteps:=2000000) (disch:=omega) only [go_sem,↓reduceIte,↓reduceDIte,reduceCtorEq,Nat.reducePow,Nat.reduceEqDiff,Nat.reduceAdd,Nat.reduceSub,Nat.reduceMul,Nat.reduceMod,Nat.reduceLeDiff,Nat.reduceLT,Nat.reduceBEq,Nat.reduceBNe,Int.reduceLT,Int.reduceLE,Int.reduceToNat,Int.reduceNeg,Int.reduceAdd,Int.reduceSub,Int.reduceMul,Int.reduceBEq,Int.reduceBNe,Int.reduceEq,if_pos,if_neg,w64,beqT,beqF,bneT,bneF,qel,qcL,decide_eq_true,decide_eq_false];done) | (split<;>simp (maxSteps:=2000000) (disch:=omega) only [go_sem,↓reduceIte,↓reduceDIte,reduceCtorEq,Nat.reducePow,Nat.reduceEqDiff,Nat.reduceAdd,Nat.reduceSub,Nat.reduceMul,Nat.reduceMod,Nat.reduceLeDiff,Nat.reduceLT,Nat.reduceBEq,Nat.reduceBNe,Int.reduceLT,Int.reduceLE,Int.reduceToNat,Int.reduceNeg,Int.reduceAdd,Int.reduceSub,Int.reduceMul,Int.reduceBEq,Int.reduceBNe,Int.reduceEq,if_pos,if_neg,w64,beqT,beqF,bneT,bneF,qel,qcL,decide_eq_true,decide_eq_false])):p:=h
theorem zD.{u}:(∀ {c:Prop} {h:Decidable c},c→ ∀ {α:Sort u} {t e:α},(if c then t else e)=t)∧(∀ {c:Prop} {h:Decidable c},¬c→ ∀ {α:Sort u} {t e:α},(if c then t else e)=e):=⟨@if_pos, @if_neg⟩
theorem zE:(∀ {n:Int}, -9223372036854775808≤n∧n≤9223372036854775807→Go.IntKind.i64.wrap n=n)∧(∀ {x y:Int},x=y→(x==y)=true)∧(∀ {x y:Int},¬x=y→(x==y)=false)∧(∀ {x y:Int},¬x=y→(x != y)=true)∧(∀ {x y:Int},x=y→(x != y)=false)∧
 (∀ {α:Type} {f:α→List PV} {l:List α} {i:Nat} (h:i < l.length),(pr f l)[i]? =some (f l[i]))∧(∀ {α:Type} {f:α→List PV} {l:List α} {i:Nat} (h:i < l.length),(ir f l)[i]? =some (List.map IV.p (f l[i])))∧
 (∀ {p:Prop} [inst:Decidable p],p→decide p=true)∧(∀ {p:Prop} [inst:Decidable p],¬p→decide p=false):=⟨@w64, @beqT, @beqF, @bneT, @bneF, @qel, @qcL, @decide_eq_true, @decide_eq_false⟩
theorem zL {p:Prop} (h:p:=by first | exact Nat.zero_le _ | exact Nat.le_refl _ | omega | exact Nat.le_of_ble_eq_true rfl):p:=h
end Go.Idl
