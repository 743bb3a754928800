/- Facts that the proofs of this claim lean on. -/
import Derived.Test.YtfhhdgkhajkapaaGreatIdNl
import Derived.Test.YtfhhdgkhajkapaaGreatProg
set_option linter.unusedSimpArgs false
set_option linter.unusedVariables false
namespace Go.Proofs.NO
open Go Go.Idl Go.Proofs Go.Proofs.Tryz
@[go_sem] theorem zf0:tsz prog 3=some 1∧tby prog 3=some 8∧tze prog 3=some [.int .i64 0]∧tag prog 3=some false∧tcs prog 3= []∧tkd prog 3=some (.int .i64)∧tsz prog 4=some 1∧tby prog 4=some 1:=by and_intros<;>kernel_rfl
@[go_sem] theorem zf1:tze prog 4=some [.bool false]∧tag prog 4=some false∧tcs prog 4= []∧tkd prog 4=some .bool∧tsz prog 22=some 1∧tag prog 22=some false∧tel prog 22=some 68∧tkd prog 22=some (.slice 68):=by and_intros<;>kernel_rfl
@[go_sem] theorem zf2:tsz prog 24=some 2∧tze prog 24=some [.int .i64 0, .slice none 0 0]∧tag prog 24=some true∧tfo prog 24 0=some (0,3)∧tfo prog 24 1=some (1,22)∧tcs prog 24= [(1,2)]∧tsz prog 25=some 1∧tag prog 25=some false:=by and_intros<;>kernel_rfl
@[go_sem] theorem zf3:tel prog 25=some 200∧tcs prog 25= [(0,2)]∧tkd prog 25=some (.slice 200)∧tsz prog 27=some 4∧tze prog 27=some [.int .i64 0, .slice none 0 0, .slice none 0 0, .bool false]∧tag prog 27=some true∧tar prog 27=none∧tfo prog 27 0=some (0,24):=by and_intros<;>kernel_rfl
@[go_sem] theorem zf4:tfo prog 27 1=some (2,25)∧tfo prog 27 2=some (3,4)∧tpl prog 27=some [(0,2),(2,1),(3,1)]∧tcs prog 27= [(1,2),(2,2)]∧tsz prog 30=some 2∧tze prog 30=some [.int .i64 0, .slice none 0 0]∧tag prog 30=some true∧tar prog 30=none:=by and_intros<;>kernel_rfl
@[go_sem] theorem zf5:tfo prog 30 0=some (0,3)∧tfo prog 30 1=some (1,22)∧tpl prog 30=some [(0,1),(1,1)]∧tcs prog 30= [(1,2)]∧tsz prog 31=some 1∧tag prog 31=some false∧tel prog 31=some 183∧tcs prog 31= [(0,2)]:=by and_intros<;>kernel_rfl
@[go_sem] theorem zf6:tkd prog 31=some (.slice 183)∧tsz prog 33=some 4∧tze prog 33=some [.int .i64 0, .slice none 0 0, .slice none 0 0, .bool false]∧tag prog 33=some true∧tar prog 33=none∧tfo prog 33 0=some (0,30)∧tfo prog 33 1=some (2,31)∧tpl prog 33=some [(0,2),(2,1),(3,1)]:=by and_intros<;>kernel_rfl
@[go_sem] theorem zf7:tsz prog 37=some 1∧tby prog 37=some 24∧tze prog 37=some [.slice none 0 0]∧tag prog 37=some false∧tel prog 37=some 3∧tcs prog 37= [(0,1)]∧tkd prog 37=some (.slice 3)∧tsz prog 38=some 1:=by and_intros<;>kernel_rfl
@[go_sem] theorem zf8:tag prog 38=some false∧tel prog 38=some 63∧tcs prog 38= [(0,1)]∧tkd prog 38=some (.slice 63)∧tsz prog 43=some 1∧tag prog 43=some false∧tel prog 43=some 37∧tcs prog 43= [(0,1)]:=by and_intros<;>kernel_rfl
@[go_sem] theorem zf9:tkd prog 43=some (.slice 37)∧tsz prog 45=some 5∧tze prog 45=some [.int .i64 0, .int .i64 0, .int .i64 0, .slice none 0 0, .slice none 0 0]∧tag prog 45=some true∧tar prog 45=none∧tfo prog 45 0=some (0,3)∧tfo prog 45 1=some (1,3)∧tfo prog 45 2=some (2,3):=by and_intros<;>kernel_rfl
@[go_sem] theorem zf10:tfo prog 45 3=some (3,38)∧tfo prog 45 4=some (4,43)∧tpl prog 45=some [(0,1),(1,1),(2,1),(3,1),(4,1)]∧tcs prog 45= [(3,1),(4,1)]∧tsz prog 50=some 1∧tze prog 50=some [.int .i64 0]∧tag prog 50=some false∧tcs prog 50= []:=by and_intros<;>kernel_rfl
@[go_sem] theorem zf11:tsz prog 63=some 1∧tby prog 63=some 24∧tze prog 63=some [.slice none 0 0]∧tag prog 63=some false∧tel prog 63=some 67∧tcs prog 63= [(0,2)]∧tkd prog 63=some (.slice 67)∧tsz prog 67=some 2:=by and_intros<;>kernel_rfl
@[go_sem] theorem zf12:tby prog 67=some 16∧tze prog 67=some [.int .i64 0, .int .i64 0]∧tag prog 67=some true∧tar prog 67=none∧tfo prog 67 0=some (0,3)∧tfo prog 67 1=some (1,3)∧tpl prog 67=some [(0,1),(1,1)]∧tcs prog 67= []:=by and_intros<;>kernel_rfl
@[go_sem] theorem zf13:teq prog 67=some [(.int .i64),(.int .i64)]∧tsz prog 68=some 2∧tze prog 68=some [.int .i64 0, .int .i64 0]∧tag prog 68=some true∧tar prog 68=some (2,3)∧tpl prog 68=none∧teq prog 68=some [(.int .i64),(.int .i64)]∧tel prog 72=some 91:=by and_intros<;>kernel_rfl
@[go_sem] theorem zf14:tkd prog 72=some (.slice 91)∧tsz prog 73=some 1∧tag prog 73=some false∧tel prog 73=some 4∧tcs prog 73= [(0,1)]∧tkd prog 73=some (.slice 4)∧tsz prog 75=some 6∧tby prog 75=some 96:=by and_intros<;>kernel_rfl
@[go_sem] theorem zf15:tze prog 75=some [.int .i64 0, .int .i64 0, .int .i64 0, .slice none 0 0, .slice none 0 0, .slice none 0 0]∧tag prog 75=some true∧tar prog 75=none∧tfo prog 75 0=some (0,3)∧tfo prog 75 1=some (1,3)∧tfo prog 75 2=some (2,3)∧tfo prog 75 3=some (3,37)∧tfo prog 75 4=some (4,38):=by and_intros<;>kernel_rfl
@[go_sem] theorem zf16:tfo prog 75 5=some (5,43)∧tpl prog 75=some [(0,1),(1,1),(2,1),(3,1),(4,1),(5,1)]∧tcs prog 75= [(3,1),(4,1),(5,1)]∧tkd prog 75=some .other∧tsz prog 77=some 8∧tze prog 77=some [.int .i64 0, .slice none 0 0, .int .i64 0, .int .i64 0, .int .i64 0, .slice none 0 0, .slice none 0 0, .slice none 0 0]∧tag prog 77=some true∧tar prog 77=none:=by and_intros<;>kernel_rfl
@[go_sem] theorem zf17:tfo prog 77 0=some (0,3)∧tfo prog 77 1=some (1,73)∧tfo prog 77 2=some (2,75)∧tpl prog 77=some [(0,1),(1,1),(2,6)]∧tcs prog 77= [(1,1),(5,1),(6,1),(7,1)]∧tsz prog 79=some 7∧tze prog 79=some [.int .i64 0, .int .i64 0, .int .i64 0, .int .i64 0, .slice none 0 0, .slice none 0 0, .slice none 0 0]∧tag prog 79=some true:=by and_intros<;>kernel_rfl
@[go_sem] theorem zf18:tar prog 79=none∧tfo prog 79 0=some (0,3)∧tfo prog 79 1=some (1,75)∧tpl prog 79=some [(0,1),(1,6)]∧tcs prog 79= [(4,1),(5,1),(6,1)]∧tsz prog 81=some 4∧tze prog 81=some [.int .i64 0, .int .i64 0, .int .i64 0, .slice none 0 0]∧tag prog 81=some true:=by and_intros<;>kernel_rfl
@[go_sem] theorem zf19:tar prog 81=none∧tfo prog 81 0=some (0,3)∧tfo prog 81 1=some (1,3)∧tfo prog 81 2=some (2,3)∧tfo prog 81 3=some (3,37)∧tpl prog 81=some [(0,1),(1,1),(2,1),(3,1)]∧tcs prog 81= [(3,1)]∧tsz prog 82=some 1:=by and_intros<;>kernel_rfl
@[go_sem] theorem zf20:tze prog 82=some [.slice none 0 0]∧tag prog 82=some false∧tel prog 82=some 75∧tcs prog 82= [(0,6)]∧tkd prog 82=some (.slice 75)∧tsz prog 84=some 28∧tze prog 84=some [.int .i64 0, .int .i64 0, .int .i64 0, .slice none 0 0, .slice none 0 0, .int .i64 0, .slice none 0 0, .int .i64 0, .int .i64 0, .int .i64 0, .slice none 0 0, .slice none 0 0, .slice none 0 0, .int .i64 0, .int .i64 0, .int .i64 0, .int .i64 0, .slice none 0 0, .slice none 0 0, .slice none 0 0, .int .i64 0, .int .i64 0, .int .i64 0, .slice none 0 0, .slice none 0 0, .int .i64 0, .int .i64 0, .slice none 0 0]∧tag prog 84=some true:=by and_intros<;>kernel_rfl
@[go_sem] theorem zf21:tar prog 84=none∧tfo prog 84 0=some (0,45)∧tfo prog 84 1=some (5,77)∧tfo prog 84 2=some (13,79)∧tfo prog 84 3=some (20,81)∧tfo prog 84 4=some (24,82)∧tfo prog 84 5=some (25,3)∧tfo prog 84 6=some (26,3):=by and_intros<;>kernel_rfl
@[go_sem] theorem zf22:tfo prog 84 7=some (27,37)∧tpl prog 84=some [(0,5),(5,8),(13,7),(20,4),(24,1),(25,1),(26,1),(27,1)]∧tcs prog 84= [(3,1),(4,1),(6,1),(10,1),(11,1),(12,1),(17,1),(18,1),(19,1),(23,1),(24,6),(27,1)]∧tsz prog 86=some 1∧tze prog 86=some [.slice none 0 0]∧tag prog 86=some false∧tel prog 86=some 98∧tkd prog 86=some (.slice 98):=by and_intros<;>kernel_rfl
@[go_sem] theorem zf23:tsz prog 88=some 9∧tze prog 88=some [.int .i64 0, .int .i64 0, .int .i64 0, .int .i64 0, .slice none 0 0, .int .i64 0, .int .i64 0, .int .i64 0, .slice none 0 0]∧tag prog 88=some true∧tar prog 88=none∧tfo prog 88 0=some (0,3)∧tfo prog 88 1=some (1,3)∧tfo prog 88 2=some (2,67)∧tfo prog 88 3=some (4,82):=by and_intros<;>kernel_rfl
@[go_sem] theorem zf24:tfo prog 88 4=some (5,3)∧tfo prog 88 5=some (6,3)∧tfo prog 88 6=some (7,3)∧tfo prog 88 7=some (8,37)∧tpl prog 88=some [(0,1),(1,1),(2,2),(4,1),(5,1),(6,1),(7,1),(8,1)]∧tcs prog 88= [(4,6),(8,1)]∧tsz prog 91=some 12∧tfo prog 91 0=some (0,3):=by and_intros<;>kernel_rfl
@[go_sem] theorem zf25:tfo prog 91 1=some (1,3)∧tfo prog 91 2=some (2,3)∧tfo prog 91 3=some (3,88)∧tsz prog 93=some 2∧tze prog 93=some [.slice none 0 0, .slice none 0 0]∧tag prog 93=some true∧tar prog 93=none∧tfo prog 93 0=some (0,82):=by and_intros<;>kernel_rfl
@[go_sem] theorem zf26:tfo prog 93 1=some (1,37)∧tpl prog 93=some [(0,1),(1,1)]∧tsz prog 98=some 10∧tby prog 98=some 112∧tze prog 98=some [.int .i64 0, .int .i64 0, .int .i64 0, .int .i64 0, .int .i64 0, .slice none 0 0, .int .i64 0, .int .i64 0, .int .i64 0, .slice none 0 0]∧tag prog 98=some true∧tar prog 98=none∧tfo prog 98 0=some (0,3):=by and_intros<;>kernel_rfl
@[go_sem] theorem zf27:tfo prog 98 1=some (1,88)∧tpl prog 98=some [(0,1),(1,9)]∧tsz prog 103=some 1∧tag prog 103=some false∧tel prog 103=some 109∧tcs prog 103= [(0,6)]∧tkd prog 103=some (.slice 109)∧tsz prog 105=some 9:=by and_intros<;>kernel_rfl
@[go_sem] theorem zf28:tze prog 105=some [.int .i64 0, .int .i64 0, .int .i64 0, .int .i64 0, .slice none 0 0, .int .i64 0, .int .i64 0, .int .i64 0, .slice none 0 0]∧tag prog 105=some true∧tar prog 105=none∧tfo prog 105 0=some (0,3)∧tfo prog 105 1=some (1,3)∧tfo prog 105 2=some (2,67)∧tfo prog 105 3=some (4,103)∧tfo prog 105 4=some (5,3):=by and_intros<;>kernel_rfl
@[go_sem] theorem zf29:tfo prog 105 5=some (6,3)∧tfo prog 105 6=some (7,3)∧tfo prog 105 7=some (8,37)∧tpl prog 105=some [(0,1),(1,1),(2,2),(4,1),(5,1),(6,1),(7,1),(8,1)]∧tcs prog 105= [(4,6),(8,1)]∧tsz prog 108=some 5∧tze prog 108=some [.int .i64 0, .int .i64 0, .int .i64 0, .slice none 0 0, .slice none 0 0]∧tag prog 108=some true:=by and_intros<;>kernel_rfl
@[go_sem] theorem zf30:tar prog 108=none∧tfo prog 108 0=some (0,3)∧tfo prog 108 1=some (1,3)∧tfo prog 108 2=some (2,3)∧tfo prog 108 3=some (3,38)∧tfo prog 108 4=some (4,43)∧tpl prog 108=some [(0,1),(1,1),(2,1),(3,1),(4,1)]∧tcs prog 108= [(3,1),(4,1)]:=by and_intros<;>kernel_rfl
@[go_sem] theorem zf31:tsz prog 109=some 6∧tby prog 109=some 96∧tze prog 109=some [.int .i64 0, .int .i64 0, .int .i64 0, .slice none 0 0, .slice none 0 0, .slice none 0 0]∧tag prog 109=some true∧tar prog 109=none∧tfo prog 109 0=some (0,3)∧tfo prog 109 1=some (1,3)∧tfo prog 109 2=some (2,3):=by and_intros<;>kernel_rfl
@[go_sem] theorem zf32:tfo prog 109 3=some (3,37)∧tfo prog 109 4=some (4,38)∧tfo prog 109 5=some (5,43)∧tpl prog 109=some [(0,1),(1,1),(2,1),(3,1),(4,1),(5,1)]∧tcs prog 109= [(3,1),(4,1),(5,1)]∧tsz prog 111=some 8∧tze prog 111=some [.int .i64 0, .slice none 0 0, .int .i64 0, .int .i64 0, .int .i64 0, .slice none 0 0, .slice none 0 0, .slice none 0 0]∧tag prog 111=some true:=by and_intros<;>kernel_rfl
@[go_sem] theorem zf33:tar prog 111=none∧tfo prog 111 0=some (0,3)∧tfo prog 111 1=some (1,73)∧tfo prog 111 2=some (2,109)∧tpl prog 111=some [(0,1),(1,1),(2,6)]∧tcs prog 111= [(1,1),(5,1),(6,1),(7,1)]∧tsz prog 113=some 7∧tze prog 113=some [.int .i64 0, .int .i64 0, .int .i64 0, .int .i64 0, .slice none 0 0, .slice none 0 0, .slice none 0 0]:=by and_intros<;>kernel_rfl
@[go_sem] theorem zf34:tag prog 113=some true∧tar prog 113=none∧tfo prog 113 0=some (0,3)∧tfo prog 113 1=some (1,109)∧tpl prog 113=some [(0,1),(1,6)]∧tsz prog 114=some 4∧tze prog 114=some [.int .i64 0, .int .i64 0, .int .i64 0, .slice none 0 0]∧tag prog 114=some true:=by and_intros<;>kernel_rfl
@[go_sem] theorem zf35:tar prog 114=none∧tfo prog 114 0=some (0,3)∧tfo prog 114 1=some (1,3)∧tfo prog 114 2=some (2,3)∧tfo prog 114 3=some (3,37)∧tpl prog 114=some [(0,1),(1,1),(2,1),(3,1)]∧tcs prog 114= [(3,1)]∧tsz prog 116=some 28:=by and_intros<;>kernel_rfl
@[go_sem] theorem zf36:tze prog 116=some [.int .i64 0, .int .i64 0, .int .i64 0, .slice none 0 0, .slice none 0 0, .int .i64 0, .slice none 0 0, .int .i64 0, .int .i64 0, .int .i64 0, .slice none 0 0, .slice none 0 0, .slice none 0 0, .int .i64 0, .int .i64 0, .int .i64 0, .int .i64 0, .slice none 0 0, .slice none 0 0, .slice none 0 0, .int .i64 0, .int .i64 0, .int .i64 0, .slice none 0 0, .slice none 0 0, .int .i64 0, .int .i64 0, .slice none 0 0]∧tag prog 116=some true∧tar prog 116=none∧tfo prog 116 0=some (0,108)∧tfo prog 116 1=some (5,111)∧tfo prog 116 2=some (13,113)∧tfo prog 116 3=some (20,114)∧tfo prog 116 4=some (24,103):=by and_intros<;>kernel_rfl
@[go_sem] theorem zf37:tfo prog 116 5=some (25,3)∧tfo prog 116 6=some (26,3)∧tfo prog 116 7=some (27,37)∧tpl prog 116=some [(0,5),(5,8),(13,7),(20,4),(24,1),(25,1),(26,1),(27,1)]∧tcs prog 116= [(3,1),(4,1),(6,1),(10,1),(11,1),(12,1),(17,1),(18,1),(19,1),(23,1),(24,6),(27,1)]∧tsz prog 181=some 1∧tag prog 181=some false∧tel prog 181=some 187:=by and_intros<;>kernel_rfl
@[go_sem] theorem zf38:tkd prog 181=some (.slice 187)∧tsz prog 183=some 2∧tby prog 183=some 32∧tze prog 183=some [.int .i64 0, .slice none 0 0]∧tag prog 183=some true∧tar prog 183=none∧tfo prog 183 0=some (0,3)∧tfo prog 183 1=some (1,181):=by and_intros<;>kernel_rfl
@[go_sem] theorem zf39:tpl prog 183=some [(0,1),(1,1)]∧tcs prog 183= [(1,4)]∧tsz prog 184=some 1∧tag prog 184=some false∧tel prog 184=some 247∧tkd prog 184=some (.slice 247)∧tsz prog 185=some 1∧tag prog 185=some false:=by and_intros<;>kernel_rfl
@[go_sem] theorem zf40:tel prog 185=some 304∧tkd prog 185=some (.slice 304)∧tsz prog 187=some 4∧tby prog 187=some 80∧tze prog 187=some [.int .i64 0, .slice none 0 0, .slice none 0 0, .slice none 0 0]∧tag prog 187=some true∧tar prog 187=none∧tfo prog 187 0=some (0,3):=by and_intros<;>kernel_rfl
@[go_sem] theorem zf41:tfo prog 187 1=some (1,37)∧tfo prog 187 2=some (2,184)∧tfo prog 187 3=some (3,185)∧tpl prog 187=some [(0,1),(1,1),(2,1),(3,1)]∧tcs prog 187= [(1,1),(2,2),(3,3)]∧tsz prog 198=some 1∧tag prog 198=some false∧tel prog 198=some 300:=by and_intros<;>kernel_rfl
@[go_sem] theorem zf42:tkd prog 198=some (.slice 300)∧tsz prog 200=some 2∧tby prog 200=some 32∧tze prog 200=some [.int .i64 0, .slice none 0 0]∧tag prog 200=some true∧tar prog 200=none∧tfo prog 200 0=some (0,3)∧tfo prog 200 1=some (1,198):=by and_intros<;>kernel_rfl
@[go_sem] theorem zf43:tpl prog 200=some [(0,1),(1,1)]∧tsz prog 206=some 1∧tag prog 206=some false∧tel prog 206=some 213∧tkd prog 206=some (.slice 213)∧tsz prog 208=some 2∧tby prog 208=some 32∧tze prog 208=some [.int .i64 0, .slice none 0 0]:=by and_intros<;>kernel_rfl
@[go_sem] theorem zf44:tag prog 208=some true∧tar prog 208=none∧tfo prog 208 0=some (0,3)∧tfo prog 208 1=some (1,206)∧tpl prog 208=some [(0,1),(1,1)]∧tsz prog 213=some 2∧tby prog 213=some 16∧tze prog 213=some [.int .i64 0, .int .i64 0]:=by and_intros<;>kernel_rfl
@[go_sem] theorem zf45:tfo prog 213 0=some (0,3)∧tfo prog 213 1=some (1,3)∧tcs prog 220= []∧tcs prog 228= []∧tsz prog 230=some 45∧tar prog 230=none∧tfo prog 230 0=some (0,27)∧tfo prog 230 1=some (4,84):=by and_intros<;>kernel_rfl
@[go_sem] theorem zf46:tfo prog 230 2=some (32,86)∧tfo prog 230 3=some (33,93)∧tfo prog 230 4=some (35,3)∧tfo prog 230 5=some (36,88)∧tpl prog 230=some [(0,4),(4,28),(32,1),(33,2),(35,1),(36,9)]∧tcs prog 230= [(1,2),(2,2),(7,1),(8,1),(10,1),(14,1),(15,1),(16,1),(21,1),(22,1),(23,1),(27,1),(28,6),(31,1),(32,10),(33,6),(34,1),(40,6),(44,1)]∧tcs prog 232= []∧tcs prog 233= []:=by and_intros<;>kernel_rfl
@[go_sem] theorem zf47:tcs prog 239= []∧tsz prog 245=some 1∧tag prog 245=some false∧tel prog 245=some 251∧tkd prog 245=some (.slice 251)∧tsz prog 247=some 2∧tby prog 247=some 32∧tze prog 247=some [.int .i64 0, .slice none 0 0]:=by and_intros<;>kernel_rfl
@[go_sem] theorem zf48:tag prog 247=some true∧tar prog 247=none∧tfo prog 247 0=some (0,3)∧tfo prog 247 1=some (1,245)∧tpl prog 247=some [(0,1),(1,1)]∧tsz prog 251=some 2∧tby prog 251=some 16∧tze prog 251=some [.int .i64 0, .int .i64 0]:=by and_intros<;>kernel_rfl
@[go_sem] theorem zf49:tar prog 251=none∧tfo prog 251 0=some (0,3)∧tfo prog 251 1=some (1,3)∧tpl prog 251=some [(0,1),(1,1)]∧tcs prog 272= []∧tcs prog 288= []∧tsz prog 297=some 1∧tag prog 297=some false:=by and_intros<;>kernel_rfl
@[go_sem] theorem zf50:tel prog 297=some 208∧tkd prog 297=some (.slice 208)∧tsz prog 298=some 1∧tag prog 298=some false∧tel prog 298=some 306∧tkd prog 298=some (.slice 306)∧tsz prog 300=some 4∧tby prog 300=some 80:=by and_intros<;>kernel_rfl
@[go_sem] theorem zf51:tze prog 300=some [.int .i64 0, .slice none 0 0, .slice none 0 0, .slice none 0 0]∧tag prog 300=some true∧tar prog 300=none∧tfo prog 300 0=some (0,3)∧tfo prog 300 1=some (1,37)∧tfo prog 300 2=some (2,297)∧tfo prog 300 3=some (3,298)∧tpl prog 300=some [(0,1),(1,1),(2,1),(3,1)]:=by and_intros<;>kernel_rfl
@[go_sem] theorem zf52:tcs prog 300= [(1,1),(2,2),(3,3)]∧tsz prog 304=some 3∧tby prog 304=some 24∧tze prog 304=some [.int .i64 0, .int .i64 0, .int .i64 0]∧tag prog 304=some true∧tar prog 304=none∧tfo prog 304 0=some (0,3)∧tfo prog 304 1=some (1,3):=by and_intros<;>kernel_rfl
@[go_sem] theorem zf53:tfo prog 304 2=some (2,3)∧tpl prog 304=some [(0,1),(1,1),(2,1)]∧tsz prog 306=some 3∧tby prog 306=some 24∧tze prog 306=some [.int .i64 0, .int .i64 0, .int .i64 0]∧tag prog 306=some true∧tfo prog 306 0=some (0,3)∧tfo prog 306 1=some (1,3):=by and_intros<;>kernel_rfl
@[go_sem] theorem zf54:tfo prog 306 2=some (2,3)∧tcs prog 307= []∧tkd prog 317=some (.int .u64)∧tsz prog 320=some 1∧tze prog 320=some [.int .i64 0]∧tar prog 320=none∧tfo prog 320 0=some (0,50)∧tpl prog 320=some [(0,1)]:=by and_intros<;>kernel_rfl
@[go_sem] theorem zf55:tkd prog 320=some .other∧tsz prog 325=some 7∧tze prog 325=some [.nilFunc, .nilFunc, .nilFunc, .nilFunc, .nilFunc, .nilFunc, .nilFunc]∧tar prog 325=some (7,232)∧tpl prog 325=none∧tcs prog 330= []∧tsz prog 343=some 9∧tze prog 343=some [.int .i64 0, .int .i64 0, .int .i64 0, .slice none 0 0, .slice none 0 0, .int .i64 0, .slice none 0 0, .slice none 0 0, .bool false]:=by and_intros<;>kernel_rfl
@[go_sem] theorem zf56:tag prog 343=some true∧tar prog 343=none∧tfo prog 343 0=some (0,45)∧tfo prog 343 1=some (5,27)∧tpl prog 343=some [(0,5),(5,4)]∧tcs prog 343= [(3,1),(4,1),(6,2),(7,2)]∧tsz prog 373=some 7∧tze prog 373=some [.nilFunc, .nilFunc, .nilFunc, .nilFunc, .nilFunc, .nilFunc, .nilFunc]:=by and_intros<;>kernel_rfl
@[go_sem] theorem zf57:tar prog 373=some (7,324)∧tpl prog 373=none∧tcs prog 418= []∧tcs prog 422= []∧tcs prog 428= []∧tel prog 459=some 82∧tcs prog 459= [(0,1)]∧tkd prog 459=some (.slice 82):=by and_intros<;>kernel_rfl
@[go_sem] theorem fxk_15:fxk prog 15=none:=by kernel_rfl
@[go_sem] theorem fnOk_15:fnOk prog 15=true:=by kernel_rfl
@[go_sem] theorem fxk_16:fxk prog 16=none:=by kernel_rfl
@[go_sem] theorem fnOk_16:fnOk prog 16=true:=by kernel_rfl
@[go_sem] theorem fxk_17:fxk prog 17=none:=by kernel_rfl
@[go_sem] theorem fnOk_17:fnOk prog 17=true:=by kernel_rfl
@[go_sem] theorem fxk_20:fxk prog 20=none:=by kernel_rfl
@[go_sem] theorem fnOk_20:fnOk prog 20=true:=by kernel_rfl
@[go_sem] theorem fxk_25:fxk prog 25=none:=by kernel_rfl
@[go_sem] theorem fnOk_25:fnOk prog 25=true:=by kernel_rfl
@[go_sem] theorem fxk_29:fxk prog 29=none:=by kernel_rfl
@[go_sem] theorem fnOk_29:fnOk prog 29=true:=by kernel_rfl
@[go_sem] theorem fxk_30:fxk prog 30=none:=by kernel_rfl
@[go_sem] theorem fnOk_30:fnOk prog 30=true:=by kernel_rfl
@[go_sem] theorem fxk_31:fxk prog 31=none:=by kernel_rfl
@[go_sem] theorem fnOk_31:fnOk prog 31=true:=by kernel_rfl
@[go_sem] theorem fxk_32:fxk prog 32=none:=by kernel_rfl
@[go_sem] theorem fnOk_32:fnOk prog 32=true:=by kernel_rfl
@[go_sem] theorem fxk_33:fxk prog 33=none:=by kernel_rfl
@[go_sem] theorem fnOk_33:fnOk prog 33=true:=by kernel_rfl
@[go_sem] theorem fxk_34:fxk prog 34=none:=by kernel_rfl
@[go_sem] theorem fnOk_34:fnOk prog 34=true:=by kernel_rfl
@[go_sem] theorem fxk_35:fxk prog 35=none:=by kernel_rfl
@[go_sem] theorem fnOk_35:fnOk prog 35=true:=by kernel_rfl
@[go_sem] theorem fxk_36:fxk prog 36=none:=by kernel_rfl
@[go_sem] theorem fnOk_36:fnOk prog 36=true:=by kernel_rfl
@[go_sem] theorem fxk_37:fxk prog 37=none:=by kernel_rfl
@[go_sem] theorem fnOk_37:fnOk prog 37=true:=by kernel_rfl
@[go_sem] theorem fxk_38:fxk prog 38=none:=by kernel_rfl
@[go_sem] theorem fnOk_38:fnOk prog 38=true:=by kernel_rfl
@[go_sem] theorem fxk_39:fxk prog 39=none:=by kernel_rfl
@[go_sem] theorem fnOk_39:fnOk prog 39=true:=by kernel_rfl
@[go_sem] theorem fxk_40:fxk prog 40=none:=by kernel_rfl
@[go_sem] theorem fnOk_40:fnOk prog 40=true:=by kernel_rfl
@[go_sem] theorem fxk_41:fxk prog 41=none:=by kernel_rfl
@[go_sem] theorem fnOk_41:fnOk prog 41=true:=by kernel_rfl
@[go_sem] theorem fxk_42:fxk prog 42=none:=by kernel_rfl
@[go_sem] theorem fnOk_42:fnOk prog 42=true:=by kernel_rfl
@[go_sem] theorem fxk_43:fxk prog 43=none:=by kernel_rfl
@[go_sem] theorem fnOk_43:fnOk prog 43=true:=by kernel_rfl
@[go_sem] theorem fxk_44:fxk prog 44=none:=by kernel_rfl
@[go_sem] theorem fnOk_44:fnOk prog 44=true:=by kernel_rfl
@[go_sem] theorem fxk_46:fxk prog 46=none:=by kernel_rfl
@[go_sem] theorem fnOk_46:fnOk prog 46=true:=by kernel_rfl
@[go_sem] theorem fxk_47:fxk prog 47=none:=by kernel_rfl
@[go_sem] theorem fnOk_47:fnOk prog 47=true:=by kernel_rfl
@[go_sem] theorem fxk_75:fxk prog 75=none:=by kernel_rfl
@[go_sem] theorem fnOk_75:fnOk prog 75=true:=by kernel_rfl
@[go_sem] theorem fxk_76:fxk prog 76=none:=by kernel_rfl
@[go_sem] theorem fnOk_76:fnOk prog 76=true:=by kernel_rfl
@[go_sem] theorem fxk_77:fxk prog 77=none:=by kernel_rfl
@[go_sem] theorem fnOk_77:fnOk prog 77=true:=by kernel_rfl
@[go_sem] theorem fxk_78:fxk prog 78=none:=by kernel_rfl
@[go_sem] theorem fnOk_78:fnOk prog 78=true:=by kernel_rfl
@[go_sem] theorem fxk_79:fxk prog 79=none:=by kernel_rfl
@[go_sem] theorem fnOk_79:fnOk prog 79=true:=by kernel_rfl
@[go_sem] theorem fxk_80:fxk prog 80=none:=by kernel_rfl
@[go_sem] theorem fnOk_80:fnOk prog 80=true:=by kernel_rfl
@[go_sem] theorem fxk_81:fxk prog 81=none:=by kernel_rfl
@[go_sem] theorem fnOk_81:fnOk prog 81=true:=by kernel_rfl
@[go_sem] theorem fxk_84:fxk prog 84=none:=by kernel_rfl
@[go_sem] theorem fnOk_84:fnOk prog 84=true:=by kernel_rfl
@[go_sem] theorem fxk_87:fxk prog 87=none:=by kernel_rfl
@[go_sem] theorem fnOk_87:fnOk prog 87=true:=by kernel_rfl
@[go_sem] theorem fxk_88:fxk prog 88=none:=by kernel_rfl
@[go_sem] theorem fnOk_88:fnOk prog 88=true:=by kernel_rfl
@[go_sem] theorem fxk_89:fxk prog 89=none:=by kernel_rfl
@[go_sem] theorem fnOk_89:fnOk prog 89=true:=by kernel_rfl
@[go_sem] theorem fxk_90:fxk prog 90=none:=by kernel_rfl
@[go_sem] theorem fnOk_90:fnOk prog 90=true:=by kernel_rfl
@[go_sem] theorem fxk_93:fxk prog 93=none:=by kernel_rfl
@[go_sem] theorem fnOk_93:fnOk prog 93=true:=by kernel_rfl
@[go_sem] theorem fxk_95:fxk prog 95=none:=by kernel_rfl
@[go_sem] theorem fnOk_95:fnOk prog 95=true:=by kernel_rfl
@[go_sem] theorem fxk_96:fxk prog 96=none:=by kernel_rfl
@[go_sem] theorem fnOk_96:fnOk prog 96=true:=by kernel_rfl
@[go_sem] theorem fxk_97:fxk prog 97=none:=by kernel_rfl
@[go_sem] theorem fnOk_97:fnOk prog 97=true:=by kernel_rfl
@[go_sem] theorem fxk_98:fxk prog 98=none:=by kernel_rfl
@[go_sem] theorem fnOk_98:fnOk prog 98=true:=by kernel_rfl
@[go_sem] theorem fxk_99:fxk prog 99=none:=by kernel_rfl
@[go_sem] theorem fnOk_99:fnOk prog 99=true:=by kernel_rfl
@[go_sem] theorem fxk_100:fxk prog 100=none:=by kernel_rfl
@[go_sem] theorem fnOk_100:fnOk prog 100=true:=by kernel_rfl
@[go_sem] theorem fnOk_101:fnOk prog 101=true:=by kernel_rfl
@[go_sem] theorem fxk_102:fxk prog 102=none:=by kernel_rfl
@[go_sem] theorem fnOk_102:fnOk prog 102=true:=by kernel_rfl
@[go_sem] theorem fxk_103:fxk prog 103=none:=by kernel_rfl
@[go_sem] theorem fnOk_103:fnOk prog 103=true:=by kernel_rfl
@[go_sem] theorem fxk_107:fxk prog 107=none:=by kernel_rfl
@[go_sem] theorem fnOk_107:fnOk prog 107=true:=by kernel_rfl
@[go_sem] theorem fxk_108:fxk prog 108=none:=by kernel_rfl
@[go_sem] theorem fnOk_108:fnOk prog 108=true:=by kernel_rfl
@[go_sem] theorem fxk_109:fxk prog 109=none:=by kernel_rfl
@[go_sem] theorem fnOk_109:fnOk prog 109=true:=by kernel_rfl
@[go_sem] theorem fxk_110:fxk prog 110=none:=by kernel_rfl
@[go_sem] theorem fnOk_110:fnOk prog 110=true:=by kernel_rfl
@[go_sem] theorem fxk_111:fxk prog 111=none:=by kernel_rfl
@[go_sem] theorem fnOk_111:fnOk prog 111=true:=by kernel_rfl
@[go_sem] theorem fxk_112:fxk prog 112=none:=by kernel_rfl
@[go_sem] theorem fnOk_112:fnOk prog 112=true:=by kernel_rfl
@[go_sem] theorem fxk_113:fxk prog 113=none:=by kernel_rfl
@[go_sem] theorem fnOk_113:fnOk prog 113=true:=by kernel_rfl
@[go_sem] theorem fxk_114:fxk prog 114=none:=by kernel_rfl
@[go_sem] theorem fnOk_114:fnOk prog 114=true:=by kernel_rfl
@[go_sem] theorem fxk_115:fxk prog 115=none:=by kernel_rfl
@[go_sem] theorem fnOk_115:fnOk prog 115=true:=by kernel_rfl
@[go_sem] theorem fxk_116:fxk prog 116=none:=by kernel_rfl
@[go_sem] theorem fnOk_116:fnOk prog 116=true:=by kernel_rfl
@[go_sem] theorem fxk_117:fxk prog 117=none:=by kernel_rfl
@[go_sem] theorem fnOk_117:fnOk prog 117=true:=by kernel_rfl
@[go_sem] theorem fxk_118:fxk prog 118=none:=by kernel_rfl
@[go_sem] theorem fnOk_118:fnOk prog 118=true:=by kernel_rfl
@[go_sem] theorem fxk_119:fxk prog 119=none:=by kernel_rfl
@[go_sem] theorem fnOk_119:fnOk prog 119=true:=by kernel_rfl
@[go_sem] theorem fxk_120:fxk prog 120=none:=by kernel_rfl
@[go_sem] theorem fnOk_120:fnOk prog 120=true:=by kernel_rfl
@[go_sem] theorem fxk_121:fxk prog 121=none:=by kernel_rfl
@[go_sem] theorem fnOk_121:fnOk prog 121=true:=by kernel_rfl
@[go_sem] theorem fxk_122:fxk prog 122=none:=by kernel_rfl
@[go_sem] theorem fnOk_122:fnOk prog 122=true:=by kernel_rfl
@[go_sem] theorem fxk_147:fxk prog 147=none:=by kernel_rfl
@[go_sem] theorem fnOk_147:fnOk prog 147=true:=by kernel_rfl
@[go_sem] theorem fxk_148:fxk prog 148=none:=by kernel_rfl
@[go_sem] theorem fnOk_148:fnOk prog 148=true:=by kernel_rfl
@[go_sem] theorem fxk_154:fxk prog 154=none:=by kernel_rfl
@[go_sem] theorem fnOk_154:fnOk prog 154=true:=by kernel_rfl
@[go_sem] theorem fxk_164:fxk prog 164=none:=by kernel_rfl
@[go_sem] theorem fnOk_164:fnOk prog 164=true:=by kernel_rfl
@[go_sem] theorem fxk_165:fxk prog 165=none:=by kernel_rfl
@[go_sem] theorem fnOk_165:fnOk prog 165=true:=by kernel_rfl
@[go_sem] theorem fxk_166:fxk prog 166=none:=by kernel_rfl
@[go_sem] theorem fnOk_166:fnOk prog 166=true:=by kernel_rfl
@[go_sem] theorem fxk_167:fxk prog 167=none:=by kernel_rfl
@[go_sem] theorem fnOk_167:fnOk prog 167=true:=by kernel_rfl
@[go_sem] theorem fxk_168:fxk prog 168=none:=by kernel_rfl
@[go_sem] theorem fnOk_168:fnOk prog 168=true:=by kernel_rfl
@[go_sem] theorem fxk_169:fxk prog 169=none:=by kernel_rfl
@[go_sem] theorem fnOk_169:fnOk prog 169=true:=by kernel_rfl
@[go_sem] theorem fxk_170:fxk prog 170=none:=by kernel_rfl
@[go_sem] theorem fnOk_170:fnOk prog 170=true:=by kernel_rfl
@[go_sem] theorem fxk_171:fxk prog 171=none:=by kernel_rfl
@[go_sem] theorem fnOk_171:fnOk prog 171=true:=by kernel_rfl
@[go_sem] theorem fxk_176:fxk prog 176=none:=by kernel_rfl
@[go_sem] theorem fnOk_176:fnOk prog 176=true:=by kernel_rfl
@[go_sem] theorem fxk_178:fxk prog 178=none:=by kernel_rfl
@[go_sem] theorem fnOk_178:fnOk prog 178=true:=by kernel_rfl
@[go_sem] theorem fxk_179:fxk prog 179=none:=by kernel_rfl
@[go_sem] theorem fxk_182:fxk prog 182=none:=by kernel_rfl
@[go_sem] theorem fnOk_182:fnOk prog 182=true:=by kernel_rfl
@[go_sem] theorem fxk_183:fxk prog 183=none:=by kernel_rfl
@[go_sem] theorem fnOk_183:fnOk prog 183=true:=by kernel_rfl
@[go_sem] theorem fxk_184:fxk prog 184=none:=by kernel_rfl
@[go_sem] theorem fnOk_184:fnOk prog 184=true:=by kernel_rfl
@[go_sem] theorem fxk_185:fxk prog 185=none:=by kernel_rfl
@[go_sem] theorem fnOk_185:fnOk prog 185=true:=by kernel_rfl
@[go_sem] theorem fxk_186:fxk prog 186=none:=by kernel_rfl
@[go_sem] theorem fnOk_186:fnOk prog 186=true:=by kernel_rfl
@[go_sem] theorem fxk_187:fxk prog 187=none:=by kernel_rfl
@[go_sem] theorem fnOk_187:fnOk prog 187=true:=by kernel_rfl
@[go_sem] theorem fxk_188:fxk prog 188=none:=by kernel_rfl
@[go_sem] theorem fnOk_188:fnOk prog 188=true:=by kernel_rfl
@[go_sem] theorem fxk_189:fxk prog 189=none:=by kernel_rfl
@[go_sem] theorem fnOk_189:fnOk prog 189=true:=by kernel_rfl
@[go_sem] theorem fxk_190:fxk prog 190=none:=by kernel_rfl
@[go_sem] theorem fnOk_190:fnOk prog 190=true:=by kernel_rfl
@[go_sem] theorem fxk_191:fxk prog 191=none:=by kernel_rfl
@[go_sem] theorem fnOk_191:fnOk prog 191=true:=by kernel_rfl
@[go_sem] theorem fxk_192:fxk prog 192=none:=by kernel_rfl
@[go_sem] theorem fnOk_192:fnOk prog 192=true:=by kernel_rfl
@[go_sem] theorem fxk_193:fxk prog 193=none:=by kernel_rfl
@[go_sem] theorem fnOk_193:fnOk prog 193=true:=by kernel_rfl
@[go_sem] theorem fxk_194:fxk prog 194=none:=by kernel_rfl
@[go_sem] theorem fnOk_194:fnOk prog 194=true:=by kernel_rfl
@[go_sem] theorem fxk_195:fxk prog 195=none:=by kernel_rfl
@[go_sem] theorem fnOk_195:fnOk prog 195=true:=by kernel_rfl
@[go_sem] theorem fnOk_206:fnOk prog 206=true:=by kernel_rfl
@[go_sem] theorem fxk_207:fxk prog 207=none:=by kernel_rfl
@[go_sem] theorem fnOk_207:fnOk prog 207=true:=by kernel_rfl
@[go_sem] theorem fxk_218:fxk prog 218=none:=by kernel_rfl
@[go_sem] theorem fnOk_218:fnOk prog 218=true:=by kernel_rfl
@[go_sem] theorem fxk_219:fxk prog 219=none:=by kernel_rfl
@[go_sem] theorem fnOk_219:fnOk prog 219=true:=by kernel_rfl
@[go_sem] theorem fxk_224:fxk prog 224=none:=by kernel_rfl
@[go_sem] theorem fnOk_224:fnOk prog 224=true:=by kernel_rfl
@[go_sem] theorem fxk_225:fxk prog 225=none:=by kernel_rfl
@[go_sem] theorem fnOk_225:fnOk prog 225=true:=by kernel_rfl
@[go_sem] theorem fxk_226:fxk prog 226=none:=by kernel_rfl
@[go_sem] theorem fnOk_226:fnOk prog 226=true:=by kernel_rfl
@[go_sem] theorem fxk_227:fxk prog 227=none:=by kernel_rfl
@[go_sem] theorem fnOk_227:fnOk prog 227=true:=by kernel_rfl
@[go_sem] theorem fxk_228:fxk prog 228=none:=by kernel_rfl
@[go_sem] theorem fnOk_228:fnOk prog 228=true:=by kernel_rfl
@[go_sem] theorem fnOk_229:fnOk prog 229=true:=by kernel_rfl
@[go_sem] theorem fxk_231:fxk prog 231=none:=by kernel_rfl
@[go_sem] theorem fnOk_231:fnOk prog 231=true:=by kernel_rfl
@[go_sem] theorem fxk_232:fxk prog 232=none:=by kernel_rfl
@[go_sem] theorem fnOk_232:fnOk prog 232=true:=by kernel_rfl
@[go_sem] theorem fxk_233:fxk prog 233=none:=by kernel_rfl
@[go_sem] theorem fnOk_233:fnOk prog 233=true:=by kernel_rfl
@[go_sem] theorem fxk_234:fxk prog 234=none:=by kernel_rfl
@[go_sem] theorem fnOk_234:fnOk prog 234=true:=by kernel_rfl
@[go_sem] theorem fxk_235:fxk prog 235=none:=by kernel_rfl
@[go_sem] theorem fnOk_235:fnOk prog 235=true:=by kernel_rfl
@[go_sem] theorem fnOk_236:fnOk prog 236=true:=by kernel_rfl
@[go_sem] theorem fxk_237:fxk prog 237=none:=by kernel_rfl
@[go_sem] theorem fnOk_237:fnOk prog 237=true:=by kernel_rfl
@[go_sem] theorem fxk_238:fxk prog 238=none:=by kernel_rfl
@[go_sem] theorem fnOk_238:fnOk prog 238=true:=by kernel_rfl
@[go_sem] theorem fxk_239:fxk prog 239=none:=by kernel_rfl
@[go_sem] theorem fnOk_239:fnOk prog 239=true:=by kernel_rfl
@[go_sem] theorem fxk_240:fxk prog 240=none:=by kernel_rfl
@[go_sem] theorem fnOk_240:fnOk prog 240=true:=by kernel_rfl
@[go_sem] theorem fxk_241:fxk prog 241=none:=by kernel_rfl
@[go_sem] theorem fnOk_241:fnOk prog 241=true:=by kernel_rfl
@[go_sem] theorem fxk_242:fxk prog 242=none:=by kernel_rfl
@[go_sem] theorem fnOk_242:fnOk prog 242=true:=by kernel_rfl
@[go_sem] theorem fxk_243:fxk prog 243=none:=by kernel_rfl
@[go_sem] theorem fnOk_243:fnOk prog 243=true:=by kernel_rfl
@[go_sem] theorem fxk_244:fxk prog 244=none:=by kernel_rfl
@[go_sem] theorem fnOk_244:fnOk prog 244=true:=by kernel_rfl
@[go_sem] theorem fxk_245:fxk prog 245=none:=by kernel_rfl
@[go_sem] theorem fnOk_245:fnOk prog 245=true:=by kernel_rfl
@[go_sem] theorem fxk_246:fxk prog 246=none:=by kernel_rfl
@[go_sem] theorem fnOk_246:fnOk prog 246=true:=by kernel_rfl
@[go_sem] theorem fxk_247:fxk prog 247=none:=by kernel_rfl
@[go_sem] theorem fnOk_247:fnOk prog 247=true:=by kernel_rfl
@[go_sem] theorem fxk_248:fxk prog 248=none:=by kernel_rfl
@[go_sem] theorem fnOk_248:fnOk prog 248=true:=by kernel_rfl
@[go_sem] theorem fnOk_249:fnOk prog 249=true:=by kernel_rfl
@[go_sem] theorem fxk_250:fxk prog 250=none:=by kernel_rfl
@[go_sem] theorem fnOk_250:fnOk prog 250=true:=by kernel_rfl
@[go_sem] theorem fxk_251:fxk prog 251=none:=by kernel_rfl
@[go_sem] theorem fnOk_251:fnOk prog 251=true:=by kernel_rfl
@[go_sem] theorem fxk_252:fxk prog 252=none:=by kernel_rfl
@[go_sem] theorem fnOk_252:fnOk prog 252=true:=by kernel_rfl
@[go_sem] theorem fxk_262:fxk prog 262=none:=by kernel_rfl
@[go_sem] theorem fnOk_262:fnOk prog 262=true:=by kernel_rfl
@[go_sem] theorem fxk_263:fxk prog 263=none:=by kernel_rfl
@[go_sem] theorem fnOk_263:fnOk prog 263=true:=by kernel_rfl
@[go_sem] theorem fxk_283:fxk prog 283=none:=by kernel_rfl
@[go_sem] theorem fnOk_283:fnOk prog 283=true:=by kernel_rfl
@[go_sem] theorem fnOk_284:fnOk prog 284=true:=by kernel_rfl
@[go_sem] theorem fxk_285:fxk prog 285=none:=by kernel_rfl
@[go_sem] theorem fnOk_285:fnOk prog 285=true:=by kernel_rfl
@[go_sem] theorem fnOk_286:fnOk prog 286=true:=by kernel_rfl
@[go_sem] theorem fxk_288:fxk prog 288=none:=by kernel_rfl
@[go_sem] theorem fnOk_288:fnOk prog 288=true:=by kernel_rfl
@[go_sem] theorem fxk_289:fxk prog 289=none:=by kernel_rfl
@[go_sem] theorem fnOk_289:fnOk prog 289=true:=by kernel_rfl
@[go_sem] theorem fxk_290:fxk prog 290=none:=by kernel_rfl
@[go_sem] theorem fnOk_290:fnOk prog 290=true:=by kernel_rfl
@[go_sem] theorem fxk_291:fxk prog 291=none:=by kernel_rfl
@[go_sem] theorem fnOk_291:fnOk prog 291=true:=by kernel_rfl
@[go_sem] theorem fxk_292:fxk prog 292=none:=by kernel_rfl
@[go_sem] theorem fnOk_292:fnOk prog 292=true:=by kernel_rfl
@[go_sem] theorem fnOk_293:fnOk prog 293=true:=by kernel_rfl
@[go_sem] theorem fxk_294:fxk prog 294=none:=by kernel_rfl
@[go_sem] theorem fnOk_294:fnOk prog 294=true:=by kernel_rfl
@[go_sem] theorem fxk_295:fxk prog 295=none:=by kernel_rfl
@[go_sem] theorem fnOk_295:fnOk prog 295=true:=by kernel_rfl
@[go_sem] theorem fxk_296:fxk prog 296=none:=by kernel_rfl
@[go_sem] theorem fnOk_296:fnOk prog 296=true:=by kernel_rfl
@[go_sem] theorem fxk_297:fxk prog 297=none:=by kernel_rfl
@[go_sem] theorem fnOk_297:fnOk prog 297=true:=by kernel_rfl
@[go_sem] theorem fxk_298:fxk prog 298=none:=by kernel_rfl
@[go_sem] theorem fnOk_298:fnOk prog 298=true:=by kernel_rfl
@[go_sem] theorem fxk_299:fxk prog 299=none:=by kernel_rfl
@[go_sem] theorem fnOk_299:fnOk prog 299=true:=by kernel_rfl
@[go_sem] theorem fxk_300:fxk prog 300=none:=by kernel_rfl
@[go_sem] theorem fnOk_300:fnOk prog 300=true:=by kernel_rfl
@[go_sem] theorem fxk_302:fxk prog 302=none:=by kernel_rfl
@[go_sem] theorem fnOk_302:fnOk prog 302=true:=by kernel_rfl
@[go_sem] theorem fxk_303:fxk prog 303=none:=by kernel_rfl
@[go_sem] theorem fnOk_303:fnOk prog 303=true:=by kernel_rfl
@[go_sem] theorem fxk_305:fxk prog 305=none:=by kernel_rfl
@[go_sem] theorem fnOk_305:fnOk prog 305=true:=by kernel_rfl
@[go_sem] theorem fxk_329:fxk prog 329=none:=by kernel_rfl
@[go_sem] theorem fnOk_329:fnOk prog 329=true:=by kernel_rfl
@[go_sem] theorem fxk_330:fxk prog 330=none:=by kernel_rfl
@[go_sem] theorem fnOk_330:fnOk prog 330=true:=by kernel_rfl
@[go_sem] theorem fxk_331:fxk prog 331=none:=by kernel_rfl
@[go_sem] theorem fnOk_331:fnOk prog 331=true:=by kernel_rfl
@[go_sem] theorem fxk_332:fxk prog 332=none:=by kernel_rfl
@[go_sem] theorem fnOk_332:fnOk prog 332=true:=by kernel_rfl
@[go_sem] theorem fxk_333:fxk prog 333=none:=by kernel_rfl
@[go_sem] theorem fnOk_333:fnOk prog 333=true:=by kernel_rfl
@[go_sem] theorem fxk_336:fxk prog 336=none:=by kernel_rfl
@[go_sem] theorem fnOk_336:fnOk prog 336=true:=by kernel_rfl
@[go_sem] theorem fxk_348:fxk prog 348=none:=by kernel_rfl
@[go_sem] theorem fnOk_348:fnOk prog 348=true:=by kernel_rfl
@[go_sem] theorem fxk_350:fxk prog 350=none:=by kernel_rfl
@[go_sem] theorem fnOk_350:fnOk prog 350=true:=by kernel_rfl
theorem mixed:Tryz.prog.follows .mixedOrders=true:=by kernel_rfl
end Go.Proofs.NO
attribute [go_sem] Go.Proofs.Tryz.ntmps3 Go.Proofs.Tryz.results3 Go.Proofs.Tryz.ntmps4 Go.Proofs.Tryz.results4 Go.Proofs.Tryz.ntmps5 Go.Proofs.Tryz.results5 Go.Proofs.Tryz.ntmps6 Go.Proofs.Tryz.results6 Go.Proofs.Tryz.ntmps7 Go.Proofs.Tryz.results7 Go.Proofs.Tryz.ntmps8 Go.Proofs.Tryz.results8 Go.Proofs.Tryz.ntmps9 Go.Proofs.Tryz.results9 Go.Proofs.Tryz.ntmps10 Go.Proofs.Tryz.results10 Go.Proofs.Tryz.ntmps11 Go.Proofs.Tryz.results11 Go.Proofs.Tryz.ntmps12 Go.Proofs.Tryz.results12 Go.Proofs.Tryz.ntmps13 Go.Proofs.Tryz.results13 Go.Proofs.Tryz.ntmps14 Go.Proofs.Tryz.results14 Go.Proofs.Tryz.ntmps15 Go.Proofs.Tryz.results15 Go.Proofs.Tryz.ntmps16 Go.Proofs.Tryz.results16 Go.Proofs.Tryz.ntmps17 Go.Proofs.Tryz.results17 Go.Proofs.Tryz.ntmps18 Go.Proofs.Tryz.results18 Go.Proofs.Tryz.ntmps19 Go.Proofs.Tryz.results19 Go.Proofs.Tryz.ntmps20 Go.Proofs.Tryz.results20 Go.Proofs.Tryz.ntmps21 Go.Proofs.Tryz.results21 Go.Proofs.Tryz.ntmps22 Go.Proofs.Tryz.results22 Go.Proofs.Tryz.ntmps23 Go.Proofs.Tryz.results23 Go.Proofs.Tryz.ntmps24 Go.Proofs.Tryz.results24 Go.Proofs.Tryz.ntmps25 Go.Proofs.Tryz.results25 Go.Proofs.Tryz.ntmps26 Go.Proofs.Tryz.results26 Go.Proofs.Tryz.ntmps27 Go.Proofs.Tryz.results27 Go.Proofs.Tryz.ntmps28 Go.Proofs.Tryz.results28 Go.Proofs.Tryz.ntmps29 Go.Proofs.Tryz.results29 Go.Proofs.Tryz.ntmps30 Go.Proofs.Tryz.results30 Go.Proofs.Tryz.ntmps31 Go.Proofs.Tryz.results31 Go.Proofs.Tryz.ntmps32 Go.Proofs.Tryz.results32 Go.Proofs.Tryz.ntmps33 Go.Proofs.Tryz.results33 Go.Proofs.Tryz.ntmps34 Go.Proofs.Tryz.results34 Go.Proofs.Tryz.ntmps35 Go.Proofs.Tryz.results35 Go.Proofs.Tryz.ntmps36 Go.Proofs.Tryz.results36 Go.Proofs.Tryz.ntmps37 Go.Proofs.Tryz.results37 Go.Proofs.Tryz.ntmps38 Go.Proofs.Tryz.results38 Go.Proofs.Tryz.ntmps39 Go.Proofs.Tryz.results39 Go.Proofs.Tryz.ntmps40 Go.Proofs.Tryz.results40 Go.Proofs.Tryz.ntmps41 Go.Proofs.Tryz.results41 Go.Proofs.Tryz.ntmps42 Go.Proofs.Tryz.results42 Go.Proofs.Tryz.ntmps43 Go.Proofs.Tryz.results43 Go.Proofs.Tryz.ntmps44 Go.Proofs.Tryz.results44 Go.Proofs.Tryz.ntmps45 Go.Proofs.Tryz.results45 Go.Proofs.Tryz.ntmps46 Go.Proofs.Tryz.results46 Go.Proofs.Tryz.ntmps47 Go.Proofs.Tryz.results47 Go.Proofs.Tryz.ntmps48 Go.Proofs.Tryz.results48 Go.Proofs.Tryz.ntmps49 Go.Proofs.Tryz.results49 Go.Proofs.Tryz.ntmps50 Go.Proofs.Tryz.results50 Go.Proofs.Tryz.ntmps51 Go.Proofs.Tryz.results51 Go.Proofs.Tryz.ntmps52 Go.Proofs.Tryz.results52 Go.Proofs.Tryz.ntmps53 Go.Proofs.Tryz.results53 Go.Proofs.Tryz.ntmps54 Go.Proofs.Tryz.results54 Go.Proofs.Tryz.ntmps55 Go.Proofs.Tryz.results55 Go.Proofs.Tryz.ntmps56 Go.Proofs.Tryz.results56 Go.Proofs.Tryz.ntmps57 Go.Proofs.Tryz.results57 Go.Proofs.Tryz.ntmps58 Go.Proofs.Tryz.results58 Go.Proofs.Tryz.ntmps59 Go.Proofs.Tryz.results59 Go.Proofs.Tryz.ntmps60 Go.Proofs.Tryz.results60 Go.Proofs.Tryz.ntmps61 Go.Proofs.Tryz.results61 Go.Proofs.Tryz.ntmps62 Go.Proofs.Tryz.results62 Go.Proofs.Tryz.ntmps63 Go.Proofs.Tryz.results63 Go.Proofs.Tryz.ntmps64 Go.Proofs.Tryz.results64 Go.Proofs.Tryz.ntmps65 Go.Proofs.Tryz.results65 Go.Proofs.Tryz.ntmps66 Go.Proofs.Tryz.results66 Go.Proofs.Tryz.ntmps67 Go.Proofs.Tryz.results67 Go.Proofs.Tryz.ntmps68 Go.Proofs.Tryz.results68 Go.Proofs.Tryz.ntmps69 Go.Proofs.Tryz.results69 Go.Proofs.Tryz.ntmps70 Go.Proofs.Tryz.results70 Go.Proofs.Tryz.ntmps71 Go.Proofs.Tryz.results71 Go.Proofs.Tryz.ntmps72 Go.Proofs.Tryz.results72 Go.Proofs.Tryz.ntmps73 Go.Proofs.Tryz.results73 Go.Proofs.Tryz.ntmps74 Go.Proofs.Tryz.results74 Go.Proofs.Tryz.ntmps75 Go.Proofs.Tryz.results75 Go.Proofs.Tryz.ntmps76 Go.Proofs.Tryz.results76 Go.Proofs.Tryz.ntmps77 Go.Proofs.Tryz.results77 Go.Proofs.Tryz.ntmps78 Go.Proofs.Tryz.results78 Go.Proofs.Tryz.ntmps79 Go.Proofs.Tryz.results79 Go.Proofs.Tryz.ntmps80 Go.Proofs.Tryz.results80 Go.Proofs.Tryz.ntmps81 Go.Proofs.Tryz.results81 Go.Proofs.Tryz.ntmps82 Go.Proofs.Tryz.results82 Go.Proofs.Tryz.ntmps83 Go.Proofs.Tryz.results83 Go.Proofs.Tryz.ntmps84 Go.Proofs.Tryz.results84 Go.Proofs.Tryz.ntmps85 Go.Proofs.Tryz.results85 Go.Proofs.Tryz.ntmps86 Go.Proofs.Tryz.results86 Go.Proofs.Tryz.ntmps87 Go.Proofs.Tryz.results87 Go.Proofs.Tryz.ntmps88 Go.Proofs.Tryz.results88 Go.Proofs.Tryz.ntmps89 Go.Proofs.Tryz.results89 Go.Proofs.Tryz.ntmps90 Go.Proofs.Tryz.results90 Go.Proofs.Tryz.ntmps91 Go.Proofs.Tryz.results91 Go.Proofs.Tryz.ntmps92 Go.Proofs.Tryz.results92 Go.Proofs.Tryz.ntmps93 Go.Proofs.Tryz.results93 Go.Proofs.Tryz.ntmps94 Go.Proofs.Tryz.results94 Go.Proofs.Tryz.ntmps95 Go.Proofs.Tryz.results95 Go.Proofs.Tryz.ntmps96 Go.Proofs.Tryz.results96 Go.Proofs.Tryz.ntmps97 Go.Proofs.Tryz.results97 Go.Proofs.Tryz.ntmps98 Go.Proofs.Tryz.results98 Go.Proofs.Tryz.ntmps99 Go.Proofs.Tryz.results99 Go.Proofs.Tryz.ntmps100 Go.Proofs.Tryz.results100 Go.Proofs.Tryz.ntmps101 Go.Proofs.Tryz.results101 Go.Proofs.Tryz.ntmps102 Go.Proofs.Tryz.results102 Go.Proofs.Tryz.ntmps103 Go.Proofs.Tryz.results103 Go.Proofs.Tryz.ntmps104 Go.Proofs.Tryz.results104 Go.Proofs.Tryz.ntmps105 Go.Proofs.Tryz.results105 Go.Proofs.Tryz.ntmps106 Go.Proofs.Tryz.results106 Go.Proofs.Tryz.ntmps107 Go.Proofs.Tryz.results107 Go.Proofs.Tryz.ntmps108 Go.Proofs.Tryz.results108 Go.Proofs.Tryz.ntmps109 Go.Proofs.Tryz.results109 Go.Proofs.Tryz.ntmps110 Go.Proofs.Tryz.results110 Go.Proofs.Tryz.ntmps111 Go.Proofs.Tryz.results111 Go.Proofs.Tryz.ntmps112 Go.Proofs.Tryz.results112 Go.Proofs.Tryz.ntmps113 Go.Proofs.Tryz.results113 Go.Proofs.Tryz.ntmps114 Go.Proofs.Tryz.results114 Go.Proofs.Tryz.ntmps115 Go.Proofs.Tryz.results115 Go.Proofs.Tryz.ntmps116 Go.Proofs.Tryz.results116 Go.Proofs.Tryz.ntmps117 Go.Proofs.Tryz.results117 Go.Proofs.Tryz.ntmps118 Go.Proofs.Tryz.results118 Go.Proofs.Tryz.ntmps119 Go.Proofs.Tryz.results119 Go.Proofs.Tryz.ntmps120 Go.Proofs.Tryz.results120 Go.Proofs.Tryz.ntmps121 Go.Proofs.Tryz.results121 Go.Proofs.Tryz.ntmps122 Go.Proofs.Tryz.results122 Go.Proofs.Tryz.ntmps123 Go.Proofs.Tryz.results123 Go.Proofs.Tryz.ntmps124 Go.Proofs.Tryz.results124 Go.Proofs.Tryz.ntmps125 Go.Proofs.Tryz.results125 Go.Proofs.Tryz.ntmps126 Go.Proofs.Tryz.results126 Go.Proofs.Tryz.ntmps127 Go.Proofs.Tryz.results127 Go.Proofs.Tryz.ntmps128 Go.Proofs.Tryz.results128 Go.Proofs.Tryz.ntmps129 Go.Proofs.Tryz.results129 Go.Proofs.Tryz.ntmps130 Go.Proofs.Tryz.results130 Go.Proofs.Tryz.ntmps131 Go.Proofs.Tryz.results131 Go.Proofs.Tryz.ntmps132 Go.Proofs.Tryz.results132 Go.Proofs.Tryz.ntmps133 Go.Proofs.Tryz.results133 Go.Proofs.Tryz.ntmps134 Go.Proofs.Tryz.results134 Go.Proofs.Tryz.ntmps135 Go.Proofs.Tryz.results135 Go.Proofs.Tryz.ntmps136 Go.Proofs.Tryz.results136 Go.Proofs.Tryz.ntmps137 Go.Proofs.Tryz.results137 Go.Proofs.Tryz.ntmps138 Go.Proofs.Tryz.results138 Go.Proofs.Tryz.ntmps139 Go.Proofs.Tryz.results139 Go.Proofs.Tryz.ntmps140 Go.Proofs.Tryz.results140 Go.Proofs.Tryz.ntmps141 Go.Proofs.Tryz.results141 Go.Proofs.Tryz.ntmps142 Go.Proofs.Tryz.results142 Go.Proofs.Tryz.ntmps143 Go.Proofs.Tryz.results143 Go.Proofs.Tryz.ntmps144 Go.Proofs.Tryz.results144 Go.Proofs.Tryz.ntmps145 Go.Proofs.Tryz.results145 Go.Proofs.Tryz.ntmps146 Go.Proofs.Tryz.results146 Go.Proofs.Tryz.ntmps147 Go.Proofs.Tryz.results147 Go.Proofs.Tryz.ntmps148 Go.Proofs.Tryz.results148 Go.Proofs.Tryz.ntmps149 Go.Proofs.Tryz.results149 Go.Proofs.Tryz.ntmps150 Go.Proofs.Tryz.results150 Go.Proofs.Tryz.ntmps151 Go.Proofs.Tryz.results151 Go.Proofs.Tryz.ntmps152 Go.Proofs.Tryz.results152 Go.Proofs.Tryz.ntmps153 Go.Proofs.Tryz.results153 Go.Proofs.Tryz.ntmps154 Go.Proofs.Tryz.results154 Go.Proofs.Tryz.ntmps155 Go.Proofs.Tryz.results155 Go.Proofs.Tryz.ntmps156 Go.Proofs.Tryz.results156 Go.Proofs.Tryz.ntmps157 Go.Proofs.Tryz.results157 Go.Proofs.Tryz.ntmps158 Go.Proofs.Tryz.results158 Go.Proofs.Tryz.ntmps159 Go.Proofs.Tryz.results159 Go.Proofs.Tryz.ntmps160 Go.Proofs.Tryz.results160 Go.Proofs.Tryz.ntmps161 Go.Proofs.Tryz.results161 Go.Proofs.Tryz.ntmps162 Go.Proofs.Tryz.results162 Go.Proofs.Tryz.ntmps163 Go.Proofs.Tryz.results163 Go.Proofs.Tryz.ntmps164 Go.Proofs.Tryz.results164 Go.Proofs.Tryz.ntmps165 Go.Proofs.Tryz.results165 Go.Proofs.Tryz.ntmps166 Go.Proofs.Tryz.results166 Go.Proofs.Tryz.ntmps167 Go.Proofs.Tryz.results167 Go.Proofs.Tryz.ntmps168 Go.Proofs.Tryz.results168 Go.Proofs.Tryz.ntmps169 Go.Proofs.Tryz.results169 Go.Proofs.Tryz.ntmps170 Go.Proofs.Tryz.results170 Go.Proofs.Tryz.ntmps171 Go.Proofs.Tryz.results171 Go.Proofs.Tryz.ntmps172 Go.Proofs.Tryz.results172 Go.Proofs.Tryz.ntmps173 Go.Proofs.Tryz.results173 Go.Proofs.Tryz.ntmps174 Go.Proofs.Tryz.results174 Go.Proofs.Tryz.ntmps175 Go.Proofs.Tryz.results175 Go.Proofs.Tryz.ntmps176 Go.Proofs.Tryz.results176 Go.Proofs.Tryz.ntmps177 Go.Proofs.Tryz.results177 Go.Proofs.Tryz.ntmps178 Go.Proofs.Tryz.results178 Go.Proofs.Tryz.ntmps179 Go.Proofs.Tryz.results179 Go.Proofs.Tryz.ntmps180 Go.Proofs.Tryz.results180 Go.Proofs.Tryz.ntmps181 Go.Proofs.Tryz.results181 Go.Proofs.Tryz.ntmps182 Go.Proofs.Tryz.results182 Go.Proofs.Tryz.ntmps183 Go.Proofs.Tryz.results183 Go.Proofs.Tryz.ntmps184 Go.Proofs.Tryz.results184 Go.Proofs.Tryz.ntmps185 Go.Proofs.Tryz.results185 Go.Proofs.Tryz.ntmps186 Go.Proofs.Tryz.results186 Go.Proofs.Tryz.ntmps187 Go.Proofs.Tryz.results187 Go.Proofs.Tryz.ntmps188 Go.Proofs.Tryz.results188 Go.Proofs.Tryz.ntmps189 Go.Proofs.Tryz.results189 Go.Proofs.Tryz.ntmps190 Go.Proofs.Tryz.results190 Go.Proofs.Tryz.ntmps191 Go.Proofs.Tryz.results191 Go.Proofs.Tryz.ntmps192 Go.Proofs.Tryz.results192 Go.Proofs.Tryz.ntmps193 Go.Proofs.Tryz.results193 Go.Proofs.Tryz.ntmps194 Go.Proofs.Tryz.results194 Go.Proofs.Tryz.ntmps195 Go.Proofs.Tryz.results195 Go.Proofs.Tryz.ntmps196 Go.Proofs.Tryz.results196 Go.Proofs.Tryz.ntmps197 Go.Proofs.Tryz.results197 Go.Proofs.Tryz.ntmps198 Go.Proofs.Tryz.results198 Go.Proofs.Tryz.ntmps199 Go.Proofs.Tryz.results199 Go.Proofs.Tryz.ntmps200 Go.Proofs.Tryz.results200 Go.Proofs.Tryz.ntmps201 Go.Proofs.Tryz.results201 Go.Proofs.Tryz.ntmps202 Go.Proofs.Tryz.results202 Go.Proofs.Tryz.ntmps203 Go.Proofs.Tryz.results203 Go.Proofs.Tryz.ntmps204 Go.Proofs.Tryz.results204 Go.Proofs.Tryz.ntmps205 Go.Proofs.Tryz.results205 Go.Proofs.Tryz.ntmps206 Go.Proofs.Tryz.results206 Go.Proofs.Tryz.ntmps207 Go.Proofs.Tryz.results207 Go.Proofs.Tryz.ntmps208 Go.Proofs.Tryz.results208 Go.Proofs.Tryz.ntmps209 Go.Proofs.Tryz.results209 Go.Proofs.Tryz.ntmps210 Go.Proofs.Tryz.results210 Go.Proofs.Tryz.ntmps211 Go.Proofs.Tryz.results211 Go.Proofs.Tryz.ntmps212 Go.Proofs.Tryz.results212 Go.Proofs.Tryz.ntmps213 Go.Proofs.Tryz.results213 Go.Proofs.Tryz.ntmps214 Go.Proofs.Tryz.results214 Go.Proofs.Tryz.ntmps215 Go.Proofs.Tryz.results215 Go.Proofs.Tryz.ntmps216 Go.Proofs.Tryz.results216 Go.Proofs.Tryz.ntmps217 Go.Proofs.Tryz.results217 Go.Proofs.Tryz.ntmps218 Go.Proofs.Tryz.results218 Go.Proofs.Tryz.ntmps219 Go.Proofs.Tryz.results219 Go.Proofs.Tryz.ntmps220 Go.Proofs.Tryz.results220 Go.Proofs.Tryz.ntmps221 Go.Proofs.Tryz.results221 Go.Proofs.Tryz.ntmps222 Go.Proofs.Tryz.results222 Go.Proofs.Tryz.ntmps223 Go.Proofs.Tryz.results223 Go.Proofs.Tryz.ntmps224 Go.Proofs.Tryz.results224 Go.Proofs.Tryz.ntmps225 Go.Proofs.Tryz.results225 Go.Proofs.Tryz.ntmps226 Go.Proofs.Tryz.results226 Go.Proofs.Tryz.ntmps227 Go.Proofs.Tryz.results227 Go.Proofs.Tryz.ntmps228 Go.Proofs.Tryz.results228 Go.Proofs.Tryz.ntmps229 Go.Proofs.Tryz.results229 Go.Proofs.Tryz.ntmps230 Go.Proofs.Tryz.results230 Go.Proofs.Tryz.ntmps231 Go.Proofs.Tryz.results231 Go.Proofs.Tryz.ntmps232 Go.Proofs.Tryz.results232 Go.Proofs.Tryz.ntmps233 Go.Proofs.Tryz.results233 Go.Proofs.Tryz.ntmps234 Go.Proofs.Tryz.results234 Go.Proofs.Tryz.ntmps235 Go.Proofs.Tryz.results235 Go.Proofs.Tryz.ntmps236 Go.Proofs.Tryz.results236 Go.Proofs.Tryz.ntmps237 Go.Proofs.Tryz.results237 Go.Proofs.Tryz.ntmps238 Go.Proofs.Tryz.results238 Go.Proofs.Tryz.ntmps239 Go.Proofs.Tryz.results239 Go.Proofs.Tryz.ntmps240 Go.Proofs.Tryz.results240 Go.Proofs.Tryz.ntmps241 Go.Proofs.Tryz.results241 Go.Proofs.Tryz.ntmps242 Go.Proofs.Tryz.results242 Go.Proofs.Tryz.ntmps243 Go.Proofs.Tryz.results243 Go.Proofs.Tryz.ntmps244 Go.Proofs.Tryz.results244 Go.Proofs.Tryz.ntmps245 Go.Proofs.Tryz.results245 Go.Proofs.Tryz.ntmps246 Go.Proofs.Tryz.results246 Go.Proofs.Tryz.ntmps247 Go.Proofs.Tryz.results247 Go.Proofs.Tryz.ntmps248 Go.Proofs.Tryz.results248 Go.Proofs.Tryz.ntmps249 Go.Proofs.Tryz.results249 Go.Proofs.Tryz.ntmps250 Go.Proofs.Tryz.results250 Go.Proofs.Tryz.ntmps251 Go.Proofs.Tryz.results251 Go.Proofs.Tryz.ntmps252 Go.Proofs.Tryz.results252 Go.Proofs.Tryz.ntmps253 Go.Proofs.Tryz.results253 Go.Proofs.Tryz.ntmps254 Go.Proofs.Tryz.results254 Go.Proofs.Tryz.ntmps255 Go.Proofs.Tryz.results255 Go.Proofs.Tryz.ntmps256 Go.Proofs.Tryz.results256 Go.Proofs.Tryz.ntmps257 Go.Proofs.Tryz.results257 Go.Proofs.Tryz.ntmps258 Go.Proofs.Tryz.results258 Go.Proofs.Tryz.ntmps259 Go.Proofs.Tryz.results259 Go.Proofs.Tryz.ntmps260 Go.Proofs.Tryz.results260 Go.Proofs.Tryz.ntmps261 Go.Proofs.Tryz.results261 Go.Proofs.Tryz.ntmps262 Go.Proofs.Tryz.results262 Go.Proofs.Tryz.ntmps263 Go.Proofs.Tryz.results263 Go.Proofs.Tryz.ntmps264 Go.Proofs.Tryz.results264 Go.Proofs.Tryz.ntmps265 Go.Proofs.Tryz.results265 Go.Proofs.Tryz.ntmps266 Go.Proofs.Tryz.results266 Go.Proofs.Tryz.ntmps267 Go.Proofs.Tryz.results267 Go.Proofs.Tryz.ntmps268 Go.Proofs.Tryz.results268 Go.Proofs.Tryz.ntmps269 Go.Proofs.Tryz.results269 Go.Proofs.Tryz.ntmps270 Go.Proofs.Tryz.results270 Go.Proofs.Tryz.ntmps271 Go.Proofs.Tryz.results271 Go.Proofs.Tryz.ntmps272 Go.Proofs.Tryz.results272 Go.Proofs.Tryz.ntmps273 Go.Proofs.Tryz.results273 Go.Proofs.Tryz.ntmps274 Go.Proofs.Tryz.results274 Go.Proofs.Tryz.ntmps275 Go.Proofs.Tryz.results275 Go.Proofs.Tryz.ntmps276 Go.Proofs.Tryz.results276 Go.Proofs.Tryz.ntmps277 Go.Proofs.Tryz.results277 Go.Proofs.Tryz.ntmps278 Go.Proofs.Tryz.results278 Go.Proofs.Tryz.ntmps279 Go.Proofs.Tryz.results279 Go.Proofs.Tryz.ntmps280 Go.Proofs.Tryz.results280 Go.Proofs.Tryz.ntmps281 Go.Proofs.Tryz.results281 Go.Proofs.Tryz.ntmps282 Go.Proofs.Tryz.results282 Go.Proofs.Tryz.ntmps283 Go.Proofs.Tryz.results283 Go.Proofs.Tryz.ntmps284 Go.Proofs.Tryz.results284 Go.Proofs.Tryz.ntmps285 Go.Proofs.Tryz.results285 Go.Proofs.Tryz.ntmps286 Go.Proofs.Tryz.results286 Go.Proofs.Tryz.ntmps287 Go.Proofs.Tryz.results287 Go.Proofs.Tryz.ntmps288 Go.Proofs.Tryz.results288 Go.Proofs.Tryz.ntmps289 Go.Proofs.Tryz.results289 Go.Proofs.Tryz.ntmps290 Go.Proofs.Tryz.results290 Go.Proofs.Tryz.ntmps291 Go.Proofs.Tryz.results291 Go.Proofs.Tryz.ntmps292 Go.Proofs.Tryz.results292 Go.Proofs.Tryz.ntmps293 Go.Proofs.Tryz.results293 Go.Proofs.Tryz.ntmps294 Go.Proofs.Tryz.results294 Go.Proofs.Tryz.ntmps295 Go.Proofs.Tryz.results295 Go.Proofs.Tryz.ntmps296 Go.Proofs.Tryz.results296 Go.Proofs.Tryz.ntmps297 Go.Proofs.Tryz.results297 Go.Proofs.Tryz.ntmps298 Go.Proofs.Tryz.results298 Go.Proofs.Tryz.ntmps299 Go.Proofs.Tryz.results299 Go.Proofs.Tryz.ntmps300 Go.Proofs.Tryz.results300 Go.Proofs.Tryz.ntmps301 Go.Proofs.Tryz.results301 Go.Proofs.Tryz.ntmps302 Go.Proofs.Tryz.results302 Go.Proofs.Tryz.ntmps303 Go.Proofs.Tryz.results303 Go.Proofs.Tryz.ntmps304 Go.Proofs.Tryz.results304 Go.Proofs.Tryz.ntmps305 Go.Proofs.Tryz.results305 Go.Proofs.Tryz.ntmps306 Go.Proofs.Tryz.results306 Go.Proofs.Tryz.ntmps307 Go.Proofs.Tryz.results307 Go.Proofs.Tryz.ntmps308 Go.Proofs.Tryz.results308 Go.Proofs.Tryz.ntmps309 Go.Proofs.Tryz.results309 Go.Proofs.Tryz.ntmps310 Go.Proofs.Tryz.results310 Go.Proofs.Tryz.ntmps311 Go.Proofs.Tryz.results311 Go.Proofs.Tryz.ntmps312 Go.Proofs.Tryz.results312 Go.Proofs.Tryz.ntmps313 Go.Proofs.Tryz.results313 Go.Proofs.Tryz.ntmps314 Go.Proofs.Tryz.results314 Go.Proofs.Tryz.ntmps315 Go.Proofs.Tryz.results315 Go.Proofs.Tryz.ntmps316 Go.Proofs.Tryz.results316 Go.Proofs.Tryz.ntmps317 Go.Proofs.Tryz.results317 Go.Proofs.Tryz.ntmps318 Go.Proofs.Tryz.results318 Go.Proofs.Tryz.ntmps319 Go.Proofs.Tryz.results319 Go.Proofs.Tryz.ntmps320 Go.Proofs.Tryz.results320 Go.Proofs.Tryz.ntmps321 Go.Proofs.Tryz.results321 Go.Proofs.Tryz.ntmps322 Go.Proofs.Tryz.results322 Go.Proofs.Tryz.ntmps323 Go.Proofs.Tryz.results323 Go.Proofs.Tryz.ntmps324 Go.Proofs.Tryz.results324 Go.Proofs.Tryz.ntmps325 Go.Proofs.Tryz.results325 Go.Proofs.Tryz.ntmps326 Go.Proofs.Tryz.results326 Go.Proofs.Tryz.ntmps327 Go.Proofs.Tryz.results327 Go.Proofs.Tryz.ntmps328 Go.Proofs.Tryz.results328 Go.Proofs.Tryz.ntmps329 Go.Proofs.Tryz.results329 Go.Proofs.Tryz.ntmps330 Go.Proofs.Tryz.results330 Go.Proofs.Tryz.ntmps331 Go.Proofs.Tryz.results331 Go.Proofs.Tryz.ntmps332 Go.Proofs.Tryz.results332 Go.Proofs.Tryz.ntmps333 Go.Proofs.Tryz.results333 Go.Proofs.Tryz.ntmps334 Go.Proofs.Tryz.results334 Go.Proofs.Tryz.ntmps335 Go.Proofs.Tryz.results335 Go.Proofs.Tryz.ntmps336 Go.Proofs.Tryz.results336 Go.Proofs.Tryz.ntmps337 Go.Proofs.Tryz.results337 Go.Proofs.Tryz.ntmps338 Go.Proofs.Tryz.results338 Go.Proofs.Tryz.ntmps339 Go.Proofs.Tryz.results339 Go.Proofs.Tryz.ntmps340 Go.Proofs.Tryz.results340 Go.Proofs.Tryz.ntmps341 Go.Proofs.Tryz.results341 Go.Proofs.Tryz.ntmps342 Go.Proofs.Tryz.results342 Go.Proofs.Tryz.ntmps343 Go.Proofs.Tryz.results343 Go.Proofs.Tryz.ntmps344 Go.Proofs.Tryz.results344 Go.Proofs.Tryz.ntmps345 Go.Proofs.Tryz.results345 Go.Proofs.Tryz.ntmps346 Go.Proofs.Tryz.results346 Go.Proofs.Tryz.ntmps347 Go.Proofs.Tryz.results347 Go.Proofs.Tryz.ntmps348 Go.Proofs.Tryz.results348 Go.Proofs.Tryz.ntmps349 Go.Proofs.Tryz.results349 Go.Proofs.Tryz.ntmps350 Go.Proofs.Tryz.results350 Go.Proofs.Tryz.ntmps351 Go.Proofs.Tryz.results351 Go.Proofs.Tryz.ntmps352 Go.Proofs.Tryz.results352 Go.Proofs.Tryz.ntmps353 Go.Proofs.Tryz.results353 Go.Proofs.Tryz.ntmps354 Go.Proofs.Tryz.results354 Go.Proofs.Tryz.ntmps355 Go.Proofs.Tryz.results355 Go.Proofs.Tryz.ntmps356 Go.Proofs.Tryz.results356 Go.Proofs.Tryz.ntmps357 Go.Proofs.Tryz.results357 Go.Proofs.Tryz.ntmps358 Go.Proofs.Tryz.results358 Go.Proofs.Tryz.ntmps359 Go.Proofs.Tryz.results359 Go.Proofs.Tryz.ntmps360 Go.Proofs.Tryz.results360 Go.Proofs.Tryz.ntmps361 Go.Proofs.Tryz.results361 Go.Proofs.Tryz.ntmps362 Go.Proofs.Tryz.results362
namespace Go.Idl
theorem zW {p q:Prop} (hq:q) (h:p=q:=by(simp (maxSteps:=2000000) only [go_sem,↓reduceIte,↓reduceDIte,reduceCtorEq,Nat.reducePow,Nat.reduceEqDiff,Nat.reduceAdd,Nat.reduceSub,Nat.reduceMul,Nat.reduceMod,Nat.reduceLeDiff,Nat.reduceLT,Nat.reduceBEq,Nat.reduceBNe,Int.reduceLT,Int.reduceLE,Int.reduceToNat,Int.reduceNeg,Int.reduceAdd,Int.reduceSub,Int.reduceMul,Int.reduceBEq,Int.reduceBNe,Int.reduceEq];rfl)):p:=h.mpr hq
theorem zO {p q:Prop} (hq:q) (h:p=q:=by(simp (maxSteps:=2000000) (disch:=omega) only [go_sem,↓reduceIte,↓reduceDIte,reduceCtorEq,Nat.reducePow,Nat.reduceEqDiff,Nat.reduceAdd,Nat.reduceSub,Nat.reduceMul,Nat.reduceMod,Nat.reduceLeDiff,Nat.reduceLT,Nat.reduceBEq,Nat.reduceBNe,Int.reduceLT,Int.reduceLE,Int.reduceToNat,Int.reduceNeg,Int.reduceAdd,Int.reduceSub,Int.reduceMul,Int.reduceBEq,Int.reduceBNe,Int.reduceEq,if_pos,if_neg,w64,beqT,beqF,bneT,bneF,qat,qap,decide_eq_true,decide_eq_false];rfl)):p:=h.mpr hq
theorem zT {p:Prop} (h:p:=by simp (maxSteps:=2000000) only [go_sem,↓reduceIte,↓reduceDIte,reduceCtorEq,Nat.reducePow,Nat.reduceEqDiff,Nat.reduceAdd,Nat.reduceSub,Nat.reduceMul,Nat.reduceMod,Nat.reduceLeDiff,Nat.reduceLT,Nat.reduceBEq,Nat.reduceBNe,Int.reduceLT,Int.reduceLE,Int.reduceToNat,Int.reduceNeg,Int.reduceAdd,Int.reduceSub,Int.reduceMul,Int.reduceBEq,Int.reduceBNe,Int.reduceEq]):p:=h
theorem zU {p:Prop} (h:p:=by simp (maxSteps:=2000000) (disch:=omega) only [go_sem,↓reduceIte,↓reduceDIte,reduceCtorEq,Nat.reducePow,Nat.reduceEqDiff,Nat.reduceAdd,Nat.reduceSub,Nat.reduceMul,Nat.reduceMod,Nat.reduceLeDiff,Nat.reduceLT,Nat.reduceBEq,Nat.reduceBNe,Int.reduceLT,Int.reduceLE,Int.reduceToNat,Int.reduceNeg,Int.reduceAdd,Int.reduceSub,Int.reduceMul,Int.reduceBEq,Int.reduceBNe,Int.reduceEq,if_pos,if_neg,w64,beqT,beqF,bneT,bneF,qat,qap,decide_eq_true,decide_eq_false]):p:=h
theorem zB {p:Prop} (h:p:=by first | trivial | (simp (maxSteps:=2000000) only [go_sem,↓reduceIte,↓reduceDIte,reduceCtorEq,Nat.reducePow,Nat.reduceEqDiff,Nat.reduceAdd,Nat.reduceSub,Nat.reduceMul,Nat.reduceMod,Nat.reduceLeDiff,Nat.reduceLT,Nat.reduceBEq,Nat.reduceBNe,Int.reduceLT,Int.reduceLE,Int.reduceToNat,Int.reduceNeg,Int.reduceAdd,Int.reduceSub,Int.reduceMul,Int.reduceBEq,Int.reduceBNe,Int.reduceEq];done) | (split<;>simp (maxSteps:=2000000) only [go_sem,↓reduceIte,↓reduceDIte,reduceCtorEq,Nat.reducePow,Nat.reduceEqDiff,Nat.reduceAdd,Nat.reduceSub,Nat.reduceMul,Nat.reduceMod,Nat.reduceLeDiff,Nat.reduceLT,Nat.reduceBEq,Nat.reduceBNe,Int.reduceLT,Int.reduceLE,Int.reduceToNat,Int.reduceNeg,Int.reduceAdd,Int.reduceSub,Int.reduceMul,Int.reduceBEq,Int.reduceBNe,Int.reduceEq])):p:=h
theorem zC {p:Prop} (h:p:=by first | trivial | (simp (maxSteps:=2000000) only [go_sem,↓reduceIte,↓reduceDIte,reduceCtorEq,Nat.reducePow,Nat.reduceEqDiff,Nat.reduceAdd,Nat.reduceSub,Nat.reduceMul,Nat.reduceMod,Nat.reduceLeDiff,Nat.reduceLT,Nat.reduceBEq,Nat.reduceBNe,Int.reduceLT,Int.reduceLE,Int.reduceToNat,Int.reduceNeg,Int.reduceAdd,Int.reduceSub,Int.reduceMul,Int.reduceBEq,Int.reduceBNe,Int.reduceEq];done) | (simp (maxSteps:=2000000) (disch:=omega) only [go_sem,↓reduceIte,↓reduceDIte,reduceCtorEq,Nat.reducePow,Nat.reduceEqDiff,Nat.reduceAdd,Nat.reduceSub,Nat.reduceMul,Nat.reduceMod,Nat.reduceLeDiff,Nat.reduceLT,Nat.reduceBEq,Nat.reduceBNe,Int.reduceLT,Int.reduceLE,Int.reduceToNat,Int.reduceNeg,Int.reduceAdd,Int.reduceSub,Int.reduceMul,Int.reduceBEq,Int.reduceBNe,Int.reduceEq,if_pos,if_neg,w64,beqT,beqF,bneT,bneF,qat,qap,decide_eq_true,decide_eq_false];done) | (split<;>simp (maxSteps:=2000000) (disch:=omega) only [go_sem,↓reduceIte,↓reduceDIte,reduceCtorEq,Nat.reducePow,Nat.reduceEqDiff,Nat.reduceAdd,Nat.reduceSub,Nat.reduceMul,Nat.reduceMod,Nat.reduceLeDiff,Nat.reduceLT,Nat.reduceBEq,Nat.reduceBNe,Int.reduceLT,Int.reduceLE,Int.reduceToNat,Int.reduceNeg,Int.reduceAdd,Int.reduceSub,Int.reduceMul,Int.reduceBEq,Int.reduceBNe,Int.reduceEq,if_pos,if_neg,w64,beqT,beqF,bneT,bneF,qat,qap,decide_eq_true,decide_eq_false])):p:=h
theorem zD.{u}:(∀ {c:Prop} {h:Decidable c},c→ ∀ {α:Sort u} {t e:α},(if c then t else e)=t)∧(∀ {c:Prop} {h:Decidable c},¬c→ ∀ {α:Sort u} {t e:α},(if c then t else e)=e):=⟨@if_pos, @if_neg⟩
theorem zE:(∀ {n:Int}, -9223372036854775808≤n∧n≤9223372036854775807→Go.IntKind.i64.wrap n=n)∧(∀ {x y:Int},x=y→(x==y)=true)∧(∀ {x y:Int},¬x=y→(x==y)=false)∧(∀ {x y:Int},¬x=y→(x != y)=true)∧(∀ {x y:Int},x=y→(x != y)=false)∧
 (∀ {α:Type} {f:α→List PV} {l:List α} {i:Nat} (h:i < l.length),(pr f l)[i]? =some (f l[i]))∧(∀ {α:Type} {f:α→List PV} {l:List α} {i:Nat} (h:i < l.length),(ir f l)[i]? =some (List.map IV.p (f l[i])))∧
 (∀ {p:Prop} [inst:Decidable p],p→decide p=true)∧(∀ {p:Prop} [inst:Decidable p],¬p→decide p=false):=⟨@w64, @beqT, @beqF, @bneT, @bneF, @qat, @qap, @decide_eq_true, @decide_eq_false⟩
theorem zL {p:Prop} (h:p:=by first | exact Nat.zero_le _ | exact Nat.le_refl _ | omega | exact Nat.le_of_ble_eq_true rfl):p:=h
end Go.Idl
namespace Go.Idl
theorem zI {h0:IH} {ops:List Oper} {id:Nat} {k:List It} {S:qaa} {Q:Exit→qaa→Prop} (u:List (Option (List Nat))) (h:dvc Go.Proofs.Tryz.prog h0 ops.toArray (fun S' fps=>chk u fps∧vc Go.Proofs.Tryz.prog h0 Q 200 k S') ops S []) (hst:stat ops u=true:=by kernel_rfl):IRun Go.Proofs.Tryz.prog h0 (.code (.region id ops.toArray true)::k) S Q:=irun_walk (n:=200) u Go.Proofs.NO.mixed hst h
theorem zM {P:Program} {h0:IH} (T:List Nat) {k:List It} {N:Nat} {s:List (Nat × IV)} {d:List IDef} {nx:Nat} {l:List (Nat × IBlk)} {Q:Exit→qaa→Prop} {q:Prop} (hq:q) (hk:Live k:=by trivial) (hn:h0.nx≤nx:=by first | exact Nat.zero_le _ | exact Nat.le_refl _ | omega | exact Nat.le_of_ble_eq_true rfl)
  (e:(IRun P h0 k ⟨N,pickS T s,d,nx,ddp l⟩ Q)=q:=by(simp (maxSteps:=2000000) only [go_sem,↓reduceIte,↓reduceDIte,reduceCtorEq,Nat.reducePow,Nat.reduceEqDiff,Nat.reduceAdd,Nat.reduceSub,Nat.reduceMul,Nat.reduceMod,Nat.reduceLeDiff,Nat.reduceLT,Nat.reduceBEq,Nat.reduceBNe,Int.reduceLT,Int.reduceLE,Int.reduceToNat,Int.reduceNeg,Int.reduceAdd,Int.reduceSub,Int.reduceMul,Int.reduceBEq,Int.reduceBNe,Int.reduceEq];rfl)):IRun P h0 k ⟨N,s,d,nx,l⟩ Q:=walk_trim T hk hn (e.mpr hq)
theorem zG {P:Program} {h0:IH} {Q:Exit→qaa→Prop} {k:List It} {all:Array Oper} {r:List Oper} {dst:Option Tmp} {ty:TypeId} {pos:String} {aft:Array Edge} {N:Nat} {s:List (Nat × IV)} {d:List IDef} {nx:Nat} {l:List (Nat × IBlk)} {g:Option (Nat × Bool)} {f:Operand} {args:List Operand} {ts:List TypeId} {q0:Prop} (hq:q0) (e:(qaq (qas (ev s) f args) (fun q=>(qai all s ⟨dst, .call {callee:= .value f,args:=⟨args⟩,argTypes:=⟨ts⟩},ty,pos,aft,g⟩=some true∧fnOk P q.1=true∧dOk N dst=true)∧qdi P q.1 (qbI P ts q.2) (look (l++h0.m)) True fun x _=>vc P h0 Q 200 (.ops all r::k) ⟨N,putS dst x s,d,nx,l⟩) False)=q0:=by(simp (maxSteps:=2000000) only [go_sem,↓reduceIte,↓reduceDIte,reduceCtorEq,Nat.reducePow,Nat.reduceEqDiff,Nat.reduceAdd,Nat.reduceSub,Nat.reduceMul,Nat.reduceMod,Nat.reduceLeDiff,Nat.reduceLT,Nat.reduceBEq,Nat.reduceBNe,Int.reduceLT,Int.reduceLE,Int.reduceToNat,Int.reduceNeg,Int.reduceAdd,Int.reduceSub,Int.reduceMul,Int.reduceBEq,Int.reduceBNe,Int.reduceEq];rfl)):IRun P h0 (.ops all (⟨dst, .call {callee:= .value f,args:=⟨args⟩,argTypes:=⟨ts⟩},ty,pos,aft,g⟩::r)::k) ⟨N,s,d,nx,l⟩ Q:=qrr 200 (e.mpr hq)
theorem zF {P:Program} {h0:IH} {all:Array Oper} {r:List Oper} {dst:Option Tmp} {ty:TypeId} {pos:String} {aft:Array Edge} {N:Nat} {s:List (Nat × IV)} {d:List IDef} {nx:Nat} {l:List (Nat × IBlk)} {g:Option (Nat × Bool)} {f:Operand} {args:List Operand} {ts:List TypeId} {K:qaa→List FP→Prop} {acc:List FP} {q0:Prop} (hq:q0) (e:(qaq (qas (ev s) f args) (fun q=>(qai all s ⟨dst, .call {callee:= .value f,args:=⟨args⟩,argTypes:=⟨ts⟩},ty,pos,aft,g⟩=some true∧fnOk P q.1=true∧dOk N dst=true)∧qdi P q.1 (qbI P ts q.2) (look (l++h0.m)) True fun x R=>dvc P h0 all K r ⟨N,putS dst x s,d,nx,l⟩ (acc++ [(R, [])])) False)=q0:=by(simp (maxSteps:=2000000) only [go_sem,↓reduceIte,↓reduceDIte,reduceCtorEq,Nat.reducePow,Nat.reduceEqDiff,Nat.reduceAdd,Nat.reduceSub,Nat.reduceMul,Nat.reduceMod,Nat.reduceLeDiff,Nat.reduceLT,Nat.reduceBEq,Nat.reduceBNe,Int.reduceLT,Int.reduceLE,Int.reduceToNat,Int.reduceNeg,Int.reduceAdd,Int.reduceSub,Int.reduceMul,Int.reduceBEq,Int.reduceBNe,Int.reduceEq];rfl)):DRun P h0 all (⟨dst, .call {callee:= .value f,args:=⟨args⟩,argTypes:=⟨ts⟩},ty,pos,aft,g⟩::r) ⟨N,s,d,nx,l⟩ acc K:=qqi (e.mpr hq)
end Go.Idl
