/- Facts leant on. -/
import Derived.Test.YtfhhdgkhajkapaaGreatIdRb
import Derived.Test.YtfhhdgkhajkapaaGreatIdNl
import Derived.Test.YtfhhdgkhajkapaaGreatProg
set_option linter.all false
open Nat renaming reducePow->Ka,reduceEqDiff->Kb,reduceAdd->Kc,reduceSub->Kd,reduceMul->Ke,reduceMod->Kf,reduceLeDiff->Kg,reduceLT->Kh,reduceBEq->Ki,reduceBNe->Kj,zero_le->Kk,le_refl->Kl,le_of_ble_eq_true->Km
open Int renaming reduceLT->Kn,reduceLE->Ko,reduceToNat->Kp,reduceNeg->Kq,reduceAdd->Kr,reduceSub->Ks,reduceMul->Kt,reduceBEq->Ku,reduceBNe->Kv,reduceEq->Kw
open Option renaming none->U,some->V
open Bool renaming true->Y,false->Z
namespace Go.Proofs.NO
open Go Go.Idl Go.Proofs Go.Proofs.Tryz
abbrev ya(t:TypeId) x:=tsz prog t=V x
abbrev yb(t:TypeId) x:=tby prog t=V x
abbrev yc(t:TypeId) x:=tag prog t=V x
abbrev yd(t:TypeId) x:=tel prog t=V x
abbrev ye(t:TypeId) x:=tkd prog t=V x
abbrev yf(t:TypeId) x:=tze prog t=V x
abbrev yg(t:TypeId) x:=tpl prog t=V x
abbrev yh(t:TypeId) x:=tar prog t=V x
abbrev yi(t:TypeId) x:=tcs prog t=x
abbrev yj(t:TypeId) x:=teq prog t=V x
abbrev yk(t:TypeId) i a b:=tfo prog t i=V (a,b)
abbrev yl(t:TypeId):=tar prog t=U
def yz{p:Prop}(h:p:=by and_intros<;>(show _=_;kernel_rfl)):p:=h
@[go_sem] def zf0:ya 3 1/\yb 3 8/\yf 3 [.int .i64 0]/\yc 3 Z/\yi 3 []/\ye 3 (.int .i64)/\ya 4 1/\yb 4 1/\yf 4 [.bool Z]/\yc 4 Z/\yi 4 []/\ye 4 .bool/\ya 22 1/\yc 22 Z/\yd 22 68/\ye 22 (.slice 68)/\ya 24 2/\yf 24 [.int .i64 0, .slice U 0 0]/\yc 24 Y/\yk 24 0 0 3/\yk 24 1 1 22/\yi 24 [(1,2)]/\ya 25 1/\yc 25 Z:=yz
@[go_sem] def zf1:yd 25 200/\yi 25 [(0,2)]/\ye 25 (.slice 200)/\ya 27 4/\yf 27 [.int .i64 0, .slice U 0 0, .slice U 0 0, .bool Z]/\yc 27 Y/\yl 27/\yk 27 0 0 24/\yk 27 1 2 25/\yk 27 2 3 4/\yg 27 [(0,2),(2,1),(3,1)]/\yi 27 [(1,2),(2,2)]/\ya 30 2/\yf 30 [.int .i64 0, .slice U 0 0]/\yc 30 Y/\yl 30/\yk 30 0 0 3/\yk 30 1 1 22/\yg 30 [(0,1),(1,1)]/\yi 30 [(1,2)]/\ya 31 1/\yc 31 Z/\yd 31 183/\yi 31 [(0,2)]:=yz
@[go_sem] def zf2:ye 31 (.slice 183)/\ya 33 4/\yf 33 [.int .i64 0, .slice U 0 0, .slice U 0 0, .bool Z]/\yc 33 Y/\yl 33/\yk 33 0 0 30/\yk 33 1 2 31/\yk 33 2 3 4/\yg 33 [(0,2),(2,1),(3,1)]/\yi 33 [(1,2),(2,2)]/\ya 37 1/\yb 37 24/\yf 37 [.slice U 0 0]/\yc 37 Z/\yd 37 3/\yi 37 [(0,1)]/\ye 37 (.slice 3)/\ya 38 1/\yc 38 Z/\yd 38 63/\yi 38 [(0,1)]/\ye 38 (.slice 63)/\ya 43 1/\yc 43 Z:=yz
@[go_sem] def zf3:yd 43 37/\yi 43 [(0,1)]/\ye 43 (.slice 37)/\ya 45 5/\yf 45 [.int .i64 0, .int .i64 0, .int .i64 0, .slice U 0 0, .slice U 0 0]/\yc 45 Y/\yl 45/\yk 45 0 0 3/\yk 45 1 1 3/\yk 45 2 2 3/\yk 45 3 3 38/\yk 45 4 4 43/\yg 45 [(0,1),(1,1),(2,1),(3,1),(4,1)]/\yi 45 [(3,1),(4,1)]/\ya 50 1/\yf 50 [.int .i64 0]/\yc 50 Z/\yi 50 []/\yd 59 216/\ye 59 (.slice 216)/\ya 63 1/\yb 63 24/\yf 63 [.slice U 0 0]/\yc 63 Z:=yz
@[go_sem] def zf4:yd 63 67/\yi 63 [(0,2)]/\ye 63 (.slice 67)/\ya 67 2/\yb 67 16/\yf 67 [.int .i64 0, .int .i64 0]/\yc 67 Y/\yl 67/\yk 67 0 0 3/\yk 67 1 1 3/\yg 67 [(0,1),(1,1)]/\yi 67 []/\yj 67 [(.int .i64),(.int .i64)]/\ya 68 2/\yf 68 [.int .i64 0, .int .i64 0]/\yc 68 Y/\yh 68 (2,3)/\tpl prog 68=U/\yj 68 [(.int .i64),(.int .i64)]/\yd 72 91/\ye 72 (.slice 91)/\ya 73 1/\yc 73 Z/\yd 73 4:=yz
@[go_sem] def zf5:yi 73 [(0,1)]/\ye 73 (.slice 4)/\ya 75 6/\yb 75 96/\yf 75 [.int .i64 0, .int .i64 0, .int .i64 0, .slice U 0 0, .slice U 0 0, .slice U 0 0]/\yc 75 Y/\yl 75/\yk 75 0 0 3/\yk 75 1 1 3/\yk 75 2 2 3/\yk 75 3 3 37/\yk 75 4 4 38/\yk 75 5 5 43/\yg 75 [(0,1),(1,1),(2,1),(3,1),(4,1),(5,1)]/\yi 75 [(3,1),(4,1),(5,1)]/\ye 75 .other/\ya 77 8/\yf 77 [.int .i64 0, .slice U 0 0, .int .i64 0, .int .i64 0, .int .i64 0, .slice U 0 0, .slice U 0 0, .slice U 0 0]/\yc 77 Y/\yl 77/\yk 77 0 0 3/\yk 77 1 1 73/\yk 77 2 2 75/\yg 77 [(0,1),(1,1),(2,6)]:=yz
@[go_sem] def zf6:yi 77 [(1,1),(5,1),(6,1),(7,1)]/\ya 79 7/\yf 79 [.int .i64 0, .int .i64 0, .int .i64 0, .int .i64 0, .slice U 0 0, .slice U 0 0, .slice U 0 0]/\yc 79 Y/\yl 79/\yk 79 0 0 3/\yk 79 1 1 75/\yg 79 [(0,1),(1,6)]/\yi 79 [(4,1),(5,1),(6,1)]/\ya 81 4/\yf 81 [.int .i64 0, .int .i64 0, .int .i64 0, .slice U 0 0]/\yc 81 Y/\yl 81/\yk 81 0 0 3/\yk 81 1 1 3/\yk 81 2 2 3/\yk 81 3 3 37/\yg 81 [(0,1),(1,1),(2,1),(3,1)]/\yi 81 [(3,1)]/\ya 82 1/\yf 82 [.slice U 0 0]/\yc 82 Z/\yd 82 75/\yi 82 [(0,6)]:=yz
@[go_sem] def zf7:ye 82 (.slice 75)/\ya 84 28/\yf 84 [.int .i64 0, .int .i64 0, .int .i64 0, .slice U 0 0, .slice U 0 0, .int .i64 0, .slice U 0 0, .int .i64 0, .int .i64 0, .int .i64 0, .slice U 0 0, .slice U 0 0, .slice U 0 0, .int .i64 0, .int .i64 0, .int .i64 0, .int .i64 0, .slice U 0 0, .slice U 0 0, .slice U 0 0, .int .i64 0, .int .i64 0, .int .i64 0, .slice U 0 0, .slice U 0 0, .int .i64 0, .int .i64 0, .slice U 0 0]/\yc 84 Y/\yl 84/\yk 84 0 0 45/\yk 84 1 5 77/\yk 84 2 13 79/\yk 84 3 20 81/\yk 84 4 24 82/\yk 84 5 25 3/\yk 84 6 26 3/\yk 84 7 27 37/\yg 84 [(0,5),(5,8),(13,7),(20,4),(24,1),(25,1),(26,1),(27,1)]/\yi 84 [(3,1),(4,1),(6,1),(10,1),(11,1),(12,1),(17,1),(18,1),(19,1),(23,1),(24,6),(27,1)]/\ya 86 1/\yf 86 [.slice U 0 0]/\yc 86 Z/\yd 86 98/\yi 86 [(0,10)]/\ye 86 (.slice 98)/\ya 88 9/\yf 88 [.int .i64 0, .int .i64 0, .int .i64 0, .int .i64 0, .slice U 0 0, .int .i64 0, .int .i64 0, .int .i64 0, .slice U 0 0]/\yc 88 Y:=yz
@[go_sem] def zf8:yl 88/\yk 88 0 0 3/\yk 88 1 1 3/\yk 88 2 2 67/\yk 88 3 4 82/\yk 88 4 5 3/\yk 88 5 6 3/\yk 88 6 7 3/\yk 88 7 8 37/\yg 88 [(0,1),(1,1),(2,2),(4,1),(5,1),(6,1),(7,1),(8,1)]/\yi 88 [(4,6),(8,1)]/\ya 91 12/\yc 91 Y/\yk 91 0 0 3/\yk 91 1 1 3/\yk 91 2 2 3/\yk 91 3 3 88/\yi 91 [(7,6),(11,1)]/\ya 93 2/\yf 93 [.slice U 0 0, .slice U 0 0]/\yc 93 Y/\yl 93/\yk 93 0 0 82/\yk 93 1 1 37:=yz
@[go_sem] def zf9:yg 93 [(0,1),(1,1)]/\yi 93 [(0,6),(1,1)]/\ya 98 10/\yb 98 112/\yf 98 [.int .i64 0, .int .i64 0, .int .i64 0, .int .i64 0, .int .i64 0, .slice U 0 0, .int .i64 0, .int .i64 0, .int .i64 0, .slice U 0 0]/\yl 98/\yk 98 0 0 3/\yk 98 1 1 88/\yg 98 [(0,1),(1,9)]/\ya 103 1/\yc 103 Z/\yd 103 109/\yi 103 [(0,6)]/\ye 103 (.slice 109)/\ya 105 9/\yf 105 [.int .i64 0, .int .i64 0, .int .i64 0, .int .i64 0, .slice U 0 0, .int .i64 0, .int .i64 0, .int .i64 0, .slice U 0 0]/\yc 105 Y/\yl 105/\yk 105 0 0 3/\yk 105 1 1 3/\yk 105 2 2 67/\yk 105 3 4 103/\yk 105 4 5 3/\yk 105 5 6 3:=yz
@[go_sem] def zf10:yk 105 6 7 3/\yk 105 7 8 37/\yg 105 [(0,1),(1,1),(2,2),(4,1),(5,1),(6,1),(7,1),(8,1)]/\yi 105 [(4,6),(8,1)]/\ya 108 5/\yf 108 [.int .i64 0, .int .i64 0, .int .i64 0, .slice U 0 0, .slice U 0 0]/\yc 108 Y/\yl 108/\yk 108 0 0 3/\yk 108 1 1 3/\yk 108 2 2 3/\yk 108 3 3 38/\yk 108 4 4 43/\yg 108 [(0,1),(1,1),(2,1),(3,1),(4,1)]/\yi 108 [(3,1),(4,1)]/\ya 109 6/\yb 109 96/\yf 109 [.int .i64 0, .int .i64 0, .int .i64 0, .slice U 0 0, .slice U 0 0, .slice U 0 0]/\yc 109 Y/\yl 109/\yk 109 0 0 3/\yk 109 1 1 3/\yk 109 2 2 3/\yk 109 3 3 37:=yz
@[go_sem] def zf11:yk 109 4 4 38/\yk 109 5 5 43/\yg 109 [(0,1),(1,1),(2,1),(3,1),(4,1),(5,1)]/\yi 109 [(3,1),(4,1),(5,1)]/\ye 109 .other/\ya 111 8/\yf 111 [.int .i64 0, .slice U 0 0, .int .i64 0, .int .i64 0, .int .i64 0, .slice U 0 0, .slice U 0 0, .slice U 0 0]/\yc 111 Y/\yl 111/\yk 111 0 0 3/\yk 111 1 1 73/\yk 111 2 2 109/\yg 111 [(0,1),(1,1),(2,6)]/\yi 111 [(1,1),(5,1),(6,1),(7,1)]/\ya 113 7/\yf 113 [.int .i64 0, .int .i64 0, .int .i64 0, .int .i64 0, .slice U 0 0, .slice U 0 0, .slice U 0 0]/\yc 113 Y/\yl 113/\yk 113 0 0 3/\yk 113 1 1 109/\yg 113 [(0,1),(1,6)]/\yi 113 [(4,1),(5,1),(6,1)]/\ya 114 4/\yf 114 [.int .i64 0, .int .i64 0, .int .i64 0, .slice U 0 0]:=yz
@[go_sem] def zf12:yc 114 Y/\yl 114/\yk 114 0 0 3/\yk 114 1 1 3/\yk 114 2 2 3/\yk 114 3 3 37/\yg 114 [(0,1),(1,1),(2,1),(3,1)]/\yi 114 [(3,1)]/\ya 116 28/\yf 116 [.int .i64 0, .int .i64 0, .int .i64 0, .slice U 0 0, .slice U 0 0, .int .i64 0, .slice U 0 0, .int .i64 0, .int .i64 0, .int .i64 0, .slice U 0 0, .slice U 0 0, .slice U 0 0, .int .i64 0, .int .i64 0, .int .i64 0, .int .i64 0, .slice U 0 0, .slice U 0 0, .slice U 0 0, .int .i64 0, .int .i64 0, .int .i64 0, .slice U 0 0, .slice U 0 0, .int .i64 0, .int .i64 0, .slice U 0 0]/\yc 116 Y/\yl 116/\yk 116 0 0 108/\yk 116 1 5 111/\yk 116 2 13 113/\yk 116 3 20 114/\yk 116 4 24 103/\yk 116 5 25 3/\yk 116 6 26 3/\yk 116 7 27 37/\yg 116 [(0,5),(5,8),(13,7),(20,4),(24,1),(25,1),(26,1),(27,1)]/\yi 116 [(3,1),(4,1),(6,1),(10,1),(11,1),(12,1),(17,1),(18,1),(19,1),(23,1),(24,6),(27,1)]/\yd 123 127/\ye 123 (.slice 127):=yz
@[go_sem] def zf13:ya 127 3/\yb 127 24/\yf 127 [.int .i64 0, .int .i64 0, .int .i64 0]/\yl 127/\yk 127 0 0 3/\yk 127 1 1 67/\yg 127 [(0,1),(1,2)]/\ya 135 1/\yc 135 Z/\yd 135 227/\yi 135 [(0,10)]/\ye 135 (.slice 227)/\ya 181 1/\yc 181 Z/\yd 181 187/\ye 181 (.slice 187)/\ya 183 2/\yb 183 32/\yf 183 [.int .i64 0, .slice U 0 0]/\yc 183 Y/\yl 183/\yk 183 0 0 3/\yk 183 1 1 181/\yg 183 [(0,1),(1,1)]:=yz
@[go_sem] def zf14:yi 183 [(1,4)]/\ya 184 1/\yc 184 Z/\yd 184 247/\ye 184 (.slice 247)/\ya 185 1/\yc 185 Z/\yd 185 304/\ye 185 (.slice 304)/\ya 187 4/\yb 187 80/\yf 187 [.int .i64 0, .slice U 0 0, .slice U 0 0, .slice U 0 0]/\yc 187 Y/\yl 187/\yk 187 0 0 3/\yk 187 1 1 37/\yk 187 2 2 184/\yk 187 3 3 185/\yg 187 [(0,1),(1,1),(2,1),(3,1)]/\yi 187 [(1,1),(2,2),(3,3)]/\ya 198 1/\yc 198 Z/\yd 198 300/\ye 198 (.slice 300):=yz
@[go_sem] def zf15:ya 200 2/\yb 200 32/\yf 200 [.int .i64 0, .slice U 0 0]/\yc 200 Y/\yl 200/\yk 200 0 0 3/\yk 200 1 1 198/\yg 200 [(0,1),(1,1)]/\ya 206 1/\yc 206 Z/\yd 206 213/\yi 206 [(0,2)]/\ye 206 (.slice 213)/\ya 208 2/\yb 208 32/\yf 208 [.int .i64 0, .slice U 0 0]/\yc 208 Y/\yl 208/\yk 208 0 0 3/\yk 208 1 1 206/\yg 208 [(0,1),(1,1)]/\ya 213 2/\yb 213 16/\yf 213 [.int .i64 0, .int .i64 0]:=yz
@[go_sem] def zf16:yc 213 Y/\yk 213 0 0 3/\yk 213 1 1 3/\ya 216 3/\yb 216 24/\yf 216 [.int .i64 0, .int .i64 0, .int .i64 0]/\yc 216 Y/\yl 216/\yk 216 0 0 3/\yk 216 1 1 67/\yg 216 [(0,1),(1,2)]/\yi 220 []/\ya 227 10/\yb 227 112/\yf 227 [.int .i64 0, .int .i64 0, .int .i64 0, .int .i64 0, .int .i64 0, .slice U 0 0, .int .i64 0, .int .i64 0, .int .i64 0, .slice U 0 0]/\yl 227/\yk 227 0 0 3/\yk 227 1 1 105/\yg 227 [(0,1),(1,9)]/\yi 228 []/\ya 230 45/\yl 230/\yk 230 0 0 27/\yk 230 1 4 84:=yz
@[go_sem] def zf17:yk 230 2 32 86/\yk 230 3 33 93/\yk 230 4 35 3/\yk 230 5 36 88/\yg 230 [(0,4),(4,28),(32,1),(33,2),(35,1),(36,9)]/\yi 230 [(1,2),(2,2),(7,1),(8,1),(10,1),(14,1),(15,1),(16,1),(21,1),(22,1),(23,1),(27,1),(28,6),(31,1),(32,10),(33,6),(34,1),(40,6),(44,1)]/\yi 232 []/\yi 233 []/\yi 239 []/\ya 245 1/\yc 245 Z/\yd 245 251/\ye 245 (.slice 251)/\ya 247 2/\yb 247 32/\yf 247 [.int .i64 0, .slice U 0 0]/\yc 247 Y/\yl 247/\yk 247 0 0 3/\yk 247 1 1 245/\yg 247 [(0,1),(1,1)]/\ya 251 2/\yb 251 16/\yf 251 [.int .i64 0, .int .i64 0]:=yz
@[go_sem] def zf18:yl 251/\yk 251 0 0 3/\yk 251 1 1 3/\yg 251 [(0,1),(1,1)]/\ya 254 32/\yf 254 [.int .i64 0, .int .i64 0, .int .i64 0, .slice U 0 0, .slice U 0 0, .int .i64 0, .slice U 0 0, .int .i64 0, .int .i64 0, .int .i64 0, .slice U 0 0, .slice U 0 0, .slice U 0 0, .int .i64 0, .int .i64 0, .int .i64 0, .int .i64 0, .slice U 0 0, .slice U 0 0, .slice U 0 0, .int .i64 0, .int .i64 0, .int .i64 0, .slice U 0 0, .slice U 0 0, .int .i64 0, .int .i64 0, .slice U 0 0, .slice U 0 0, .slice U 0 0, .slice U 0 0, .int .i64 0]/\yc 254 Y/\yl 254/\yk 254 0 0 116/\yk 254 1 28 135/\yk 254 2 29 103/\yk 254 3 30 37/\yk 254 4 31 50/\yg 254 [(0,28),(28,1),(29,1),(30,1),(31,1)]/\yi 254 [(3,1),(4,1),(6,1),(10,1),(11,1),(12,1),(17,1),(18,1),(19,1),(23,1),(24,6),(27,1),(28,10),(29,6),(30,1)]/\yi 272 []/\yi 288 []/\ya 297 1/\yc 297 Z/\yd 297 208/\ye 297 (.slice 208)/\ya 298 1/\yc 298 Z/\yd 298 306:=yz
@[go_sem] def zf19:ye 298 (.slice 306)/\ya 300 4/\yb 300 80/\yf 300 [.int .i64 0, .slice U 0 0, .slice U 0 0, .slice U 0 0]/\yc 300 Y/\yl 300/\yk 300 0 0 3/\yk 300 1 1 37/\yk 300 2 2 297/\yk 300 3 3 298/\yg 300 [(0,1),(1,1),(2,1),(3,1)]/\yi 300 [(1,1),(2,2),(3,3)]/\ya 304 3/\yb 304 24/\yf 304 [.int .i64 0, .int .i64 0, .int .i64 0]/\yc 304 Y/\yl 304/\yk 304 0 0 3/\yk 304 1 1 3/\yk 304 2 2 3/\yg 304 [(0,1),(1,1),(2,1)]/\ya 306 3/\yb 306 24/\yf 306 [.int .i64 0, .int .i64 0, .int .i64 0]:=yz
@[go_sem] def zf20:yc 306 Y/\yk 306 0 0 3/\yk 306 1 1 3/\yk 306 2 2 3/\yi 307 []/\ye 317 (.int .u64)/\ya 320 1/\yf 320 [.int .i64 0]/\yl 320/\yk 320 0 0 50/\yg 320 [(0,1)]/\ye 320 .other/\ya 325 7/\yf 325 [.nilFunc, .nilFunc, .nilFunc, .nilFunc, .nilFunc, .nilFunc, .nilFunc]/\yh 325 (7,232)/\tpl prog 325=U/\yi 330 []/\ya 343 9/\yf 343 [.int .i64 0, .int .i64 0, .int .i64 0, .slice U 0 0, .slice U 0 0, .int .i64 0, .slice U 0 0, .slice U 0 0, .bool Z]/\yc 343 Y/\yl 343/\yk 343 0 0 45/\yk 343 1 5 27/\yg 343 [(0,5),(5,4)]:=yz
@[go_sem] def zf21:yi 343 [(3,1),(4,1),(6,2),(7,2)]/\ya 373 7/\yf 373 [.nilFunc, .nilFunc, .nilFunc, .nilFunc, .nilFunc, .nilFunc, .nilFunc]/\yh 373 (7,324)/\tpl prog 373=U/\yi 418 []/\yi 422 []/\yi 428 []/\yd 459 82/\yi 459 [(0,1)]/\ye 459 (.slice 82):=yz
@[go_sem] def fxk_15:fxk prog 15=U:=wb
@[go_sem] def fnOk_15:fnOk prog 15=Y:=wb
@[go_sem] def fxk_16:fxk prog 16=U:=wb
@[go_sem] def fnOk_16:fnOk prog 16=Y:=wb
@[go_sem] def fxk_17:fxk prog 17=U:=wb
@[go_sem] def fnOk_17:fnOk prog 17=Y:=wb
@[go_sem] def fxk_20:fxk prog 20=U:=wb
@[go_sem] def fnOk_20:fnOk prog 20=Y:=wb
@[go_sem] def fxk_25:fxk prog 25=U:=wb
@[go_sem] def fnOk_25:fnOk prog 25=Y:=wb
@[go_sem] def fxk_27:fxk prog 27=U:=wb
@[go_sem] def fnOk_27:fnOk prog 27=Y:=wb
@[go_sem] def fxk_28:fxk prog 28=U:=wb
@[go_sem] def fnOk_28:fnOk prog 28=Y:=wb
@[go_sem] def fxk_29:fxk prog 29=U:=wb
@[go_sem] def fnOk_29:fnOk prog 29=Y:=wb
@[go_sem] def fxk_30:fxk prog 30=U:=wb
@[go_sem] def fnOk_30:fnOk prog 30=Y:=wb
@[go_sem] def fxk_31:fxk prog 31=U:=wb
@[go_sem] def fnOk_31:fnOk prog 31=Y:=wb
@[go_sem] def fxk_32:fxk prog 32=U:=wb
@[go_sem] def fnOk_32:fnOk prog 32=Y:=wb
@[go_sem] def fxk_33:fxk prog 33=U:=wb
@[go_sem] def fnOk_33:fnOk prog 33=Y:=wb
@[go_sem] def fxk_34:fxk prog 34=U:=wb
@[go_sem] def fnOk_34:fnOk prog 34=Y:=wb
@[go_sem] def fxk_35:fxk prog 35=U:=wb
@[go_sem] def fnOk_35:fnOk prog 35=Y:=wb
@[go_sem] def fxk_36:fxk prog 36=U:=wb
@[go_sem] def fnOk_36:fnOk prog 36=Y:=wb
@[go_sem] def fxk_37:fxk prog 37=U:=wb
@[go_sem] def fnOk_37:fnOk prog 37=Y:=wb
@[go_sem] def fxk_38:fxk prog 38=U:=wb
@[go_sem] def fnOk_38:fnOk prog 38=Y:=wb
@[go_sem] def fxk_39:fxk prog 39=U:=wb
@[go_sem] def fnOk_39:fnOk prog 39=Y:=wb
@[go_sem] def fxk_40:fxk prog 40=U:=wb
@[go_sem] def fnOk_40:fnOk prog 40=Y:=wb
@[go_sem] def fxk_41:fxk prog 41=U:=wb
@[go_sem] def fnOk_41:fnOk prog 41=Y:=wb
@[go_sem] def fxk_42:fxk prog 42=U:=wb
@[go_sem] def fnOk_42:fnOk prog 42=Y:=wb
@[go_sem] def fxk_43:fxk prog 43=U:=wb
@[go_sem] def fnOk_43:fnOk prog 43=Y:=wb
@[go_sem] def fxk_44:fxk prog 44=U:=wb
@[go_sem] def fnOk_44:fnOk prog 44=Y:=wb
@[go_sem] def fxk_45:fxk prog 45=U:=wb
@[go_sem] def fnOk_45:fnOk prog 45=Y:=wb
@[go_sem] def fxk_46:fxk prog 46=U:=wb
@[go_sem] def fnOk_46:fnOk prog 46=Y:=wb
@[go_sem] def fxk_47:fxk prog 47=U:=wb
@[go_sem] def fnOk_47:fnOk prog 47=Y:=wb
@[go_sem] def fxk_48:fxk prog 48=U:=wb
@[go_sem] def fnOk_48:fnOk prog 48=Y:=wb
@[go_sem] def fxk_49:fxk prog 49=U:=wb
@[go_sem] def fnOk_49:fnOk prog 49=Y:=wb
@[go_sem] def fxk_50:fxk prog 50=U:=wb
@[go_sem] def fnOk_50:fnOk prog 50=Y:=wb
@[go_sem] def fxk_51:fxk prog 51=U:=wb
@[go_sem] def fnOk_51:fnOk prog 51=Y:=wb
@[go_sem] def fxk_52:fxk prog 52=U:=wb
@[go_sem] def fnOk_52:fnOk prog 52=Y:=wb
@[go_sem] def fxk_53:fxk prog 53=U:=wb
@[go_sem] def fnOk_53:fnOk prog 53=Y:=wb
@[go_sem] def fxk_54:fxk prog 54=U:=wb
@[go_sem] def fnOk_54:fnOk prog 54=Y:=wb
@[go_sem] def fxk_55:fxk prog 55=U:=wb
@[go_sem] def fnOk_55:fnOk prog 55=Y:=wb
@[go_sem] def fxk_56:fxk prog 56=U:=wb
@[go_sem] def fnOk_56:fnOk prog 56=Y:=wb
@[go_sem] def fxk_75:fxk prog 75=U:=wb
@[go_sem] def fnOk_75:fnOk prog 75=Y:=wb
@[go_sem] def fxk_76:fxk prog 76=U:=wb
@[go_sem] def fnOk_76:fnOk prog 76=Y:=wb
@[go_sem] def fxk_77:fxk prog 77=U:=wb
@[go_sem] def fnOk_77:fnOk prog 77=Y:=wb
@[go_sem] def fxk_78:fxk prog 78=U:=wb
@[go_sem] def fnOk_78:fnOk prog 78=Y:=wb
@[go_sem] def fxk_79:fxk prog 79=U:=wb
@[go_sem] def fnOk_79:fnOk prog 79=Y:=wb
@[go_sem] def fxk_80:fxk prog 80=U:=wb
@[go_sem] def fnOk_80:fnOk prog 80=Y:=wb
@[go_sem] def fxk_81:fxk prog 81=U:=wb
@[go_sem] def fnOk_81:fnOk prog 81=Y:=wb
@[go_sem] def fxk_84:fxk prog 84=U:=wb
@[go_sem] def fnOk_84:fnOk prog 84=Y:=wb
@[go_sem] def fxk_87:fxk prog 87=U:=wb
@[go_sem] def fnOk_87:fnOk prog 87=Y:=wb
@[go_sem] def fxk_88:fxk prog 88=U:=wb
@[go_sem] def fnOk_88:fnOk prog 88=Y:=wb
@[go_sem] def fxk_89:fxk prog 89=U:=wb
@[go_sem] def fnOk_89:fnOk prog 89=Y:=wb
@[go_sem] def fxk_90:fxk prog 90=U:=wb
@[go_sem] def fnOk_90:fnOk prog 90=Y:=wb
@[go_sem] def fxk_93:fxk prog 93=U:=wb
@[go_sem] def fnOk_93:fnOk prog 93=Y:=wb
@[go_sem] def fxk_94:fxk prog 94=U:=wb
@[go_sem] def fnOk_94:fnOk prog 94=Y:=wb
@[go_sem] def fxk_95:fxk prog 95=U:=wb
@[go_sem] def fnOk_95:fnOk prog 95=Y:=wb
@[go_sem] def fxk_96:fxk prog 96=U:=wb
@[go_sem] def fnOk_96:fnOk prog 96=Y:=wb
@[go_sem] def fxk_97:fxk prog 97=U:=wb
@[go_sem] def fnOk_97:fnOk prog 97=Y:=wb
@[go_sem] def fxk_98:fxk prog 98=U:=wb
@[go_sem] def fnOk_98:fnOk prog 98=Y:=wb
@[go_sem] def fxk_99:fxk prog 99=U:=wb
@[go_sem] def fnOk_99:fnOk prog 99=Y:=wb
@[go_sem] def fxk_100:fxk prog 100=U:=wb
@[go_sem] def fnOk_100:fnOk prog 100=Y:=wb
@[go_sem] def fnOk_101:fnOk prog 101=Y:=wb
@[go_sem] def fxk_102:fxk prog 102=U:=wb
@[go_sem] def fnOk_102:fnOk prog 102=Y:=wb
@[go_sem] def fxk_103:fxk prog 103=U:=wb
@[go_sem] def fnOk_103:fnOk prog 103=Y:=wb
@[go_sem] def fxk_107:fxk prog 107=U:=wb
@[go_sem] def fnOk_107:fnOk prog 107=Y:=wb
@[go_sem] def fxk_108:fxk prog 108=U:=wb
@[go_sem] def fnOk_108:fnOk prog 108=Y:=wb
@[go_sem] def fxk_109:fxk prog 109=U:=wb
@[go_sem] def fnOk_109:fnOk prog 109=Y:=wb
@[go_sem] def fxk_110:fxk prog 110=U:=wb
@[go_sem] def fnOk_110:fnOk prog 110=Y:=wb
@[go_sem] def fxk_111:fxk prog 111=U:=wb
@[go_sem] def fnOk_111:fnOk prog 111=Y:=wb
@[go_sem] def fxk_112:fxk prog 112=U:=wb
@[go_sem] def fnOk_112:fnOk prog 112=Y:=wb
@[go_sem] def fxk_113:fxk prog 113=U:=wb
@[go_sem] def fnOk_113:fnOk prog 113=Y:=wb
@[go_sem] def fxk_114:fxk prog 114=U:=wb
@[go_sem] def fnOk_114:fnOk prog 114=Y:=wb
@[go_sem] def fxk_115:fxk prog 115=U:=wb
@[go_sem] def fnOk_115:fnOk prog 115=Y:=wb
@[go_sem] def fxk_116:fxk prog 116=U:=wb
@[go_sem] def fnOk_116:fnOk prog 116=Y:=wb
@[go_sem] def fxk_117:fxk prog 117=U:=wb
@[go_sem] def fnOk_117:fnOk prog 117=Y:=wb
@[go_sem] def fxk_118:fxk prog 118=U:=wb
@[go_sem] def fnOk_118:fnOk prog 118=Y:=wb
@[go_sem] def fxk_119:fxk prog 119=U:=wb
@[go_sem] def fnOk_119:fnOk prog 119=Y:=wb
@[go_sem] def fxk_120:fxk prog 120=U:=wb
@[go_sem] def fnOk_120:fnOk prog 120=Y:=wb
@[go_sem] def fxk_121:fxk prog 121=U:=wb
@[go_sem] def fnOk_121:fnOk prog 121=Y:=wb
@[go_sem] def fxk_122:fxk prog 122=U:=wb
@[go_sem] def fnOk_122:fnOk prog 122=Y:=wb
@[go_sem] def fxk_123:fxk prog 123=U:=wb
@[go_sem] def fnOk_123:fnOk prog 123=Y:=wb
@[go_sem] def fxk_124:fxk prog 124=U:=wb
@[go_sem] def fnOk_124:fnOk prog 124=Y:=wb
@[go_sem] def fxk_125:fxk prog 125=U:=wb
@[go_sem] def fnOk_125:fnOk prog 125=Y:=wb
@[go_sem] def fxk_126:fxk prog 126=U:=wb
@[go_sem] def fnOk_126:fnOk prog 126=Y:=wb
@[go_sem] def fxk_127:fxk prog 127=U:=wb
@[go_sem] def fnOk_127:fnOk prog 127=Y:=wb
@[go_sem] def fxk_128:fxk prog 128=U:=wb
@[go_sem] def fnOk_128:fnOk prog 128=Y:=wb
@[go_sem] def fxk_129:fxk prog 129=U:=wb
@[go_sem] def fnOk_129:fnOk prog 129=Y:=wb
@[go_sem] def fxk_130:fxk prog 130=U:=wb
@[go_sem] def fnOk_130:fnOk prog 130=Y:=wb
@[go_sem] def fxk_131:fxk prog 131=U:=wb
@[go_sem] def fnOk_131:fnOk prog 131=Y:=wb
@[go_sem] def fxk_132:fxk prog 132=U:=wb
@[go_sem] def fnOk_132:fnOk prog 132=Y:=wb
@[go_sem] def fxk_133:fxk prog 133=U:=wb
@[go_sem] def fnOk_133:fnOk prog 133=Y:=wb
@[go_sem] def fxk_134:fxk prog 134=U:=wb
@[go_sem] def fnOk_134:fnOk prog 134=Y:=wb
@[go_sem] def fxk_135:fxk prog 135=U:=wb
@[go_sem] def fnOk_135:fnOk prog 135=Y:=wb
@[go_sem] def fxk_147:fxk prog 147=U:=wb
@[go_sem] def fnOk_147:fnOk prog 147=Y:=wb
@[go_sem] def fxk_148:fxk prog 148=U:=wb
@[go_sem] def fnOk_148:fnOk prog 148=Y:=wb
@[go_sem] def fxk_154:fxk prog 154=U:=wb
@[go_sem] def fnOk_154:fnOk prog 154=Y:=wb
@[go_sem] def fxk_164:fxk prog 164=U:=wb
@[go_sem] def fnOk_164:fnOk prog 164=Y:=wb
@[go_sem] def fxk_165:fxk prog 165=U:=wb
@[go_sem] def fnOk_165:fnOk prog 165=Y:=wb
@[go_sem] def fxk_166:fxk prog 166=U:=wb
@[go_sem] def fnOk_166:fnOk prog 166=Y:=wb
@[go_sem] def fxk_167:fxk prog 167=U:=wb
@[go_sem] def fnOk_167:fnOk prog 167=Y:=wb
@[go_sem] def fxk_168:fxk prog 168=U:=wb
@[go_sem] def fnOk_168:fnOk prog 168=Y:=wb
@[go_sem] def fxk_169:fxk prog 169=U:=wb
@[go_sem] def fnOk_169:fnOk prog 169=Y:=wb
@[go_sem] def fxk_170:fxk prog 170=U:=wb
@[go_sem] def fnOk_170:fnOk prog 170=Y:=wb
@[go_sem] def fxk_171:fxk prog 171=U:=wb
@[go_sem] def fnOk_171:fnOk prog 171=Y:=wb
@[go_sem] def fxk_176:fxk prog 176=U:=wb
@[go_sem] def fnOk_176:fnOk prog 176=Y:=wb
@[go_sem] def fxk_177:fxk prog 177=U:=wb
@[go_sem] def fnOk_177:fnOk prog 177=Y:=wb
@[go_sem] def fxk_178:fxk prog 178=U:=wb
@[go_sem] def fnOk_178:fnOk prog 178=Y:=wb
@[go_sem] def fxk_179:fxk prog 179=U:=wb
@[go_sem] def fxk_182:fxk prog 182=U:=wb
@[go_sem] def fnOk_182:fnOk prog 182=Y:=wb
@[go_sem] def fxk_183:fxk prog 183=U:=wb
@[go_sem] def fnOk_183:fnOk prog 183=Y:=wb
@[go_sem] def fxk_184:fxk prog 184=U:=wb
@[go_sem] def fnOk_184:fnOk prog 184=Y:=wb
@[go_sem] def fxk_185:fxk prog 185=U:=wb
@[go_sem] def fnOk_185:fnOk prog 185=Y:=wb
@[go_sem] def fxk_186:fxk prog 186=U:=wb
@[go_sem] def fnOk_186:fnOk prog 186=Y:=wb
@[go_sem] def fxk_187:fxk prog 187=U:=wb
@[go_sem] def fnOk_187:fnOk prog 187=Y:=wb
@[go_sem] def fxk_188:fxk prog 188=U:=wb
@[go_sem] def fnOk_188:fnOk prog 188=Y:=wb
@[go_sem] def fxk_189:fxk prog 189=U:=wb
@[go_sem] def fnOk_189:fnOk prog 189=Y:=wb
@[go_sem] def fxk_190:fxk prog 190=U:=wb
@[go_sem] def fnOk_190:fnOk prog 190=Y:=wb
@[go_sem] def fxk_191:fxk prog 191=U:=wb
@[go_sem] def fnOk_191:fnOk prog 191=Y:=wb
@[go_sem] def fxk_192:fxk prog 192=U:=wb
@[go_sem] def fnOk_192:fnOk prog 192=Y:=wb
@[go_sem] def fxk_193:fxk prog 193=U:=wb
@[go_sem] def fnOk_193:fnOk prog 193=Y:=wb
@[go_sem] def fxk_194:fxk prog 194=U:=wb
@[go_sem] def fnOk_194:fnOk prog 194=Y:=wb
@[go_sem] def fxk_195:fxk prog 195=U:=wb
@[go_sem] def fnOk_195:fnOk prog 195=Y:=wb
@[go_sem] def fxk_196:fxk prog 196=U:=wb
@[go_sem] def fnOk_196:fnOk prog 196=Y:=wb
@[go_sem] def fxk_197:fxk prog 197=U:=wb
@[go_sem] def fnOk_197:fnOk prog 197=Y:=wb
@[go_sem] def fxk_198:fxk prog 198=U:=wb
@[go_sem] def fnOk_198:fnOk prog 198=Y:=wb
@[go_sem] def fxk_199:fxk prog 199=U:=wb
@[go_sem] def fnOk_199:fnOk prog 199=Y:=wb
@[go_sem] def fxk_200:fxk prog 200=U:=wb
@[go_sem] def fnOk_200:fnOk prog 200=Y:=wb
@[go_sem] def fxk_201:fxk prog 201=U:=wb
@[go_sem] def fnOk_201:fnOk prog 201=Y:=wb
@[go_sem] def fxk_202:fxk prog 202=U:=wb
@[go_sem] def fnOk_202:fnOk prog 202=Y:=wb
@[go_sem] def fxk_203:fxk prog 203=U:=wb
@[go_sem] def fnOk_203:fnOk prog 203=Y:=wb
@[go_sem] def fxk_204:fxk prog 204=U:=wb
@[go_sem] def fnOk_204:fnOk prog 204=Y:=wb
@[go_sem] def fxk_205:fxk prog 205=U:=wb
@[go_sem] def fnOk_205:fnOk prog 205=Y:=wb
@[go_sem] def fxk_206:fxk prog 206=U:=wb
@[go_sem] def fnOk_206:fnOk prog 206=Y:=wb
@[go_sem] def fxk_207:fxk prog 207=U:=wb
@[go_sem] def fnOk_207:fnOk prog 207=Y:=wb
@[go_sem] def fxk_208:fxk prog 208=U:=wb
@[go_sem] def fnOk_208:fnOk prog 208=Y:=wb
@[go_sem] def fxk_218:fxk prog 218=U:=wb
@[go_sem] def fnOk_218:fnOk prog 218=Y:=wb
@[go_sem] def fxk_219:fxk prog 219=U:=wb
@[go_sem] def fnOk_219:fnOk prog 219=Y:=wb
@[go_sem] def fxk_224:fxk prog 224=U:=wb
@[go_sem] def fnOk_224:fnOk prog 224=Y:=wb
@[go_sem] def fxk_225:fxk prog 225=U:=wb
@[go_sem] def fnOk_225:fnOk prog 225=Y:=wb
@[go_sem] def fxk_226:fxk prog 226=U:=wb
@[go_sem] def fnOk_226:fnOk prog 226=Y:=wb
@[go_sem] def fxk_227:fxk prog 227=U:=wb
@[go_sem] def fnOk_227:fnOk prog 227=Y:=wb
@[go_sem] def fxk_228:fxk prog 228=U:=wb
@[go_sem] def fnOk_228:fnOk prog 228=Y:=wb
@[go_sem] def fnOk_229:fnOk prog 229=Y:=wb
@[go_sem] def fxk_231:fxk prog 231=U:=wb
@[go_sem] def fnOk_231:fnOk prog 231=Y:=wb
@[go_sem] def fxk_232:fxk prog 232=U:=wb
@[go_sem] def fnOk_232:fnOk prog 232=Y:=wb
@[go_sem] def fxk_233:fxk prog 233=U:=wb
@[go_sem] def fnOk_233:fnOk prog 233=Y:=wb
@[go_sem] def fxk_234:fxk prog 234=U:=wb
@[go_sem] def fnOk_234:fnOk prog 234=Y:=wb
@[go_sem] def fxk_235:fxk prog 235=U:=wb
@[go_sem] def fnOk_235:fnOk prog 235=Y:=wb
@[go_sem] def fnOk_236:fnOk prog 236=Y:=wb
@[go_sem] def fxk_237:fxk prog 237=U:=wb
@[go_sem] def fnOk_237:fnOk prog 237=Y:=wb
@[go_sem] def fxk_238:fxk prog 238=U:=wb
@[go_sem] def fnOk_238:fnOk prog 238=Y:=wb
@[go_sem] def fxk_239:fxk prog 239=U:=wb
@[go_sem] def fnOk_239:fnOk prog 239=Y:=wb
@[go_sem] def fxk_240:fxk prog 240=U:=wb
@[go_sem] def fnOk_240:fnOk prog 240=Y:=wb
@[go_sem] def fxk_241:fxk prog 241=U:=wb
@[go_sem] def fnOk_241:fnOk prog 241=Y:=wb
@[go_sem] def fxk_242:fxk prog 242=U:=wb
@[go_sem] def fnOk_242:fnOk prog 242=Y:=wb
@[go_sem] def fxk_243:fxk prog 243=U:=wb
@[go_sem] def fnOk_243:fnOk prog 243=Y:=wb
@[go_sem] def fxk_244:fxk prog 244=U:=wb
@[go_sem] def fnOk_244:fnOk prog 244=Y:=wb
@[go_sem] def fxk_245:fxk prog 245=U:=wb
@[go_sem] def fnOk_245:fnOk prog 245=Y:=wb
@[go_sem] def fxk_246:fxk prog 246=U:=wb
@[go_sem] def fnOk_246:fnOk prog 246=Y:=wb
@[go_sem] def fxk_247:fxk prog 247=U:=wb
@[go_sem] def fnOk_247:fnOk prog 247=Y:=wb
@[go_sem] def fxk_248:fxk prog 248=U:=wb
@[go_sem] def fnOk_248:fnOk prog 248=Y:=wb
@[go_sem] def fnOk_249:fnOk prog 249=Y:=wb
@[go_sem] def fxk_250:fxk prog 250=U:=wb
@[go_sem] def fnOk_250:fnOk prog 250=Y:=wb
@[go_sem] def fxk_251:fxk prog 251=U:=wb
@[go_sem] def fnOk_251:fnOk prog 251=Y:=wb
@[go_sem] def fxk_252:fxk prog 252=U:=wb
@[go_sem] def fnOk_252:fnOk prog 252=Y:=wb
@[go_sem] def fxk_253:fxk prog 253=U:=wb
@[go_sem] def fnOk_253:fnOk prog 253=Y:=wb
@[go_sem] def fxk_254:fxk prog 254=U:=wb
@[go_sem] def fnOk_254:fnOk prog 254=Y:=wb
@[go_sem] def fxk_255:fxk prog 255=U:=wb
@[go_sem] def fnOk_255:fnOk prog 255=Y:=wb
@[go_sem] def fxk_256:fxk prog 256=U:=wb
@[go_sem] def fnOk_256:fnOk prog 256=Y:=wb
@[go_sem] def fxk_257:fxk prog 257=U:=wb
@[go_sem] def fnOk_257:fnOk prog 257=Y:=wb
@[go_sem] def fxk_258:fxk prog 258=U:=wb
@[go_sem] def fnOk_258:fnOk prog 258=Y:=wb
@[go_sem] def fxk_259:fxk prog 259=U:=wb
@[go_sem] def fnOk_259:fnOk prog 259=Y:=wb
@[go_sem] def fxk_260:fxk prog 260=U:=wb
@[go_sem] def fnOk_260:fnOk prog 260=Y:=wb
@[go_sem] def fxk_261:fxk prog 261=U:=wb
@[go_sem] def fnOk_261:fnOk prog 261=Y:=wb
@[go_sem] def fxk_262:fxk prog 262=U:=wb
@[go_sem] def fnOk_262:fnOk prog 262=Y:=wb
@[go_sem] def fxk_263:fxk prog 263=U:=wb
@[go_sem] def fnOk_263:fnOk prog 263=Y:=wb
@[go_sem] def fxk_283:fxk prog 283=U:=wb
@[go_sem] def fnOk_283:fnOk prog 283=Y:=wb
@[go_sem] def fnOk_284:fnOk prog 284=Y:=wb
@[go_sem] def fxk_285:fxk prog 285=U:=wb
@[go_sem] def fnOk_285:fnOk prog 285=Y:=wb
@[go_sem] def fnOk_286:fnOk prog 286=Y:=wb
@[go_sem] def fxk_288:fxk prog 288=U:=wb
@[go_sem] def fnOk_288:fnOk prog 288=Y:=wb
@[go_sem] def fxk_289:fxk prog 289=U:=wb
@[go_sem] def fnOk_289:fnOk prog 289=Y:=wb
@[go_sem] def fxk_290:fxk prog 290=U:=wb
@[go_sem] def fnOk_290:fnOk prog 290=Y:=wb
@[go_sem] def fxk_291:fxk prog 291=U:=wb
@[go_sem] def fnOk_291:fnOk prog 291=Y:=wb
@[go_sem] def fxk_292:fxk prog 292=U:=wb
@[go_sem] def fnOk_292:fnOk prog 292=Y:=wb
@[go_sem] def fnOk_293:fnOk prog 293=Y:=wb
@[go_sem] def fxk_294:fxk prog 294=U:=wb
@[go_sem] def fnOk_294:fnOk prog 294=Y:=wb
@[go_sem] def fxk_295:fxk prog 295=U:=wb
@[go_sem] def fnOk_295:fnOk prog 295=Y:=wb
@[go_sem] def fxk_296:fxk prog 296=U:=wb
@[go_sem] def fnOk_296:fnOk prog 296=Y:=wb
@[go_sem] def fxk_297:fxk prog 297=U:=wb
@[go_sem] def fnOk_297:fnOk prog 297=Y:=wb
@[go_sem] def fxk_298:fxk prog 298=U:=wb
@[go_sem] def fnOk_298:fnOk prog 298=Y:=wb
@[go_sem] def fxk_299:fxk prog 299=U:=wb
@[go_sem] def fnOk_299:fnOk prog 299=Y:=wb
@[go_sem] def fxk_300:fxk prog 300=U:=wb
@[go_sem] def fnOk_300:fnOk prog 300=Y:=wb
@[go_sem] def fxk_302:fxk prog 302=U:=wb
@[go_sem] def fnOk_302:fnOk prog 302=Y:=wb
@[go_sem] def fxk_303:fxk prog 303=U:=wb
@[go_sem] def fnOk_303:fnOk prog 303=Y:=wb
@[go_sem] def fxk_304:fxk prog 304=U:=wb
@[go_sem] def fnOk_304:fnOk prog 304=Y:=wb
@[go_sem] def fxk_305:fxk prog 305=U:=wb
@[go_sem] def fnOk_305:fnOk prog 305=Y:=wb
@[go_sem] def fxk_329:fxk prog 329=U:=wb
@[go_sem] def fnOk_329:fnOk prog 329=Y:=wb
@[go_sem] def fxk_330:fxk prog 330=U:=wb
@[go_sem] def fnOk_330:fnOk prog 330=Y:=wb
@[go_sem] def fxk_331:fxk prog 331=U:=wb
@[go_sem] def fnOk_331:fnOk prog 331=Y:=wb
@[go_sem] def fxk_332:fxk prog 332=U:=wb
@[go_sem] def fnOk_332:fnOk prog 332=Y:=wb
@[go_sem] def fxk_333:fxk prog 333=U:=wb
@[go_sem] def fnOk_333:fnOk prog 333=Y:=wb
@[go_sem] def fxk_336:fxk prog 336=U:=wb
@[go_sem] def fnOk_336:fnOk prog 336=Y:=wb
@[go_sem] def fxk_348:fxk prog 348=U:=wb
@[go_sem] def fnOk_348:fnOk prog 348=Y:=wb
@[go_sem] def fxk_350:fxk prog 350=U:=wb
@[go_sem] def fnOk_350:fnOk prog 350=Y:=wb
def mixed:Tryz.prog.follows .mixedOrders=Y:=wb
open Go.Proofs.Tryz
attribute [go_sem] ntmps7 results7 ntmps8 results8 ntmps9 results9 ntmps15 results15 ntmps16 results16 ntmps17 results17 ntmps20 results20 ntmps25 results25 ntmps27 results27 ntmps28 results28 ntmps29 results29 ntmps30 results30 ntmps31 results31 ntmps32 results32 ntmps34 results34 ntmps35 results35 ntmps36 results36 ntmps37 results37 ntmps38 results38 ntmps39 results39 ntmps40 results40 ntmps41 results41 ntmps42 results42 ntmps43 results43 ntmps44 results44 ntmps45 results45 ntmps46 results46 ntmps47 results47 ntmps48 results48 ntmps49 results49 ntmps50 results50 ntmps51 results51 ntmps52 results52 ntmps53 results53 ntmps54 results54 ntmps55 results55 ntmps56 results56 ntmps75 results75 ntmps76 results76 ntmps77 results77 ntmps78 results78 ntmps79 results79 ntmps80 results80 ntmps81 results81 ntmps84 results84 ntmps87 results87 ntmps88 results88 ntmps89 results89 ntmps90 results90 ntmps93 results93 ntmps94 results94 ntmps95 results95 ntmps96 results96 ntmps97 results97 ntmps98 results98 ntmps99 results99 ntmps100 results100 ntmps101 results101 ntmps102 results102 ntmps103 results103 ntmps107 results107 ntmps108 results108 ntmps109 results109 ntmps110 results110 ntmps111 results111 ntmps112 results112 ntmps113 results113 ntmps114 results114 ntmps115 results115 ntmps116 results116 ntmps117 results117 ntmps118 results118 ntmps119 results119 ntmps120 results120 ntmps121 results121 ntmps122 results122 ntmps123 results123 ntmps124 results124 ntmps125 results125 ntmps126 results126 ntmps127 results127 ntmps128 results128 ntmps129 results129 ntmps130 results130 ntmps131 results131 ntmps132 results132 ntmps133 results133 ntmps134 results134 ntmps135 results135 ntmps147 results147 ntmps148 results148 ntmps154 results154 ntmps164 results164 ntmps165 results165 ntmps166 results166 ntmps167 results167 ntmps168 results168 ntmps169 results169 ntmps170 results170 ntmps171 results171 ntmps176 results176 ntmps177 results177 ntmps178 results178 ntmps181 results181 ntmps182 results182 ntmps183 results183 ntmps184 results184 ntmps185 results185 ntmps186 results186 ntmps187 results187 ntmps188 results188 ntmps189 results189 ntmps190 results190 ntmps191 results191 ntmps192 results192 ntmps193 results193 ntmps194 results194 ntmps195 results195 ntmps196 results196 ntmps197 results197 ntmps198 results198 ntmps199 results199 ntmps200 results200 ntmps201 results201 ntmps202 results202 ntmps203 results203 ntmps204 results204 ntmps205 results205 ntmps206 results206 ntmps207 results207 ntmps208 results208 ntmps218 results218 ntmps219 results219 ntmps224 results224 ntmps225 results225 ntmps226 results226 ntmps227 results227 ntmps228 results228 ntmps229 results229 ntmps231 results231 ntmps232 results232 ntmps233 results233 ntmps234 results234 ntmps235 results235 ntmps236 results236 ntmps237 results237 ntmps238 results238 ntmps239 results239 ntmps240 results240 ntmps241 results241 ntmps242 results242 ntmps243 results243 ntmps244 results244 ntmps245 results245 ntmps246 results246 ntmps247 results247 ntmps248 results248 ntmps250 results250 ntmps251 results251 ntmps252 results252 ntmps253 results253 ntmps254 results254 ntmps255 results255 ntmps256 results256 ntmps257 results257 ntmps258 results258 ntmps259 results259 ntmps260 results260 ntmps261 results261 ntmps262 results262 ntmps263 results263 ntmps283 results283 ntmps284 results284 ntmps285 results285 ntmps286 results286 ntmps288 results288 ntmps289 results289 ntmps290 results290 ntmps291 results291 ntmps292 results292 ntmps293 results293 ntmps294 results294 ntmps295 results295 ntmps296 results296 ntmps297 results297 ntmps298 results298 ntmps299 results299 ntmps300 results300 ntmps302 results302 ntmps303 results303 ntmps304 results304 ntmps305 results305 ntmps329 results329 ntmps330 results330 ntmps331 results331 ntmps332 results332 ntmps333 results333 ntmps336 results336 ntmps348 results348 ntmps350 results350
end Go.Proofs.NO
namespace Go.Idl
def zW{p q:Prop}(hq:q)(h:p=q:=by(simp(maxSteps:=2000000) only[go_sem,↓reduceIte,↓reduceDIte,reduceCtorEq,Nat.reducePow,Nat.reduceEqDiff,Nat.reduceAdd,Nat.reduceSub,Nat.reduceMul,Nat.reduceMod,Nat.reduceLeDiff,Nat.reduceLT,Nat.reduceBEq,Nat.reduceBNe,Int.reduceLT,Int.reduceLE,Int.reduceToNat,Int.reduceNeg,Int.reduceAdd,Int.reduceSub,Int.reduceMul,Int.reduceBEq,Int.reduceBNe,Int.reduceEq];rfl)):p:=h.mpr hq
def zO{p q:Prop}(hq:q)(h:p=q:=by(simp(maxSteps:=2000000) (disch:=omega) only[go_sem,↓reduceIte,↓reduceDIte,reduceCtorEq,Nat.reducePow,Nat.reduceEqDiff,Nat.reduceAdd,Nat.reduceSub,Nat.reduceMul,Nat.reduceMod,Nat.reduceLeDiff,Nat.reduceLT,Nat.reduceBEq,Nat.reduceBNe,Int.reduceLT,Int.reduceLE,Int.reduceToNat,Int.reduceNeg,Int.reduceAdd,Int.reduceSub,Int.reduceMul,Int.reduceBEq,Int.reduceBNe,Int.reduceEq,if_pos,if_neg,w64,beqT,beqF,bneT,bneF,qag,qaf,decide_eq_true,decide_eq_false];rfl)):p:=h.mpr hq
def zV{p q:Prop}(hq:q)(h:p=q:=by first | (simp(maxSteps:=2000000) only[go_sem,↓reduceIte,↓reduceDIte,reduceCtorEq,Nat.reducePow,Nat.reduceEqDiff,Nat.reduceAdd,Nat.reduceSub,Nat.reduceMul,Nat.reduceMod,Nat.reduceLeDiff,Nat.reduceLT,Nat.reduceBEq,Nat.reduceBNe,Int.reduceLT,Int.reduceLE,Int.reduceToNat,Int.reduceNeg,Int.reduceAdd,Int.reduceSub,Int.reduceMul,Int.reduceBEq,Int.reduceBNe,Int.reduceEq];rfl) | rfl):p:=h.mpr hq
def zP{p q:Prop}(hq:q)(h:p=q:=by first | (simp(maxSteps:=2000000) (disch:=omega) only[go_sem,↓reduceIte,↓reduceDIte,reduceCtorEq,Nat.reducePow,Nat.reduceEqDiff,Nat.reduceAdd,Nat.reduceSub,Nat.reduceMul,Nat.reduceMod,Nat.reduceLeDiff,Nat.reduceLT,Nat.reduceBEq,Nat.reduceBNe,Int.reduceLT,Int.reduceLE,Int.reduceToNat,Int.reduceNeg,Int.reduceAdd,Int.reduceSub,Int.reduceMul,Int.reduceBEq,Int.reduceBNe,Int.reduceEq,if_pos,if_neg,w64,beqT,beqF,bneT,bneF,qag,qaf,decide_eq_true,decide_eq_false];rfl) | rfl):p:=h.mpr hq
def zT{p:Prop}(h:p:=by simp(maxSteps:=2000000) only[go_sem,↓reduceIte,↓reduceDIte,reduceCtorEq,Nat.reducePow,Nat.reduceEqDiff,Nat.reduceAdd,Nat.reduceSub,Nat.reduceMul,Nat.reduceMod,Nat.reduceLeDiff,Nat.reduceLT,Nat.reduceBEq,Nat.reduceBNe,Int.reduceLT,Int.reduceLE,Int.reduceToNat,Int.reduceNeg,Int.reduceAdd,Int.reduceSub,Int.reduceMul,Int.reduceBEq,Int.reduceBNe,Int.reduceEq]):p:=h
def zU{p:Prop}(h:p:=by simp(maxSteps:=2000000) (disch:=omega) only[go_sem,↓reduceIte,↓reduceDIte,reduceCtorEq,Nat.reducePow,Nat.reduceEqDiff,Nat.reduceAdd,Nat.reduceSub,Nat.reduceMul,Nat.reduceMod,Nat.reduceLeDiff,Nat.reduceLT,Nat.reduceBEq,Nat.reduceBNe,Int.reduceLT,Int.reduceLE,Int.reduceToNat,Int.reduceNeg,Int.reduceAdd,Int.reduceSub,Int.reduceMul,Int.reduceBEq,Int.reduceBNe,Int.reduceEq,if_pos,if_neg,w64,beqT,beqF,bneT,bneF,qag,qaf,decide_eq_true,decide_eq_false]):p:=h
def zB{p:Prop}(h:p:=by first | trivial | (simp(maxSteps:=2000000) only[go_sem,↓reduceIte,↓reduceDIte,reduceCtorEq,Nat.reducePow,Nat.reduceEqDiff,Nat.reduceAdd,Nat.reduceSub,Nat.reduceMul,Nat.reduceMod,Nat.reduceLeDiff,Nat.reduceLT,Nat.reduceBEq,Nat.reduceBNe,Int.reduceLT,Int.reduceLE,Int.reduceToNat,Int.reduceNeg,Int.reduceAdd,Int.reduceSub,Int.reduceMul,Int.reduceBEq,Int.reduceBNe,Int.reduceEq];done) | (split<;>simp(maxSteps:=2000000) only[go_sem,↓reduceIte,↓reduceDIte,reduceCtorEq,Nat.reducePow,Nat.reduceEqDiff,Nat.reduceAdd,Nat.reduceSub,Nat.reduceMul,Nat.reduceMod,Nat.reduceLeDiff,Nat.reduceLT,Nat.reduceBEq,Nat.reduceBNe,Int.reduceLT,Int.reduceLE,Int.reduceToNat,Int.reduceNeg,Int.reduceAdd,Int.reduceSub,Int.reduceMul,Int.reduceBEq,Int.reduceBNe,Int.reduceEq])):p:=h
def zC{p:Prop}(h:p:=by first | trivial | (simp(maxSteps:=2000000) only[go_sem,↓reduceIte,↓reduceDIte,reduceCtorEq,Nat.reducePow,Nat.reduceEqDiff,Nat.reduceAdd,Nat.reduceSub,Nat.reduceMul,Nat.reduceMod,Nat.reduceLeDiff,Nat.reduceLT,Nat.reduceBEq,Nat.reduceBNe,Int.reduceLT,Int.reduceLE,Int.reduceToNat,Int.reduceNeg,Int.reduceAdd,Int.reduceSub,Int.reduceMul,Int.reduceBEq,Int.reduceBNe,Int.reduceEq];done) | (simp(maxSteps:=2000000) (disch:=omega) only[go_sem,↓reduceIte,↓reduceDIte,reduceCtorEq,Nat.reducePow,Nat.reduceEqDiff,Nat.reduceAdd,Nat.reduceSub,Nat.reduceMul,Nat.reduceMod,Nat.reduceLeDiff,Nat.reduceLT,Nat.reduceBEq,Nat.reduceBNe,Int.reduceLT,Int.reduceLE,Int.reduceToNat,Int.reduceNeg,Int.reduceAdd,Int.reduceSub,Int.reduceMul,Int.reduceBEq,Int.reduceBNe,Int.reduceEq,if_pos,if_neg,w64,beqT,beqF,bneT,bneF,qag,qaf,decide_eq_true,decide_eq_false];done) | (split<;>simp(maxSteps:=2000000) (disch:=omega) only[go_sem,↓reduceIte,↓reduceDIte,reduceCtorEq,Nat.reducePow,Nat.reduceEqDiff,Nat.reduceAdd,Nat.reduceSub,Nat.reduceMul,Nat.reduceMod,Nat.reduceLeDiff,Nat.reduceLT,Nat.reduceBEq,Nat.reduceBNe,Int.reduceLT,Int.reduceLE,Int.reduceToNat,Int.reduceNeg,Int.reduceAdd,Int.reduceSub,Int.reduceMul,Int.reduceBEq,Int.reduceBNe,Int.reduceEq,if_pos,if_neg,w64,beqT,beqF,bneT,bneF,qag,qaf,decide_eq_true,decide_eq_false])):p:=h
def zD.{u}:(∀ {c:Prop} {h:Decidable c},c-> ∀ {α:Sort u} {t e:α},(if c then t else e)=t)/\(∀ {c:Prop} {h:Decidable c},¬c-> ∀ {α:Sort u} {t e:α},(if c then t else e)=e):=⟨@if_pos, @if_neg⟩
def zE:(∀ {n:Int}, -9223372036854775808<=n/\n<=9223372036854775807->Go.IntKind.i64.wrap n=n)/\(∀ {x y:Int},x=y->(x==y)=Y)/\(∀ {x y:Int},¬x=y->(x==y)=Z)/\(∀ {x y:Int},¬x=y->(x != y)=Y)/\(∀ {x y:Int},x=y->(x != y)=Z)/\
 (∀ {α:Type} {f:α->List PV} {l:List α} {i:Nat} (h:i < l.length),(pr f l)[i]? =V (f l[i]))/\(∀ {α:Type} {f:α->List PV} {l:List α} {i:Nat} (h:i < l.length),(ir f l)[i]? =V (List.map IV.p (f l[i])))/\
 (∀ {p:Prop} [inst:Decidable p],p->decide p=Y)/\(∀ {p:Prop} [inst:Decidable p],¬p->decide p=Z):=⟨@w64, @beqT, @beqF, @bneT, @bneF, @qag, @qaf, @decide_eq_true, @decide_eq_false⟩
def zL{p:Prop}(h:p:=by first | exact Nat.zero_le _ | exact Nat.le_refl _ | omega | exact Nat.le_of_ble_eq_true rfl):p:=h
end Go.Idl
namespace Go.Idl
def zI{h0:IH}{ops:List Oper}{id:Nat}{k:List It}{S:qab}{Q:Exit->qab->Prop}(u:List (Option (List Nat)))(h:dvc Go.Proofs.Tryz.prog h0 ops.toArray (λS' fps=>chk u fps/\vc Go.Proofs.Tryz.prog h0 Q 200 k S') ops S [])(hst:stat ops u=true:=by kernel_rfl):IRun Go.Proofs.Tryz.prog h0 (.code (.region id ops.toArray true)::k) S Q:=irun_walk (n:=200) u Go.Proofs.NO.mixed hst h
def zM{P:Program}{h0:IH}(T:List Nat){k:List It}{N:Nat}{s:List (Nat × IV)}{d:List IDef}{nx:Nat}{l:List (Nat × IBlk)}{Q:Exit->qab->Prop}{q:Prop}(hq:q)(hk:Live k:=by trivial)(hn:h0.nx<=nx:=by first | exact Nat.zero_le _ | exact Nat.le_refl _ | omega | exact Nat.le_of_ble_eq_true rfl)
  (e:(IRun P h0 k ⟨N,pickS T s,d,nx,ddp l⟩ Q)=q:=by(simp(maxSteps:=2000000) only[go_sem,↓reduceIte,↓reduceDIte,reduceCtorEq,Nat.reducePow,Nat.reduceEqDiff,Nat.reduceAdd,Nat.reduceSub,Nat.reduceMul,Nat.reduceMod,Nat.reduceLeDiff,Nat.reduceLT,Nat.reduceBEq,Nat.reduceBNe,Int.reduceLT,Int.reduceLE,Int.reduceToNat,Int.reduceNeg,Int.reduceAdd,Int.reduceSub,Int.reduceMul,Int.reduceBEq,Int.reduceBNe,Int.reduceEq];rfl)):IRun P h0 k ⟨N,s,d,nx,l⟩ Q:=walk_trim T hk hn (e.mpr hq)
def zG{P:Program}{h0:IH}{Q:Exit->qab->Prop}{k:List It}{all:Array Oper}{r:List Oper}{dst:Option Tmp}{ty:TypeId}{pos:String}{aft:Array Edge}{N:Nat}{s:List (Nat × IV)}{d:List IDef}{nx:Nat}{l:List (Nat × IBlk)}{g:Option (Nat × Bool)}{f:Operand}{args:List Operand}{ts:List TypeId}{q0:Prop}(hq:q0)(e:(qav (qap (ev s) f args) (λq=>(qao all s ⟨dst, .call {callee:= .value f,args:=⟨args⟩,argTypes:=⟨ts⟩},ty,pos,aft,g⟩=some true/\fnOk P q.1=true/\dOk N dst=true)/\qcv P q.1 (qbA P ts q.2) (look (l++h0.m)) True λx _=>vc P h0 Q 200 (.ops all r::k) ⟨N,putS dst x s,d,nx,l⟩) False)=q0:=by(simp(maxSteps:=2000000) only[go_sem,↓reduceIte,↓reduceDIte,reduceCtorEq,Nat.reducePow,Nat.reduceEqDiff,Nat.reduceAdd,Nat.reduceSub,Nat.reduceMul,Nat.reduceMod,Nat.reduceLeDiff,Nat.reduceLT,Nat.reduceBEq,Nat.reduceBNe,Int.reduceLT,Int.reduceLE,Int.reduceToNat,Int.reduceNeg,Int.reduceAdd,Int.reduceSub,Int.reduceMul,Int.reduceBEq,Int.reduceBNe,Int.reduceEq];rfl)):IRun P h0 (.ops all (⟨dst, .call {callee:= .value f,args:=⟨args⟩,argTypes:=⟨ts⟩},ty,pos,aft,g⟩::r)::k) ⟨N,s,d,nx,l⟩ Q:=qek 200 (e.mpr hq)
def zF{P:Program}{h0:IH}{all:Array Oper}{r:List Oper}{dst:Option Tmp}{ty:TypeId}{pos:String}{aft:Array Edge}{N:Nat}{s:List (Nat × IV)}{d:List IDef}{nx:Nat}{l:List (Nat × IBlk)}{g:Option (Nat × Bool)}{f:Operand}{args:List Operand}{ts:List TypeId}{K:qab->List FP->Prop}{acc:List FP}{q0:Prop}(hq:q0)(e:(qav (qap (ev s) f args) (λq=>(qao all s ⟨dst, .call {callee:= .value f,args:=⟨args⟩,argTypes:=⟨ts⟩},ty,pos,aft,g⟩=some true/\fnOk P q.1=true/\dOk N dst=true)/\qcv P q.1 (qbA P ts q.2) (look (l++h0.m)) True λx R=>dvc P h0 all K r ⟨N,putS dst x s,d,nx,l⟩ (acc++ [(R, [])])) False)=q0:=by(simp(maxSteps:=2000000) only[go_sem,↓reduceIte,↓reduceDIte,reduceCtorEq,Nat.reducePow,Nat.reduceEqDiff,Nat.reduceAdd,Nat.reduceSub,Nat.reduceMul,Nat.reduceMod,Nat.reduceLeDiff,Nat.reduceLT,Nat.reduceBEq,Nat.reduceBNe,Int.reduceLT,Int.reduceLE,Int.reduceToNat,Int.reduceNeg,Int.reduceAdd,Int.reduceSub,Int.reduceMul,Int.reduceBEq,Int.reduceBNe,Int.reduceEq];rfl)):DRun P h0 all (⟨dst, .call {callee:= .value f,args:=⟨args⟩,argTypes:=⟨ts⟩},ty,pos,aft,g⟩::r) ⟨N,s,d,nx,l⟩ acc K:=qmw (e.mpr hq)
end Go.Idl
namespace Go.Idl
def zQ{a b:Prop}(h:a)(g:b):a/\b:=⟨h,g⟩
def zS{a p q:Prop}(e:a)(hq:q)(h:a->p=q:=by intro e;first | (simp(maxSteps:=2000000) (disch:=omega) only[go_sem,simprocAttr,zD,zE,e];rfl) | rfl):p:=(h e).mpr hq
section
variable{P:Program}{h0:IH}{all:Array Oper}{r:List Oper}{dst:Option Tmp}{ty:TypeId}{pos:String}{aft:Array Edge}{N:Nat}{s:List (Nat × IV)}{d:List IDef}{nx:Nat}{l:List (Nat × IBlk)}{g:Option (Nat × Bool)}{f:Operand}{args:List Operand}{ts:List TypeId}
def zX{K:qab->List FP->Prop}{acc:List FP}{c:FuncId}{zs:List IV}{G:Nat->Option IBlk}{ok:Prop}{K2:IV->List Nat->Prop}{x:IV}{q1:Prop}(hp:PCall P c zs [] x)(hq:q1)
  (e:(qav (qap (ev s) f args) (λq=>(qao all s ⟨dst, .call {callee:= .value f,args:=⟨args⟩,argTypes:=⟨ts⟩},ty,pos,aft,g⟩=some true/\fnOk P q.1=true/\dOk N dst=true)/\qcv P q.1 (qbA P ts q.2) (look (l++h0.m)) True λx R=>dvc P h0 all K r ⟨N,putS dst x s,d,nx,l⟩ (acc++ [(R, [])])) False)=qcv P c zs G ok K2:=by(simp(maxSteps:=2000000) only[go_sem,↓reduceIte,↓reduceDIte,reduceCtorEq,Nat.reducePow,Nat.reduceEqDiff,Nat.reduceAdd,Nat.reduceSub,Nat.reduceMul,Nat.reduceMod,Nat.reduceLeDiff,Nat.reduceLT,Nat.reduceBEq,Nat.reduceBNe,Int.reduceLT,Int.reduceLE,Int.reduceToNat,Int.reduceNeg,Int.reduceAdd,Int.reduceSub,Int.reduceMul,Int.reduceBEq,Int.reduceBNe,Int.reduceEq];rfl)) (hx:bel 0 x:=by first | trivial | (simp(maxSteps:=2000000) only[go_sem,↓reduceIte,↓reduceDIte,reduceCtorEq,Nat.reducePow,Nat.reduceEqDiff,Nat.reduceAdd,Nat.reduceSub,Nat.reduceMul,Nat.reduceMod,Nat.reduceLeDiff,Nat.reduceLT,Nat.reduceBEq,Nat.reduceBNe,Int.reduceLT,Int.reduceLE,Int.reduceToNat,Int.reduceNeg,Int.reduceAdd,Int.reduceSub,Int.reduceMul,Int.reduceBEq,Int.reduceBNe,Int.reduceEq];done) | (split<;>simp(maxSteps:=2000000) only[go_sem,↓reduceIte,↓reduceDIte,reduceCtorEq,Nat.reducePow,Nat.reduceEqDiff,Nat.reduceAdd,Nat.reduceSub,Nat.reduceMul,Nat.reduceMod,Nat.reduceLeDiff,Nat.reduceLT,Nat.reduceBEq,Nat.reduceBNe,Int.reduceLT,Int.reduceLE,Int.reduceToNat,Int.reduceNeg,Int.reduceAdd,Int.reduceSub,Int.reduceMul,Int.reduceBEq,Int.reduceBNe,Int.reduceEq])) (e2:K2 x []=q1:=by first | (simp(maxSteps:=2000000) (disch:=omega) only[go_sem,↓reduceIte,↓reduceDIte,reduceCtorEq,Nat.reducePow,Nat.reduceEqDiff,Nat.reduceAdd,Nat.reduceSub,Nat.reduceMul,Nat.reduceMod,Nat.reduceLeDiff,Nat.reduceLT,Nat.reduceBEq,Nat.reduceBNe,Int.reduceLT,Int.reduceLE,Int.reduceToNat,Int.reduceNeg,Int.reduceAdd,Int.reduceSub,Int.reduceMul,Int.reduceBEq,Int.reduceBNe,Int.reduceEq,if_pos,if_neg,w64,beqT,beqF,bneT,bneF,qag,qaf,decide_eq_true,decide_eq_false];rfl) | rfl):DRun P h0 all (⟨dst, .call {callee:= .value f,args:=⟨args⟩,argTypes:=⟨ts⟩},ty,pos,aft,g⟩::r) ⟨N,s,d,nx,l⟩ acc K:=qmw (e.mpr (qaa hp hx (e2.mpr hq)))
def zY{Q:Exit->qab->Prop}{k:List It}{c:FuncId}{zs:List IV}{G:Nat->Option IBlk}{ok:Prop}{K2:IV->List Nat->Prop}{x:IV}{q1:Prop}(hp:PCall P c zs [] x)(hq:q1)
  (e:(qav (qap (ev s) f args) (λq=>(qao all s ⟨dst, .call {callee:= .value f,args:=⟨args⟩,argTypes:=⟨ts⟩},ty,pos,aft,g⟩=some true/\fnOk P q.1=true/\dOk N dst=true)/\qcv P q.1 (qbA P ts q.2) (look (l++h0.m)) True λx _=>vc P h0 Q 200 (.ops all r::k) ⟨N,putS dst x s,d,nx,l⟩) False)=qcv P c zs G ok K2:=by(simp(maxSteps:=2000000) only[go_sem,↓reduceIte,↓reduceDIte,reduceCtorEq,Nat.reducePow,Nat.reduceEqDiff,Nat.reduceAdd,Nat.reduceSub,Nat.reduceMul,Nat.reduceMod,Nat.reduceLeDiff,Nat.reduceLT,Nat.reduceBEq,Nat.reduceBNe,Int.reduceLT,Int.reduceLE,Int.reduceToNat,Int.reduceNeg,Int.reduceAdd,Int.reduceSub,Int.reduceMul,Int.reduceBEq,Int.reduceBNe,Int.reduceEq];rfl)) (hx:bel 0 x:=by first | trivial | (simp(maxSteps:=2000000) only[go_sem,↓reduceIte,↓reduceDIte,reduceCtorEq,Nat.reducePow,Nat.reduceEqDiff,Nat.reduceAdd,Nat.reduceSub,Nat.reduceMul,Nat.reduceMod,Nat.reduceLeDiff,Nat.reduceLT,Nat.reduceBEq,Nat.reduceBNe,Int.reduceLT,Int.reduceLE,Int.reduceToNat,Int.reduceNeg,Int.reduceAdd,Int.reduceSub,Int.reduceMul,Int.reduceBEq,Int.reduceBNe,Int.reduceEq];done) | (split<;>simp(maxSteps:=2000000) only[go_sem,↓reduceIte,↓reduceDIte,reduceCtorEq,Nat.reducePow,Nat.reduceEqDiff,Nat.reduceAdd,Nat.reduceSub,Nat.reduceMul,Nat.reduceMod,Nat.reduceLeDiff,Nat.reduceLT,Nat.reduceBEq,Nat.reduceBNe,Int.reduceLT,Int.reduceLE,Int.reduceToNat,Int.reduceNeg,Int.reduceAdd,Int.reduceSub,Int.reduceMul,Int.reduceBEq,Int.reduceBNe,Int.reduceEq])) (e2:K2 x []=q1:=by first | (simp(maxSteps:=2000000) (disch:=omega) only[go_sem,↓reduceIte,↓reduceDIte,reduceCtorEq,Nat.reducePow,Nat.reduceEqDiff,Nat.reduceAdd,Nat.reduceSub,Nat.reduceMul,Nat.reduceMod,Nat.reduceLeDiff,Nat.reduceLT,Nat.reduceBEq,Nat.reduceBNe,Int.reduceLT,Int.reduceLE,Int.reduceToNat,Int.reduceNeg,Int.reduceAdd,Int.reduceSub,Int.reduceMul,Int.reduceBEq,Int.reduceBNe,Int.reduceEq,if_pos,if_neg,w64,beqT,beqF,bneT,bneF,qag,qaf,decide_eq_true,decide_eq_false];rfl) | rfl):IRun P h0 (.ops all (⟨dst, .call {callee:= .value f,args:=⟨args⟩,argTypes:=⟨ts⟩},ty,pos,aft,g⟩::r)::k) ⟨N,s,d,nx,l⟩ Q:=qek 200 (e.mpr (qaa hp hx (e2.mpr hq)))
def zJ{Q:Exit->qab->Prop}{k:List It}{c:FuncId}{zs:List IV}{G:Nat->Option IBlk}{nx2:Nat}{K2:IV->Nat->List (Nat × IBlk)->List Nat->Prop}{args2:List IV}{R:List IBlk}{cnt:Nat}{x:IV}{W:List (Nat × IBlk)}{q1:Prop}(ids:List Nat)(hp:PG P c args2 R cnt x W)(hq:q1)
  (e:(qav (qap (ev s) f args) (λq=>(qao all s ⟨dst, .call {callee:= .value f,args:=⟨args⟩,argTypes:=⟨ts⟩},ty,pos,aft,g⟩=some true/\fnOk P q.1=true/\dOk N dst=true)/\qdo P q.1 (qbA P ts q.2) (look (l++h0.m)) nx λx cnt W _=>vc P h0 Q 200 (.ops all r::k) ⟨N,putS dst x s,d,nx+cnt,W++l⟩) False)=qdo P c zs G nx2 K2:=by(simp(maxSteps:=2000000) only[go_sem,↓reduceIte,↓reduceDIte,reduceCtorEq,Nat.reducePow,Nat.reduceEqDiff,Nat.reduceAdd,Nat.reduceSub,Nat.reduceMul,Nat.reduceMod,Nat.reduceLeDiff,Nat.reduceLT,Nat.reduceBEq,Nat.reduceBNe,Int.reduceLT,Int.reduceLE,Int.reduceToNat,Int.reduceNeg,Int.reduceAdd,Int.reduceSub,Int.reduceMul,Int.reduceBEq,Int.reduceBNe,Int.reduceEq];rfl)) (h1:rnms (ridx ids nx2) args2=zs/\qam ids/\qbY G (ridx ids nx2) ids R:=by simp(maxSteps:=2000000) (disch:=omega) only[go_sem,↓reduceIte,↓reduceDIte,reduceCtorEq,Nat.reducePow,Nat.reduceEqDiff,Nat.reduceAdd,Nat.reduceSub,Nat.reduceMul,Nat.reduceMod,Nat.reduceLeDiff,Nat.reduceLT,Nat.reduceBEq,Nat.reduceBNe,Int.reduceLT,Int.reduceLE,Int.reduceToNat,Int.reduceNeg,Int.reduceAdd,Int.reduceSub,Int.reduceMul,Int.reduceBEq,Int.reduceBNe,Int.reduceEq,if_pos,if_neg,w64,beqT,beqF,bneT,bneF,qag,qaf,decide_eq_true,decide_eq_false]) (e2:K2 (rnm (ridx ids nx2) x) cnt (rnL (ridx ids nx2) W) ids=q1:=by first | (simp(maxSteps:=2000000) (disch:=omega) only[go_sem,↓reduceIte,↓reduceDIte,reduceCtorEq,Nat.reducePow,Nat.reduceEqDiff,Nat.reduceAdd,Nat.reduceSub,Nat.reduceMul,Nat.reduceMod,Nat.reduceLeDiff,Nat.reduceLT,Nat.reduceBEq,Nat.reduceBNe,Int.reduceLT,Int.reduceLE,Int.reduceToNat,Int.reduceNeg,Int.reduceAdd,Int.reduceSub,Int.reduceMul,Int.reduceBEq,Int.reduceBNe,Int.reduceEq,if_pos,if_neg,w64,beqT,beqF,bneT,bneF,qag,qaf,decide_eq_true,decide_eq_false];rfl) | rfl):IRun P h0 (.ops all (⟨dst, .call {callee:= .value f,args:=⟨args⟩,argTypes:=⟨ts⟩},ty,pos,aft,g⟩::r)::k) ⟨N,s,d,nx,l⟩ Q:=at_g 200 (e.mpr (callG_of ids hp h1 (e2.mpr hq)))
def zK{K:qab->List FP->Prop}{acc:List FP}{c:FuncId}{zs:List IV}{G:Nat->Option IBlk}{nx2:Nat}{K2:IV->Nat->List (Nat × IBlk)->List Nat->Prop}{args2:List IV}{R:List IBlk}{cnt:Nat}{x:IV}{W:List (Nat × IBlk)}{q1:Prop}(ids:List Nat)(hp:PG P c args2 R cnt x W)(hq:q1)
  (e:(qav (qap (ev s) f args) (λq=>(qao all s ⟨dst, .call {callee:= .value f,args:=⟨args⟩,argTypes:=⟨ts⟩},ty,pos,aft,g⟩=some true/\fnOk P q.1=true/\dOk N dst=true)/\qdo P q.1 (qbA P ts q.2) (look (l++h0.m)) nx λx cnt W ids=>dvc P h0 all K r ⟨N,putS dst x s,d,nx+cnt,W++l⟩ (acc++ [(ids,W.reverse.map (·.1))])) False)=qdo P c zs G nx2 K2:=by(simp(maxSteps:=2000000) only[go_sem,↓reduceIte,↓reduceDIte,reduceCtorEq,Nat.reducePow,Nat.reduceEqDiff,Nat.reduceAdd,Nat.reduceSub,Nat.reduceMul,Nat.reduceMod,Nat.reduceLeDiff,Nat.reduceLT,Nat.reduceBEq,Nat.reduceBNe,Int.reduceLT,Int.reduceLE,Int.reduceToNat,Int.reduceNeg,Int.reduceAdd,Int.reduceSub,Int.reduceMul,Int.reduceBEq,Int.reduceBNe,Int.reduceEq];rfl)) (h1:rnms (ridx ids nx2) args2=zs/\qam ids/\qbY G (ridx ids nx2) ids R:=by simp(maxSteps:=2000000) (disch:=omega) only[go_sem,↓reduceIte,↓reduceDIte,reduceCtorEq,Nat.reducePow,Nat.reduceEqDiff,Nat.reduceAdd,Nat.reduceSub,Nat.reduceMul,Nat.reduceMod,Nat.reduceLeDiff,Nat.reduceLT,Nat.reduceBEq,Nat.reduceBNe,Int.reduceLT,Int.reduceLE,Int.reduceToNat,Int.reduceNeg,Int.reduceAdd,Int.reduceSub,Int.reduceMul,Int.reduceBEq,Int.reduceBNe,Int.reduceEq,if_pos,if_neg,w64,beqT,beqF,bneT,bneF,qag,qaf,decide_eq_true,decide_eq_false]) (e2:K2 (rnm (ridx ids nx2) x) cnt (rnL (ridx ids nx2) W) ids=q1:=by first | (simp(maxSteps:=2000000) (disch:=omega) only[go_sem,↓reduceIte,↓reduceDIte,reduceCtorEq,Nat.reducePow,Nat.reduceEqDiff,Nat.reduceAdd,Nat.reduceSub,Nat.reduceMul,Nat.reduceMod,Nat.reduceLeDiff,Nat.reduceLT,Nat.reduceBEq,Nat.reduceBNe,Int.reduceLT,Int.reduceLE,Int.reduceToNat,Int.reduceNeg,Int.reduceAdd,Int.reduceSub,Int.reduceMul,Int.reduceBEq,Int.reduceBNe,Int.reduceEq,if_pos,if_neg,w64,beqT,beqF,bneT,bneF,qag,qaf,decide_eq_true,decide_eq_false];rfl) | rfl):DRun P h0 all (⟨dst, .call {callee:= .value f,args:=⟨args⟩,argTypes:=⟨ts⟩},ty,pos,aft,g⟩::r) ⟨N,s,d,nx,l⟩ acc K:=qbd (e.mpr (callG_of ids hp h1 (e2.mpr hq)))
end
def zN{h0:IH}(T:List Nat)(u:List (Option (List Nat))){k:List It}{N:Nat}{s:List (Nat × IV)}{d:List IDef}{nx:Nat}{l:List (Nat × IBlk)}{Q:Exit->qab->Prop}{q:Prop}{ops:List Oper}{id:Nat}{k2:List It}{S2:qab}(hq:q)(hk:Live k:=by trivial)(hn:h0.nx<=nx:=by first | exact Nat.zero_le _ | exact Nat.le_refl _ | omega | exact Nat.le_of_ble_eq_true rfl)
  (e:(IRun Go.Proofs.Tryz.prog h0 k ⟨N,pickS T s,d,nx,ddp l⟩ Q)=IRun Go.Proofs.Tryz.prog h0 (.code (.region id ops.toArray true)::k2) S2 Q:=by(simp(maxSteps:=2000000) only[go_sem,↓reduceIte,↓reduceDIte,reduceCtorEq,Nat.reducePow,Nat.reduceEqDiff,Nat.reduceAdd,Nat.reduceSub,Nat.reduceMul,Nat.reduceMod,Nat.reduceLeDiff,Nat.reduceLT,Nat.reduceBEq,Nat.reduceBNe,Int.reduceLT,Int.reduceLE,Int.reduceToNat,Int.reduceNeg,Int.reduceAdd,Int.reduceSub,Int.reduceMul,Int.reduceBEq,Int.reduceBNe,Int.reduceEq];rfl)) (hst:stat ops u=true:=by kernel_rfl) (e2:dvc Go.Proofs.Tryz.prog h0 ops.toArray (λS' fps=>chk u fps/\vc Go.Proofs.Tryz.prog h0 Q 200 k2 S') ops S2 []=q:=by first | (simp(maxSteps:=2000000) (disch:=omega) only[go_sem,↓reduceIte,↓reduceDIte,reduceCtorEq,Nat.reducePow,Nat.reduceEqDiff,Nat.reduceAdd,Nat.reduceSub,Nat.reduceMul,Nat.reduceMod,Nat.reduceLeDiff,Nat.reduceLT,Nat.reduceBEq,Nat.reduceBNe,Int.reduceLT,Int.reduceLE,Int.reduceToNat,Int.reduceNeg,Int.reduceAdd,Int.reduceSub,Int.reduceMul,Int.reduceBEq,Int.reduceBNe,Int.reduceEq,if_pos,if_neg,w64,beqT,beqF,bneT,bneF,qag,qaf,decide_eq_true,decide_eq_false];rfl) | rfl):IRun Go.Proofs.Tryz.prog h0 k ⟨N,s,d,nx,l⟩ Q:=zM T (zI u (e2.mpr hq) hst) hk hn e
end Go.Idl
