/- Facts that the proofs of this claim lean on. -/
import Derived.Test.YtfhhdgkhajkapaaGreatNzP2
import Derived.Test.YtfhhdgkhajkapaaGreatNWb
import Derived.Test.YtfhhdgkhajkapaaGreatGCn
import Derived.Test.YtfhhdgkhajkapaaGreatGBo
set_option linter.unusedSimpArgs false
set_option linter.unusedVariables false
/- What was sent on a link and not got: the program's answer. -/
namespace Go.Proofs.NO
open Go Go.Idl Go.Proofs Go.GP
set_option maxHeartbeats 20000000
set_option maxRecDepth 100000
theorem im:IntMap Tryz.prog 273:=⟨3,3,by kernel_rfl,by kernel_rfl,by kernel_rfl,by kernel_rfl⟩
def MixM (out:List Int) (inn:List (Int × Int)) (m:Int × Int):Prop:=1 < (qaO inn).count m.1∨m ∉ allM 0 out
instance (out:List Int) (inn:List (Int × Int)) (m:Int × Int):Decidable (MixM out inn m):=inferInstanceAs (Decidable (_∨_))
def MayC (l:List (Int × Int)) (e:Int):Prop:=GP.MayP e 0 l∧0≤e∧e≤500
def qdc (N:Int) (ls:List (Int × Int)) (T:List Nd) (S:List Int) (L:List (List (Int × Int))) (E:List Int):Prop:=
 TabP N ls T∧(S.length:Int)=N∧L.length=ls.length∧E.length=ls.length∧(∀(n:Nat) (s:Int),S[n]? =some s→0≤s∧ ∀x,T[n]? =some x→s < x.states.length)∧
  ∀(i:Nat) (l:List (Int × Int)),L[i]? =some l→ ∀e,E[i]? =some e→MayC l e
abbrev lCf (S:List Int) (L:List (List (Int × Int))) (E:List Int):IV:= .agg [lI S,lMs L,lI E]
end Go.Proofs.NO
