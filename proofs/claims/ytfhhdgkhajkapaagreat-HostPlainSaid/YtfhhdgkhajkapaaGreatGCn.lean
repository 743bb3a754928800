/- Facts that the proofs of this claim lean on. -/
import Derived.Test.YtfhhdgkhajkapaaGreatGPm
import Derived.Test.YtfhhdgkhajkapaaGreatIdAz
import Derived.Test.YtfhhdgkhajkapaaGreatIdRb
set_option linter.unusedSimpArgs false
set_option linter.unusedVariables false
/- A map that counts numbers. -/
namespace Go.GP
open Go Go.Idl
variable {a b:Int} {l:List (Int × Int)} {v:IV} {i:Nat}
end Go.GP
/- A map that counts numbers, on the walk. -/
namespace Go.GP
open Go Go.Idl
structure IntMap (P:Program) (t:TypeId):Prop where
 ex: ∃k e,tmp P t=some (k,e)∧tkey P k=some (false, [.int .i64])∧tag P k=some false∧(tzv P e).bind cstv=some (sci .i64 0)
variable {P:Program} {t:TypeId} {G:Nat→Option IBlk} {b:Nat} {l:List (Int × Int)} {x:Int}
end Go.GP
