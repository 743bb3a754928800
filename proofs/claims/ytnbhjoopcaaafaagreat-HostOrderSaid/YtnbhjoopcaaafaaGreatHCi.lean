/- Lists of numbers of their own, one of which is held. -/
import Derived.Test.YtnbhjoopcaaafaaGreatHCo
set_option linter.unusedSimpArgs false
set_option linter.unusedVariables false
namespace Go.Proofs.HO
open Go Go.Idl Go.Proofs
set_option maxHeartbeats 20000000
set_option maxRecDepth 100000
def rowsAtL (l : List (List Int)) (i0 b n : Nat) (i : Nat) : List (List IV) := ir eLs (l.take i0) ++ [.ref b 0 0 n] :: ir eLs ((l.take i).drop (i0 + 1))
end Go.Proofs.HO
