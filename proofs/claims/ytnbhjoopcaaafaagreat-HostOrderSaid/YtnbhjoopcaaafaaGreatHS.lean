/- Which graphs may be. -/
import Derived.Test.YtnbhjoopcaaafaaGreatHR
import Derived.Test.YtnbhjoopcaaafaaGreatGPm
import Derived.Test.YtnbhjoopcaaafaaGreatIdPd
set_option linter.unusedSimpArgs false
set_option linter.unusedVariables false
namespace Go.Proofs.HO
open Go Go.Idl Go.Proofs Go.GP
set_option maxHeartbeats 20000000
set_option maxRecDepth 100000
/-- What is asked of a link, when those ahead of it were looked at. -/
def seenOk (N : Int) (l : List (Int × Int)) (x : Int × Int) : Prop := (0 ≤ x.1 ∧ x.1 < N) ∧ (0 ≤ x.2 ∧ x.2 < N) ∧ x.1 ≠ x.2 ∧ x ∉ l
end Go.Proofs.HO
