/- Tables: what a state picks and takes, and what stays. -/
import Derived.Test.YtnbhjoopcaaafaaGreatHU
set_option linter.unusedSimpArgs false
set_option linter.unusedVariables false
namespace Go.Proofs.HO
open Go Go.Idl Go.Proofs Go.GP
set_option maxHeartbeats 20000000
set_option maxRecDepth 100000
variable (s : St) (n st : Int) (ss : List St) (N : Int) (ls : List (Int × Int)) (hl : ls.length ≤ 1000000)
end Go.Proofs.HO
