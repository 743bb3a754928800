/- A pick of a table: its walk; what a host's pick does. -/
import Derived.Test.YtnbhjoopcaaafaaGreatHFb
import Derived.Test.YtnbhjoopcaaafaaGreatHS2
set_option linter.unusedSimpArgs false
set_option linter.unusedVariables false
namespace Go.Proofs.HO
open Go Go.Idl Go.Proofs Go.GP
set_option maxHeartbeats 20000000
set_option maxRecDepth 100000
def lPk (p : Int × List (Int × Int)) : IV := .agg [sci .i64 p.1, lII p.2]
end Go.Proofs.HO
