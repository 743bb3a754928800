/- Facts that the proofs of this claim lean on. -/
import Derived.Test.YtfhhdgkhajkapaaGreatNQC
import Derived.Test.YtfhhdgkhajkapaaGreatNzP2
import Derived.Test.YtfhhdgkhajkapaaGreatNWk
import Derived.Test.YtfhhdgkhajkapaaGreatNWb
import Derived.Test.YtfhhdgkhajkapaaGreatNzP3
import Derived.Test.YtfhhdgkhajkapaaGreatNGb
import Derived.Test.YtfhhdgkhajkapaaGreatNH4
import Derived.Test.YtfhhdgkhajkapaaGreatNKa
set_option linter.unusedSimpArgs false
set_option linter.unusedVariables false
/- What a node may tell: the program's answer. -/
namespace Go.Proofs.NO
open Go Go.Idl Go.Proofs
set_option maxHeartbeats 20000000
set_option maxRecDepth 100000
end Go.Proofs.NO
/- Whether a host may be. -/
namespace Go.Proofs.NO
open Go Go.Idl Go.Proofs Go.GP
set_option maxHeartbeats 20000000
set_option maxRecDepth 100000
end Go.Proofs.NO
