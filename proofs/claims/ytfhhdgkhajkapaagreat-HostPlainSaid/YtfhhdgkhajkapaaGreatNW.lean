/- Facts that the proofs of this claim lean on. -/
import Derived.Test.YtfhhdgkhajkapaaGreatNU
set_option linter.unusedSimpArgs false
set_option linter.unusedVariables false
/- Tables: what a state picks and takes, and what stays. -/
namespace Go.Proofs.NO
open Go Go.Idl Go.Proofs Go.GP
set_option maxHeartbeats 20000000
set_option maxRecDepth 100000
variable (s:St) (n st:Int) (ss:List St) (N:Int) (ls:List (Int × Int)) (hl:ls.length≤1000000)
end Go.Proofs.NO
/- Tables: what stays; which states may be; which tables may be. -/
namespace Go.Proofs.NO
open Go Go.Idl Go.Proofs Go.GP
set_option maxHeartbeats 20000000
set_option maxRecDepth 100000
variable (s:St) (n st:Int) (ss:List St) (N:Int) (ls:List (Int × Int)) (hl:ls.length≤1000000)
def qoM (s:St):Prop:=s.waits.length≤1000000∧s.picks.length≤1000000∧s.takes.length≤1000000
end Go.Proofs.NO
