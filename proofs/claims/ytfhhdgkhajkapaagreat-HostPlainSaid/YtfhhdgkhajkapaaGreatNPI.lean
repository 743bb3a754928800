/- Facts that the proofs of this claim lean on. -/
import Derived.Test.YtfhhdgkhajkapaaGreatNPF
set_option linter.unusedSimpArgs false
set_option linter.unusedVariables false
/- Pieces merged in place. -/
namespace Go.Proofs.NO
open Go Go.Idl Go.Proofs Go.GN
set_option maxHeartbeats 20000000
set_option maxRecDepth 100000
theorem mid_of {i j:Nat} (h:i+j < 100000):IntKind.i64.wrap ((IntKind.u64.wrap ((i:Int)+(j:Int))).fdiv (2 ^ min 1 64))=(((i+j) / 2:Nat):Int):=by
 have e1:IntKind.u64.wrap ((i:Int)+(j:Int))=((i+j:Nat):Int):=by rw [IntKind.wrap_u64];omega
 have e2:(2:Int) ^ min 1 64=2:=by decide
 rw [e1,e2,Int.fdiv_eq_ediv_of_nonneg _ (by decide),IntKind.wrap_i64];omega
end Go.Proofs.NO
