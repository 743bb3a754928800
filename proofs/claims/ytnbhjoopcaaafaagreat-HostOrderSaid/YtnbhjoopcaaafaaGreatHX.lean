/- Which tables may be. -/
import Derived.Test.YtnbhjoopcaaafaaGreatHW
set_option linter.unusedSimpArgs false
set_option linter.unusedVariables false
namespace Go.Proofs.HO
open Go Go.Idl Go.Proofs Go.GP
set_option maxHeartbeats 20000000
set_option maxRecDepth 100000
def SmallT (T : List Nd) : Prop := T.length ≤ 1000000 ∧ ∀ (n : Nat) (x : Nd), T[n]? = some x → x.states.length ≤ 1000000 ∧ ∀ (j : Nat) (s : St), x.states[j]? = some s → SmallSt s
end Go.Proofs.HO
