/-
 Calls in the walk whose arguments are handed on as they are: a slice that is nil is told as nil.
-/
import Derived.Test.YteebghpjgcacmaaGreatIdNl
set_option linter.unusedSimpArgs false
set_option linter.unusedVariables false
namespace Go.Idl
variable {P:Program} {h0:IH}
section
variable {Q:Exit→IState→Prop} {k:List It} {all:Array Oper} {r:List Oper} {dst:Option Tmp} {ty:TypeId} {pos:String} {aft:Array Edge} {N:Nat} {s:List (Nat × IV)} {d:List IDef} {nx:Nat} {l:List (Nat × IBlk)}
 {g:Option (Nat × Bool)} {f:Operand} {args:List Operand} {ts:List TypeId} {K:IState→List FP→Prop} {acc:List FP}
end
end Go.Idl
