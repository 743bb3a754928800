/- Facts that the proofs of this claim lean on. -/
import Derived.Test.YtfhhdgkhajkapaaGreatNTypes
import Derived.Test.YtfhhdgkhajkapaaGreatIdNl
set_option linter.unusedSimpArgs false
set_option linter.unusedVariables false
/- Pieces cut and handed to the document. -/
namespace Go.Proofs.NO
open Go Go.Idl Go.Proofs
set_option maxHeartbeats 20000000
set_option maxRecDepth 100000
structure Pc where
 node:Int
 state:Int
 steps:Int
 sent:List Int
 inn:List (List (Int × Int))
 out:List (List Int)
def eMs (l:List (Int × Int)):List PV:= [.imm 2 (pr eII l)]
def eLs (l:List Int):List PV:= [.imm 1 (pr eI l)]
abbrev lMs (l:List (List (Int × Int))):IV:= .p (.imm 1 (pr eMs l))
abbrev lLs (l:List (List Int)):IV:= .p (.imm 1 (pr eLs l))
theorem ir_snoc {α:Type} (f:α→List PV) (l:List α) (x:α):ir f (l++ [x])=ir f l++ [(f x).map .p]:=by simp [ir]
theorem tk_min {α:Type} (l:List α) (c:Nat):List.take (min l.length c) l=List.take c l:=by
 rcases Nat.le_total l.length c with h | h
 ·rw [Nat.min_eq_left h,List.take_length,List.take_of_length_le h]
 ·rw [Nat.min_eq_right h]
theorem tk_len {α:Type} (l:List α) (c:Nat):(List.take c l).length=min l.length c:=by
 rw [List.length_take];omega
theorem tk_self {α:Type} (l:List α) (c:Nat):List.take (min l.length c) (List.take c l)=List.take c l:=by
 rw [←tk_len,List.take_length]
end Go.Proofs.NO
