/- Hosts cut, handed to the document, told as pieces. -/
import Derived.Test.YtnbhjoopcaaafaaGreatHA
import Derived.Test.YtnbhjoopcaaafaaGreatIdNl
import Derived.Test.YtnbhjoopcaaafaaGreatIdGr
set_option linter.unusedSimpArgs false
set_option linter.unusedVariables false
namespace Go.Proofs.HO
open Go Go.Idl Go.Proofs
set_option maxHeartbeats 20000000
set_option maxRecDepth 100000
structure Hs where
 node : Int
 state : Int
 steps : Int
 inn : List (List (Int × Int))
 out : List (List Int)
structure Pc where
 node : Int
 state : Int
 steps : Int
 sent : List Int
 inn : List (List (Int × Int))
 out : List (List Int)
def eMs (l : List (Int × Int)) : List PV := [.imm 2 (pr eII l)]
def eLs (l : List Int) : List PV := [.imm 1 (pr eI l)]
abbrev lMs (l : List (List (Int × Int))) : IV := .p (.imm 1 (pr eMs l))
abbrev lLs (l : List (List Int)) : IV := .p (.imm 1 (pr eLs l))
abbrev lHs (h : Hs) : IV := .agg [sci .i64 h.node, sci .i64 h.state, sci .i64 h.steps, lMs h.inn, lLs h.out]
abbrev lPc (p : Pc) : IV := .agg [sci .i64 p.node, sci .i64 p.state, sci .i64 p.steps, lI p.sent, lMs p.inn, lLs p.out]
abbrev nil0 : IV := .p (.sc (.slice none 0 0))
abbrev toldHs (h : Hs) : IV := .agg [sci .i64 h.node, sci .i64 h.state, sci .i64 h.steps, nil0, lMs h.inn, lLs h.out]
theorem L9Ref_spec (h : Hs) : Pure Tryz.prog 18 [lHs h] (lHs h) := by
 refine pcall0 200 (fn := Tryz.f18) Tryz.func18 rfl (by simp [Tryz.ntmps18]) zB zB fun hs => ?_
 (repeat (first | ((refine zW ?_; try with_reducible exact True.intro))))
theorem told_spec (h : Hs) : Pure Tryz.prog 56 [lHs h] (toldHs h) := by
 refine pcall0 200 (fn := Tryz.f56) Tryz.func56 rfl (by simp [Tryz.ntmps56]) zB zB fun hs => ?_
 (repeat (first | ((refine zW ?_; try with_reducible exact True.intro))))
end Go.Proofs.HO
