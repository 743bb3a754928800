/- Facts that the proofs of this claim lean on. -/
import Derived.Test.YtfhhdgkhajkapaaGreatNzP2
import Derived.Test.YtfhhdgkhajkapaaGreatGN
set_option linter.unusedSimpArgs false
set_option linter.unusedVariables false
/- Pieces put in order: the sort in place. -/
namespace Go.Proofs.NO
open Go Go.Idl Go.Proofs Go.GN
set_option maxHeartbeats 20000000
set_option maxRecDepth 100000
def cmpI (a b:Int):Int:=if a < b then -1 else if b < a then 1 else 0
theorem qaq (a:Int):Pure Tryz.prog 178 [sci .i64 a] (scb false):=by
 refine qah 200 (fn:=Tryz.f178) Tryz.func178 rfl (by simp [Tryz.ntmps178]) zB zB fun hs=>?_
 (repeat(first | ((refine zW ?_;try with_reducible exact True.intro))))
theorem qiw (a b:Int):Pure Tryz.prog 100 [sci .i64 a,sci .i64 b] (sci .i64 (cmpI a b)):=by
 refine qah 200 (fn:=Tryz.f100) Tryz.func100 rfl (by simp [Tryz.ntmps100]) zB zB fun hs=>?_
 unfold cmpI
 by_cases h1:a < b
 ·(repeat(first | ((refine zW ?_;try with_reducible exact True.intro)) | (refine qaf 200 ?_;refine zW ?_;refine callA_of (qaq _) zB ?_;((try refine zW ?_);(try with_reducible exact True.intro))) | (refine at_dcall ?_;refine zW ?_;refine callA_of (qaq _) zB ?_;((try refine zW ?_);(try with_reducible exact True.intro))) | (refine qaf 200 ?_;refine zW ?_;refine qa3 ?_;refine zW ?_;refine qbq (qaq _) (by first | rfl | (split<;>rfl)) ?_;((try refine zW ?_);(try with_reducible exact True.intro))) | (refine at_dcall ?_;refine zW ?_;refine qa3 ?_;refine zW ?_;refine qbq (qaq _) (by first | rfl | (split<;>rfl)) ?_;((try refine zW ?_);(try with_reducible exact True.intro)))))
  ((try refine zO ?_);(try with_reducible exact True.intro))
  (repeat(first | ((refine zW ?_;try with_reducible exact True.intro)) | (refine qaf 200 ?_;refine zW ?_;refine callA_of (qaq _) zB ?_;((try refine zW ?_);(try with_reducible exact True.intro))) | (refine at_dcall ?_;refine zW ?_;refine callA_of (qaq _) zB ?_;((try refine zW ?_);(try with_reducible exact True.intro))) | (refine qaf 200 ?_;refine zW ?_;refine qa3 ?_;refine zW ?_;refine qbq (qaq _) (by first | rfl | (split<;>rfl)) ?_;((try refine zW ?_);(try with_reducible exact True.intro))) | (refine at_dcall ?_;refine zW ?_;refine qa3 ?_;refine zW ?_;refine qbq (qaq _) (by first | rfl | (split<;>rfl)) ?_;((try refine zW ?_);(try with_reducible exact True.intro)))))
 ·by_cases h2:b < a
  ·(repeat(first | ((refine zW ?_;try with_reducible exact True.intro)) | (refine qaf 200 ?_;refine zW ?_;refine callA_of (qaq _) zB ?_;((try refine zW ?_);(try with_reducible exact True.intro))) | (refine at_dcall ?_;refine zW ?_;refine callA_of (qaq _) zB ?_;((try refine zW ?_);(try with_reducible exact True.intro))) | (refine qaf 200 ?_;refine zW ?_;refine qa3 ?_;refine zW ?_;refine qbq (qaq _) (by first | rfl | (split<;>rfl)) ?_;((try refine zW ?_);(try with_reducible exact True.intro))) | (refine at_dcall ?_;refine zW ?_;refine qa3 ?_;refine zW ?_;refine qbq (qaq _) (by first | rfl | (split<;>rfl)) ?_;((try refine zW ?_);(try with_reducible exact True.intro)))))
   ((try refine zO ?_);(try with_reducible exact True.intro))
   (repeat(first | ((refine zW ?_;try with_reducible exact True.intro)) | (refine qaf 200 ?_;refine zW ?_;refine callA_of (qaq _) zB ?_;((try refine zW ?_);(try with_reducible exact True.intro))) | (refine at_dcall ?_;refine zW ?_;refine callA_of (qaq _) zB ?_;((try refine zW ?_);(try with_reducible exact True.intro))) | (refine qaf 200 ?_;refine zW ?_;refine qa3 ?_;refine zW ?_;refine qbq (qaq _) (by first | rfl | (split<;>rfl)) ?_;((try refine zW ?_);(try with_reducible exact True.intro))) | (refine at_dcall ?_;refine zW ?_;refine qa3 ?_;refine zW ?_;refine qbq (qaq _) (by first | rfl | (split<;>rfl)) ?_;((try refine zW ?_);(try with_reducible exact True.intro)))))
  ·(repeat(first | ((refine zW ?_;try with_reducible exact True.intro)) | (refine qaf 200 ?_;refine zW ?_;refine callA_of (qaq _) zB ?_;((try refine zW ?_);(try with_reducible exact True.intro))) | (refine at_dcall ?_;refine zW ?_;refine callA_of (qaq _) zB ?_;((try refine zW ?_);(try with_reducible exact True.intro))) | (refine qaf 200 ?_;refine zW ?_;refine qa3 ?_;refine zW ?_;refine qbq (qaq _) (by first | rfl | (split<;>rfl)) ?_;((try refine zW ?_);(try with_reducible exact True.intro))) | (refine at_dcall ?_;refine zW ?_;refine qa3 ?_;refine zW ?_;refine qbq (qaq _) (by first | rfl | (split<;>rfl)) ?_;((try refine zW ?_);(try with_reducible exact True.intro)))))
   ((try refine zO ?_);(try with_reducible exact True.intro))
   (repeat(first | ((refine zW ?_;try with_reducible exact True.intro)) | (refine qaf 200 ?_;refine zW ?_;refine callA_of (qaq _) zB ?_;((try refine zW ?_);(try with_reducible exact True.intro))) | (refine at_dcall ?_;refine zW ?_;refine callA_of (qaq _) zB ?_;((try refine zW ?_);(try with_reducible exact True.intro))) | (refine qaf 200 ?_;refine zW ?_;refine qa3 ?_;refine zW ?_;refine qbq (qaq _) (by first | rfl | (split<;>rfl)) ?_;((try refine zW ?_);(try with_reducible exact True.intro))) | (refine at_dcall ?_;refine zW ?_;refine qa3 ?_;refine zW ?_;refine qbq (qaq _) (by first | rfl | (split<;>rfl)) ?_;((try refine zW ?_);(try with_reducible exact True.intro)))))
end Go.Proofs.NO
/- Plain law of merging in place: ranges swapped, rotated, merged. -/
namespace Go.GN
section
variable {α:Type}
end
end Go.GN
/- Ranges of pieces swapped, rotated. -/
namespace Go.Proofs.NO
open Go Go.Idl Go.Proofs Go.GN
set_option maxHeartbeats 20000000
set_option maxRecDepth 100000
end Go.Proofs.NO
