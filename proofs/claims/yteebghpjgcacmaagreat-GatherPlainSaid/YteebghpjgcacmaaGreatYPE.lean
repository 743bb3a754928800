/- Pieces put in order: the sort in place. -/
import Derived.Test.YteebghpjgcacmaaGreatYzP2
import Derived.Test.YteebghpjgcacmaaGreatGN
set_option linter.unusedSimpArgs false
set_option linter.unusedVariables false
namespace Go.Proofs.GY
open Go Go.Idl Go.Proofs Go.GN
set_option maxHeartbeats 20000000
set_option maxRecDepth 100000
def cmpI (a b:Int):Int:=if a < b then -1 else if b < a then 1 else 0
theorem qaw (a:Int):Pure Tryz.prog 91 [sci .i64 a] (scb false):=by
 refine qaf 200 (fn:=Tryz.f91) Tryz.func91 rfl (by simp [Tryz.ntmps91]) zB zB fun hs=>?_
 (repeat(first | ((refine zW ?_;try with_reducible exact True.intro))))
theorem qjx (a b:Int):Pure Tryz.prog 49 [sci .i64 a,sci .i64 b] (sci .i64 (cmpI a b)):=by
 refine qaf 200 (fn:=Tryz.f49) Tryz.func49 rfl (by simp [Tryz.ntmps49]) zB zB fun hs=>?_
 unfold cmpI
 by_cases h1:a < b
 ·(repeat(first | ((refine zW ?_;try with_reducible exact True.intro)) | (refine qac 200 ?_;refine zW ?_;refine callA_of (qaw _) zB ?_;((try refine zW ?_);(try with_reducible exact True.intro))) | (refine at_dcall ?_;refine zW ?_;refine callA_of (qaw _) zB ?_;((try refine zW ?_);(try with_reducible exact True.intro))) | (refine qac 200 ?_;refine zW ?_;refine qaW ?_;refine zW ?_;refine qa9 (qaw _) (by first | rfl | (split<;>rfl)) ?_;((try refine zW ?_);(try with_reducible exact True.intro))) | (refine at_dcall ?_;refine zW ?_;refine qaW ?_;refine zW ?_;refine qa9 (qaw _) (by first | rfl | (split<;>rfl)) ?_;((try refine zW ?_);(try with_reducible exact True.intro)))))
  ((try refine zO ?_);(try with_reducible exact True.intro))
  (repeat(first | ((refine zW ?_;try with_reducible exact True.intro)) | (refine qac 200 ?_;refine zW ?_;refine callA_of (qaw _) zB ?_;((try refine zW ?_);(try with_reducible exact True.intro))) | (refine at_dcall ?_;refine zW ?_;refine callA_of (qaw _) zB ?_;((try refine zW ?_);(try with_reducible exact True.intro))) | (refine qac 200 ?_;refine zW ?_;refine qaW ?_;refine zW ?_;refine qa9 (qaw _) (by first | rfl | (split<;>rfl)) ?_;((try refine zW ?_);(try with_reducible exact True.intro))) | (refine at_dcall ?_;refine zW ?_;refine qaW ?_;refine zW ?_;refine qa9 (qaw _) (by first | rfl | (split<;>rfl)) ?_;((try refine zW ?_);(try with_reducible exact True.intro)))))
 ·by_cases h2:b < a
  ·(repeat(first | ((refine zW ?_;try with_reducible exact True.intro)) | (refine qac 200 ?_;refine zW ?_;refine callA_of (qaw _) zB ?_;((try refine zW ?_);(try with_reducible exact True.intro))) | (refine at_dcall ?_;refine zW ?_;refine callA_of (qaw _) zB ?_;((try refine zW ?_);(try with_reducible exact True.intro))) | (refine qac 200 ?_;refine zW ?_;refine qaW ?_;refine zW ?_;refine qa9 (qaw _) (by first | rfl | (split<;>rfl)) ?_;((try refine zW ?_);(try with_reducible exact True.intro))) | (refine at_dcall ?_;refine zW ?_;refine qaW ?_;refine zW ?_;refine qa9 (qaw _) (by first | rfl | (split<;>rfl)) ?_;((try refine zW ?_);(try with_reducible exact True.intro)))))
   ((try refine zO ?_);(try with_reducible exact True.intro))
   (repeat(first | ((refine zW ?_;try with_reducible exact True.intro)) | (refine qac 200 ?_;refine zW ?_;refine callA_of (qaw _) zB ?_;((try refine zW ?_);(try with_reducible exact True.intro))) | (refine at_dcall ?_;refine zW ?_;refine callA_of (qaw _) zB ?_;((try refine zW ?_);(try with_reducible exact True.intro))) | (refine qac 200 ?_;refine zW ?_;refine qaW ?_;refine zW ?_;refine qa9 (qaw _) (by first | rfl | (split<;>rfl)) ?_;((try refine zW ?_);(try with_reducible exact True.intro))) | (refine at_dcall ?_;refine zW ?_;refine qaW ?_;refine zW ?_;refine qa9 (qaw _) (by first | rfl | (split<;>rfl)) ?_;((try refine zW ?_);(try with_reducible exact True.intro)))))
  ·(repeat(first | ((refine zW ?_;try with_reducible exact True.intro)) | (refine qac 200 ?_;refine zW ?_;refine callA_of (qaw _) zB ?_;((try refine zW ?_);(try with_reducible exact True.intro))) | (refine at_dcall ?_;refine zW ?_;refine callA_of (qaw _) zB ?_;((try refine zW ?_);(try with_reducible exact True.intro))) | (refine qac 200 ?_;refine zW ?_;refine qaW ?_;refine zW ?_;refine qa9 (qaw _) (by first | rfl | (split<;>rfl)) ?_;((try refine zW ?_);(try with_reducible exact True.intro))) | (refine at_dcall ?_;refine zW ?_;refine qaW ?_;refine zW ?_;refine qa9 (qaw _) (by first | rfl | (split<;>rfl)) ?_;((try refine zW ?_);(try with_reducible exact True.intro)))))
   ((try refine zO ?_);(try with_reducible exact True.intro))
   (repeat(first | ((refine zW ?_;try with_reducible exact True.intro)) | (refine qac 200 ?_;refine zW ?_;refine callA_of (qaw _) zB ?_;((try refine zW ?_);(try with_reducible exact True.intro))) | (refine at_dcall ?_;refine zW ?_;refine callA_of (qaw _) zB ?_;((try refine zW ?_);(try with_reducible exact True.intro))) | (refine qac 200 ?_;refine zW ?_;refine qaW ?_;refine zW ?_;refine qa9 (qaw _) (by first | rfl | (split<;>rfl)) ?_;((try refine zW ?_);(try with_reducible exact True.intro))) | (refine at_dcall ?_;refine zW ?_;refine qaW ?_;refine zW ?_;refine qa9 (qaw _) (by first | rfl | (split<;>rfl)) ?_;((try refine zW ?_);(try with_reducible exact True.intro)))))
theorem mid_of {i j:Nat} (h:i+j < 100000):IntKind.i64.wrap ((IntKind.u64.wrap ((i:Int)+(j:Int))).fdiv (2 ^ min 1 64))=(((i+j) / 2:Nat):Int):=by
 have e1:IntKind.u64.wrap ((i:Int)+(j:Int))=((i+j:Nat):Int):=by rw [IntKind.wrap_u64];omega
 have e2:(2:Int) ^ min 1 64=2:=by decide
 rw [e1,e2,Int.fdiv_eq_ediv_of_nonneg _ (by decide),IntKind.wrap_i64];omega
end Go.Proofs.GY
