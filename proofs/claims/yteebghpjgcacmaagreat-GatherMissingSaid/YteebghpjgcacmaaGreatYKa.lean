/- Applications and scripts cut, and handed to the document. -/
import Derived.Test.YteebghpjgcacmaaGreatYJ
set_option linter.unusedSimpArgs false
set_option linter.unusedVariables false
namespace Go.Proofs.GY
open Go Go.Idl Go.Proofs
set_option maxHeartbeats 20000000
set_option maxRecDepth 100000



def cutApp (s : Sc) : Sc := ⟨s.N, s.ls.take 40, (s.T.take 8).map cutNd, s.fifo, s.room, s.acts⟩
def cutSc (s : Sc) : Sc := ⟨s.N, s.ls.take 40, (s.T.take 8).map cutNd, s.fifo, s.room, s.acts.take 60⟩
theorem L5Cut_spec (s : Sc) : Pure Tryz.prog 7 [lApp s] (lApp (cutSc s)) := by
  refine pcall0 200 (fn := Tryz.f7) Tryz.func7 rfl (by simp [Tryz.ntmps7]) zB zB fun hs => ?_
  ((try refine zW ?_); (try with_reducible exact True.intro))
  (refine walk_trim [1, 2, 27] trivial zL ?_; (refine zW ?_; try with_reducible exact True.intro); refine irun_walk (id := 1) (n := 200) [none, none, some [3, 4, 6, 7], none, none, some [6, 7], none, none, none, some []] mixed (by kernel_rfl) ?_)
  ((try refine zW ?_); (try with_reducible exact True.intro))
  (refine at_dcall ?_; (refine zW ?_; try with_reducible exact True.intro); refine callA_of (L3Cut_spec _ _) zB ?_; ((try refine zW ?_); (try with_reducible exact True.intro)))
  ((try refine zW ?_); (try with_reducible exact True.intro))
  (refine at_dcall ?_; (refine zW ?_; try with_reducible exact True.intro); refine callA_of (L4Cut_spec _) zB ?_; ((try refine zW ?_); (try with_reducible exact True.intro)))
  (try simp only [go_sem, simprocAttr, cutSc])
theorem L5App_spec (s : Sc) (hT : s.T.length ≤ 8) (hk : ∀ n ∈ s.T, OkNd n) : Pure Tryz.prog 9 [lApp s] (lApp s) := by
  refine pcall0 200 (fn := Tryz.f9) Tryz.func9 rfl (by simp [Tryz.ntmps9]) zB zB fun hs => ?_
  ((try refine zW ?_); (try with_reducible exact True.intro))
  (refine walk_trim [1, 2, 34] trivial zL ?_; (refine zW ?_; try with_reducible exact True.intro); refine irun_walk (id := 1) (n := 200) [none, none, some [3, 4, 6, 7], none, none, some [6, 7], none, none, none, some []] mixed (by kernel_rfl) ?_)
  ((try refine zW ?_); (try with_reducible exact True.intro))
  (refine at_dcall ?_; (refine zW ?_; try with_reducible exact True.intro); refine callA_of (L3Ref_spec _ _) zB ?_; ((try refine zW ?_); (try with_reducible exact True.intro)))
  ((try refine zW ?_); (try with_reducible exact True.intro))
  (refine at_dcall ?_; (refine zW ?_; try with_reducible exact True.intro); refine callA_of (L4Ref_spec _ hT hk) zB ?_; ((try refine zW ?_); (try with_reducible exact True.intro)))
  ((try refine zW ?_); (try with_reducible exact True.intro))
end Go.Proofs.GY
