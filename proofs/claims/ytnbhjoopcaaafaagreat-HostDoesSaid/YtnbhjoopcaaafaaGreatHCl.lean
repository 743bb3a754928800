/- Clone with its block. -/
import Derived.Test.YtnbhjoopcaaafaaGreatHP2
set_option linter.unusedSimpArgs false
set_option linter.unusedVariables false
namespace Go.Proofs.HO
open Go Go.Idl Go.Proofs
set_option maxHeartbeats 20000000
set_option maxRecDepth 100000
theorem CloneM_new (a : Int × Int) (r : List (Int × Int)) (hn : r.length ≤ 1000000) : PG Tryz.prog 119 [lII (a :: r)] [] 1 (.ref 0 0 0 (r.length + 1)) [(0, .arr 2 0 (ir eII (a :: r)))] := by
 have e : pr eII (a :: r) = eII a :: pr eII r := rfl
 refine pg_of 200 (fn := Tryz.f119) Tryz.func119 rfl (by simp [Tryz.ntmps119]) 0 rfl zC zC zC zC zC fun hs => ?_
 ((try refine zW ?_); (try with_reducible exact True.intro))
 (try simp (disch := omega) only [go_sem, simprocAttr, zD, zE, e])
 refine ⟨[0], ⟨rfl, by simp [geAll], by simp [apartN, apartN.nin]⟩, rfl, ?_⟩
 exact ⟨rfl, rfl, fzRs_refl _⟩
theorem CloneM_new0 : PG Tryz.prog 119 [lII []] [] 1 (.ref 0 0 0 0) [(0, .arr 2 0 [])] := by
 refine pg_of 200 (fn := Tryz.f119) Tryz.func119 rfl (by simp [Tryz.ntmps119]) 0 rfl zC zC zC zC zC fun hs => ?_
 (try simp only [go_sem, simprocAttr, pr, List.map_nil])
 refine irun_eqnil (sz := 2) (rows := []) rfl (by kernel_rfl) (by decide) fun b hb => ?_
 cases b
 ·refine vc_sound _ 200 _ _ ?_
  ((try refine zW ?_); (try with_reducible exact True.intro))
  refine ⟨[0], ⟨rfl, by simp [geAll], by simp [apartN, apartN.nin]⟩, rfl, ?_⟩
  exact ⟨rfl, rfl, fzRs_refl _⟩
 ·refine vc_sound _ 6 _ _ ?_
  ((try refine zW ?_); (try with_reducible exact True.intro))
  refine walk_own 2 2 trivial rfl (.inr rfl) ?_
  refine vc_sound _ 200 _ _ ?_
  ((try refine zW ?_); (try with_reducible exact True.intro))
  refine ⟨[0], ⟨rfl, by simp [geAll], by simp [apartN, apartN.nin]⟩, rfl, ?_⟩
  exact ⟨rfl, rfl, fzRs_refl _⟩
theorem CloneM_blk (l : List (Int × Int)) (hn : l.length ≤ 1000000) : PG Tryz.prog 119 [lII l] [] 1 (.ref 0 0 0 l.length) [(0, .arr 2 0 (ir eII l))] := by
 cases l with
 | nil => exact CloneM_new0
 | cons a r => exact CloneM_new a r (by rw [List.length_cons] at hn; omega)
theorem own1M_blk (x : List (Int × Int)) (r : List (List (Int × Int))) (hx : x.length ≤ 1000000) (hr : r.length ≤ 1000000) :
  PG Tryz.prog 118 [.ptr 0 0 0 0] [cM (x :: r)] 1 (.ref 1 0 0 x.length) [(1, .arr 2 0 (ir eII x)), (0, cM r)] := by
 refine pg_of 200 (fn := Tryz.f118) Tryz.func118 rfl (by simp [Tryz.ntmps118]) 1 rfl zC zC zC zC zC fun hs => ?_
 ((try refine zW ?_); (try with_reducible exact True.intro))
 (try simp (disch := omega) only [go_sem, simprocAttr, zD, zE, eMs])
 (refine at_g 200 ?_; (refine zW ?_; try with_reducible exact True.intro); refine callG_of [] (CloneM_blk x hx) zU ?_; ((try refine zW ?_); (try with_reducible exact True.intro)))
 (try simp (disch := omega) only [go_sem, simprocAttr, zD, zE, eMs, Nat.add_sub_cancel, List.take_length])
 exact ⟨[1], ⟨rfl, by simp [geAll], by simp [apartN, apartN.nin]⟩, rfl, rfl, rfl, fzRs_refl _⟩
end Go.Proofs.HO
