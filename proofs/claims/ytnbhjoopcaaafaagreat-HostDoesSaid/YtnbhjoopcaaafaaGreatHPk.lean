/- A pick of a table: its walk; what a host's pick does. -/
import Derived.Test.YtnbhjoopcaaafaaGreatHFb
import Derived.Test.YtnbhjoopcaaafaaGreatHS2
set_option linter.unusedSimpArgs false
set_option linter.unusedVariables false
namespace Go.Proofs.HO
open Go Go.Idl Go.Proofs Go.GP
set_option maxHeartbeats 20000000
set_option maxRecDepth 100000
theorem CloneS_spec (l : List (Int × Int)) (hn : l.length ≤ 1000000) : Pure Tryz.prog 94 [lII l] (lII l) := by
 cases l with
 | nil =>
   refine pcall0 200 (fn := Tryz.f94) Tryz.func94 rfl (by simp [Tryz.ntmps94]) zB zB fun hs => ?_
   (try simp only [go_sem, simprocAttr, pr, List.map_nil])
   refine irun_eqnil (sz := 2) (rows := []) rfl (by kernel_rfl) (by decide) fun b hb => ?_
   cases b
   all_goals
    refine vc_sound _ 200 _ _ ?_
    ((try refine zW ?_); (try with_reducible exact True.intro))
 | cons a r =>
   rw [List.length_cons] at hn
   have e : pr eII (a :: r) = eII a :: pr eII r := rfl
   refine pcall0 200 (fn := Tryz.f94) Tryz.func94 rfl (by simp [Tryz.ntmps94]) zB zB fun hs => ?_
   ((try refine zW ?_); (try with_reducible exact True.intro))
   (try simp (disch := omega) only [go_sem, simprocAttr, zD, zE, e])
theorem Picked_spec (T : List Nd) (n k : Nat) (x : Nd) (s : St) (hx : T[n]? = some x) (hq : x.states[k]? = some s) (i : Int) (hs : ∀ p ∈ s.picks, p.2.length ≤ 1000000) :
  Pure Tryz.prog 61 [.p (.imm 2 (pr eNd T)), sci .i64 n, sci .i64 k, sci .i64 i]
   (if i < 0 then .tup [.agg [sci .i64 0, lII []], scb false] else match s.picks[i.toNat]? with | some p => .tup [.agg [sci .i64 p.1, lII p.2], scb true] | none => .tup [.agg [sci .i64 0, lII []], scb false]) := by
 have hz : T.length = T.length := rfl
 by_cases h1 : i < 0
 ·rw [if_pos h1]
  refine pcall0 200 (fn := Tryz.f61) Tryz.func61 rfl (by simp [Tryz.ntmps61]) zB zB fun hs => ?_
  ((try refine zW ?_); (try with_reducible exact True.intro))
  (refine at_call 200 ?_; (refine zW ?_; try with_reducible exact True.intro); refine callA_of (at_spec T n k x s hx hq) zB ?_; ((try refine zW ?_); (try with_reducible exact True.intro)))
  (try simp (maxSteps := 2000000) (disch := omega) only [go_sem, simprocAttr, zD, zE, h1])
 rw [if_neg h1]
 obtain ⟨j, rfl⟩ := Int.eq_ofNat_of_zero_le (show 0 ≤ i by omega)
 rw [Int.toNat_natCast]
 by_cases h2 : j < s.picks.length
 ·rw [List.getElem?_eq_getElem h2]
  have hp := hs _ (List.getElem_mem h2)
  generalize hpe : s.picks[j] = p at *
  obtain ⟨nx, sn⟩ := p
  simp only at hp ⊢
  refine pcall0 200 (fn := Tryz.f61) Tryz.func61 rfl (by simp [Tryz.ntmps61]) zB zB fun hs => ?_
  ((try refine zW ?_); (try with_reducible exact True.intro))
  (refine at_call 200 ?_; (refine zW ?_; try with_reducible exact True.intro); refine callA_of (at_spec T n k x s hx hq) zB ?_; ((try refine zW ?_); (try with_reducible exact True.intro)))
  ((try refine zO ?_); (try with_reducible exact True.intro))
  (refine walk_trim [3, 8, 10, 133] trivial zL ?_; (refine zW ?_; try with_reducible exact True.intro); refine irun_walk (id := 4) (n := 200) [none, none, none, none, none, none, none, none, none, none, none, none, some [0, 1, 2, 3, 4, 5], none, some [], none] mixed (by kernel_rfl) ?_)
  (try simp (maxSteps := 2000000) (disch := omega) only [go_sem, simprocAttr, zD, zE, ePk, hpe])
  (refine at_dcall ?_; (refine zW ?_; try with_reducible exact True.intro); refine callA_of (CloneS_spec sn hp) zB ?_; ((try refine zW ?_); (try with_reducible exact True.intro)))
  ((try refine zO ?_); (try with_reducible exact True.intro))
 ·rw [List.getElem?_eq_none (by omega)]
  simp only
  refine pcall0 200 (fn := Tryz.f61) Tryz.func61 rfl (by simp [Tryz.ntmps61]) zB zB fun hs => ?_
  ((try refine zW ?_); (try with_reducible exact True.intro))
  (refine at_call 200 ?_; (refine zW ?_; try with_reducible exact True.intro); refine callA_of (at_spec T n k x s hx hq) zB ?_; ((try refine zW ?_); (try with_reducible exact True.intro)))
  ((try refine zO ?_); (try with_reducible exact True.intro))
end Go.Proofs.HO
