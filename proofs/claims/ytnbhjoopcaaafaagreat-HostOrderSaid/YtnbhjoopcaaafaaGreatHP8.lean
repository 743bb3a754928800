/- Whether a host may be. -/
import Derived.Test.YtnbhjoopcaaafaaGreatHP7
import Derived.Test.YtnbhjoopcaaafaaGreatHP3
import Derived.Test.YtnbhjoopcaaafaaGreatHGb
import Derived.Test.YtnbhjoopcaaafaaGreatHH4
import Derived.Test.YtnbhjoopcaaafaaGreatHKa
set_option linter.unusedSimpArgs false
set_option linter.unusedVariables false
namespace Go.Proofs.HO
open Go Go.Idl Go.Proofs Go.GP
set_option maxHeartbeats 20000000
set_option maxRecDepth 100000
theorem of1_spec (N n : Int) (ls : List (Int × Int)) (hl : ls.length ≤ 1000000) : Pure Tryz.prog 87 [eG N ls, sci .i64 n, sci .i64 1] (lI (ins n 0 ls)) := by
  refine pcall0 200 (fn := Tryz.f87) Tryz.func87 rfl (by simp [Tryz.ntmps87]) zB zB fun hs => ?_
  ((try refine zW ?_); (try with_reducible exact True.intro))
  refine walk_own 7 1 trivial rfl (.inr rfl) ?_
  (refine walk_trim [1, 2, 7, 11, 12, 13] trivial zL ?_; ((try refine zW ?_); (try with_reducible exact True.intro)))
  refine walk_floop 200 200 (fun i : Nat × Nat × List Int => i.1 ≤ ls.length ∧ i.2.2.length ≤ i.1 ∧ i.2.2 ++ ins n i.1 (ls.drop i.1) = ins n 0 ls)
    (fun i => ⟨29, [(1, sci .i64 n), (2, sci .i64 1), (7, .ref 1 i.2.1 0 i.2.2.length), (11, lII ls), (12, sci .i64 ls.length), (13, sci .i64 i.1)], [], 2,
      [(1, .arr 1 i.2.1 (ir eI i.2.2))]⟩) (fun i => ls.length - i.1) (0, 0, []) [] ?_ ?_ ?_
  · simp
  · constructor <;> (try simp (disch := omega) only [go_sem, simprocAttr, if_pos, if_neg, w64, beqT, beqF, bneT, bneF, pr_get, ir_get, decide_eq_true, decide_eq_false, Int.natCast_zero])
  · rintro ⟨i, g, acc⟩ ⟨h1, h2, h3⟩
    simp only at h1 h2 h3
    ((try refine zW ?_); (try with_reducible exact True.intro))
    by_cases hi : i < ls.length
    · rw [drop_cons hi] at h3
      (try simp (disch := omega) only [go_sem, simprocAttr, if_pos, if_neg, w64, beqT, beqF, bneT, bneF, pr_get, ir_get, decide_eq_true, decide_eq_false, eII])
      by_cases hc : ls[i].2 = n
      · (try simp (disch := omega) only [go_sem, simprocAttr, if_pos, if_neg, w64, beqT, beqF, bneT, bneF, pr_get, ir_get, decide_eq_true, decide_eq_false, hc])
        refine ⟨(i + 1, g + 1, acc ++ [(i : Int)]), [], ⟨hi, by simp; omega, by simpa [ins, hc] using h3⟩, by simp only; omega, ?_⟩
        constructor <;> ((try refine zO ?_); (try with_reducible exact True.intro))
      · (try simp (disch := omega) only [go_sem, simprocAttr, if_pos, if_neg, w64, beqT, beqF, bneT, bneF, pr_get, ir_get, decide_eq_true, decide_eq_false, hc])
        refine ⟨(i + 1, g, acc), [], ⟨hi, by simp only; omega, by simpa [ins, hc] using h3⟩, by simp only; omega, ?_⟩
        constructor <;> ((try refine zO ?_); (try with_reducible exact True.intro))
    · obtain rfl : i = ls.length := by omega
      rw [List.drop_length] at h3
      (try simp (disch := omega) only [go_sem, simprocAttr, if_pos, if_neg, w64, beqT, beqF, bneT, bneF, pr_get, ir_get, decide_eq_true, decide_eq_false, ← h3, ins])
theorem In_spec (N n : Int) (ls : List (Int × Int)) (hl : ls.length ≤ 1000000) : Pure Tryz.prog 53 [eG N ls, sci .i64 n] (lI (ins n 0 ls)) := by
  refine pcall0 200 (fn := Tryz.f53) Tryz.func53 rfl (by simp [Tryz.ntmps53]) zB zB fun hs => ?_
  ((try refine zW ?_); (try with_reducible exact True.intro))
  (refine at_call 200 ?_; (refine zW ?_; try with_reducible exact True.intro); refine callA_of (of1_spec _ _ _ hl) zB ?_; ((try refine zW ?_); (try with_reducible exact True.intro)))
  ((try refine zW ?_); (try with_reducible exact True.intro))
def HostP (N : Int) (ls : List (Int × Int)) (T : List Nd) (h : Hs) : Prop :=
  TabP N ls T ∧ 0 ≤ h.node ∧ h.node < N ∧ 0 ≤ h.state ∧ (∀ x, T[h.node.toNat]? = some x → h.state < x.states.length) ∧ h.inn.length = (ins h.node 0 ls).length ∧ h.out.length = (outs h.node 0 ls).length ∧ ToldP h
end Go.Proofs.HO
