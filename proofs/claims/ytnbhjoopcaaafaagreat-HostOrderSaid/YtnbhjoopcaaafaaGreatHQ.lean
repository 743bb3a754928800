/- Graphs: what each function answers. -/
import Derived.Test.YtnbhjoopcaaafaaGreatHA
import Derived.Test.YtnbhjoopcaaafaaGreatGPm
import Derived.Test.YtnbhjoopcaaafaaGreatIdPd
set_option linter.unusedSimpArgs false
set_option linter.unusedVariables false
namespace Go.Proofs.HO
open Go Go.Idl Go.Proofs Go.GP
set_option maxHeartbeats 20000000
set_option maxRecDepth 100000









def nodeB (N n : Int) : Bool := decide (0 ≤ n) && decide (n < N)
def idxL (l : List Int) (a : Int) : Nat → Int
  | 0 => -1
  | k + 1 => match l[l.length - (k + 1)]? with
    | some x => if x = a then ((l.length - (k + 1) : Nat) : Int) else idxL l a k
    | none => -1
def indexL (a : Int) : Nat → List Int → Int
  | _, [] => -1
  | i, x :: r => if a = x then i else indexL a (i + 1) r
theorem Index_spec (l : List Int) (a : Int) : Pure Tryz.prog 64 [lI l, sci .i64 a] (sci .i64 (indexL a 0 l)) := by
  refine pcall0 200 (fn := Tryz.f64) Tryz.func64 rfl (by simp [Tryz.ntmps64]) zB zB fun hs => ?_
  simp only [go_sem, simprocAttr, maxLen] at hs
  ((try refine zO ?_); (try with_reducible exact True.intro))
  refine walk_floop 200 200 (fun i : Nat => i ≤ l.length ∧ indexL a i (l.drop i) = indexL a 0 l)
    (fun i => ⟨19, [(0, lI l), (1, sci .i64 a), (7, sci .i64 l.length), (8, sci .i64 i)], [], 0, []⟩) (fun i => l.length - i) (0) [] ?_ ?_ ?_
  · simp
  · constructor <;> (try simp (disch := omega) only [go_sem, simprocAttr, if_pos, if_neg, w64, beqT, beqF, bneT, bneF, pr_get, ir_get, decide_eq_true, decide_eq_false, Int.natCast_zero, List.take_of_length_le, List.append_assoc])
  · rintro i hi
    obtain ⟨hi, hinvi⟩ := hi
    ((try refine zW ?_); (try with_reducible exact True.intro))
    by_cases li : i < l.length
    · rw [drop_cons li, indexL] at hinvi
      by_cases e : a = l[i]
      · rw [if_pos e] at hinvi
        (try simp (disch := omega) only [go_sem, simprocAttr, if_pos, if_neg, w64, beqT, beqF, bneT, bneF, pr_get, ir_get, decide_eq_true, decide_eq_false, eI, ← e, ← hinvi])
      · rw [if_neg e] at hinvi
        (try simp (disch := omega) only [go_sem, simprocAttr, if_pos, if_neg, w64, beqT, beqF, bneT, bneF, pr_get, ir_get, decide_eq_true, decide_eq_false, eI, e])
        refine ⟨i + 1, [], ⟨by first | assumption | omega, hinvi⟩, ?_, ?_⟩
        · (try simp only []); omega
        · constructor <;> (try simp (disch := omega) only [go_sem, simprocAttr, if_pos, if_neg, w64, beqT, beqF, bneT, bneF, pr_get, ir_get, decide_eq_true, decide_eq_false, List.append_assoc])
    · obtain rfl : i = l.length := by omega
      rw [List.drop_length] at hinvi
      (try simp (disch := omega) only [go_sem, simprocAttr, if_pos, if_neg, w64, beqT, beqF, bneT, bneF, pr_get, ir_get, decide_eq_true, decide_eq_false, ← hinvi, indexL])
end Go.Proofs.HO
