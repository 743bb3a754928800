/- The document on graphs: links. -/
import Derived.Test.YteebghpjgcacmaaGreatYQ
set_option linter.unusedSimpArgs false
set_option linter.unusedVariables false
namespace Go.Proofs.GY
open Go Go.Idl Go.Proofs Go.GP
set_option maxHeartbeats 20000000
set_option maxRecDepth 100000




theorem R3Find_spec (N a b : Int) (ls : List (Int × Int)) (hl : ls.length ≤ 1000000) : Pure Tryz.prog 99 [eG N ls, sci .i64 a, sci .i64 b] (sci .i64 (findL a b 0 ls)) := by
  refine pcall0 200 (fn := Tryz.f99) Tryz.func99 rfl (by simp [Tryz.ntmps99]) zB zB fun hs => ?_
  ((try refine zW ?_); (try with_reducible exact True.intro))
  refine walk_loop 200 200 (fun i : Nat => i ≤ ls.length ∧ findL a b i (ls.drop i) = findL a b 0 ls)
    (fun i => ⟨34, [(1, sci .i64 a), (2, sci .i64 b), (3, .ptr 0 0 0 0), (7, sci .i64 i)], [], 1, [(0, .arr 2 0 [[sci .i64 N, lII ls]])]⟩) (fun i => ls.length - i) 0 ?_ ?_ ?_
  · simp
  · constructor <;> (try simp (disch := omega) only [go_sem, simprocAttr, if_pos, if_neg, w64, beqT, beqF, bneT, bneF, pr_get, ir_get, decide_eq_true, decide_eq_false, Int.natCast_zero])
  · rintro i ⟨h1, h2⟩
    ((try refine zW ?_); (try with_reducible exact True.intro))
    by_cases hi : i < ls.length
    · rw [drop_cons hi] at h2
      (try simp (disch := omega) only [go_sem, simprocAttr, if_pos, if_neg, w64, beqT, beqF, bneT, bneF, pr_get, ir_get, decide_eq_true, decide_eq_false, eII])
      cases ha : ls[i].1 == a
      · have hn : ¬ (ls[i].1 = a ∧ ls[i].2 = b) := fun h => by simp [h.1] at ha
        ((try refine zO ?_); (try with_reducible exact True.intro))
        refine ⟨i + 1, ⟨hi, by rw [← h2]; simp [findL, hn]⟩, by omega, ?_⟩
        constructor <;> ((try refine zO ?_); (try with_reducible exact True.intro))
      · (try simp (disch := omega) only [go_sem, simprocAttr, if_pos, if_neg, w64, beqT, beqF, bneT, bneF, pr_get, ir_get, decide_eq_true, decide_eq_false, eII])
        cases hb : ls[i].2 == b
        · have hn : ¬ (ls[i].1 = a ∧ ls[i].2 = b) := fun h => by simp [h.2] at hb
          ((try refine zO ?_); (try with_reducible exact True.intro))
          refine ⟨i + 1, ⟨hi, by rw [← h2]; simp [findL, hn]⟩, by omega, ?_⟩
          constructor <;> ((try refine zO ?_); (try with_reducible exact True.intro))
        · have hn : ls[i].1 = a ∧ ls[i].2 = b := ⟨by simpa using ha, by simpa using hb⟩
          rw [findL, if_pos hn] at h2
          (try simp (disch := omega) only [go_sem, simprocAttr, if_pos, if_neg, w64, beqT, beqF, bneT, bneF, pr_get, ir_get, decide_eq_true, decide_eq_false, ← h2])
    · obtain rfl : i = ls.length := by omega
      rw [List.drop_length] at h2
      (try simp (disch := omega) only [go_sem, simprocAttr, if_pos, if_neg, w64, beqT, beqF, bneT, bneF, pr_get, ir_get, decide_eq_true, decide_eq_false, ← h2, findL])
theorem R3Out_spec (N n : Int) (ls : List (Int × Int)) (hl : ls.length ≤ 1000000) : Pure Tryz.prog 27 [eG N ls, sci .i64 n] (lI (outs n 0 ls)) := by
  refine pcall0 200 (fn := Tryz.f27) Tryz.func27 rfl (by simp [Tryz.ntmps27]) zB zB fun hs => ?_
  ((try refine zW ?_); (try with_reducible exact True.intro))
  refine walk_own 5 1 trivial rfl (.inl rfl) ?_
  refine walk_loop 200 200 (fun i : Nat × Nat × List Int => i.1 ≤ ls.length ∧ i.2.2.length ≤ i.1 ∧ i.2.2 ++ outs n i.1 (ls.drop i.1) = outs n 0 ls)
    (fun i => ⟨28, [(1, sci .i64 n), (2, .ptr 0 0 0 0), (5, .ref 1 i.2.1 0 i.2.2.length), (6, sci .i64 i.1)], [], 2,
      [(1, .arr 1 i.2.1 (ir eI i.2.2)), (0, .arr 2 0 [[sci .i64 N, lII ls]])]⟩) (fun i => ls.length - i.1) (0, 0, []) ?_ ?_ ?_
  · simp
  · constructor <;> (try simp (disch := omega) only [go_sem, simprocAttr, if_pos, if_neg, w64, beqT, beqF, bneT, bneF, pr_get, ir_get, decide_eq_true, decide_eq_false, Int.natCast_zero])
  · rintro ⟨i, g, acc⟩ ⟨h1, h2, h3⟩
    simp only at h1 h2 h3
    ((try refine zW ?_); (try with_reducible exact True.intro))
    by_cases hi : i < ls.length
    · rw [drop_cons hi] at h3
      (try simp (disch := omega) only [go_sem, simprocAttr, if_pos, if_neg, w64, beqT, beqF, bneT, bneF, pr_get, ir_get, decide_eq_true, decide_eq_false, eII])
      cases hc : ls[i].1 == n
      · have hc : ¬ ls[i].1 = n := by simpa using hc
        ((try refine zO ?_); (try with_reducible exact True.intro))
        refine ⟨(i + 1, g, acc), ⟨hi, by simp only; omega, by simpa [outs, hc] using h3⟩, by simp only; omega, ?_⟩
        constructor <;> ((try refine zO ?_); (try with_reducible exact True.intro))
      · have hc : ls[i].1 = n := by simpa using hc
        ((try refine zO ?_); (try with_reducible exact True.intro))
        refine ⟨(i + 1, g + 1, acc ++ [(i : Int)]), ⟨hi, by simp; omega, by simpa [outs, hc] using h3⟩, by simp only; omega, ?_⟩
        constructor <;> ((try refine zO ?_); (try with_reducible exact True.intro))
    · obtain rfl : i = ls.length := by omega
      rw [List.drop_length] at h3
      (try simp (disch := omega) only [go_sem, simprocAttr, if_pos, if_neg, w64, beqT, beqF, bneT, bneF, pr_get, ir_get, decide_eq_true, decide_eq_false, ← h3, outs])
theorem R3In_spec (N n : Int) (ls : List (Int × Int)) (hl : ls.length ≤ 1000000) : Pure Tryz.prog 28 [eG N ls, sci .i64 n] (lI (ins n 0 ls)) := by
  refine pcall0 200 (fn := Tryz.f28) Tryz.func28 rfl (by simp [Tryz.ntmps28]) zB zB fun hs => ?_
  ((try refine zW ?_); (try with_reducible exact True.intro))
  refine walk_own 5 1 trivial rfl (.inl rfl) ?_
  refine walk_loop 200 200 (fun i : Nat × Nat × List Int => i.1 ≤ ls.length ∧ i.2.2.length ≤ i.1 ∧ i.2.2 ++ ins n i.1 (ls.drop i.1) = ins n 0 ls)
    (fun i => ⟨28, [(1, sci .i64 n), (2, .ptr 0 0 0 0), (5, .ref 1 i.2.1 0 i.2.2.length), (6, sci .i64 i.1)], [], 2,
      [(1, .arr 1 i.2.1 (ir eI i.2.2)), (0, .arr 2 0 [[sci .i64 N, lII ls]])]⟩) (fun i => ls.length - i.1) (0, 0, []) ?_ ?_ ?_
  · simp
  · constructor <;> (try simp (disch := omega) only [go_sem, simprocAttr, if_pos, if_neg, w64, beqT, beqF, bneT, bneF, pr_get, ir_get, decide_eq_true, decide_eq_false, Int.natCast_zero])
  · rintro ⟨i, g, acc⟩ ⟨h1, h2, h3⟩
    simp only at h1 h2 h3
    ((try refine zW ?_); (try with_reducible exact True.intro))
    by_cases hi : i < ls.length
    · rw [drop_cons hi] at h3
      (try simp (disch := omega) only [go_sem, simprocAttr, if_pos, if_neg, w64, beqT, beqF, bneT, bneF, pr_get, ir_get, decide_eq_true, decide_eq_false, eII])
      cases hc : ls[i].2 == n
      · have hc : ¬ ls[i].2 = n := by simpa using hc
        ((try refine zO ?_); (try with_reducible exact True.intro))
        refine ⟨(i + 1, g, acc), ⟨hi, by simp only; omega, by simpa [ins, hc] using h3⟩, by simp only; omega, ?_⟩
        constructor <;> ((try refine zO ?_); (try with_reducible exact True.intro))
      · have hc : ls[i].2 = n := by simpa using hc
        ((try refine zO ?_); (try with_reducible exact True.intro))
        refine ⟨(i + 1, g + 1, acc ++ [(i : Int)]), ⟨hi, by simp; omega, by simpa [ins, hc] using h3⟩, by simp only; omega, ?_⟩
        constructor <;> ((try refine zO ?_); (try with_reducible exact True.intro))
    · obtain rfl : i = ls.length := by omega
      rw [List.drop_length] at h3
      (try simp (disch := omega) only [go_sem, simprocAttr, if_pos, if_neg, w64, beqT, beqF, bneT, bneF, pr_get, ir_get, decide_eq_true, decide_eq_false, ← h3, ins])
end Go.Proofs.GY
