/- Pieces compared by the document, handed to it, cut. -/
import Derived.Test.YteebghpjgcacmaaGreatYPA
set_option linter.unusedSimpArgs false
set_option linter.unusedVariables false
namespace Go.Proofs.GY
open Go Go.Idl Go.Proofs
set_option maxHeartbeats 20000000
set_option maxRecDepth 100000


theorem Ints_spec (a b : List Int) : Pure Tryz.prog 16 [lI a, lI b] (scb (a == b)) := by
  refine pcall0 200 (fn := Tryz.f16) Tryz.func16 rfl (by simp [Tryz.ntmps16]) zB zB fun hs => ?_
  simp only [go_sem, simprocAttr, maxLen] at hs
  obtain ⟨⟨ha, -⟩, hb, -⟩ := hs
  ((try refine zW ?_); (try with_reducible exact True.intro))
  by_cases hn : a.length = b.length
  · ((try refine zO ?_); (try with_reducible exact True.intro))
    refine walk_loop 200 200 (fun i : Nat => i ≤ a.length ∧ a.take i = b.take i) (fun i => ⟨26, [(0, lI a), (1, lI b), (5, sci .i64 i)], [], 0, []⟩) (fun i => a.length - i) 0 ?_ ?_ ?_
    · simp
    · constructor <;> (try simp only [go_sem, simprocAttr, Int.natCast_zero])
    · rintro i ⟨hi, he⟩
      ((try refine zW ?_); (try with_reducible exact True.intro))
      by_cases hb : i < a.length
      · ((try refine zO ?_); (try with_reducible exact True.intro))
        (refine walk_trim [0, 1, 5] trivial zL ?_; (refine zW ?_; try with_reducible exact True.intro); refine irun_walk (id := 6) (n := 200) [none, none, none, none, none, none, none, none, none] mixed (by kernel_rfl) ?_)
        (try simp (disch := omega) only [go_sem, simprocAttr, if_pos, if_neg, w64, beqT, beqF, bneT, bneF, pr_get, ir_get, decide_eq_true, decide_eq_false, eI])
        by_cases hc : a[i] = b[i]
        · ((try refine zO ?_); (try with_reducible exact True.intro))
          refine ⟨i + 1, ⟨hb, ?_⟩, by omega, ?_⟩
          · rw [List.take_succ_eq_append_getElem hb, List.take_succ_eq_append_getElem (by omega), he, hc]
          · constructor <;> ((try refine zW ?_); (try with_reducible exact True.intro))
        · ((try refine zO ?_); (try with_reducible exact True.intro))
          symm
          rw [beq_eq_false_iff_ne]
          rintro rfl
          exact hc rfl
      · ((try refine zO ?_); (try with_reducible exact True.intro))
        obtain rfl : i = a.length := by omega
        rw [List.take_length, hn, List.take_length] at he
        simp [he]
  · ((try refine zO ?_); (try with_reducible exact True.intro))
    symm
    rw [beq_eq_false_iff_ne]
    rintro rfl
    exact hn rfl
theorem Msgs_spec (a b : List (Int × Int)) : Pure Tryz.prog 70 [lII a, lII b] (scb (a == b)) := by
  refine pcall0 200 (fn := Tryz.f70) Tryz.func70 rfl (by simp [Tryz.ntmps70]) zB zB fun hs => ?_
  simp only [go_sem, simprocAttr, maxLen] at hs
  obtain ⟨⟨ha, -⟩, hb, -⟩ := hs
  ((try refine zW ?_); (try with_reducible exact True.intro))
  by_cases hn : a.length = b.length
  · ((try refine zO ?_); (try with_reducible exact True.intro))
    refine walk_loop 200 200 (fun i : Nat => i ≤ a.length ∧ a.take i = b.take i) (fun i => ⟨26, [(0, lII a), (1, lII b), (5, sci .i64 i)], [], 0, []⟩) (fun i => a.length - i) 0 ?_ ?_ ?_
    · simp
    · constructor <;> (try simp only [go_sem, simprocAttr, Int.natCast_zero])
    · rintro i ⟨hi, he⟩
      ((try refine zW ?_); (try with_reducible exact True.intro))
      by_cases hb : i < a.length
      · ((try refine zO ?_); (try with_reducible exact True.intro))
        (refine walk_trim [0, 1, 5] trivial zL ?_; (refine zW ?_; try with_reducible exact True.intro); refine irun_walk (id := 6) (n := 200) [none, none, none, none, none, none, none, none, none] mixed (by kernel_rfl) ?_)
        (try simp (disch := omega) only [go_sem, simprocAttr, if_pos, if_neg, w64, beqT, beqF, bneT, bneF, pr_get, ir_get, decide_eq_true, decide_eq_false, eII])
        by_cases hc : a[i] = b[i]
        · have h1 : (a[i].1 == b[i].1) = true := by rw [hc]; exact beq_self_eq_true _
          have h2 : (a[i].2 == b[i].2) = true := by rw [hc]; exact beq_self_eq_true _
          (try simp (disch := omega) only [go_sem, simprocAttr, if_pos, if_neg, w64, beqT, beqF, bneT, bneF, pr_get, ir_get, decide_eq_true, decide_eq_false, h1, h2])
          refine ⟨i + 1, ⟨hb, ?_⟩, by omega, ?_⟩
          · rw [List.take_succ_eq_append_getElem hb, List.take_succ_eq_append_getElem (by omega), he, hc]
          · constructor <;> ((try refine zW ?_); (try with_reducible exact True.intro))
        · have h1 : (a[i].1 == b[i].1 && a[i].2 == b[i].2) = false := by
            rw [Bool.and_eq_false_iff, beq_eq_false_iff_ne, beq_eq_false_iff_ne]
            by_cases e : a[i].1 = b[i].1
            · exact .inr fun e2 => hc (Prod.ext e e2)
            · exact .inl e
          (try simp (disch := omega) only [go_sem, simprocAttr, if_pos, if_neg, w64, beqT, beqF, bneT, bneF, pr_get, ir_get, decide_eq_true, decide_eq_false, h1])
          symm
          rw [beq_eq_false_iff_ne]
          rintro rfl
          exact hc rfl
      · ((try refine zO ?_); (try with_reducible exact True.intro))
        obtain rfl : i = a.length := by omega
        rw [List.take_length, hn, List.take_length] at he
        simp [he]
  · ((try refine zO ?_); (try with_reducible exact True.intro))
    symm
    rw [beq_eq_false_iff_ne]
    rintro rfl
    exact hn rfl
end Go.Proofs.GY
