/- Tables: a state's waits, picks, and takes. -/
import Derived.Test.YteebghpjgcacmaaGreatYS
import Derived.Test.YteebghpjgcacmaaGreatYT0
set_option linter.unusedSimpArgs false
set_option linter.unusedVariables false
namespace Go.Proofs.GY
open Go Go.Idl Go.Proofs Go.GP
set_option maxHeartbeats 20000000
set_option maxRecDepth 100000
variable (s : St) (n st : Int) (ss : List St) (N : Int) (ls : List (Int × Int)) (hl : ls.length ≤ 1000000)
theorem letter_spec (a : Int) : Pure Tryz.prog 143 [sci .i64 a] (scb (tB (LetP a))) := by
  have e : tB (LetP a) = (decide (0 ≤ a) && decide (a < 4)) := by rw [← Bool.decide_and]; exact tB_dec (P := _ ∧ _)
  rw [e]
  refine pcall0 200 (fn := Tryz.f143) Tryz.func143 rfl (by simp [Tryz.ntmps143]) zB zB fun hs => ?_
  ((try refine zW ?_); (try with_reducible exact True.intro))
  by_cases h : 0 ≤ a
  · (try simp (disch := omega) only [go_sem, simprocAttr, if_pos, if_neg, w64, beqT, beqF, bneT, bneF, pr_get, ir_get, decide_eq_true, decide_eq_false, h])
  · (try simp (disch := omega) only [go_sem, simprocAttr, if_pos, if_neg, w64, beqT, beqF, bneT, bneF, pr_get, ir_get, decide_eq_true, decide_eq_false, h])
theorem pstate_spec (a : Int) : Pure Tryz.prog 144 [.agg [sci .i64 s.mode, lI s.waits, .p (.imm 2 (pr ePk s.picks)), .p (.imm 3 (pr eIII s.takes)), sci .i64 n, sci .i64 st, .p (.imm 4 (pr eSt ss)), sci .i64 N, lII ls], sci .i64 a] (scb (tB (StaP ss.length a))) := by
  have e : tB (StaP ss.length a) = (decide (0 ≤ a) && decide (a < ss.length)) := by rw [← Bool.decide_and]; exact tB_dec (P := _ ∧ _)
  rw [e]
  refine pcall0 200 (fn := Tryz.f144) Tryz.func144 rfl (by simp [Tryz.ntmps144]) zB zB fun hs => ?_
  ((try refine zW ?_); (try with_reducible exact True.intro))
  by_cases h : 0 ≤ a
  · (try simp (disch := omega) only [go_sem, simprocAttr, if_pos, if_neg, w64, beqT, beqF, bneT, bneF, pr_get, ir_get, decide_eq_true, decide_eq_false, h])
  · (try simp (disch := omega) only [go_sem, simprocAttr, if_pos, if_neg, w64, beqT, beqF, bneT, bneF, pr_get, ir_get, decide_eq_true, decide_eq_false, h])
include hl in
theorem pin_spec (a : Int) : Pure Tryz.prog 141 [.agg [sci .i64 s.mode, lI s.waits, .p (.imm 2 (pr ePk s.picks)), .p (.imm 3 (pr eIII s.takes)), sci .i64 n, sci .i64 st, .p (.imm 4 (pr eSt ss)), sci .i64 N, lII ls], sci .i64 a] (scb (tB ((a, n) ∈ ls))) := by
  refine pcall0 200 (fn := Tryz.f141) Tryz.func141 rfl (by simp [Tryz.ntmps141]) zB zB fun hs => ?_
  ((try refine zW ?_); (try with_reducible exact True.intro))
  (refine at_call 200 ?_; (refine zW ?_; try with_reducible exact True.intro); refine callA_of (Find_spec _ _ _ _ hl) zB ?_; ((try refine zW ?_); (try with_reducible exact True.intro)))
  (try simp only [go_sem, simprocAttr, inB_eq])
theorem mode_spec : Pure Tryz.prog 124 [.p (.rp [.sc (.int .i64 s.mode), .imm 1 (pr eI s.waits), .imm 2 (pr ePk s.picks), .imm 3 (pr eIII s.takes), .sc (.int .i64 n), .sc (.int .i64 st), .imm 4 (pr eSt ss), .sc (.int .i64 N), .imm 2 (pr eII ls)])] (scb (tB (ModeP s))) := by
  have e : tB (ModeP s) = (decide (0 ≤ s.mode) && decide (s.mode < 3)) := by rw [← Bool.decide_and]; exact tB_dec (P := _ ∧ _)
  rw [e]
  refine pcall0 200 (fn := Tryz.f124) Tryz.func124 rfl (by simp [Tryz.ntmps124]) zB zB fun hs => ?_
  ((try refine zW ?_); (try with_reducible exact True.intro))
  by_cases h : 0 ≤ s.mode
  · (try simp (disch := omega) only [go_sem, simprocAttr, if_pos, if_neg, w64, beqT, beqF, bneT, bneF, pr_get, ir_get, decide_eq_true, decide_eq_false, h])
  · (try simp (disch := omega) only [go_sem, simprocAttr, if_pos, if_neg, w64, beqT, beqF, bneT, bneF, pr_get, ir_get, decide_eq_true, decide_eq_false, h])
include hl in
theorem bad_spec (x : Int × Int) : Pure Tryz.prog 142 [.agg [sci .i64 x.1, sci .i64 x.2], .p (.rp [.sc (.int .i64 s.mode), .imm 1 (pr eI s.waits), .imm 2 (pr ePk s.picks), .imm 3 (pr eIII s.takes), .sc (.int .i64 n), .sc (.int .i64 st), .imm 4 (pr eSt ss), .sc (.int .i64 N), .imm 2 (pr eII ls)])] (scb (!tB ((n, x.1) ∈ ls ∧ LetP x.2))) := by
  refine pcall0 200 (fn := Tryz.f142) Tryz.func142 rfl (by simp [Tryz.ntmps142]) zB zB fun hs => ?_
  ((try refine zW ?_); (try with_reducible exact True.intro))
  (refine at_call 200 ?_; (refine zW ?_; try with_reducible exact True.intro); refine callA_of (Find_spec _ _ _ _ hl) zB ?_; ((try refine zW ?_); (try with_reducible exact True.intro)))
  by_cases h : (n, x.1) ∈ ls
  · have e : 0 ≤ findL n x.1 0 ls := findL_mem.2 h
    (try simp (disch := omega) only [go_sem, simprocAttr, if_pos, if_neg, w64, beqT, beqF, bneT, bneF, pr_get, ir_get, decide_eq_true, decide_eq_false, e])
    (refine at_call 200 ?_; (refine zW ?_; try with_reducible exact True.intro); refine callA_of (letter_spec x.2) zB ?_; ((try refine zW ?_); (try with_reducible exact True.intro)))
    have e2 : tB ((n, x.1) ∈ ls ∧ LetP x.2) = tB (LetP x.2) := tB_congr ⟨fun q => q.2, fun q => ⟨h, q⟩⟩
    (try simp (disch := omega) only [go_sem, simprocAttr, if_pos, if_neg, w64, beqT, beqF, bneT, bneF, pr_get, ir_get, decide_eq_true, decide_eq_false, e2])
  · have e : ¬ 0 ≤ findL n x.1 0 ls := fun q => h (findL_mem.1 q)
    have e2 : tB ((n, x.1) ∈ ls ∧ LetP x.2) = false := tB_neg fun q => h q.1
    (try simp (disch := omega) only [go_sem, simprocAttr, if_pos, if_neg, w64, beqT, beqF, bneT, bneF, pr_get, ir_get, decide_eq_true, decide_eq_false, e, e2])
theorem twice_spec (x t : Int × Int × Int) : Pure Tryz.prog 146 [.agg [sci .i64 x.1, sci .i64 x.2.1, sci .i64 x.2.2], .p (.rp [.sc (.int .i64 t.1), .sc (.int .i64 t.2.1), .sc (.int .i64 t.2.2)])] (scb (tB (x.1 = t.1 ∧ x.2.1 = t.2.1))) := by
  generalize e0 : tB (x.1 = t.1 ∧ x.2.1 = t.2.1) = r
  refine pcall0 200 (fn := Tryz.f146) Tryz.func146 rfl (by simp [Tryz.ntmps146]) zB zB fun hs => ?_
  ((try refine zW ?_); (try with_reducible exact True.intro))
  by_cases h1 : x.1 = t.1
  · by_cases h2 : x.2.1 = t.2.1
    · have e : r = true := by rw [← e0]; exact tB_pos ⟨h1, h2⟩
      (try simp (disch := omega) only [go_sem, simprocAttr, if_pos, if_neg, w64, beqT, beqF, bneT, bneF, pr_get, ir_get, decide_eq_true, decide_eq_false, h1, h2, e])
    · have e : r = false := by rw [← e0]; exact tB_neg fun q => h2 q.2
      (try simp (disch := omega) only [go_sem, simprocAttr, if_pos, if_neg, w64, beqT, beqF, bneT, bneF, pr_get, ir_get, decide_eq_true, decide_eq_false, h1, h2, e])
  · have e : r = false := by rw [← e0]; exact tB_neg fun q => h1 q.1
    (try simp (disch := omega) only [go_sem, simprocAttr, if_pos, if_neg, w64, beqT, beqF, bneT, bneF, pr_get, ir_get, decide_eq_true, decide_eq_false, h1, e])
end Go.Proofs.GY
