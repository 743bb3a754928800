/- Pieces joined. -/
import Derived.Test.YteebghpjgcacmaaGJ
import Derived.Test.YteebghpjgcacmaaIdGr
set_option linter.unusedSimpArgs false
set_option linter.unusedVariables false
namespace Go.Proofs.GR
open Go Go.Idl Go.Proofs Go.GN
set_option maxHeartbeats 20000000
set_option maxRecDepth 100000
abbrev zrow : List IV := [sci .i64 0, sci .i64 0, sci .i64 0, .p (.sc (.slice none 0 0)), .p (.sc (.slice none 0 0)), .p (.sc (.slice none 0 0))]
@[go_sem] theorem rowsBel_zrow {n k : Nat} : rowsBel n (List.replicate k zrow) = True := by
  refine eq_true ((rowsBel_iff n _).2 fun row h => ?_)
  rw [List.eq_of_mem_replicate h]
  exact bels_p n [.sc (.int .i64 0), .sc (.int .i64 0), .sc (.int .i64 0), .sc (.slice none 0 0), .sc (.slice none 0 0), .sc (.slice none 0 0)]
@[go_sem] theorem rnRw_zrow {ρ : Nat → Nat} {k : Nat} : rnRw ρ (List.replicate k zrow) = List.replicate k zrow := by
  induction k with
  | zero => rfl
  | succ k ih => rw [List.replicate_succ]; show rnms ρ zrow :: rnRw ρ (List.replicate k zrow) = _; rw [ih]; rfl
attribute [go_sem] fcap
theorem Grow_spec (n : Nat) (h1 : 1 ≤ n) (hn : n ≤ 1000) : PG Try.prog 26 [.p (.sc (.slice none 0 0)), sci .i64 (n : Int)] [] 1 (.ref 0 0 0 0) [(0, .arr 6 0 (List.replicate n zrow))] := by
  
  refine pg_of 200 (fn := Try.f26) Try.func26 rfl (by simp [Try.ntmps26]) 0 rfl zC zC zC zC zC fun hs => ?_
  ((try refine zW ?_); (try with_reducible exact True.intro))
  ((try refine zO ?_); (try with_reducible exact True.intro))
  refine ⟨[0], ⟨rfl, ⟨by decide, trivial⟩, trivial, trivial⟩, rfl, ?_⟩
  (try simp (maxSteps := 2000000) only [go_sem, simprocAttr, List.getD_cons_zero, zrow])
abbrev lPP (a b : List Pc) : IV := .p (.imm 1 [[.imm 6 (pr ePc a)], [.imm 6 (pr ePc b)]])
def sumP (a b : List Pc) (i : Nat) : Nat := if i = 0 then 0 else if i = 1 then a.length else a.length + b.length
theorem Concat_spec (a b : List Pc) (hn : a.length + b.length ≤ 1000) (h1 : 1 ≤ a.length + b.length) :
    PG Try.prog 11 [lPP a b] [] 1 (.ref 0 2 0 (a ++ b).length) [(0, pB 2 (a ++ b))] := by
  
  refine pg_of 200 (fn := Try.f11) Try.func11 rfl (by simp [Try.ntmps11]) 0 rfl zC zC zC zC zC fun hs => ?_
  ((try refine zW ?_); (try with_reducible exact True.intro))
  refine walk_loop 200 200 (fun i : Nat => i ≤ 2) (fun i => ⟨36, [(0, lPP a b), (3, sci .i64 (sumP a b i : Int)), (9, lPP a b), (10, sci .i64 2), (11, sci .i64 (i : Int))], [], 0, []⟩) (fun i => 2 - i) 0 (by omega) ?_ ?_
  · constructor <;> (try simp (maxSteps := 2000000) (disch := omega) only [go_sem, simprocAttr, if_pos, if_neg, w64, beqT, beqF, bneT, bneF, pr_get, ir_get, decide_eq_true, decide_eq_false, sumP, Int.natCast_zero])
  · intro i hi
    ((try refine zW ?_); (try with_reducible exact True.intro))
    have h3 : i = 0 ∨ i = 1 ∨ i = 2 := by omega
    rcases h3 with rfl | rfl | rfl
    · (try simp (maxSteps := 2000000) (disch := omega) only [go_sem, simprocAttr, if_pos, if_neg, w64, beqT, beqF, bneT, bneF, pr_get, ir_get, decide_eq_true, decide_eq_false, sumP, Int.natCast_zero, Int.natCast_one])
      have c1 : ¬ ((a.length : Int) < 0) := by omega
      (try simp (maxSteps := 2000000) (disch := omega) only [go_sem, simprocAttr, if_pos, if_neg, w64, beqT, beqF, bneT, bneF, pr_get, ir_get, decide_eq_true, decide_eq_false, c1])
      refine ⟨1, by omega, by omega, ?_⟩
      constructor <;> (try simp (maxSteps := 2000000) (disch := omega) only [go_sem, simprocAttr, if_pos, if_neg, w64, beqT, beqF, bneT, bneF, pr_get, ir_get, decide_eq_true, decide_eq_false, sumP, Int.natCast_one])
    · (try simp (maxSteps := 2000000) (disch := omega) only [go_sem, simprocAttr, if_pos, if_neg, w64, beqT, beqF, bneT, bneF, pr_get, ir_get, decide_eq_true, decide_eq_false, sumP, Int.natCast_one])
      have c1 : ¬ ((a.length : Int) + (b.length : Int) < 0) := by omega
      (try simp (maxSteps := 2000000) (disch := omega) only [go_sem, simprocAttr, if_pos, if_neg, w64, beqT, beqF, bneT, bneF, pr_get, ir_get, decide_eq_true, decide_eq_false, c1])
      refine ⟨2, by omega, by omega, ?_⟩
      constructor <;> (try simp (maxSteps := 2000000) (disch := omega) only [go_sem, simprocAttr, if_pos, if_neg, w64, beqT, beqF, bneT, bneF, pr_get, ir_get, decide_eq_true, decide_eq_false, sumP, Int.natCast_add])
    · have e2 : ((2 : Nat) : Int) = 2 := rfl
      (try simp (maxSteps := 2000000) (disch := omega) only [go_sem, simprocAttr, if_pos, if_neg, w64, beqT, beqF, bneT, bneF, pr_get, ir_get, decide_eq_true, decide_eq_false, sumP, e2])
      (refine at_gr 200 ?_; (refine zW ?_; try with_reducible exact True.intro); refine callG_of [] (Grow_spec (a.length + b.length) h1 hn) zU ?_; ((try refine zW ?_); (try with_reducible exact True.intro)))
      ((try refine zO ?_); (try with_reducible exact True.intro))
      (refine walk_trim [6, 25, 26, 27] trivial zL ?_; ((try refine zW ?_); (try with_reducible exact True.intro)))
      refine walk_loop 200 200 (fun i : Nat => i ≤ 2) (fun i => ⟨36, [(6, .ref 0 i 0 (sumP a b i)), (25, lPP a b), (26, sci .i64 2), (27, sci .i64 (i : Int))], [], 1,
        [(0, .arr 6 i (if i = 0 then List.replicate (a.length + b.length) zrow else if i = 1 then ir ePc a else ir ePc (a ++ b)))]⟩) (fun i => 2 - i) 0 (by omega) ?_ ?_
      · constructor <;> (try simp (maxSteps := 2000000) (disch := omega) only [go_sem, simprocAttr, if_pos, if_neg, w64, beqT, beqF, bneT, bneF, pr_get, ir_get, decide_eq_true, decide_eq_false, sumP, Int.natCast_zero, zrow])
      · clear hi
        intro i hi
        ((try refine zW ?_); (try with_reducible exact True.intro))
        have h3 : i = 0 ∨ i = 1 ∨ i = 2 := by omega
        rcases h3 with rfl | rfl | rfl
        · (try simp (maxSteps := 2000000) (disch := omega) only [go_sem, simprocAttr, if_pos, if_neg, w64, beqT, beqF, bneT, bneF, pr_get, ir_get, decide_eq_true, decide_eq_false, sumP, Int.natCast_zero, Int.natCast_one])
          refine ⟨1, by omega, by omega, ?_⟩
          constructor <;> (try simp (maxSteps := 2000000) (disch := omega) only [go_sem, simprocAttr, if_pos, if_neg, w64, beqT, beqF, bneT, bneF, pr_get, ir_get, decide_eq_true, decide_eq_false, sumP, Int.natCast_one])
        · (try simp (maxSteps := 2000000) (disch := omega) only [go_sem, simprocAttr, if_pos, if_neg, w64, beqT, beqF, bneT, bneF, pr_get, ir_get, decide_eq_true, decide_eq_false, sumP, Int.natCast_one])
          refine ⟨2, by omega, by omega, ?_⟩
          have e3 : ir ePc a ++ ir ePc b = ir ePc (a ++ b) := by simp [ir]
          constructor <;> (try simp (maxSteps := 2000000) (disch := omega) only [go_sem, simprocAttr, if_pos, if_neg, w64, beqT, beqF, bneT, bneF, pr_get, ir_get, decide_eq_true, decide_eq_false, sumP, e3])
        · (try simp (maxSteps := 2000000) (disch := omega) only [go_sem, simprocAttr, if_pos, if_neg, w64, beqT, beqF, bneT, bneF, pr_get, ir_get, decide_eq_true, decide_eq_false, sumP, e2])
          refine ⟨[0], ⟨rfl, ⟨by decide, trivial⟩, trivial, trivial⟩, ?_⟩
          (try simp (maxSteps := 2000000) only [go_sem, simprocAttr, List.getD_cons_zero])
theorem Grow0_spec : PG Try.prog 26 [.p (.sc (.slice none 0 0)), sci .i64 0] [] 0 (.p (.sc (.slice none 0 0))) [] := by
  
  refine pg_of 200 (fn := Try.f26) Try.func26 rfl (by simp [Try.ntmps26]) 0 rfl zC zC zC zC zC fun hs => ?_
  ((try refine zO ?_); (try with_reducible exact True.intro))
theorem Concat0_spec : PG Try.prog 11 [lPP [] []] [] 1 (.ref 0 1 0 0) [(0, pB 1 [])] := by
  
  refine pg_of 200 (fn := Try.f11) Try.func11 rfl (by simp [Try.ntmps11]) 0 rfl zC zC zC zC zC fun hs => ?_
  ((try refine zW ?_); (try with_reducible exact True.intro))
  refine walk_loop 200 200 (fun i : Nat => i ≤ 2) (fun i => ⟨36, [(0, lPP [] []), (3, sci .i64 0), (9, lPP [] []), (10, sci .i64 2), (11, sci .i64 (i : Int))], [], 0, []⟩) (fun i => 2 - i) 0 (by omega) ?_ ?_
  · constructor <;> (try simp (maxSteps := 2000000) (disch := omega) only [go_sem, simprocAttr, if_pos, if_neg, w64, beqT, beqF, bneT, bneF, pr_get, ir_get, decide_eq_true, decide_eq_false, Int.natCast_zero])
  · intro i hi
    ((try refine zW ?_); (try with_reducible exact True.intro))
    have h3 : i = 0 ∨ i = 1 ∨ i = 2 := by omega
    rcases h3 with rfl | rfl | rfl
    · (try simp (maxSteps := 2000000) (disch := omega) only [go_sem, simprocAttr, if_pos, if_neg, w64, beqT, beqF, bneT, bneF, pr_get, ir_get, decide_eq_true, decide_eq_false, Int.natCast_zero, Int.natCast_one, pr_nil])
      refine ⟨1, by omega, by omega, ?_⟩
      constructor <;> (try simp (maxSteps := 2000000) (disch := omega) only [go_sem, simprocAttr, if_pos, if_neg, w64, beqT, beqF, bneT, bneF, pr_get, ir_get, decide_eq_true, decide_eq_false, Int.natCast_one])
    · (try simp (maxSteps := 2000000) (disch := omega) only [go_sem, simprocAttr, if_pos, if_neg, w64, beqT, beqF, bneT, bneF, pr_get, ir_get, decide_eq_true, decide_eq_false, Int.natCast_one, pr_nil])
      refine ⟨2, by omega, by omega, ?_⟩
      have e2 : ((2 : Nat) : Int) = 2 := rfl
      constructor <;> (try simp (maxSteps := 2000000) (disch := omega) only [go_sem, simprocAttr, if_pos, if_neg, w64, beqT, beqF, bneT, bneF, pr_get, ir_get, decide_eq_true, decide_eq_false, e2])
    · have e2 : ((2 : Nat) : Int) = 2 := rfl
      (try simp (maxSteps := 2000000) (disch := omega) only [go_sem, simprocAttr, if_pos, if_neg, w64, beqT, beqF, bneT, bneF, pr_get, ir_get, decide_eq_true, decide_eq_false, e2])
      (refine at_gr 200 ?_; (refine zW ?_; try with_reducible exact True.intro); refine callG_of [] (Grow0_spec) zU ?_; ((try refine zW ?_); (try with_reducible exact True.intro)))
      ((try refine zO ?_); (try with_reducible exact True.intro))
      (refine walk_trim [6, 25, 26, 27] trivial zL ?_; ((try refine zW ?_); (try with_reducible exact True.intro)))
      refine walk_loop 200 200 (fun i : Nat => i ≤ 2) (fun i => ⟨36, [(6, if i = 0 then .p (.sc (.slice none 0 0)) else .ref 0 (i - 1) 0 0), (25, lPP [] []), (26, sci .i64 2), (27, sci .i64 (i : Int))], [], if i = 0 then 0 else 1,
        if i = 0 then [] else [(0, .arr 6 (i - 1) [])]⟩) (fun i => 2 - i) 0 (by omega) ?_ ?_
      · constructor <;> (try simp (maxSteps := 2000000) (disch := omega) only [go_sem, simprocAttr, if_pos, if_neg, w64, beqT, beqF, bneT, bneF, pr_get, ir_get, decide_eq_true, decide_eq_false, Int.natCast_zero])
      · clear hi
        intro i hi
        have h3 : i = 0 ∨ i = 1 ∨ i = 2 := by omega
        rcases h3 with rfl | rfl | rfl
        · (try simp (maxSteps := 2000000) (disch := omega) only [go_sem, simprocAttr, if_pos, if_neg, w64, beqT, beqF, bneT, bneF, pr_get, ir_get, decide_eq_true, decide_eq_false, Int.natCast_zero, Int.natCast_one])
          refine ⟨1, by omega, by omega, ?_⟩
          constructor <;> (try simp (maxSteps := 2000000) (disch := omega) only [go_sem, simprocAttr, if_pos, if_neg, w64, beqT, beqF, bneT, bneF, pr_get, ir_get, decide_eq_true, decide_eq_false, Int.natCast_one])
        · (try simp (maxSteps := 2000000) (disch := omega) only [go_sem, simprocAttr, if_pos, if_neg, w64, beqT, beqF, bneT, bneF, pr_get, ir_get, decide_eq_true, decide_eq_false, Int.natCast_one])
          refine ⟨2, by omega, by omega, ?_⟩
          constructor <;> (try simp (maxSteps := 2000000) (disch := omega) only [go_sem, simprocAttr, if_pos, if_neg, w64, beqT, beqF, bneT, bneF, pr_get, ir_get, decide_eq_true, decide_eq_false, e2])
        · (try simp (maxSteps := 2000000) (disch := omega) only [go_sem, simprocAttr, if_pos, if_neg, w64, beqT, beqF, bneT, bneF, pr_get, ir_get, decide_eq_true, decide_eq_false, e2])
          refine ⟨[0], ⟨rfl, ⟨by decide, trivial⟩, trivial, trivial⟩, ?_⟩
          (try simp (maxSteps := 2000000) only [go_sem, simprocAttr, List.getD_cons_zero])
end Go.Proofs.GR
