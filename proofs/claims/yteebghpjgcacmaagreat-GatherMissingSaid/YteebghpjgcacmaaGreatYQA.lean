/- What a node may tell: the program's answer. -/
import Derived.Test.YteebghpjgcacmaaGreatYPD
import Derived.Test.YteebghpjgcacmaaGreatYX
set_option linter.unusedSimpArgs false
set_option linter.unusedVariables false
namespace Go.Proofs.GY
open Go Go.Idl Go.Proofs
set_option maxHeartbeats 20000000
set_option maxRecDepth 100000
def MsgP (last : Int) (x : Int × Int) : Prop := last < x.1 ∧ x.1 ≤ 500 ∧ 0 ≤ x.2 ∧ x.2 ≤ 3
def RisP : Int → List (Int × Int) → Prop
  | _, [] => True
  | last, x :: r => MsgP last x ∧ RisP x.1 r
def LetsP (l : List Int) : Prop := ∀ (j : Nat) (x : Int), j < l.length → l[j]? = some x → 0 ≤ x ∧ x ≤ 3
def ToldP (p : Pc) : Prop := 0 ≤ p.steps ∧ p.steps ≤ 2147483647 ∧ p.sent.length ≤ 5 ∧ p.inn.length ≤ 5 ∧ p.out.length ≤ 5 ∧ (∀ (j : Nat) (x : Int), j < p.sent.length → p.sent[j]? = some x → 0 ≤ x ∧ x ≤ 500) ∧ (∀ (j : Nat) (l : List (Int × Int)), j < p.inn.length → p.inn[j]? = some l → RisP 0 l) ∧ ∀ (j : Nat) (l : List Int), j < p.out.length → p.out[j]? = some l → l.length ≤ 500 ∧ LetsP l
def PieceP (p : Pc) : Prop := (0 ≤ p.node ∧ p.node ≤ 5) ∧ (0 ≤ p.state ∧ p.state ≤ 7) ∧ ToldP p

theorem pwithin_spec (n m : Int) : Pure Tryz.prog 94 [sci .i64 n, sci .i64 m] (scb (tB (0 ≤ n ∧ n ≤ m))) := by
  refine pcall0 200 (fn := Tryz.f94) Tryz.func94 rfl (by simp [Tryz.ntmps94]) zB zB fun hs => ?_
  ((try refine zW ?_); (try with_reducible exact True.intro))
  by_cases h1 : 0 ≤ n
  · by_cases h2 : n ≤ m
    · have e : tB (0 ≤ n ∧ n ≤ m) = true := tB_pos ⟨h1, h2⟩
      (try simp (disch := omega) only [go_sem, simprocAttr, if_pos, if_neg, w64, beqT, beqF, bneT, bneF, pr_get, ir_get, decide_eq_true, decide_eq_false, e])
    · have e : tB (0 ≤ n ∧ n ≤ m) = false := tB_neg fun q => h2 q.2
      (try simp (disch := omega) only [go_sem, simprocAttr, if_pos, if_neg, w64, beqT, beqF, bneT, bneF, pr_get, ir_get, decide_eq_true, decide_eq_false, e])
  · have e : tB (0 ≤ n ∧ n ≤ m) = false := tB_neg fun q => h1 q.1
    (try simp (disch := omega) only [go_sem, simprocAttr, if_pos, if_neg, w64, beqT, beqF, bneT, bneF, pr_get, ir_get, decide_eq_true, decide_eq_false, e])
theorem Right1_spec (n : Int) : Pure Tryz.prog 96 [sci .i64 n] (scb (!tB (0 ≤ n ∧ n ≤ 3))) := by
  refine pcall0 200 (fn := Tryz.f96) Tryz.func96 rfl (by simp [Tryz.ntmps96]) zB zB fun hs => ?_
  ((try refine zW ?_); (try with_reducible exact True.intro))
  (refine at_call 200 ?_; (refine zW ?_; try with_reducible exact True.intro); refine callA_of (pwithin_spec n 3) zB ?_; ((try refine zW ?_); (try with_reducible exact True.intro)))
  ((try refine zO ?_); (try with_reducible exact True.intro))
theorem rising_spec (l : List (Int × Int)) : Pure Tryz.prog 95 [lII l] (scb (tB (RisP 0 l))) := by
  refine pcall0 200 (fn := Tryz.f95) Tryz.func95 rfl (by simp [Tryz.ntmps95]) zB zB fun hs => ?_
  simp only [go_sem, simprocAttr, maxLen] at hs
  obtain ⟨ha, -⟩ := hs
  ((try refine zW ?_); (try with_reducible exact True.intro))
  (refine walk_trim [3, 6, 7, 8] trivial zL ?_; ((try refine zW ?_); (try with_reducible exact True.intro)))
  refine walk_loop 200 200 (fun s : Nat × Int => s.1 ≤ l.length ∧ (RisP s.2 (l.drop s.1) ↔ RisP 0 l)) (fun s => ⟨30, [(3, sci .i64 s.2), (6, lII l), (7, sci .i64 l.length), (8, sci .i64 s.1)], [], 0, []⟩) (fun s => l.length - s.1) (0, 0) ?_ ?_ ?_
  · simp
  · constructor <;> (try simp (disch := omega) only [go_sem, simprocAttr, if_pos, if_neg, w64, beqT, beqF, bneT, bneF, pr_get, ir_get, decide_eq_true, decide_eq_false, Int.natCast_zero])
  · rintro ⟨i, last⟩ ⟨h1, h2⟩
    simp only at h1 h2
    ((try refine zW ?_); (try with_reducible exact True.intro))
    by_cases hl : i < l.length
    · have e0 : l.drop i = l[i] :: l.drop (i + 1) := List.drop_eq_getElem_cons hl
      rw [e0] at h2
      (try simp (disch := omega) only [go_sem, simprocAttr, if_pos, if_neg, w64, beqT, beqF, bneT, bneF, pr_get, ir_get, decide_eq_true, decide_eq_false, eII])
      generalize l[i] = x at *
      obtain ⟨sq, lt⟩ := x
      have bad : ¬ MsgP last (sq, lt) → tB (RisP 0 l) = false := fun q => tB_neg fun h => q (h2.2 h).1
      by_cases g1 : sq ≤ last
      · have e := bad fun q => by have := q.1; simp only at this; omega
        (try simp (disch := omega) only [go_sem, simprocAttr, if_pos, if_neg, w64, beqT, beqF, bneT, bneF, pr_get, ir_get, decide_eq_true, decide_eq_false, g1, e])
      by_cases g2 : 500 < sq
      · have e := bad fun q => by have := q.2.1; simp only at this; omega
        (try simp (disch := omega) only [go_sem, simprocAttr, if_pos, if_neg, w64, beqT, beqF, bneT, bneF, pr_get, ir_get, decide_eq_true, decide_eq_false, g1, g2, e])
      (try simp (disch := omega) only [go_sem, simprocAttr, if_pos, if_neg, w64, beqT, beqF, bneT, bneF, pr_get, ir_get, decide_eq_true, decide_eq_false, g1, g2])
      (refine at_call 200 ?_; (refine zW ?_; try with_reducible exact True.intro); refine callA_of (pwithin_spec lt 3) zB ?_; ((try refine zW ?_); (try with_reducible exact True.intro)))
      by_cases g3 : 0 ≤ lt ∧ lt ≤ 3
      · have e : tB (0 ≤ lt ∧ lt ≤ 3) = true := tB_pos g3
        (try simp (disch := omega) only [go_sem, simprocAttr, if_pos, if_neg, w64, beqT, beqF, bneT, bneF, pr_get, ir_get, decide_eq_true, decide_eq_false, e])
        refine ⟨(i + 1, sq), ⟨hl, ⟨fun q => h2.1 ⟨⟨by simp only; omega, by simp only; omega, g3⟩, q⟩, fun q => (h2.2 q).2⟩⟩, by simp only; omega, ?_⟩
        constructor <;> ((try refine zO ?_); (try with_reducible exact True.intro))
      · have e : tB (0 ≤ lt ∧ lt ≤ 3) = false := tB_neg g3
        have e2 := bad fun q => g3 q.2.2
        (try simp (disch := omega) only [go_sem, simprocAttr, if_pos, if_neg, w64, beqT, beqF, bneT, bneF, pr_get, ir_get, decide_eq_true, decide_eq_false, e, e2])
    · obtain rfl : i = l.length := by omega
      have e : tB (RisP 0 l) = true := tB_pos (h2.1 (by rw [List.drop_length]; trivial))
      (try simp (disch := omega) only [go_sem, simprocAttr, if_pos, if_neg, w64, beqT, beqF, bneT, bneF, pr_get, ir_get, decide_eq_true, decide_eq_false, e])
end Go.Proofs.GY
