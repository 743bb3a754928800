/- Tables: what a state waits for, picks, and takes. -/
import Derived.Test.YtoiledoommblcaaGreatZT
set_option linter.unusedSimpArgs false
set_option linter.unusedVariables false
namespace Go.Proofs.TZ
open Go Go.Idl Go.Proofs Go.GP
open Nat renaming reducePow → kA, reduceEqDiff → kB, reduceAdd → kC, reduceSub → kD, reduceMul → kE, reduceMod → kF, reduceLeDiff → kG, reduceLT → kH, reduceBEq → kI, reduceBNe → kJ
open Int renaming reduceLT → kK, reduceLE → kL, reduceToNat → kM, reduceNeg → kN, reduceAdd → kO, reduceSub → kP, reduceMul → kQ, reduceBEq → kR, reduceBNe → kS, reduceEq → kT
set_option maxHeartbeats 20000000
set_option maxRecDepth 100000
def firstB {α : Type} (f : α → Bool) : Nat → List α → Int
  | _, [] => -1
  | i, x :: r => if f x = true then i else firstB f (i + 1) r
theorem firstB_iff {α : Type} {f : α → Bool} : ∀ {l : List α} {i : Nat}, 0 ≤ firstB f i l ↔ ∃ x ∈ l, f x = true
  | [], i => by simp [firstB]
  | x :: r, i => by
    unfold firstB
    split
    · rename_i e; simp [e]
    · rename_i e; rw [firstB_iff]; simp [e]
variable (s : St) (n st : Int) (ss : List St) (N : Int) (ls : List (Int × Int)) (hl : ls.length ≤ 1000000)
include hl in
theorem idxSends_spec (l : List (Int × Int)) (hk : l.length ≤ 1000000) : Pure Tryz.prog 117 [lII l, .clo (.func 105) [] [.p (.rp [.sc (.int .i64 s.mode), .imm 1 (pr eI s.waits), .imm 2 (pr ePk s.picks), .imm 3 (pr eIII s.takes), .sc (.int .i64 n), .sc (.int .i64 st), .imm 4 (pr eSt ss), .sc (.int .i64 N), .imm 2 (pr eII ls)])]]
    (sci .i64 (firstB (fun x => !tB ((n, x.1) ∈ ls ∧ LetP x.2)) 0 l)) := by
  refine pcall0 200 (fn := Tryz.f117) Tryz.func117 rfl (by simp [Tryz.ntmps117]) (by first | trivial | (simp only [go_sem, ↓reduceIte, ↓reduceDIte, reduceCtorEq, kA, kB, kC, kD, kE, kF, kG, kH, kI, kJ, kK, kL, kM, kN, kO, kP, kQ, kR, kS, kT, Tryz.ntmps117, Tryz.results117]; done) | (split <;> simp only [go_sem, ↓reduceIte, ↓reduceDIte, reduceCtorEq, kA, kB, kC, kD, kE, kF, kG, kH, kI, kJ, kK, kL, kM, kN, kO, kP, kQ, kR, kS, kT, Tryz.ntmps117, Tryz.results117])) (by first | trivial | (simp only [go_sem, ↓reduceIte, ↓reduceDIte, reduceCtorEq, kA, kB, kC, kD, kE, kF, kG, kH, kI, kJ, kK, kL, kM, kN, kO, kP, kQ, kR, kS, kT, Tryz.ntmps117, Tryz.results117]; done) | (split <;> simp only [go_sem, ↓reduceIte, ↓reduceDIte, reduceCtorEq, kA, kB, kC, kD, kE, kF, kG, kH, kI, kJ, kK, kL, kM, kN, kO, kP, kQ, kR, kS, kT, Tryz.ntmps117, Tryz.results117])) fun hs => ?_
  (try simp only [go_sem, ↓reduceIte, ↓reduceDIte, reduceCtorEq, kA, kB, kC, kD, kE, kF, kG, kH, kI, kJ, kK, kL, kM, kN, kO, kP, kQ, kR, kS, kT, Tryz.ntmps117, Tryz.results117])
  refine walk_floop 200 200 (fun i : Nat => i ≤ l.length ∧ firstB (fun x => !tB ((n, x.1) ∈ ls ∧ LetP x.2)) i (l.drop i) = firstB (fun x => !tB ((n, x.1) ∈ ls ∧ LetP x.2)) 0 l)
    (fun i => ⟨19, [(0, lII l), (1, .clo (.func 105) [] [.p (.rp [.sc (.int .i64 s.mode), .imm 1 (pr eI s.waits), .imm 2 (pr ePk s.picks), .imm 3 (pr eIII s.takes), .sc (.int .i64 n), .sc (.int .i64 st), .imm 4 (pr eSt ss), .sc (.int .i64 N), .imm 2 (pr eII ls)])]), (7, sci .i64 l.length), (8, sci .i64 i)], [], 0, []⟩) (fun i => l.length - i) (0) [] ?_ ?_ ?_
  · simp
  · constructor <;> (try simp (disch := omega) only [go_sem, ↓reduceIte, ↓reduceDIte, reduceCtorEq, kA, kB, kC, kD, kE, kF, kG, kH, kI, kJ, kK, kL, kM, kN, kO, kP, kQ, kR, kS, kT, if_pos, if_neg, w64, beqT, beqF, bneT, bneF, pr_get, ir_get, decide_eq_true, decide_eq_false, Tryz.ntmps117, Tryz.results117, Int.natCast_zero, List.take_of_length_le, List.append_assoc])
  · rintro i hi
    obtain ⟨hi, hinvi⟩ := hi
    (try simp only [go_sem, ↓reduceIte, ↓reduceDIte, reduceCtorEq, kA, kB, kC, kD, kE, kF, kG, kH, kI, kJ, kK, kL, kM, kN, kO, kP, kQ, kR, kS, kT, Tryz.ntmps117, Tryz.results117])
    by_cases li : i < l.length
    · rw [drop_cons li, firstB] at hinvi
      (try simp (disch := omega) only [go_sem, ↓reduceIte, ↓reduceDIte, reduceCtorEq, kA, kB, kC, kD, kE, kF, kG, kH, kI, kJ, kK, kL, kM, kN, kO, kP, kQ, kR, kS, kT, if_pos, if_neg, w64, beqT, beqF, bneT, bneF, pr_get, ir_get, decide_eq_true, decide_eq_false, Tryz.ntmps117, Tryz.results117, eII])
      (refine at_call 200 ?_; simp only [go_sem, ↓reduceIte, ↓reduceDIte, reduceCtorEq, kA, kB, kC, kD, kE, kF, kG, kH, kI, kJ, kK, kL, kM, kN, kO, kP, kQ, kR, kS, kT, Tryz.ntmps117, Tryz.results117]; refine callA_of (bad_spec s n st ss N ls hl l[i]) (by first | trivial | (simp only [go_sem, ↓reduceIte, ↓reduceDIte, reduceCtorEq, kA, kB, kC, kD, kE, kF, kG, kH, kI, kJ, kK, kL, kM, kN, kO, kP, kQ, kR, kS, kT, Tryz.ntmps117, Tryz.results117]; done) | (split <;> simp only [go_sem, ↓reduceIte, ↓reduceDIte, reduceCtorEq, kA, kB, kC, kD, kE, kF, kG, kH, kI, kJ, kK, kL, kM, kN, kO, kP, kQ, kR, kS, kT, Tryz.ntmps117, Tryz.results117])) ?_; try simp only [go_sem, ↓reduceIte, ↓reduceDIte, reduceCtorEq, kA, kB, kC, kD, kE, kF, kG, kH, kI, kJ, kK, kL, kM, kN, kO, kP, kQ, kR, kS, kT, Tryz.ntmps117, Tryz.results117])
      cases e : tB ((n, l[i].1) ∈ ls ∧ LetP l[i].2)
      · simp only [e, Bool.not_false, if_true] at hinvi
        (try simp (disch := omega) only [go_sem, ↓reduceIte, ↓reduceDIte, reduceCtorEq, kA, kB, kC, kD, kE, kF, kG, kH, kI, kJ, kK, kL, kM, kN, kO, kP, kQ, kR, kS, kT, if_pos, if_neg, w64, beqT, beqF, bneT, bneF, pr_get, ir_get, decide_eq_true, decide_eq_false, Tryz.ntmps117, Tryz.results117, ← hinvi])
      · simp only [e, Bool.not_true, Bool.false_eq_true, if_false] at hinvi
        (try simp (disch := omega) only [go_sem, ↓reduceIte, ↓reduceDIte, reduceCtorEq, kA, kB, kC, kD, kE, kF, kG, kH, kI, kJ, kK, kL, kM, kN, kO, kP, kQ, kR, kS, kT, if_pos, if_neg, w64, beqT, beqF, bneT, bneF, pr_get, ir_get, decide_eq_true, decide_eq_false, Tryz.ntmps117, Tryz.results117])
        refine ⟨i + 1, [], ⟨by first | assumption | omega, hinvi⟩, ?_, ?_⟩
        · (try simp only []); omega
        · constructor <;> (try simp (disch := omega) only [go_sem, ↓reduceIte, ↓reduceDIte, reduceCtorEq, kA, kB, kC, kD, kE, kF, kG, kH, kI, kJ, kK, kL, kM, kN, kO, kP, kQ, kR, kS, kT, if_pos, if_neg, w64, beqT, beqF, bneT, bneF, pr_get, ir_get, decide_eq_true, decide_eq_false, Tryz.ntmps117, Tryz.results117, List.append_assoc])
    · obtain rfl : i = l.length := by omega
      rw [List.drop_length] at hinvi
      (try simp (disch := omega) only [go_sem, ↓reduceIte, ↓reduceDIte, reduceCtorEq, kA, kB, kC, kD, kE, kF, kG, kH, kI, kJ, kK, kL, kM, kN, kO, kP, kQ, kR, kS, kT, if_pos, if_neg, w64, beqT, beqF, bneT, bneF, pr_get, ir_get, decide_eq_true, decide_eq_false, Tryz.ntmps117, Tryz.results117, ← hinvi, firstB])
include hl in
theorem hasSends_spec (l : List (Int × Int)) (hk : l.length ≤ 1000000) : Pure Tryz.prog 109 [lII l, .clo (.func 105) [] [.p (.rp [.sc (.int .i64 s.mode), .imm 1 (pr eI s.waits), .imm 2 (pr ePk s.picks), .imm 3 (pr eIII s.takes), .sc (.int .i64 n), .sc (.int .i64 st), .imm 4 (pr eSt ss), .sc (.int .i64 N), .imm 2 (pr eII ls)])]]
    (scb (!tB (SendsP ls n l))) := by
  have e : decide (0 ≤ firstB (fun x => !tB ((n, x.1) ∈ ls ∧ LetP x.2)) 0 l) = !tB (SendsP ls n l) := by
    rw [tB_not, ← tB_dec]
    refine tB_congr ?_
    rw [firstB_iff]
    constructor
    · rintro ⟨x, hx, h⟩ q
      obtain ⟨j, hj, rfl⟩ := List.getElem_of_mem hx
      have := q j _ (List.getElem?_eq_getElem hj)
      rw [tB_pos this] at h; cases h
    · intro h
      refine Classical.byContradiction fun q => h fun j x hx => ?_
      have hm : x ∈ l := List.mem_of_getElem? hx
      refine Classical.byContradiction fun q2 => q ⟨x, hm, ?_⟩
      rw [tB_neg q2]; rfl
  refine pcall0 200 (fn := Tryz.f109) Tryz.func109 rfl (by simp [Tryz.ntmps109]) (by first | trivial | (simp only [go_sem, ↓reduceIte, ↓reduceDIte, reduceCtorEq, kA, kB, kC, kD, kE, kF, kG, kH, kI, kJ, kK, kL, kM, kN, kO, kP, kQ, kR, kS, kT, Tryz.ntmps109, Tryz.results109]; done) | (split <;> simp only [go_sem, ↓reduceIte, ↓reduceDIte, reduceCtorEq, kA, kB, kC, kD, kE, kF, kG, kH, kI, kJ, kK, kL, kM, kN, kO, kP, kQ, kR, kS, kT, Tryz.ntmps109, Tryz.results109])) (by first | trivial | (simp only [go_sem, ↓reduceIte, ↓reduceDIte, reduceCtorEq, kA, kB, kC, kD, kE, kF, kG, kH, kI, kJ, kK, kL, kM, kN, kO, kP, kQ, kR, kS, kT, Tryz.ntmps109, Tryz.results109]; done) | (split <;> simp only [go_sem, ↓reduceIte, ↓reduceDIte, reduceCtorEq, kA, kB, kC, kD, kE, kF, kG, kH, kI, kJ, kK, kL, kM, kN, kO, kP, kQ, kR, kS, kT, Tryz.ntmps109, Tryz.results109])) fun hs => ?_
  (try simp only [go_sem, ↓reduceIte, ↓reduceDIte, reduceCtorEq, kA, kB, kC, kD, kE, kF, kG, kH, kI, kJ, kK, kL, kM, kN, kO, kP, kQ, kR, kS, kT, Tryz.ntmps109, Tryz.results109])
  (refine at_call 200 ?_; simp only [go_sem, ↓reduceIte, ↓reduceDIte, reduceCtorEq, kA, kB, kC, kD, kE, kF, kG, kH, kI, kJ, kK, kL, kM, kN, kO, kP, kQ, kR, kS, kT, Tryz.ntmps109, Tryz.results109]; refine callA_of (idxSends_spec s n st ss N ls hl l hk) (by first | trivial | (simp only [go_sem, ↓reduceIte, ↓reduceDIte, reduceCtorEq, kA, kB, kC, kD, kE, kF, kG, kH, kI, kJ, kK, kL, kM, kN, kO, kP, kQ, kR, kS, kT, Tryz.ntmps109, Tryz.results109]; done) | (split <;> simp only [go_sem, ↓reduceIte, ↓reduceDIte, reduceCtorEq, kA, kB, kC, kD, kE, kF, kG, kH, kI, kJ, kK, kL, kM, kN, kO, kP, kQ, kR, kS, kT, Tryz.ntmps109, Tryz.results109])) ?_; try simp only [go_sem, ↓reduceIte, ↓reduceDIte, reduceCtorEq, kA, kB, kC, kD, kE, kF, kG, kH, kI, kJ, kK, kL, kM, kN, kO, kP, kQ, kR, kS, kT, Tryz.ntmps109, Tryz.results109])
  (try simp only [go_sem, ↓reduceIte, ↓reduceDIte, reduceCtorEq, kA, kB, kC, kD, kE, kF, kG, kH, kI, kJ, kK, kL, kM, kN, kO, kP, kQ, kR, kS, kT, Tryz.ntmps109, Tryz.results109, e])
theorem idxTakes_spec (l : List (Int × Int × Int)) (t : Int × Int × Int) (hk : l.length ≤ 1000000) : Pure Tryz.prog 118
    [.p (.imm 3 (pr eIII l)), .clo (.func 110) [] [.p (.rp [.sc (.int .i64 t.1), .sc (.int .i64 t.2.1), .sc (.int .i64 t.2.2)])]]
    (sci .i64 (firstB (fun x => tB (x.1 = t.1 ∧ x.2.1 = t.2.1)) 0 l)) := by
  refine pcall0 200 (fn := Tryz.f118) Tryz.func118 rfl (by simp [Tryz.ntmps118]) (by first | trivial | (simp only [go_sem, ↓reduceIte, ↓reduceDIte, reduceCtorEq, kA, kB, kC, kD, kE, kF, kG, kH, kI, kJ, kK, kL, kM, kN, kO, kP, kQ, kR, kS, kT, Tryz.ntmps118, Tryz.results118]; done) | (split <;> simp only [go_sem, ↓reduceIte, ↓reduceDIte, reduceCtorEq, kA, kB, kC, kD, kE, kF, kG, kH, kI, kJ, kK, kL, kM, kN, kO, kP, kQ, kR, kS, kT, Tryz.ntmps118, Tryz.results118])) (by first | trivial | (simp only [go_sem, ↓reduceIte, ↓reduceDIte, reduceCtorEq, kA, kB, kC, kD, kE, kF, kG, kH, kI, kJ, kK, kL, kM, kN, kO, kP, kQ, kR, kS, kT, Tryz.ntmps118, Tryz.results118]; done) | (split <;> simp only [go_sem, ↓reduceIte, ↓reduceDIte, reduceCtorEq, kA, kB, kC, kD, kE, kF, kG, kH, kI, kJ, kK, kL, kM, kN, kO, kP, kQ, kR, kS, kT, Tryz.ntmps118, Tryz.results118])) fun hs => ?_
  (try simp only [go_sem, ↓reduceIte, ↓reduceDIte, reduceCtorEq, kA, kB, kC, kD, kE, kF, kG, kH, kI, kJ, kK, kL, kM, kN, kO, kP, kQ, kR, kS, kT, Tryz.ntmps118, Tryz.results118])
  refine walk_floop 200 200 (fun i : Nat => i ≤ l.length ∧ firstB (fun x => tB (x.1 = t.1 ∧ x.2.1 = t.2.1)) i (l.drop i) = firstB (fun x => tB (x.1 = t.1 ∧ x.2.1 = t.2.1)) 0 l)
    (fun i => ⟨19, [(0, .p (.imm 3 (pr eIII l))), (1, .clo (.func 110) [] [.p (.rp [.sc (.int .i64 t.1), .sc (.int .i64 t.2.1), .sc (.int .i64 t.2.2)])]), (7, sci .i64 l.length), (8, sci .i64 i)], [], 0, []⟩) (fun i => l.length - i) (0) [] ?_ ?_ ?_
  · simp
  · constructor <;> (try simp (disch := omega) only [go_sem, ↓reduceIte, ↓reduceDIte, reduceCtorEq, kA, kB, kC, kD, kE, kF, kG, kH, kI, kJ, kK, kL, kM, kN, kO, kP, kQ, kR, kS, kT, if_pos, if_neg, w64, beqT, beqF, bneT, bneF, pr_get, ir_get, decide_eq_true, decide_eq_false, Tryz.ntmps118, Tryz.results118, Int.natCast_zero, List.take_of_length_le, List.append_assoc])
  · rintro i hi
    obtain ⟨hi, hinvi⟩ := hi
    (try simp only [go_sem, ↓reduceIte, ↓reduceDIte, reduceCtorEq, kA, kB, kC, kD, kE, kF, kG, kH, kI, kJ, kK, kL, kM, kN, kO, kP, kQ, kR, kS, kT, Tryz.ntmps118, Tryz.results118])
    by_cases li : i < l.length
    · rw [drop_cons li, firstB] at hinvi
      (try simp (disch := omega) only [go_sem, ↓reduceIte, ↓reduceDIte, reduceCtorEq, kA, kB, kC, kD, kE, kF, kG, kH, kI, kJ, kK, kL, kM, kN, kO, kP, kQ, kR, kS, kT, if_pos, if_neg, w64, beqT, beqF, bneT, bneF, pr_get, ir_get, decide_eq_true, decide_eq_false, Tryz.ntmps118, Tryz.results118, eIII])
      (refine at_call 200 ?_; simp only [go_sem, ↓reduceIte, ↓reduceDIte, reduceCtorEq, kA, kB, kC, kD, kE, kF, kG, kH, kI, kJ, kK, kL, kM, kN, kO, kP, kQ, kR, kS, kT, Tryz.ntmps118, Tryz.results118]; refine callA_of (twice_spec l[i] t) (by first | trivial | (simp only [go_sem, ↓reduceIte, ↓reduceDIte, reduceCtorEq, kA, kB, kC, kD, kE, kF, kG, kH, kI, kJ, kK, kL, kM, kN, kO, kP, kQ, kR, kS, kT, Tryz.ntmps118, Tryz.results118]; done) | (split <;> simp only [go_sem, ↓reduceIte, ↓reduceDIte, reduceCtorEq, kA, kB, kC, kD, kE, kF, kG, kH, kI, kJ, kK, kL, kM, kN, kO, kP, kQ, kR, kS, kT, Tryz.ntmps118, Tryz.results118])) ?_; try simp only [go_sem, ↓reduceIte, ↓reduceDIte, reduceCtorEq, kA, kB, kC, kD, kE, kF, kG, kH, kI, kJ, kK, kL, kM, kN, kO, kP, kQ, kR, kS, kT, Tryz.ntmps118, Tryz.results118])
      cases e : tB (l[i].1 = t.1 ∧ l[i].2.1 = t.2.1)
      · simp only [e, Bool.not_true, Bool.false_eq_true, if_false] at hinvi
        (try simp (disch := omega) only [go_sem, ↓reduceIte, ↓reduceDIte, reduceCtorEq, kA, kB, kC, kD, kE, kF, kG, kH, kI, kJ, kK, kL, kM, kN, kO, kP, kQ, kR, kS, kT, if_pos, if_neg, w64, beqT, beqF, bneT, bneF, pr_get, ir_get, decide_eq_true, decide_eq_false, Tryz.ntmps118, Tryz.results118])
        refine ⟨i + 1, [], ⟨by first | assumption | omega, hinvi⟩, ?_, ?_⟩
        · (try simp only []); omega
        · constructor <;> (try simp (disch := omega) only [go_sem, ↓reduceIte, ↓reduceDIte, reduceCtorEq, kA, kB, kC, kD, kE, kF, kG, kH, kI, kJ, kK, kL, kM, kN, kO, kP, kQ, kR, kS, kT, if_pos, if_neg, w64, beqT, beqF, bneT, bneF, pr_get, ir_get, decide_eq_true, decide_eq_false, Tryz.ntmps118, Tryz.results118, List.append_assoc])
      · simp only [e, Bool.not_false, if_true] at hinvi
        (try simp (disch := omega) only [go_sem, ↓reduceIte, ↓reduceDIte, reduceCtorEq, kA, kB, kC, kD, kE, kF, kG, kH, kI, kJ, kK, kL, kM, kN, kO, kP, kQ, kR, kS, kT, if_pos, if_neg, w64, beqT, beqF, bneT, bneF, pr_get, ir_get, decide_eq_true, decide_eq_false, Tryz.ntmps118, Tryz.results118, ← hinvi])
    · obtain rfl : i = l.length := by omega
      rw [List.drop_length] at hinvi
      (try simp (disch := omega) only [go_sem, ↓reduceIte, ↓reduceDIte, reduceCtorEq, kA, kB, kC, kD, kE, kF, kG, kH, kI, kJ, kK, kL, kM, kN, kO, kP, kQ, kR, kS, kT, if_pos, if_neg, w64, beqT, beqF, bneT, bneF, pr_get, ir_get, decide_eq_true, decide_eq_false, Tryz.ntmps118, Tryz.results118, ← hinvi, firstB])
theorem hasTakes_spec (l : List (Int × Int × Int)) (t : Int × Int × Int) (hk : l.length ≤ 1000000) : Pure Tryz.prog 111
    [.p (.imm 3 (pr eIII l)), .clo (.func 110) [] [.p (.rp [.sc (.int .i64 t.1), .sc (.int .i64 t.2.1), .sc (.int .i64 t.2.2)])]] (scb (!tB (Once l t))) := by
  have e : decide (0 ≤ firstB (fun x : Int × Int × Int => tB (x.1 = t.1 ∧ x.2.1 = t.2.1)) 0 l) = !tB (Once l t) := by
    rw [tB_not, ← tB_dec]
    refine tB_congr ?_
    rw [firstB_iff]
    constructor
    · rintro ⟨x, hx, h⟩ q
      obtain ⟨j, hj, rfl⟩ := List.getElem_of_mem hx
      exact q j _ (List.getElem?_eq_getElem hj) (tB_iff.1 h)
    · intro h
      refine Classical.byContradiction fun q => h fun j x hx q2 => q ⟨x, List.mem_of_getElem? hx, tB_pos q2⟩
  refine pcall0 200 (fn := Tryz.f111) Tryz.func111 rfl (by simp [Tryz.ntmps111]) (by first | trivial | (simp only [go_sem, ↓reduceIte, ↓reduceDIte, reduceCtorEq, kA, kB, kC, kD, kE, kF, kG, kH, kI, kJ, kK, kL, kM, kN, kO, kP, kQ, kR, kS, kT, Tryz.ntmps111, Tryz.results111]; done) | (split <;> simp only [go_sem, ↓reduceIte, ↓reduceDIte, reduceCtorEq, kA, kB, kC, kD, kE, kF, kG, kH, kI, kJ, kK, kL, kM, kN, kO, kP, kQ, kR, kS, kT, Tryz.ntmps111, Tryz.results111])) (by first | trivial | (simp only [go_sem, ↓reduceIte, ↓reduceDIte, reduceCtorEq, kA, kB, kC, kD, kE, kF, kG, kH, kI, kJ, kK, kL, kM, kN, kO, kP, kQ, kR, kS, kT, Tryz.ntmps111, Tryz.results111]; done) | (split <;> simp only [go_sem, ↓reduceIte, ↓reduceDIte, reduceCtorEq, kA, kB, kC, kD, kE, kF, kG, kH, kI, kJ, kK, kL, kM, kN, kO, kP, kQ, kR, kS, kT, Tryz.ntmps111, Tryz.results111])) fun hs => ?_
  (try simp only [go_sem, ↓reduceIte, ↓reduceDIte, reduceCtorEq, kA, kB, kC, kD, kE, kF, kG, kH, kI, kJ, kK, kL, kM, kN, kO, kP, kQ, kR, kS, kT, Tryz.ntmps111, Tryz.results111])
  (refine at_call 200 ?_; simp only [go_sem, ↓reduceIte, ↓reduceDIte, reduceCtorEq, kA, kB, kC, kD, kE, kF, kG, kH, kI, kJ, kK, kL, kM, kN, kO, kP, kQ, kR, kS, kT, Tryz.ntmps111, Tryz.results111]; refine callA_of (idxTakes_spec l t hk) (by first | trivial | (simp only [go_sem, ↓reduceIte, ↓reduceDIte, reduceCtorEq, kA, kB, kC, kD, kE, kF, kG, kH, kI, kJ, kK, kL, kM, kN, kO, kP, kQ, kR, kS, kT, Tryz.ntmps111, Tryz.results111]; done) | (split <;> simp only [go_sem, ↓reduceIte, ↓reduceDIte, reduceCtorEq, kA, kB, kC, kD, kE, kF, kG, kH, kI, kJ, kK, kL, kM, kN, kO, kP, kQ, kR, kS, kT, Tryz.ntmps111, Tryz.results111])) ?_; try simp only [go_sem, ↓reduceIte, ↓reduceDIte, reduceCtorEq, kA, kB, kC, kD, kE, kF, kG, kH, kI, kJ, kK, kL, kM, kN, kO, kP, kQ, kR, kS, kT, Tryz.ntmps111, Tryz.results111])
  (try simp only [go_sem, ↓reduceIte, ↓reduceDIte, reduceCtorEq, kA, kB, kC, kD, kE, kF, kG, kH, kI, kJ, kK, kL, kM, kN, kO, kP, kQ, kR, kS, kT, Tryz.ntmps111, Tryz.results111, e])
include hl in
theorem waits_spec (hw : s.waits.length ≤ 1000000) : Pure Tryz.prog 90 [.agg [sci .i64 s.mode, lI s.waits, .p (.imm 2 (pr ePk s.picks)), .p (.imm 3 (pr eIII s.takes)), sci .i64 n, sci .i64 st, .p (.imm 4 (pr eSt ss)), sci .i64 N, lII ls]] (scb (tB (WaitsP ls n s))) := by
  refine pcall0 200 (fn := Tryz.f90) Tryz.func90 rfl (by simp [Tryz.ntmps90]) (by first | trivial | (simp only [go_sem, ↓reduceIte, ↓reduceDIte, reduceCtorEq, kA, kB, kC, kD, kE, kF, kG, kH, kI, kJ, kK, kL, kM, kN, kO, kP, kQ, kR, kS, kT, Tryz.ntmps90, Tryz.results90]; done) | (split <;> simp only [go_sem, ↓reduceIte, ↓reduceDIte, reduceCtorEq, kA, kB, kC, kD, kE, kF, kG, kH, kI, kJ, kK, kL, kM, kN, kO, kP, kQ, kR, kS, kT, Tryz.ntmps90, Tryz.results90])) (by first | trivial | (simp only [go_sem, ↓reduceIte, ↓reduceDIte, reduceCtorEq, kA, kB, kC, kD, kE, kF, kG, kH, kI, kJ, kK, kL, kM, kN, kO, kP, kQ, kR, kS, kT, Tryz.ntmps90, Tryz.results90]; done) | (split <;> simp only [go_sem, ↓reduceIte, ↓reduceDIte, reduceCtorEq, kA, kB, kC, kD, kE, kF, kG, kH, kI, kJ, kK, kL, kM, kN, kO, kP, kQ, kR, kS, kT, Tryz.ntmps90, Tryz.results90])) fun hs => ?_
  (try simp only [go_sem, ↓reduceIte, ↓reduceDIte, reduceCtorEq, kA, kB, kC, kD, kE, kF, kG, kH, kI, kJ, kK, kL, kM, kN, kO, kP, kQ, kR, kS, kT, Tryz.ntmps90, Tryz.results90])
  by_cases hm : s.mode = 2
  · (try simp (disch := omega) only [go_sem, ↓reduceIte, ↓reduceDIte, reduceCtorEq, kA, kB, kC, kD, kE, kF, kG, kH, kI, kJ, kK, kL, kM, kN, kO, kP, kQ, kR, kS, kT, if_pos, if_neg, w64, beqT, beqF, bneT, bneF, pr_get, ir_get, decide_eq_true, decide_eq_false, Tryz.ntmps90, Tryz.results90, hm])
    (refine walk_trim [1, 16, 17, 18] trivial (by first | exact Nat.zero_le _ | exact Nat.le_refl _ | omega) ?_; try simp only [go_sem, ↓reduceIte, ↓reduceDIte, reduceCtorEq, kA, kB, kC, kD, kE, kF, kG, kH, kI, kJ, kK, kL, kM, kN, kO, kP, kQ, kR, kS, kT, Tryz.ntmps90, Tryz.results90])
    refine walk_floop 200 200 (fun i : Nat => i ≤ s.waits.length ∧ ∀ (j : Nat) (w : Int), j < i → s.waits[j]? = some w → (w, n) ∈ ls ∧ ∀ v, 0 < j → s.waits[j - 1]? = some v → v < w)
      (fun i => ⟨48, [(1, .ptr 0 0 0 0), (16, lI s.waits), (17, sci .i64 s.waits.length), (18, sci .i64 i)], [], 1, [(0, .arr 9 0 [[sci .i64 s.mode, lI s.waits, .p (.imm 2 (pr ePk s.picks)), .p (.imm 3 (pr eIII s.takes)), sci .i64 n, sci .i64 st, .p (.imm 4 (pr eSt ss)), sci .i64 N, lII ls]])]⟩) (fun i => s.waits.length - i) (0) [] ?_ ?_ ?_
    · simp
    · constructor <;> (try simp (disch := omega) only [go_sem, ↓reduceIte, ↓reduceDIte, reduceCtorEq, kA, kB, kC, kD, kE, kF, kG, kH, kI, kJ, kK, kL, kM, kN, kO, kP, kQ, kR, kS, kT, if_pos, if_neg, w64, beqT, beqF, bneT, bneF, pr_get, ir_get, decide_eq_true, decide_eq_false, Tryz.ntmps90, Tryz.results90, Int.natCast_zero, List.take_of_length_le, List.append_assoc, hm])
    · rintro i hi
      obtain ⟨hi, hinvi⟩ := hi
      (try simp only [go_sem, ↓reduceIte, ↓reduceDIte, reduceCtorEq, kA, kB, kC, kD, kE, kF, kG, kH, kI, kJ, kK, kL, kM, kN, kO, kP, kQ, kR, kS, kT, Tryz.ntmps90, Tryz.results90])
      by_cases li : i < s.waits.length
      · have bad : ¬ ((s.waits[i], n) ∈ ls ∧ ∀ v, 0 < i → s.waits[i - 1]? = some v → v < s.waits[i]) → tB (WaitsP ls n s) = false := fun q => tB_neg fun h => by
          rcases h with h | h
          · exact h.1 hm
          · exact q (h.2.2 i _ (List.getElem?_eq_getElem li))
        (try simp (disch := omega) only [go_sem, ↓reduceIte, ↓reduceDIte, reduceCtorEq, kA, kB, kC, kD, kE, kF, kG, kH, kI, kJ, kK, kL, kM, kN, kO, kP, kQ, kR, kS, kT, if_pos, if_neg, w64, beqT, beqF, bneT, bneF, pr_get, ir_get, decide_eq_true, decide_eq_false, Tryz.ntmps90, Tryz.results90, eI])
        (refine at_call 200 ?_; simp only [go_sem, ↓reduceIte, ↓reduceDIte, reduceCtorEq, kA, kB, kC, kD, kE, kF, kG, kH, kI, kJ, kK, kL, kM, kN, kO, kP, kQ, kR, kS, kT, Tryz.ntmps90, Tryz.results90]; refine callA_of (pin_spec s n st ss N ls hl s.waits[i]) (by first | trivial | (simp only [go_sem, ↓reduceIte, ↓reduceDIte, reduceCtorEq, kA, kB, kC, kD, kE, kF, kG, kH, kI, kJ, kK, kL, kM, kN, kO, kP, kQ, kR, kS, kT, Tryz.ntmps90, Tryz.results90]; done) | (split <;> simp only [go_sem, ↓reduceIte, ↓reduceDIte, reduceCtorEq, kA, kB, kC, kD, kE, kF, kG, kH, kI, kJ, kK, kL, kM, kN, kO, kP, kQ, kR, kS, kT, Tryz.ntmps90, Tryz.results90])) ?_; try simp only [go_sem, ↓reduceIte, ↓reduceDIte, reduceCtorEq, kA, kB, kC, kD, kE, kF, kG, kH, kI, kJ, kK, kL, kM, kN, kO, kP, kQ, kR, kS, kT, Tryz.ntmps90, Tryz.results90])
        by_cases h1 : (s.waits[i], n) ∈ ls
        · have e1 := tB_pos h1
          by_cases h0 : 0 < i
          · have hi1 : i - 1 < s.waits.length := by omega
            have ec : (i : Int) - 1 = ((i - 1 : Nat) : Int) := by omega
            have g1 : (pr eI s.waits)[i - 1]? = some [.sc (.int .i64 s.waits[i - 1])] := by rw [pr_get hi1]; rfl
            by_cases h2 : s.waits[i - 1] < s.waits[i]
            · have h2' : ¬ s.waits[i] ≤ s.waits[i - 1] := by omega
              (try simp (disch := omega) only [go_sem, ↓reduceIte, ↓reduceDIte, reduceCtorEq, kA, kB, kC, kD, kE, kF, kG, kH, kI, kJ, kK, kL, kM, kN, kO, kP, kQ, kR, kS, kT, if_pos, if_neg, w64, beqT, beqF, bneT, bneF, pr_get, ir_get, decide_eq_true, decide_eq_false, Tryz.ntmps90, Tryz.results90, e1, h0, ec, g1, h2'])
              refine ⟨i + 1, [], ⟨li, all_snoc li hinvi ⟨h1, fun v _ hv => ?_⟩⟩, by omega, ?_⟩
              · rw [List.getElem?_eq_getElem hi1] at hv; cases hv; exact h2
              · constructor <;> (try simp (disch := omega) only [go_sem, ↓reduceIte, ↓reduceDIte, reduceCtorEq, kA, kB, kC, kD, kE, kF, kG, kH, kI, kJ, kK, kL, kM, kN, kO, kP, kQ, kR, kS, kT, if_pos, if_neg, w64, beqT, beqF, bneT, bneF, pr_get, ir_get, decide_eq_true, decide_eq_false, Tryz.ntmps90, Tryz.results90])
            · have h2' : s.waits[i] ≤ s.waits[i - 1] := by omega
              have e2 := bad fun q => h2 (q.2 _ h0 (List.getElem?_eq_getElem hi1))
              (try simp (disch := omega) only [go_sem, ↓reduceIte, ↓reduceDIte, reduceCtorEq, kA, kB, kC, kD, kE, kF, kG, kH, kI, kJ, kK, kL, kM, kN, kO, kP, kQ, kR, kS, kT, if_pos, if_neg, w64, beqT, beqF, bneT, bneF, pr_get, ir_get, decide_eq_true, decide_eq_false, Tryz.ntmps90, Tryz.results90, e1, h0, ec, g1, h2', e2])
          · (try simp (disch := omega) only [go_sem, ↓reduceIte, ↓reduceDIte, reduceCtorEq, kA, kB, kC, kD, kE, kF, kG, kH, kI, kJ, kK, kL, kM, kN, kO, kP, kQ, kR, kS, kT, if_pos, if_neg, w64, beqT, beqF, bneT, bneF, pr_get, ir_get, decide_eq_true, decide_eq_false, Tryz.ntmps90, Tryz.results90, e1, h0])
            refine ⟨i + 1, [], ⟨li, all_snoc li hinvi ⟨h1, fun v q => absurd q h0⟩⟩, by omega, ?_⟩
            constructor <;> (try simp (disch := omega) only [go_sem, ↓reduceIte, ↓reduceDIte, reduceCtorEq, kA, kB, kC, kD, kE, kF, kG, kH, kI, kJ, kK, kL, kM, kN, kO, kP, kQ, kR, kS, kT, if_pos, if_neg, w64, beqT, beqF, bneT, bneF, pr_get, ir_get, decide_eq_true, decide_eq_false, Tryz.ntmps90, Tryz.results90])
        · have e1 := tB_neg h1
          have e2 := bad fun q => h1 q.1
          (try simp (disch := omega) only [go_sem, ↓reduceIte, ↓reduceDIte, reduceCtorEq, kA, kB, kC, kD, kE, kF, kG, kH, kI, kJ, kK, kL, kM, kN, kO, kP, kQ, kR, kS, kT, if_pos, if_neg, w64, beqT, beqF, bneT, bneF, pr_get, ir_get, decide_eq_true, decide_eq_false, Tryz.ntmps90, Tryz.results90, e1, e2])
      · obtain rfl : i = s.waits.length := by omega
        have hall := all_end hinvi
        by_cases h0 : 0 < s.waits.length
        · have e : tB (WaitsP ls n s) = true := tB_pos (.inr ⟨hm, h0, hall⟩)
          (try simp (disch := omega) only [go_sem, ↓reduceIte, ↓reduceDIte, reduceCtorEq, kA, kB, kC, kD, kE, kF, kG, kH, kI, kJ, kK, kL, kM, kN, kO, kP, kQ, kR, kS, kT, if_pos, if_neg, w64, beqT, beqF, bneT, bneF, pr_get, ir_get, decide_eq_true, decide_eq_false, Tryz.ntmps90, Tryz.results90, e, h0])
        · have e : tB (WaitsP ls n s) = false := tB_neg fun h => by
            rcases h with h | h
            · exact h.1 hm
            · exact h0 h.2.1
          (try simp (disch := omega) only [go_sem, ↓reduceIte, ↓reduceDIte, reduceCtorEq, kA, kB, kC, kD, kE, kF, kG, kH, kI, kJ, kK, kL, kM, kN, kO, kP, kQ, kR, kS, kT, if_pos, if_neg, w64, beqT, beqF, bneT, bneF, pr_get, ir_get, decide_eq_true, decide_eq_false, Tryz.ntmps90, Tryz.results90, e, h0])
  · have e : tB (WaitsP ls n s) = decide (s.waits.length = 0) := by
      rw [← tB_dec]
      exact tB_congr ⟨fun h => by rcases h with h | h; exact h.2; exact absurd h.1 hm, fun h => .inl ⟨hm, h⟩⟩
    by_cases h0 : s.waits.length = 0
    · have h0' : (s.waits.length : Int) = 0 := by omega
      (try simp (disch := omega) only [go_sem, ↓reduceIte, ↓reduceDIte, reduceCtorEq, kA, kB, kC, kD, kE, kF, kG, kH, kI, kJ, kK, kL, kM, kN, kO, kP, kQ, kR, kS, kT, if_pos, if_neg, w64, beqT, beqF, bneT, bneF, pr_get, ir_get, decide_eq_true, decide_eq_false, Tryz.ntmps90, Tryz.results90, hm, e, h0, h0'])
    · have h0' : ¬ (s.waits.length : Int) = 0 := by omega
      (try simp (disch := omega) only [go_sem, ↓reduceIte, ↓reduceDIte, reduceCtorEq, kA, kB, kC, kD, kE, kF, kG, kH, kI, kJ, kK, kL, kM, kN, kO, kP, kQ, kR, kS, kT, if_pos, if_neg, w64, beqT, beqF, bneT, bneF, pr_get, ir_get, decide_eq_true, decide_eq_false, Tryz.ntmps90, Tryz.results90, hm, e, h0, h0'])
end Go.Proofs.TZ
