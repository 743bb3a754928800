/- Numbers of scripts: those of the program and those of the document. -/
import Derived.Test.YtoiledoommblcaaGreatZB
import Derived.Test.YtoiledoommblcaaGreatIdTx
set_option linter.unusedSimpArgs false
set_option linter.unusedVariables false
namespace Go.Proofs.TZ
open Go Go.Idl Go.Proofs
open Nat renaming reducePow → kA, reduceEqDiff → kB, reduceAdd → kC, reduceSub → kD, reduceMul → kE, reduceMod → kF, reduceLeDiff → kG, reduceLT → kH, reduceBEq → kI, reduceBNe → kJ
open Int renaming reduceLT → kK, reduceLE → kL, reduceToNat → kM, reduceNeg → kN, reduceAdd → kO, reduceSub → kP, reduceMul → kQ, reduceBEq → kR, reduceBNe → kS, reduceEq → kT
set_option maxHeartbeats 20000000
set_option maxRecDepth 100000
def pkL (p : Int × List (Int × Int)) : List Int := p.1 :: (p.2.length : Int) :: p.2.flatMap fun x => [x.1, x.2]
def stL (s : St) : List Int := ([s.mode, (s.waits.length : Int)] ++ s.waits ++ [(s.picks.length : Int)] ++ s.picks.flatMap pkL) ++ [(s.takes.length : Int)] ++ s.takes.flatMap fun t => [t.1, t.2.1, t.2.2]
theorem state_spec (s : St) (hb : (stL s).length ≤ 1000000) : Pure Tryz.prog 52 [lSt s] (lI (stL s)) := by
  obtain ⟨mode, waits, picks, takes⟩ := s
  simp only [stL] at hb ⊢
  obtain ⟨F, F0, Fs, Fn, Fl, Fk⟩ := flat_acc (pkL) ([mode, (waits.length : Int)] ++ waits ++ [(picks.length : Int)]) (picks) (fun _ => by simp [pkL])
  have Fz := Fl 0 (Nat.zero_le _)
  rw [F0] at Fz
  (try simp only [List.length_append, List.length_range, List.length_cons, List.length_nil, List.length_map, List.length_take] at Fz Fk)
  obtain ⟨H, H0, Hs, Hn, Hl, Hk⟩ := flat_acc (fun t : Int × Int × Int => [t.1, t.2.1, t.2.2]) (F picks.length ++ [(takes.length : Int)]) (takes) (fun _ => by simp)
  have Hz := Hl 0 (Nat.zero_le _)
  rw [H0] at Hz
  (try simp only [List.length_append, List.length_range, List.length_cons, List.length_nil, List.length_map, List.length_take] at Hz Hk)
  rw [← Fn, ← Hn] at hb ⊢
  
  refine pcall0 200 (fn := Tryz.f52) Tryz.func52 rfl (by simp [Tryz.ntmps52]) (by first | trivial | (simp (maxSteps := 2000000) only [go_sem, ↓reduceIte, ↓reduceDIte, reduceCtorEq, kA, kB, kC, kD, kE, kF, kG, kH, kI, kJ, kK, kL, kM, kN, kO, kP, kQ, kR, kS, kT, Tryz.ntmps52, Tryz.results52]; done) | (split <;> simp (maxSteps := 2000000) only [go_sem, ↓reduceIte, ↓reduceDIte, reduceCtorEq, kA, kB, kC, kD, kE, kF, kG, kH, kI, kJ, kK, kL, kM, kN, kO, kP, kQ, kR, kS, kT, Tryz.ntmps52, Tryz.results52])) (by first | trivial | (simp (maxSteps := 2000000) only [go_sem, ↓reduceIte, ↓reduceDIte, reduceCtorEq, kA, kB, kC, kD, kE, kF, kG, kH, kI, kJ, kK, kL, kM, kN, kO, kP, kQ, kR, kS, kT, Tryz.ntmps52, Tryz.results52]; done) | (split <;> simp (maxSteps := 2000000) only [go_sem, ↓reduceIte, ↓reduceDIte, reduceCtorEq, kA, kB, kC, kD, kE, kF, kG, kH, kI, kJ, kK, kL, kM, kN, kO, kP, kQ, kR, kS, kT, Tryz.ntmps52, Tryz.results52])) fun hs => ?_
  have ha : 2 + waits.length = waits.length + 2 := by omega
  (try simp (config := { maxSteps := 2000000 }) (disch := omega) only [go_sem, ↓reduceIte, ↓reduceDIte, reduceCtorEq, kA, kB, kC, kD, kE, kF, kG, kH, kI, kJ, kK, kL, kM, kN, kO, kP, kQ, kR, kS, kT, if_pos, if_neg, w64, beqT, beqF, bneT, bneF, pr_get, ir_get, decide_eq_true, decide_eq_false, Tryz.ntmps52, Tryz.results52, ha])
  (refine walk_trim [1, 3, 26, 27, 28] trivial (by first | exact Nat.zero_le _ | exact Nat.le_refl _ | omega) ?_; try simp (maxSteps := 2000000) only [go_sem, ↓reduceIte, ↓reduceDIte, reduceCtorEq, kA, kB, kC, kD, kE, kF, kG, kH, kI, kJ, kK, kL, kM, kN, kO, kP, kQ, kR, kS, kT, Tryz.ntmps52, Tryz.results52])
  refine walk_floop 200 200 (fun i : Nat × Nat => i.1 ≤ picks.length)
    (fun i => ⟨80, [(1, .ptr 0 0 0 0), (3, .ref 1 i.2 0 (F i.1).length), (26, .p (.imm 2 (pr ePk picks))), (27, sci .i64 picks.length), (28, sci .i64 i.1)], [], 2, [(1, .arr 1 i.2 (ir eI (F i.1))), (0, .arr 4 0 [[sci .i64 mode, lI waits, .p (.imm 2 (pr ePk picks)), .p (.imm 3 (pr eIII takes))]])]⟩) (fun i => picks.length - i.1) (0, 2) [] ?_ ?_ ?_
  · simp
  · constructor <;> (try simp (config := { maxSteps := 2000000 }) (disch := omega) only [go_sem, ↓reduceIte, ↓reduceDIte, reduceCtorEq, kA, kB, kC, kD, kE, kF, kG, kH, kI, kJ, kK, kL, kM, kN, kO, kP, kQ, kR, kS, kT, if_pos, if_neg, w64, beqT, beqF, bneT, bneF, pr_get, ir_get, decide_eq_true, decide_eq_false, Tryz.ntmps52, Tryz.results52, Int.natCast_zero, List.take_of_length_le, List.append_assoc, F0, ha])
  · rintro ⟨i, g⟩ hi
    simp only at hi
    (try simp (maxSteps := 2000000) only [go_sem, ↓reduceIte, ↓reduceDIte, reduceCtorEq, kA, kB, kC, kD, kE, kF, kG, kH, kI, kJ, kK, kL, kM, kN, kO, kP, kQ, kR, kS, kT, Tryz.ntmps52, Tryz.results52])
    by_cases li : i < picks.length
    · have hfi := Fl (i + 1) li
      have hpi := Fs i li
      generalize hp : picks[i] = p at *
      obtain ⟨G, G0, Gs, Gn, Gl, Gk⟩ := flat_acc (fun x : Int × Int => [x.1, x.2]) (F i ++ [p.1, (p.2.length : Int)]) (p.2) (fun _ => by simp)
      have Gz := Gl 0 (Nat.zero_le _)
      rw [G0] at Gz
      (try simp only [List.length_append, List.length_range, List.length_cons, List.length_nil, List.length_map, List.length_take] at Gz Gk)
      have gF : G p.2.length = F (i + 1) := by rw [Gn, hpi]; simp [pkL]
      rw [← gF] at hfi
      (try simp (config := { maxSteps := 2000000 }) (disch := omega) only [go_sem, ↓reduceIte, ↓reduceDIte, reduceCtorEq, kA, kB, kC, kD, kE, kF, kG, kH, kI, kJ, kK, kL, kM, kN, kO, kP, kQ, kR, kS, kT, if_pos, if_neg, w64, beqT, beqF, bneT, bneF, pr_get, ir_get, decide_eq_true, decide_eq_false, Tryz.ntmps52, Tryz.results52, ePk, hp])
      (refine walk_trim [1, 3, 26, 27, 28, 41, 42, 43] trivial (by first | exact Nat.zero_le _ | exact Nat.le_refl _ | omega) ?_; try simp (maxSteps := 2000000) only [go_sem, ↓reduceIte, ↓reduceDIte, reduceCtorEq, kA, kB, kC, kD, kE, kF, kG, kH, kI, kJ, kK, kL, kM, kN, kO, kP, kQ, kR, kS, kT, Tryz.ntmps52, Tryz.results52])
      refine walk_floop 200 200 (fun k : Nat × Nat => k.1 ≤ p.2.length)
        (fun k => ⟨80, [(1, .ptr 0 0 0 0), (3, .ref 1 k.2 0 (G k.1).length), (26, .p (.imm 2 (pr ePk picks))), (27, sci .i64 picks.length), (28, sci .i64 i), (41, lII p.2), (42, sci .i64 p.2.length), (43, sci .i64 k.1)], [], 3, [(1, .arr 1 k.2 (ir eI (G k.1))), (0, .arr 4 0 [[sci .i64 mode, lI waits, .p (.imm 2 (pr ePk picks)), .p (.imm 3 (pr eIII takes))]])]⟩) (fun k => p.2.length - k.1) (0, g + 1) [] ?_ ?_ ?_
      · simp
      · constructor <;> (try simp (config := { maxSteps := 2000000 }) (disch := omega) only [go_sem, ↓reduceIte, ↓reduceDIte, reduceCtorEq, kA, kB, kC, kD, kE, kF, kG, kH, kI, kJ, kK, kL, kM, kN, kO, kP, kQ, kR, kS, kT, if_pos, if_neg, w64, beqT, beqF, bneT, bneF, pr_get, ir_get, decide_eq_true, decide_eq_false, Tryz.ntmps52, Tryz.results52, Int.natCast_zero, List.take_of_length_le, List.append_assoc, G0])
      · rintro ⟨k, e⟩ hk
        simp only at hk
        (try simp (maxSteps := 2000000) only [go_sem, ↓reduceIte, ↓reduceDIte, reduceCtorEq, kA, kB, kC, kD, kE, kF, kG, kH, kI, kJ, kK, kL, kM, kN, kO, kP, kQ, kR, kS, kT, Tryz.ntmps52, Tryz.results52])
        by_cases lk : k < p.2.length
        · have Gi := Gl (k + 1) lk
          have Ge := Gs k lk
          rw [Ge] at Gi
          (try simp only [List.length_append, List.length_range, List.length_cons, List.length_nil, List.length_map, List.length_take] at Gi)
          (try simp (config := { maxSteps := 2000000 }) (disch := omega) only [go_sem, ↓reduceIte, ↓reduceDIte, reduceCtorEq, kA, kB, kC, kD, kE, kF, kG, kH, kI, kJ, kK, kL, kM, kN, kO, kP, kQ, kR, kS, kT, if_pos, if_neg, w64, beqT, beqF, bneT, bneF, pr_get, ir_get, decide_eq_true, decide_eq_false, Tryz.ntmps52, Tryz.results52, eII])
          refine ⟨(k + 1, e + 1), [], by first | assumption | omega, ?_, ?_⟩
          · (try simp only []); omega
          · constructor <;> (try simp (config := { maxSteps := 2000000 }) (disch := omega) only [go_sem, ↓reduceIte, ↓reduceDIte, reduceCtorEq, kA, kB, kC, kD, kE, kF, kG, kH, kI, kJ, kK, kL, kM, kN, kO, kP, kQ, kR, kS, kT, if_pos, if_neg, w64, beqT, beqF, bneT, bneF, pr_get, ir_get, decide_eq_true, decide_eq_false, Tryz.ntmps52, Tryz.results52, Ge, List.take_of_length_le, List.append_assoc])
        · obtain rfl : k = p.2.length := by omega
          (try simp (config := { maxSteps := 2000000 }) (disch := omega) only [go_sem, ↓reduceIte, ↓reduceDIte, reduceCtorEq, kA, kB, kC, kD, kE, kF, kG, kH, kI, kJ, kK, kL, kM, kN, kO, kP, kQ, kR, kS, kT, if_pos, if_neg, w64, beqT, beqF, bneT, bneF, pr_get, ir_get, decide_eq_true, decide_eq_false, Tryz.ntmps52, Tryz.results52])
          refine ⟨(i + 1, e), [], by first | assumption | omega, ?_, ?_⟩
          · (try simp only []); omega
          · constructor <;> (try simp (config := { maxSteps := 2000000 }) (disch := omega) only [go_sem, ↓reduceIte, ↓reduceDIte, reduceCtorEq, kA, kB, kC, kD, kE, kF, kG, kH, kI, kJ, kK, kL, kM, kN, kO, kP, kQ, kR, kS, kT, if_pos, if_neg, w64, beqT, beqF, bneT, bneF, pr_get, ir_get, decide_eq_true, decide_eq_false, Tryz.ntmps52, Tryz.results52, gF, List.append_assoc])
    · obtain rfl : i = picks.length := by omega
      (try simp (config := { maxSteps := 2000000 }) (disch := omega) only [go_sem, ↓reduceIte, ↓reduceDIte, reduceCtorEq, kA, kB, kC, kD, kE, kF, kG, kH, kI, kJ, kK, kL, kM, kN, kO, kP, kQ, kR, kS, kT, if_pos, if_neg, w64, beqT, beqF, bneT, bneF, pr_get, ir_get, decide_eq_true, decide_eq_false, Tryz.ntmps52, Tryz.results52])
      (refine walk_trim [3, 63, 64, 65] trivial (by first | exact Nat.zero_le _ | exact Nat.le_refl _ | omega) ?_; try simp (maxSteps := 2000000) only [go_sem, ↓reduceIte, ↓reduceDIte, reduceCtorEq, kA, kB, kC, kD, kE, kF, kG, kH, kI, kJ, kK, kL, kM, kN, kO, kP, kQ, kR, kS, kT, Tryz.ntmps52, Tryz.results52])
      refine walk_floop 200 200 (fun i : Nat × Nat => i.1 ≤ takes.length)
        (fun i => ⟨80, [(3, .ref 1 i.2 0 (H i.1).length), (63, .p (.imm 3 (pr eIII takes))), (64, sci .i64 takes.length), (65, sci .i64 i.1)], [], 2, [(1, .arr 1 i.2 (ir eI (H i.1)))]⟩) (fun i => takes.length - i.1) (0, g + 1) [] ?_ ?_ ?_
      · simp
      · constructor <;> (try simp (config := { maxSteps := 2000000 }) (disch := omega) only [go_sem, ↓reduceIte, ↓reduceDIte, reduceCtorEq, kA, kB, kC, kD, kE, kF, kG, kH, kI, kJ, kK, kL, kM, kN, kO, kP, kQ, kR, kS, kT, if_pos, if_neg, w64, beqT, beqF, bneT, bneF, pr_get, ir_get, decide_eq_true, decide_eq_false, Tryz.ntmps52, Tryz.results52, Int.natCast_zero, List.take_of_length_le, List.append_assoc, H0])
      · rintro ⟨i, e⟩ hi
        simp only at hi
        (try simp (maxSteps := 2000000) only [go_sem, ↓reduceIte, ↓reduceDIte, reduceCtorEq, kA, kB, kC, kD, kE, kF, kG, kH, kI, kJ, kK, kL, kM, kN, kO, kP, kQ, kR, kS, kT, Tryz.ntmps52, Tryz.results52])
        by_cases li : i < takes.length
        · have Hi := Hl (i + 1) li
          have He := Hs i li
          rw [He] at Hi
          (try simp only [List.length_append, List.length_range, List.length_cons, List.length_nil, List.length_map, List.length_take] at Hi)
          (try simp (config := { maxSteps := 2000000 }) (disch := omega) only [go_sem, ↓reduceIte, ↓reduceDIte, reduceCtorEq, kA, kB, kC, kD, kE, kF, kG, kH, kI, kJ, kK, kL, kM, kN, kO, kP, kQ, kR, kS, kT, if_pos, if_neg, w64, beqT, beqF, bneT, bneF, pr_get, ir_get, decide_eq_true, decide_eq_false, Tryz.ntmps52, Tryz.results52, eIII])
          refine ⟨(i + 1, e + 1), [], by first | assumption | omega, ?_, ?_⟩
          · (try simp only []); omega
          · constructor <;> (try simp (config := { maxSteps := 2000000 }) (disch := omega) only [go_sem, ↓reduceIte, ↓reduceDIte, reduceCtorEq, kA, kB, kC, kD, kE, kF, kG, kH, kI, kJ, kK, kL, kM, kN, kO, kP, kQ, kR, kS, kT, if_pos, if_neg, w64, beqT, beqF, bneT, bneF, pr_get, ir_get, decide_eq_true, decide_eq_false, Tryz.ntmps52, Tryz.results52, He, List.take_of_length_le, List.append_assoc])
        · obtain rfl : i = takes.length := by omega
          (try simp (config := { maxSteps := 2000000 }) (disch := omega) only [go_sem, ↓reduceIte, ↓reduceDIte, reduceCtorEq, kA, kB, kC, kD, kE, kF, kG, kH, kI, kJ, kK, kL, kM, kN, kO, kP, kQ, kR, kS, kT, if_pos, if_neg, w64, beqT, beqF, bneT, bneF, pr_get, ir_get, decide_eq_true, decide_eq_false, Tryz.ntmps52, Tryz.results52])
end Go.Proofs.TZ
