/- Numbers of an application and of acts, as the document tells them. -/
import Derived.Test.YtoiledoommblcaaGreatZD
import Derived.Test.YtoiledoommblcaaGreatZE
set_option linter.unusedSimpArgs false
set_option linter.unusedVariables false
namespace Go.Proofs.TZ
open Go Go.Idl Go.Proofs
open Nat renaming reducePow → kA, reduceEqDiff → kB, reduceAdd → kC, reduceSub → kD, reduceMul → kE, reduceMod → kF, reduceLeDiff → kG, reduceLT → kH, reduceBEq → kI, reduceBNe → kJ
open Int renaming reduceLT → kK, reduceLE → kL, reduceToNat → kM, reduceNeg → kN, reduceAdd → kO, reduceSub → kP, reduceMul → kQ, reduceBEq → kR, reduceBNe → kS, reduceEq → kT
set_option maxHeartbeats 20000000
set_option maxRecDepth 100000

theorem R21Acts_spec (l : List (Int × Int × Int)) (hb : (actsL l).length ≤ 1000000) : Pure Tryz.prog 25 [.p (.imm 3 (pr eIII l))] (lI (actsL l)) := by
  unfold actsL at hb ⊢
  obtain ⟨F, F0, Fs, Fn, Fl, Fk⟩ := flat_acc (fun t : Int × Int × Int => [t.1, t.2.1, t.2.2]) ([(l.length : Int)]) (l) (fun _ => by simp)
  have Fz := Fl 0 (Nat.zero_le _)
  rw [F0] at Fz
  (try simp only [List.length_append, List.length_range, List.length_cons, List.length_nil, List.length_map, List.length_take] at Fz Fk)
  rw [← Fn] at hb ⊢
  refine pcall0 200 (fn := Tryz.f25) Tryz.func25 rfl (by simp [Tryz.ntmps25]) (by first | trivial | (simp only [go_sem, ↓reduceIte, ↓reduceDIte, reduceCtorEq, kA, kB, kC, kD, kE, kF, kG, kH, kI, kJ, kK, kL, kM, kN, kO, kP, kQ, kR, kS, kT, Tryz.ntmps25, Tryz.results25]; done) | (split <;> simp only [go_sem, ↓reduceIte, ↓reduceDIte, reduceCtorEq, kA, kB, kC, kD, kE, kF, kG, kH, kI, kJ, kK, kL, kM, kN, kO, kP, kQ, kR, kS, kT, Tryz.ntmps25, Tryz.results25])) (by first | trivial | (simp only [go_sem, ↓reduceIte, ↓reduceDIte, reduceCtorEq, kA, kB, kC, kD, kE, kF, kG, kH, kI, kJ, kK, kL, kM, kN, kO, kP, kQ, kR, kS, kT, Tryz.ntmps25, Tryz.results25]; done) | (split <;> simp only [go_sem, ↓reduceIte, ↓reduceDIte, reduceCtorEq, kA, kB, kC, kD, kE, kF, kG, kH, kI, kJ, kK, kL, kM, kN, kO, kP, kQ, kR, kS, kT, Tryz.ntmps25, Tryz.results25])) fun hs => ?_
  (try simp (disch := omega) only [go_sem, ↓reduceIte, ↓reduceDIte, reduceCtorEq, kA, kB, kC, kD, kE, kF, kG, kH, kI, kJ, kK, kL, kM, kN, kO, kP, kQ, kR, kS, kT, if_pos, if_neg, w64, beqT, beqF, bneT, bneF, pr_get, ir_get, decide_eq_true, decide_eq_false, Tryz.ntmps25, Tryz.results25])
  (refine walk_trim [0, 3, 4] trivial (by first | exact Nat.zero_le _ | exact Nat.le_refl _ | omega) ?_; try simp only [go_sem, ↓reduceIte, ↓reduceDIte, reduceCtorEq, kA, kB, kC, kD, kE, kF, kG, kH, kI, kJ, kK, kL, kM, kN, kO, kP, kQ, kR, kS, kT, Tryz.ntmps25, Tryz.results25])
  refine walk_floop 200 200 (fun i : Nat × Nat => i.1 ≤ l.length)
    (fun i => ⟨39, [(0, .p (.imm 3 (pr eIII l))), (3, .ref 0 i.2 0 (F i.1).length), (4, sci .i64 i.1)], [], 1, [(0, .arr 1 i.2 (ir eI (F i.1)))]⟩) (fun i => l.length - i.1) (0, 0) [] ?_ ?_ ?_
  · simp
  · constructor <;> (try simp (disch := omega) only [go_sem, ↓reduceIte, ↓reduceDIte, reduceCtorEq, kA, kB, kC, kD, kE, kF, kG, kH, kI, kJ, kK, kL, kM, kN, kO, kP, kQ, kR, kS, kT, if_pos, if_neg, w64, beqT, beqF, bneT, bneF, pr_get, ir_get, decide_eq_true, decide_eq_false, Tryz.ntmps25, Tryz.results25, Int.natCast_zero, List.take_of_length_le, List.append_assoc, F0, irl1])
  · rintro ⟨i, e⟩ hi
    simp only at hi
    (try simp only [go_sem, ↓reduceIte, ↓reduceDIte, reduceCtorEq, kA, kB, kC, kD, kE, kF, kG, kH, kI, kJ, kK, kL, kM, kN, kO, kP, kQ, kR, kS, kT, Tryz.ntmps25, Tryz.results25])
    by_cases li : i < l.length
    · have Fi := Fl (i + 1) li
      have Fe := Fs i li
      rw [Fe] at Fi
      (try simp only [List.length_append, List.length_range, List.length_cons, List.length_nil, List.length_map, List.length_take] at Fi)
      (try simp (disch := omega) only [go_sem, ↓reduceIte, ↓reduceDIte, reduceCtorEq, kA, kB, kC, kD, kE, kF, kG, kH, kI, kJ, kK, kL, kM, kN, kO, kP, kQ, kR, kS, kT, if_pos, if_neg, w64, beqT, beqF, bneT, bneF, pr_get, ir_get, decide_eq_true, decide_eq_false, Tryz.ntmps25, Tryz.results25, eIII])
      refine ⟨(i + 1, e + 3), [], by first | assumption | omega, ?_, ?_⟩
      · (try simp only []); omega
      · constructor <;> (try simp (disch := omega) only [go_sem, ↓reduceIte, ↓reduceDIte, reduceCtorEq, kA, kB, kC, kD, kE, kF, kG, kH, kI, kJ, kK, kL, kM, kN, kO, kP, kQ, kR, kS, kT, if_pos, if_neg, w64, beqT, beqF, bneT, bneF, pr_get, ir_get, decide_eq_true, decide_eq_false, Tryz.ntmps25, Tryz.results25, Fe, List.take_of_length_le, List.append_assoc])
    · obtain rfl : i = l.length := by omega
      (try simp (disch := omega) only [go_sem, ↓reduceIte, ↓reduceDIte, reduceCtorEq, kA, kB, kC, kD, kE, kF, kG, kH, kI, kJ, kK, kL, kM, kN, kO, kP, kQ, kR, kS, kT, if_pos, if_neg, w64, beqT, beqF, bneT, bneF, pr_get, ir_get, decide_eq_true, decide_eq_false, Tryz.ntmps25, Tryz.results25])
theorem R21App_spec (s : Sc) (hb : (appL s).length ≤ 1000000) : Pure Tryz.prog 23 [lApp s] (lI (appL s)) := by
  obtain ⟨N, ls, T, fifo, room, acts⟩ := s
  simp only [appL] at hb ⊢
  obtain ⟨F, F0, Fs, Fn, Fl, Fk⟩ := flat_acc (fun x : Int × Int => [x.1, x.2]) ([N, (ls.length : Int)]) (ls) (fun _ => by simp)
  have Fz := Fl 0 (Nat.zero_le _)
  rw [F0] at Fz
  (try simp only [List.length_append, List.length_range, List.length_cons, List.length_nil, List.length_map, List.length_take] at Fz Fk)
  obtain ⟨H, H0, Hs, Hn, Hl, Hk⟩ := flat_acc (ndL) (F ls.length ++ [fifoN fifo, (T.length : Int)]) (T) (fun _ => by simp [ndL])
  have Hz := Hl 0 (Nat.zero_le _)
  rw [H0] at Hz
  (try simp only [List.length_append, List.length_range, List.length_cons, List.length_nil, List.length_map, List.length_take] at Hz Hk)
  rw [← Fn, ← Hn] at hb ⊢
  
  refine pcall0 200 (fn := Tryz.f23) Tryz.func23 rfl (by simp [Tryz.ntmps23]) (by first | trivial | (simp (maxSteps := 2000000) only [go_sem, ↓reduceIte, ↓reduceDIte, reduceCtorEq, kA, kB, kC, kD, kE, kF, kG, kH, kI, kJ, kK, kL, kM, kN, kO, kP, kQ, kR, kS, kT, Tryz.ntmps23, Tryz.results23]; done) | (split <;> simp (maxSteps := 2000000) only [go_sem, ↓reduceIte, ↓reduceDIte, reduceCtorEq, kA, kB, kC, kD, kE, kF, kG, kH, kI, kJ, kK, kL, kM, kN, kO, kP, kQ, kR, kS, kT, Tryz.ntmps23, Tryz.results23])) (by first | trivial | (simp (maxSteps := 2000000) only [go_sem, ↓reduceIte, ↓reduceDIte, reduceCtorEq, kA, kB, kC, kD, kE, kF, kG, kH, kI, kJ, kK, kL, kM, kN, kO, kP, kQ, kR, kS, kT, Tryz.ntmps23, Tryz.results23]; done) | (split <;> simp (maxSteps := 2000000) only [go_sem, ↓reduceIte, ↓reduceDIte, reduceCtorEq, kA, kB, kC, kD, kE, kF, kG, kH, kI, kJ, kK, kL, kM, kN, kO, kP, kQ, kR, kS, kT, Tryz.ntmps23, Tryz.results23])) fun hs => ?_
  (try simp (config := { maxSteps := 2000000 }) (disch := omega) only [go_sem, ↓reduceIte, ↓reduceDIte, reduceCtorEq, kA, kB, kC, kD, kE, kF, kG, kH, kI, kJ, kK, kL, kM, kN, kO, kP, kQ, kR, kS, kT, if_pos, if_neg, w64, beqT, beqF, bneT, bneF, pr_get, ir_get, decide_eq_true, decide_eq_false, Tryz.ntmps23, Tryz.results23])
  (refine walk_trim [1, 3, 4] trivial (by first | exact Nat.zero_le _ | exact Nat.le_refl _ | omega) ?_; try simp (maxSteps := 2000000) only [go_sem, ↓reduceIte, ↓reduceDIte, reduceCtorEq, kA, kB, kC, kD, kE, kF, kG, kH, kI, kJ, kK, kL, kM, kN, kO, kP, kQ, kR, kS, kT, Tryz.ntmps23, Tryz.results23])
  refine walk_floop 200 200 (fun i : Nat × Nat => i.1 ≤ ls.length)
    (fun i => ⟨107, [(1, .ptr 0 0 0 0), (3, .ref 1 i.2 0 (F i.1).length), (4, sci .i64 i.1)], [], 2, [(1, .arr 1 i.2 (ir eI (F i.1))), (0, .arr 4 0 [[sci .i64 N, lII ls, .p (.imm 2 (pr eNd T)), scb fifo]])]⟩) (fun i => ls.length - i.1) (0, 0) [] ?_ ?_ ?_
  · simp
  · constructor <;> (try simp (config := { maxSteps := 2000000 }) (disch := omega) only [go_sem, ↓reduceIte, ↓reduceDIte, reduceCtorEq, kA, kB, kC, kD, kE, kF, kG, kH, kI, kJ, kK, kL, kM, kN, kO, kP, kQ, kR, kS, kT, if_pos, if_neg, w64, beqT, beqF, bneT, bneF, pr_get, ir_get, decide_eq_true, decide_eq_false, Tryz.ntmps23, Tryz.results23, Int.natCast_zero, List.take_of_length_le, List.append_assoc, F0, irl2])
  · rintro ⟨i, g⟩ hi
    simp only at hi
    (try simp (maxSteps := 2000000) only [go_sem, ↓reduceIte, ↓reduceDIte, reduceCtorEq, kA, kB, kC, kD, kE, kF, kG, kH, kI, kJ, kK, kL, kM, kN, kO, kP, kQ, kR, kS, kT, Tryz.ntmps23, Tryz.results23])
    by_cases li : i < ls.length
    · have Fi := Fl (i + 1) li
      have Fe := Fs i li
      rw [Fe] at Fi
      (try simp only [List.length_append, List.length_range, List.length_cons, List.length_nil, List.length_map, List.length_take] at Fi)
      (try simp (config := { maxSteps := 2000000 }) (disch := omega) only [go_sem, ↓reduceIte, ↓reduceDIte, reduceCtorEq, kA, kB, kC, kD, kE, kF, kG, kH, kI, kJ, kK, kL, kM, kN, kO, kP, kQ, kR, kS, kT, if_pos, if_neg, w64, beqT, beqF, bneT, bneF, pr_get, ir_get, decide_eq_true, decide_eq_false, Tryz.ntmps23, Tryz.results23, eII])
      refine ⟨(i + 1, g + 2), [], by first | assumption | omega, ?_, ?_⟩
      · (try simp only []); omega
      · constructor <;> (try simp (config := { maxSteps := 2000000 }) (disch := omega) only [go_sem, ↓reduceIte, ↓reduceDIte, reduceCtorEq, kA, kB, kC, kD, kE, kF, kG, kH, kI, kJ, kK, kL, kM, kN, kO, kP, kQ, kR, kS, kT, if_pos, if_neg, w64, beqT, beqF, bneT, bneF, pr_get, ir_get, decide_eq_true, decide_eq_false, Tryz.ntmps23, Tryz.results23, Fe, List.take_of_length_le, List.append_assoc])
    · obtain rfl : i = ls.length := by omega
      (try simp (config := { maxSteps := 2000000 }) (disch := omega) only [go_sem, ↓reduceIte, ↓reduceDIte, reduceCtorEq, kA, kB, kC, kD, kE, kF, kG, kH, kI, kJ, kK, kL, kM, kN, kO, kP, kQ, kR, kS, kT, if_pos, if_neg, w64, beqT, beqF, bneT, bneF, pr_get, ir_get, decide_eq_true, decide_eq_false, Tryz.ntmps23, Tryz.results23])
      cases fifo
      · simp only [fifoN, if_true, if_false, Bool.false_eq_true] at H0
        (try simp (config := { maxSteps := 2000000 }) (disch := omega) only [go_sem, ↓reduceIte, ↓reduceDIte, reduceCtorEq, kA, kB, kC, kD, kE, kF, kG, kH, kI, kJ, kK, kL, kM, kN, kO, kP, kQ, kR, kS, kT, if_pos, if_neg, w64, beqT, beqF, bneT, bneF, pr_get, ir_get, decide_eq_true, decide_eq_false, Tryz.ntmps23, Tryz.results23])
        (refine walk_trim [1, 3, 5] trivial (by first | exact Nat.zero_le _ | exact Nat.le_refl _ | omega) ?_; try simp (maxSteps := 2000000) only [go_sem, ↓reduceIte, ↓reduceDIte, reduceCtorEq, kA, kB, kC, kD, kE, kF, kG, kH, kI, kJ, kK, kL, kM, kN, kO, kP, kQ, kR, kS, kT, Tryz.ntmps23, Tryz.results23])
        refine walk_floop 200 200 (fun k : Nat × Nat => k.1 ≤ T.length)
          (fun k => ⟨107, [(1, .ptr 0 0 0 0), (3, .ref 1 k.2 0 (H k.1).length), (5, sci .i64 k.1)], [], 2, [(1, .arr 1 k.2 (ir eI (H k.1))), (0, .arr 4 0 [[sci .i64 N, lII ls, .p (.imm 2 (pr eNd T)), scb false]])]⟩) (fun k => T.length - k.1) (0, g + 2) [] ?_ ?_ ?_
        · simp
        · constructor <;> (try simp (config := { maxSteps := 2000000 }) (disch := omega) only [go_sem, ↓reduceIte, ↓reduceDIte, reduceCtorEq, kA, kB, kC, kD, kE, kF, kG, kH, kI, kJ, kK, kL, kM, kN, kO, kP, kQ, kR, kS, kT, if_pos, if_neg, w64, beqT, beqF, bneT, bneF, pr_get, ir_get, decide_eq_true, decide_eq_false, Tryz.ntmps23, Tryz.results23, Int.natCast_zero, List.take_of_length_le, List.append_assoc, H0])
        · rintro ⟨k, e⟩ hk
          simp only at hk
          (try simp (maxSteps := 2000000) only [go_sem, ↓reduceIte, ↓reduceDIte, reduceCtorEq, kA, kB, kC, kD, kE, kF, kG, kH, kI, kJ, kK, kL, kM, kN, kO, kP, kQ, kR, kS, kT, Tryz.ntmps23, Tryz.results23])
          by_cases lk : k < T.length
          · have hfi := Hl (k + 1) lk
            have hpi := Hs k lk
            generalize hp : T[k] = p at *
            obtain ⟨G, G0, Gs, Gn, Gl, Gk⟩ := flat_acc (stL) (H k ++ [p.start, (p.states.length : Int)]) (p.states) stL_pos
            have Gz := Gl 0 (Nat.zero_le _)
            rw [G0] at Gz
            (try simp only [List.length_append, List.length_range, List.length_cons, List.length_nil, List.length_map, List.length_take] at Gz Gk)
            have gF : G p.states.length = H (k + 1) := by rw [Gn, hpi]; simp [ndL]
            rw [← gF] at hfi
            (try simp (config := { maxSteps := 2000000 }) (disch := omega) only [go_sem, ↓reduceIte, ↓reduceDIte, reduceCtorEq, kA, kB, kC, kD, kE, kF, kG, kH, kI, kJ, kK, kL, kM, kN, kO, kP, kQ, kR, kS, kT, if_pos, if_neg, w64, beqT, beqF, bneT, bneF, pr_get, ir_get, decide_eq_true, decide_eq_false, Tryz.ntmps23, Tryz.results23, eNd, hp])
            (refine walk_trim [1, 3, 5, 6] trivial (by first | exact Nat.zero_le _ | exact Nat.le_refl _ | omega) ?_; try simp (maxSteps := 2000000) only [go_sem, ↓reduceIte, ↓reduceDIte, reduceCtorEq, kA, kB, kC, kD, kE, kF, kG, kH, kI, kJ, kK, kL, kM, kN, kO, kP, kQ, kR, kS, kT, Tryz.ntmps23, Tryz.results23])
            refine walk_floop 200 200 (fun j : Nat × Nat => j.1 ≤ p.states.length)
              (fun j => ⟨107, [(1, .ptr 0 0 0 0), (3, .ref 1 j.2 0 (G j.1).length), (5, sci .i64 k), (6, sci .i64 j.1)], [], 2, [(1, .arr 1 j.2 (ir eI (G j.1))), (0, .arr 4 0 [[sci .i64 N, lII ls, .p (.imm 2 (pr eNd T)), scb false]])]⟩) (fun j => p.states.length - j.1) (0, e + 2) [] ?_ ?_ ?_
            · simp
            · constructor <;> (try simp (config := { maxSteps := 2000000 }) (disch := omega) only [go_sem, ↓reduceIte, ↓reduceDIte, reduceCtorEq, kA, kB, kC, kD, kE, kF, kG, kH, kI, kJ, kK, kL, kM, kN, kO, kP, kQ, kR, kS, kT, if_pos, if_neg, w64, beqT, beqF, bneT, bneF, pr_get, ir_get, decide_eq_true, decide_eq_false, Tryz.ntmps23, Tryz.results23, Int.natCast_zero, List.take_of_length_le, List.append_assoc, G0])
            · rintro ⟨j, f⟩ hj
              simp only at hj
              (try simp (maxSteps := 2000000) only [go_sem, ↓reduceIte, ↓reduceDIte, reduceCtorEq, kA, kB, kC, kD, kE, kF, kG, kH, kI, kJ, kK, kL, kM, kN, kO, kP, kQ, kR, kS, kT, Tryz.ntmps23, Tryz.results23])
              by_cases lj : j < p.states.length
              · have Gi := Gl (j + 1) lj
                have Ge := Gs j lj
                rw [Ge] at Gi
                (try simp only [List.length_append, List.length_range, List.length_cons, List.length_nil, List.length_map, List.length_take] at Gi)
                (try simp (config := { maxSteps := 2000000 }) (disch := omega) only [go_sem, ↓reduceIte, ↓reduceDIte, reduceCtorEq, kA, kB, kC, kD, kE, kF, kG, kH, kI, kJ, kK, kL, kM, kN, kO, kP, kQ, kR, kS, kT, if_pos, if_neg, w64, beqT, beqF, bneT, bneF, pr_get, ir_get, decide_eq_true, decide_eq_false, Tryz.ntmps23, Tryz.results23, eNd, hp, eSt])
                (refine at_call 200 ?_; simp (maxSteps := 2000000) only [go_sem, ↓reduceIte, ↓reduceDIte, reduceCtorEq, kA, kB, kC, kD, kE, kF, kG, kH, kI, kJ, kK, kL, kM, kN, kO, kP, kQ, kR, kS, kT, Tryz.ntmps23, Tryz.results23]; refine callA_of (R21state_spec p.states[j] (by omega)) (by first | trivial | (simp (maxSteps := 2000000) only [go_sem, ↓reduceIte, ↓reduceDIte, reduceCtorEq, kA, kB, kC, kD, kE, kF, kG, kH, kI, kJ, kK, kL, kM, kN, kO, kP, kQ, kR, kS, kT, Tryz.ntmps23, Tryz.results23]; done) | (split <;> simp (maxSteps := 2000000) only [go_sem, ↓reduceIte, ↓reduceDIte, reduceCtorEq, kA, kB, kC, kD, kE, kF, kG, kH, kI, kJ, kK, kL, kM, kN, kO, kP, kQ, kR, kS, kT, Tryz.ntmps23, Tryz.results23])) ?_; try simp (maxSteps := 2000000) only [go_sem, ↓reduceIte, ↓reduceDIte, reduceCtorEq, kA, kB, kC, kD, kE, kF, kG, kH, kI, kJ, kK, kL, kM, kN, kO, kP, kQ, kR, kS, kT, Tryz.ntmps23, Tryz.results23])
                (try simp (config := { maxSteps := 2000000 }) (disch := omega) only [go_sem, ↓reduceIte, ↓reduceDIte, reduceCtorEq, kA, kB, kC, kD, kE, kF, kG, kH, kI, kJ, kK, kL, kM, kN, kO, kP, kQ, kR, kS, kT, if_pos, if_neg, w64, beqT, beqF, bneT, bneF, pr_get, ir_get, decide_eq_true, decide_eq_false, Tryz.ntmps23, Tryz.results23])
                refine ⟨(j + 1, f + 1), [], by first | assumption | omega, ?_, ?_⟩
                · (try simp only []); omega
                · constructor <;> (try simp (config := { maxSteps := 2000000 }) (disch := omega) only [go_sem, ↓reduceIte, ↓reduceDIte, reduceCtorEq, kA, kB, kC, kD, kE, kF, kG, kH, kI, kJ, kK, kL, kM, kN, kO, kP, kQ, kR, kS, kT, if_pos, if_neg, w64, beqT, beqF, bneT, bneF, pr_get, ir_get, decide_eq_true, decide_eq_false, Tryz.ntmps23, Tryz.results23, Ge, List.take_of_length_le, List.append_assoc])
              · obtain rfl : j = p.states.length := by omega
                (try simp (config := { maxSteps := 2000000 }) (disch := omega) only [go_sem, ↓reduceIte, ↓reduceDIte, reduceCtorEq, kA, kB, kC, kD, kE, kF, kG, kH, kI, kJ, kK, kL, kM, kN, kO, kP, kQ, kR, kS, kT, if_pos, if_neg, w64, beqT, beqF, bneT, bneF, pr_get, ir_get, decide_eq_true, decide_eq_false, Tryz.ntmps23, Tryz.results23, eNd, hp])
                refine ⟨(k + 1, f), [], by first | assumption | omega, ?_, ?_⟩
                · (try simp only []); omega
                · constructor <;> (try simp (config := { maxSteps := 2000000 }) (disch := omega) only [go_sem, ↓reduceIte, ↓reduceDIte, reduceCtorEq, kA, kB, kC, kD, kE, kF, kG, kH, kI, kJ, kK, kL, kM, kN, kO, kP, kQ, kR, kS, kT, if_pos, if_neg, w64, beqT, beqF, bneT, bneF, pr_get, ir_get, decide_eq_true, decide_eq_false, Tryz.ntmps23, Tryz.results23, gF, List.append_assoc])
          · obtain rfl : k = T.length := by omega
            (try simp (config := { maxSteps := 2000000 }) (disch := omega) only [go_sem, ↓reduceIte, ↓reduceDIte, reduceCtorEq, kA, kB, kC, kD, kE, kF, kG, kH, kI, kJ, kK, kL, kM, kN, kO, kP, kQ, kR, kS, kT, if_pos, if_neg, w64, beqT, beqF, bneT, bneF, pr_get, ir_get, decide_eq_true, decide_eq_false, Tryz.ntmps23, Tryz.results23])
      · simp only [fifoN, if_true, if_false, Bool.false_eq_true] at H0
        (try simp (config := { maxSteps := 2000000 }) (disch := omega) only [go_sem, ↓reduceIte, ↓reduceDIte, reduceCtorEq, kA, kB, kC, kD, kE, kF, kG, kH, kI, kJ, kK, kL, kM, kN, kO, kP, kQ, kR, kS, kT, if_pos, if_neg, w64, beqT, beqF, bneT, bneF, pr_get, ir_get, decide_eq_true, decide_eq_false, Tryz.ntmps23, Tryz.results23])
        (refine walk_trim [1, 3, 5] trivial (by first | exact Nat.zero_le _ | exact Nat.le_refl _ | omega) ?_; try simp (maxSteps := 2000000) only [go_sem, ↓reduceIte, ↓reduceDIte, reduceCtorEq, kA, kB, kC, kD, kE, kF, kG, kH, kI, kJ, kK, kL, kM, kN, kO, kP, kQ, kR, kS, kT, Tryz.ntmps23, Tryz.results23])
        refine walk_floop 200 200 (fun k : Nat × Nat => k.1 ≤ T.length)
          (fun k => ⟨107, [(1, .ptr 0 0 0 0), (3, .ref 1 k.2 0 (H k.1).length), (5, sci .i64 k.1)], [], 2, [(1, .arr 1 k.2 (ir eI (H k.1))), (0, .arr 4 0 [[sci .i64 N, lII ls, .p (.imm 2 (pr eNd T)), scb true]])]⟩) (fun k => T.length - k.1) (0, g + 2) [] ?_ ?_ ?_
        · simp
        · constructor <;> (try simp (config := { maxSteps := 2000000 }) (disch := omega) only [go_sem, ↓reduceIte, ↓reduceDIte, reduceCtorEq, kA, kB, kC, kD, kE, kF, kG, kH, kI, kJ, kK, kL, kM, kN, kO, kP, kQ, kR, kS, kT, if_pos, if_neg, w64, beqT, beqF, bneT, bneF, pr_get, ir_get, decide_eq_true, decide_eq_false, Tryz.ntmps23, Tryz.results23, Int.natCast_zero, List.take_of_length_le, List.append_assoc, H0])
        · rintro ⟨k, e⟩ hk
          simp only at hk
          (try simp (maxSteps := 2000000) only [go_sem, ↓reduceIte, ↓reduceDIte, reduceCtorEq, kA, kB, kC, kD, kE, kF, kG, kH, kI, kJ, kK, kL, kM, kN, kO, kP, kQ, kR, kS, kT, Tryz.ntmps23, Tryz.results23])
          by_cases lk : k < T.length
          · have hfi := Hl (k + 1) lk
            have hpi := Hs k lk
            generalize hp : T[k] = p at *
            obtain ⟨G, G0, Gs, Gn, Gl, Gk⟩ := flat_acc (stL) (H k ++ [p.start, (p.states.length : Int)]) (p.states) stL_pos
            have Gz := Gl 0 (Nat.zero_le _)
            rw [G0] at Gz
            (try simp only [List.length_append, List.length_range, List.length_cons, List.length_nil, List.length_map, List.length_take] at Gz Gk)
            have gF : G p.states.length = H (k + 1) := by rw [Gn, hpi]; simp [ndL]
            rw [← gF] at hfi
            (try simp (config := { maxSteps := 2000000 }) (disch := omega) only [go_sem, ↓reduceIte, ↓reduceDIte, reduceCtorEq, kA, kB, kC, kD, kE, kF, kG, kH, kI, kJ, kK, kL, kM, kN, kO, kP, kQ, kR, kS, kT, if_pos, if_neg, w64, beqT, beqF, bneT, bneF, pr_get, ir_get, decide_eq_true, decide_eq_false, Tryz.ntmps23, Tryz.results23, eNd, hp])
            (refine walk_trim [1, 3, 5, 6] trivial (by first | exact Nat.zero_le _ | exact Nat.le_refl _ | omega) ?_; try simp (maxSteps := 2000000) only [go_sem, ↓reduceIte, ↓reduceDIte, reduceCtorEq, kA, kB, kC, kD, kE, kF, kG, kH, kI, kJ, kK, kL, kM, kN, kO, kP, kQ, kR, kS, kT, Tryz.ntmps23, Tryz.results23])
            refine walk_floop 200 200 (fun j : Nat × Nat => j.1 ≤ p.states.length)
              (fun j => ⟨107, [(1, .ptr 0 0 0 0), (3, .ref 1 j.2 0 (G j.1).length), (5, sci .i64 k), (6, sci .i64 j.1)], [], 2, [(1, .arr 1 j.2 (ir eI (G j.1))), (0, .arr 4 0 [[sci .i64 N, lII ls, .p (.imm 2 (pr eNd T)), scb true]])]⟩) (fun j => p.states.length - j.1) (0, e + 2) [] ?_ ?_ ?_
            · simp
            · constructor <;> (try simp (config := { maxSteps := 2000000 }) (disch := omega) only [go_sem, ↓reduceIte, ↓reduceDIte, reduceCtorEq, kA, kB, kC, kD, kE, kF, kG, kH, kI, kJ, kK, kL, kM, kN, kO, kP, kQ, kR, kS, kT, if_pos, if_neg, w64, beqT, beqF, bneT, bneF, pr_get, ir_get, decide_eq_true, decide_eq_false, Tryz.ntmps23, Tryz.results23, Int.natCast_zero, List.take_of_length_le, List.append_assoc, G0])
            · rintro ⟨j, f⟩ hj
              simp only at hj
              (try simp (maxSteps := 2000000) only [go_sem, ↓reduceIte, ↓reduceDIte, reduceCtorEq, kA, kB, kC, kD, kE, kF, kG, kH, kI, kJ, kK, kL, kM, kN, kO, kP, kQ, kR, kS, kT, Tryz.ntmps23, Tryz.results23])
              by_cases lj : j < p.states.length
              · have Gi := Gl (j + 1) lj
                have Ge := Gs j lj
                rw [Ge] at Gi
                (try simp only [List.length_append, List.length_range, List.length_cons, List.length_nil, List.length_map, List.length_take] at Gi)
                (try simp (config := { maxSteps := 2000000 }) (disch := omega) only [go_sem, ↓reduceIte, ↓reduceDIte, reduceCtorEq, kA, kB, kC, kD, kE, kF, kG, kH, kI, kJ, kK, kL, kM, kN, kO, kP, kQ, kR, kS, kT, if_pos, if_neg, w64, beqT, beqF, bneT, bneF, pr_get, ir_get, decide_eq_true, decide_eq_false, Tryz.ntmps23, Tryz.results23, eNd, hp, eSt])
                (refine at_call 200 ?_; simp (maxSteps := 2000000) only [go_sem, ↓reduceIte, ↓reduceDIte, reduceCtorEq, kA, kB, kC, kD, kE, kF, kG, kH, kI, kJ, kK, kL, kM, kN, kO, kP, kQ, kR, kS, kT, Tryz.ntmps23, Tryz.results23]; refine callA_of (R21state_spec p.states[j] (by omega)) (by first | trivial | (simp (maxSteps := 2000000) only [go_sem, ↓reduceIte, ↓reduceDIte, reduceCtorEq, kA, kB, kC, kD, kE, kF, kG, kH, kI, kJ, kK, kL, kM, kN, kO, kP, kQ, kR, kS, kT, Tryz.ntmps23, Tryz.results23]; done) | (split <;> simp (maxSteps := 2000000) only [go_sem, ↓reduceIte, ↓reduceDIte, reduceCtorEq, kA, kB, kC, kD, kE, kF, kG, kH, kI, kJ, kK, kL, kM, kN, kO, kP, kQ, kR, kS, kT, Tryz.ntmps23, Tryz.results23])) ?_; try simp (maxSteps := 2000000) only [go_sem, ↓reduceIte, ↓reduceDIte, reduceCtorEq, kA, kB, kC, kD, kE, kF, kG, kH, kI, kJ, kK, kL, kM, kN, kO, kP, kQ, kR, kS, kT, Tryz.ntmps23, Tryz.results23])
                (try simp (config := { maxSteps := 2000000 }) (disch := omega) only [go_sem, ↓reduceIte, ↓reduceDIte, reduceCtorEq, kA, kB, kC, kD, kE, kF, kG, kH, kI, kJ, kK, kL, kM, kN, kO, kP, kQ, kR, kS, kT, if_pos, if_neg, w64, beqT, beqF, bneT, bneF, pr_get, ir_get, decide_eq_true, decide_eq_false, Tryz.ntmps23, Tryz.results23])
                refine ⟨(j + 1, f + 1), [], by first | assumption | omega, ?_, ?_⟩
                · (try simp only []); omega
                · constructor <;> (try simp (config := { maxSteps := 2000000 }) (disch := omega) only [go_sem, ↓reduceIte, ↓reduceDIte, reduceCtorEq, kA, kB, kC, kD, kE, kF, kG, kH, kI, kJ, kK, kL, kM, kN, kO, kP, kQ, kR, kS, kT, if_pos, if_neg, w64, beqT, beqF, bneT, bneF, pr_get, ir_get, decide_eq_true, decide_eq_false, Tryz.ntmps23, Tryz.results23, Ge, List.take_of_length_le, List.append_assoc])
              · obtain rfl : j = p.states.length := by omega
                (try simp (config := { maxSteps := 2000000 }) (disch := omega) only [go_sem, ↓reduceIte, ↓reduceDIte, reduceCtorEq, kA, kB, kC, kD, kE, kF, kG, kH, kI, kJ, kK, kL, kM, kN, kO, kP, kQ, kR, kS, kT, if_pos, if_neg, w64, beqT, beqF, bneT, bneF, pr_get, ir_get, decide_eq_true, decide_eq_false, Tryz.ntmps23, Tryz.results23, eNd, hp])
                refine ⟨(k + 1, f), [], by first | assumption | omega, ?_, ?_⟩
                · (try simp only []); omega
                · constructor <;> (try simp (config := { maxSteps := 2000000 }) (disch := omega) only [go_sem, ↓reduceIte, ↓reduceDIte, reduceCtorEq, kA, kB, kC, kD, kE, kF, kG, kH, kI, kJ, kK, kL, kM, kN, kO, kP, kQ, kR, kS, kT, if_pos, if_neg, w64, beqT, beqF, bneT, bneF, pr_get, ir_get, decide_eq_true, decide_eq_false, Tryz.ntmps23, Tryz.results23, gF, List.append_assoc])
          · obtain rfl : k = T.length := by omega
            (try simp (config := { maxSteps := 2000000 }) (disch := omega) only [go_sem, ↓reduceIte, ↓reduceDIte, reduceCtorEq, kA, kB, kC, kD, kE, kF, kG, kH, kI, kJ, kK, kL, kM, kN, kO, kP, kQ, kR, kS, kT, if_pos, if_neg, w64, beqT, beqF, bneT, bneF, pr_get, ir_get, decide_eq_true, decide_eq_false, Tryz.ntmps23, Tryz.results23])
end Go.Proofs.TZ
