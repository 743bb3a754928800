/- Numbers as a text. -/
import Derived.Test.YtoiledoommblcaaGreatZC
set_option linter.unusedSimpArgs false
set_option linter.unusedVariables false
namespace Go.Proofs.TZ
open Go Go.Idl Go.Proofs
open Nat renaming reducePow → kA, reduceEqDiff → kB, reduceAdd → kC, reduceSub → kD, reduceMul → kE, reduceMod → kF, reduceLeDiff → kG, reduceLT → kH, reduceBEq → kI, reduceBNe → kJ
open Int renaming reduceLT → kK, reduceLE → kL, reduceToNat → kM, reduceNeg → kN, reduceAdd → kO, reduceSub → kP, reduceMul → kQ, reduceBEq → kR, reduceBNe → kS, reduceEq → kT
set_option maxHeartbeats 20000000
set_option maxRecDepth 100000
def byteN (n : Int) (i : Nat) : Int := IntKind.u8.wrap (n.fdiv (2 ^ min (8 * (i : Int)).toNat 64))
def le8 (n : Int) : List Int := (List.range 8).map (byteN n)
theorem le8_len (n : Int) : (le8 n).length = 8 := by simp [le8]
theorem text_spec (l : List Int) (hb : l.length ≤ 1000000) : Pure Tryz.prog 77 [lI l] (.p (.sc (.string (strOf (l.flatMap le8))))) := by
  obtain ⟨F, F0, Fs, Fn, Fl, Fk⟩ := flat_acc (le8) ([]) (l) (fun n => by simp [le8])
  have Fz := Fl 0 (Nat.zero_le _)
  rw [F0] at Fz
  (try simp only [List.length_append, List.length_range, List.length_cons, List.length_nil, List.length_map, List.length_take] at Fz Fk)
  simp only [List.nil_append] at Fn
  rw [← Fn]
  have hlen : ∀ i, i ≤ l.length → (F i).length = 8 * i := by
    intro i
    induction i with
    | zero => intro _; rw [F0]; rfl
    | succ i ih => intro hi; rw [Fs i hi, List.length_append, ih (by omega), le8_len]; omega
  
  refine pcall0 200 (fn := Tryz.f77) Tryz.func77 rfl (by simp [Tryz.ntmps77]) (by first | trivial | (simp (maxSteps := 2000000) only [go_sem, ↓reduceIte, ↓reduceDIte, reduceCtorEq, kA, kB, kC, kD, kE, kF, kG, kH, kI, kJ, kK, kL, kM, kN, kO, kP, kQ, kR, kS, kT, Tryz.ntmps77, Tryz.results77]; done) | (split <;> simp (maxSteps := 2000000) only [go_sem, ↓reduceIte, ↓reduceDIte, reduceCtorEq, kA, kB, kC, kD, kE, kF, kG, kH, kI, kJ, kK, kL, kM, kN, kO, kP, kQ, kR, kS, kT, Tryz.ntmps77, Tryz.results77])) (by first | trivial | (simp (maxSteps := 2000000) only [go_sem, ↓reduceIte, ↓reduceDIte, reduceCtorEq, kA, kB, kC, kD, kE, kF, kG, kH, kI, kJ, kK, kL, kM, kN, kO, kP, kQ, kR, kS, kT, Tryz.ntmps77, Tryz.results77]; done) | (split <;> simp (maxSteps := 2000000) only [go_sem, ↓reduceIte, ↓reduceDIte, reduceCtorEq, kA, kB, kC, kD, kE, kF, kG, kH, kI, kJ, kK, kL, kM, kN, kO, kP, kQ, kR, kS, kT, Tryz.ntmps77, Tryz.results77])) fun hs => ?_
  (try simp (config := { maxSteps := 2000000 }) (disch := omega) only [go_sem, ↓reduceIte, ↓reduceDIte, reduceCtorEq, kA, kB, kC, kD, kE, kF, kG, kH, kI, kJ, kK, kL, kM, kN, kO, kP, kQ, kR, kS, kT, if_pos, if_neg, w64, beqT, beqF, bneT, bneF, pr_get, ir_get, decide_eq_true, decide_eq_false, Tryz.ntmps77, Tryz.results77])
  refine walk_own 3 1 trivial rfl (.inr rfl) ?_
  (refine walk_trim [3, 7, 8, 9] trivial (by first | exact Nat.zero_le _ | exact Nat.le_refl _ | omega) ?_; try simp (maxSteps := 2000000) only [go_sem, ↓reduceIte, ↓reduceDIte, reduceCtorEq, kA, kB, kC, kD, kE, kF, kG, kH, kI, kJ, kK, kL, kM, kN, kO, kP, kQ, kR, kS, kT, Tryz.ntmps77, Tryz.results77])
  refine walk_floop 200 200 (fun i : Nat × Nat => i.1 ≤ l.length)
    (fun i => ⟨28, [(3, .ref 0 i.2 0 (F i.1).length), (7, lI l), (8, sci .i64 l.length), (9, sci .i64 i.1)], [], 1, [(0, .arr 1 i.2 (ir eY (F i.1)))]⟩) (fun i => l.length - i.1) (0, 0) [] ?_ ?_ ?_
  · simp
  · constructor <;> (try simp (config := { maxSteps := 2000000 }) (disch := omega) only [go_sem, ↓reduceIte, ↓reduceDIte, reduceCtorEq, kA, kB, kC, kD, kE, kF, kG, kH, kI, kJ, kK, kL, kM, kN, kO, kP, kQ, kR, kS, kT, if_pos, if_neg, w64, beqT, beqF, bneT, bneF, pr_get, ir_get, decide_eq_true, decide_eq_false, Tryz.ntmps77, Tryz.results77, Int.natCast_zero, List.take_of_length_le, List.append_assoc, F0])
  · rintro ⟨i, g⟩ hi
    simp only at hi
    (try simp (maxSteps := 2000000) only [go_sem, ↓reduceIte, ↓reduceDIte, reduceCtorEq, kA, kB, kC, kD, kE, kF, kG, kH, kI, kJ, kK, kL, kM, kN, kO, kP, kQ, kR, kS, kT, Tryz.ntmps77, Tryz.results77])
    by_cases li : i < l.length
    · have hF1 := hlen (i + 1) li
      have hF0 := hlen i hi
      have hpi := Fs i li
      generalize hp : l[i] = p at *
      obtain ⟨G, G0, Gs, Gn, Gl, Gk⟩ := flat_acc (fun k => [byteN p k]) (F i) (List.range 8) (fun _ => by simp)
      have Gz := Gl 0 (Nat.zero_le _)
      rw [G0] at Gz
      (try simp only [List.length_append, List.length_range, List.length_cons, List.length_nil, List.length_map, List.length_take] at Gz Gk)
      have gF : G 8 = F (i + 1) := by
        rw [List.length_range] at Gn
        rw [Gn, hpi, le8, List.map_eq_flatMap]
      have Gs' : ∀ k, k < 8 → G (k + 1) = G k ++ [byteN p k] := fun k hk => by have := Gs k (by simpa using hk); simpa using this
      (try simp (config := { maxSteps := 2000000 }) (disch := omega) only [go_sem, ↓reduceIte, ↓reduceDIte, reduceCtorEq, kA, kB, kC, kD, kE, kF, kG, kH, kI, kJ, kK, kL, kM, kN, kO, kP, kQ, kR, kS, kT, if_pos, if_neg, w64, beqT, beqF, bneT, bneF, pr_get, ir_get, decide_eq_true, decide_eq_false, Tryz.ntmps77, Tryz.results77, eI, hp])
      (refine walk_trim [3, 5, 7, 8, 9, 13] trivial (by first | exact Nat.zero_le _ | exact Nat.le_refl _ | omega) ?_; try simp (maxSteps := 2000000) only [go_sem, ↓reduceIte, ↓reduceDIte, reduceCtorEq, kA, kB, kC, kD, kE, kF, kG, kH, kI, kJ, kK, kL, kM, kN, kO, kP, kQ, kR, kS, kT, Tryz.ntmps77, Tryz.results77])
      refine walk_floop 200 200 (fun k : Nat × Nat => k.1 ≤ 8)
        (fun k => ⟨28, [(3, .ref 0 k.2 0 (G k.1).length), (5, sci .i64 p), (7, lI l), (8, sci .i64 l.length), (9, sci .i64 i), (13, sci .i64 k.1)], [], 1, [(0, .arr 1 k.2 (ir eY (G k.1)))]⟩) (fun k => 8 - k.1) (0, g) [] ?_ ?_ ?_
      · simp
      · constructor <;> (try simp (config := { maxSteps := 2000000 }) (disch := omega) only [go_sem, ↓reduceIte, ↓reduceDIte, reduceCtorEq, kA, kB, kC, kD, kE, kF, kG, kH, kI, kJ, kK, kL, kM, kN, kO, kP, kQ, kR, kS, kT, if_pos, if_neg, w64, beqT, beqF, bneT, bneF, pr_get, ir_get, decide_eq_true, decide_eq_false, Tryz.ntmps77, Tryz.results77, Int.natCast_zero, List.take_of_length_le, List.append_assoc, G0])
      · rintro ⟨k, e⟩ hk
        simp only at hk
        (try simp (maxSteps := 2000000) only [go_sem, ↓reduceIte, ↓reduceDIte, reduceCtorEq, kA, kB, kC, kD, kE, kF, kG, kH, kI, kJ, kK, kL, kM, kN, kO, kP, kQ, kR, kS, kT, Tryz.ntmps77, Tryz.results77])
        by_cases lk : k < 8
        · have hGi : (G k).length ≤ (F i).length + 8 := by
            have := Gl k (by simp; omega)
            simp only [List.length_range] at this
            rw [gF] at this
            omega
          have Gk := Gs' k lk
          have hb8 : (G k).length ≤ 140737488355327 := by omega
          (try simp (config := { maxSteps := 2000000 }) (disch := omega) only [go_sem, ↓reduceIte, ↓reduceDIte, reduceCtorEq, kA, kB, kC, kD, kE, kF, kG, kH, kI, kJ, kK, kL, kM, kN, kO, kP, kQ, kR, kS, kT, if_pos, if_neg, w64, beqT, beqF, bneT, bneF, pr_get, ir_get, decide_eq_true, decide_eq_false, Tryz.ntmps77, Tryz.results77, hb8])
          refine ⟨(k + 1, e + 1), [], by first | assumption | omega, ?_, ?_⟩
          · (try simp only []); omega
          · constructor <;> (try simp (config := { maxSteps := 2000000 }) (disch := omega) only [go_sem, ↓reduceIte, ↓reduceDIte, reduceCtorEq, kA, kB, kC, kD, kE, kF, kG, kH, kI, kJ, kK, kL, kM, kN, kO, kP, kQ, kR, kS, kT, if_pos, if_neg, w64, beqT, beqF, bneT, bneF, pr_get, ir_get, decide_eq_true, decide_eq_false, Tryz.ntmps77, Tryz.results77, Gk, byteN, List.append_assoc])
        · obtain rfl : k = 8 := by omega
          (try simp (config := { maxSteps := 2000000 }) (disch := omega) only [go_sem, ↓reduceIte, ↓reduceDIte, reduceCtorEq, kA, kB, kC, kD, kE, kF, kG, kH, kI, kJ, kK, kL, kM, kN, kO, kP, kQ, kR, kS, kT, if_pos, if_neg, w64, beqT, beqF, bneT, bneF, pr_get, ir_get, decide_eq_true, decide_eq_false, Tryz.ntmps77, Tryz.results77])
          refine ⟨(i + 1, e), [], by first | assumption | omega, ?_, ?_⟩
          · (try simp only []); omega
          · constructor <;> (try simp (config := { maxSteps := 2000000 }) (disch := omega) only [go_sem, ↓reduceIte, ↓reduceDIte, reduceCtorEq, kA, kB, kC, kD, kE, kF, kG, kH, kI, kJ, kK, kL, kM, kN, kO, kP, kQ, kR, kS, kT, if_pos, if_neg, w64, beqT, beqF, bneT, bneF, pr_get, ir_get, decide_eq_true, decide_eq_false, Tryz.ntmps77, Tryz.results77, gF, List.append_assoc])
    · obtain rfl : i = l.length := by omega
      (try simp (config := { maxSteps := 2000000 }) (disch := omega) only [go_sem, ↓reduceIte, ↓reduceDIte, reduceCtorEq, kA, kB, kC, kD, kE, kF, kG, kH, kI, kJ, kK, kL, kM, kN, kO, kP, kQ, kR, kS, kT, if_pos, if_neg, w64, beqT, beqF, bneT, bneF, pr_get, ir_get, decide_eq_true, decide_eq_false, Tryz.ntmps77, Tryz.results77])
end Go.Proofs.TZ
