/- Bytes of numbers, as the document tells them. -/
import Derived.Test.YtoiledoommblcaaGreatZPa
set_option linter.unusedSimpArgs false
set_option linter.unusedVariables false
namespace Go.Proofs.TZ
open Go Go.Idl Go.Proofs Go.GP
open Nat renaming reducePow → kA, reduceEqDiff → kB, reduceAdd → kC, reduceSub → kD, reduceMul → kE, reduceMod → kF, reduceLeDiff → kG, reduceLT → kH, reduceBEq → kI, reduceBNe → kJ
open Int renaming reduceLT → kK, reduceLE → kL, reduceToNat → kM, reduceNeg → kN, reduceAdd → kO, reduceSub → kP, reduceMul → kQ, reduceBEq → kR, reduceBNe → kS, reduceEq → kT
set_option maxHeartbeats 20000000
set_option maxRecDepth 100000
theorem R1Cut_spec (n : Int) : Pure Tryz.prog 48 [sci .i64 n] (sci .i64 (clampN n)) := by
  have hc : (if 0 < if 2147483647 < n then 2147483647 else n then if 2147483647 < n then 2147483647 else n else 0) = ((clampN n : Nat) : Int) := by unfold clampN; split <;> split <;> omega
  refine pcall0 200 (fn := Tryz.f48) Tryz.func48 rfl (by simp [Tryz.ntmps48]) (by first | trivial | (simp only [go_sem, ↓reduceIte, ↓reduceDIte, reduceCtorEq, kA, kB, kC, kD, kE, kF, kG, kH, kI, kJ, kK, kL, kM, kN, kO, kP, kQ, kR, kS, kT, Tryz.ntmps48, Tryz.results48]; done) | (split <;> simp only [go_sem, ↓reduceIte, ↓reduceDIte, reduceCtorEq, kA, kB, kC, kD, kE, kF, kG, kH, kI, kJ, kK, kL, kM, kN, kO, kP, kQ, kR, kS, kT, Tryz.ntmps48, Tryz.results48])) (by first | trivial | (simp only [go_sem, ↓reduceIte, ↓reduceDIte, reduceCtorEq, kA, kB, kC, kD, kE, kF, kG, kH, kI, kJ, kK, kL, kM, kN, kO, kP, kQ, kR, kS, kT, Tryz.ntmps48, Tryz.results48]; done) | (split <;> simp only [go_sem, ↓reduceIte, ↓reduceDIte, reduceCtorEq, kA, kB, kC, kD, kE, kF, kG, kH, kI, kJ, kK, kL, kM, kN, kO, kP, kQ, kR, kS, kT, Tryz.ntmps48, Tryz.results48])) fun hs => ?_
  (try simp (disch := omega) only [go_sem, ↓reduceIte, ↓reduceDIte, reduceCtorEq, kA, kB, kC, kD, kE, kF, kG, kH, kI, kJ, kK, kL, kM, kN, kO, kP, kQ, kR, kS, kT, if_pos, if_neg, w64, beqT, beqF, bneT, bneF, pr_get, ir_get, decide_eq_true, decide_eq_false, Tryz.ntmps48, Tryz.results48, hc])
@[go_sem] theorem bytesR_one {n : Int} : bytesR [[.p (.sc (.int .u8 n))]] = some [n] := (rfl)
theorem u8b (x : Nat) (h : x < 256) : IntKind.u8.wrap (x : Int) = (x : Int) := by rw [IntKind.wrap_u8]; omega
theorem R1Put_spec (n : Int) : Pure Tryz.prog 16 [sci .i64 n] (.p (.sc (.string (strOf (putL n))))) := by
  
  refine pcall0 200 (fn := Tryz.f16) Tryz.func16 rfl (by simp [Tryz.ntmps16]) (by first | trivial | (simp (maxSteps := 2000000) only [go_sem, ↓reduceIte, ↓reduceDIte, reduceCtorEq, kA, kB, kC, kD, kE, kF, kG, kH, kI, kJ, kK, kL, kM, kN, kO, kP, kQ, kR, kS, kT, Tryz.ntmps16, Tryz.results16]; done) | (split <;> simp (maxSteps := 2000000) only [go_sem, ↓reduceIte, ↓reduceDIte, reduceCtorEq, kA, kB, kC, kD, kE, kF, kG, kH, kI, kJ, kK, kL, kM, kN, kO, kP, kQ, kR, kS, kT, Tryz.ntmps16, Tryz.results16])) (by first | trivial | (simp (maxSteps := 2000000) only [go_sem, ↓reduceIte, ↓reduceDIte, reduceCtorEq, kA, kB, kC, kD, kE, kF, kG, kH, kI, kJ, kK, kL, kM, kN, kO, kP, kQ, kR, kS, kT, Tryz.ntmps16, Tryz.results16]; done) | (split <;> simp (maxSteps := 2000000) only [go_sem, ↓reduceIte, ↓reduceDIte, reduceCtorEq, kA, kB, kC, kD, kE, kF, kG, kH, kI, kJ, kK, kL, kM, kN, kO, kP, kQ, kR, kS, kT, Tryz.ntmps16, Tryz.results16])) fun hs => ?_
  (try simp (maxSteps := 2000000) only [go_sem, ↓reduceIte, ↓reduceDIte, reduceCtorEq, kA, kB, kC, kD, kE, kF, kG, kH, kI, kJ, kK, kL, kM, kN, kO, kP, kQ, kR, kS, kT, Tryz.ntmps16, Tryz.results16])
  (refine at_call 200 ?_; simp (maxSteps := 2000000) only [go_sem, ↓reduceIte, ↓reduceDIte, reduceCtorEq, kA, kB, kC, kD, kE, kF, kG, kH, kI, kJ, kK, kL, kM, kN, kO, kP, kQ, kR, kS, kT, Tryz.ntmps16, Tryz.results16]; refine callA_of (R1Cut_spec n) (by first | trivial | (simp (maxSteps := 2000000) only [go_sem, ↓reduceIte, ↓reduceDIte, reduceCtorEq, kA, kB, kC, kD, kE, kF, kG, kH, kI, kJ, kK, kL, kM, kN, kO, kP, kQ, kR, kS, kT, Tryz.ntmps16, Tryz.results16]; done) | (split <;> simp (maxSteps := 2000000) only [go_sem, ↓reduceIte, ↓reduceDIte, reduceCtorEq, kA, kB, kC, kD, kE, kF, kG, kH, kI, kJ, kK, kL, kM, kN, kO, kP, kQ, kR, kS, kT, Tryz.ntmps16, Tryz.results16])) ?_; try simp (maxSteps := 2000000) only [go_sem, ↓reduceIte, ↓reduceDIte, reduceCtorEq, kA, kB, kC, kD, kE, kF, kG, kH, kI, kJ, kK, kL, kM, kN, kO, kP, kQ, kR, kS, kT, Tryz.ntmps16, Tryz.results16])
  (try simp (maxSteps := 2000000) only [go_sem, ↓reduceIte, ↓reduceDIte, reduceCtorEq, kA, kB, kC, kD, kE, kF, kG, kH, kI, kJ, kK, kL, kM, kN, kO, kP, kQ, kR, kS, kT, Tryz.ntmps16, Tryz.results16])
  have hle := clamp_le n
  unfold putL
  generalize clampN n = c at *
  have e0 : strOf [] = ⟨#[]⟩ := rfl
  refine walk_floop 200 200 (fun i : Nat × Nat × List Int => i.2.1 < 128 ^ (i.1 + 1) ∧ i.2.2.length + i.1 ≤ 4 ∧ i.2.2 ++ putN i.1 i.2.1 = putN 4 c)
    (fun i => ⟨24, [(0, sci .i64 i.2.1), (3, .p (.sc (.string (strOf i.2.2))))], [], 0, []⟩) (fun i => i.1) (4, c, []) [] ?_ ?_ ?_
  · exact ⟨by simp only; omega, by simp, rfl⟩
  · constructor <;> (try simp (config := { maxSteps := 2000000 }) (disch := omega) only [go_sem, ↓reduceIte, ↓reduceDIte, reduceCtorEq, kA, kB, kC, kD, kE, kF, kG, kH, kI, kJ, kK, kL, kM, kN, kO, kP, kQ, kR, kS, kT, if_pos, if_neg, w64, beqT, beqF, bneT, bneF, pr_get, ir_get, decide_eq_true, decide_eq_false, Tryz.ntmps16, Tryz.results16, e0])
  · rintro ⟨f, m, acc⟩ ⟨h1, h2, h3⟩
    simp only at h1 h2 h3
    (try simp (maxSteps := 2000000) only [go_sem, ↓reduceIte, ↓reduceDIte, reduceCtorEq, kA, kB, kC, kD, kE, kF, kG, kH, kI, kJ, kK, kL, kM, kN, kO, kP, kQ, kR, kS, kT, Tryz.ntmps16, Tryz.results16])
    have hz : (strOf acc).size + 1 ≤ 9223372036854775807 := by rw [strOf_size]; omega
    by_cases hm : 127 < m
    · cases f with
      | zero => simp at h1; omega
      | succ f =>
        have h1' : m / 128 < 128 ^ (f + 1) := by rw [Nat.div_lt_iff_lt_mul (by omega), ← Nat.pow_succ]; exact h1
        rw [putN, if_neg (by omega)] at h3
        have ht : (m : Int).tmod 128 = ((m % 128 : Nat) : Int) := rfl
        have hq : (m : Int).tdiv 128 = ((m / 128 : Nat) : Int) := rfl
        have ha : (128 : Int) + ((m % 128 : Nat) : Int) = ((m % 128 : Nat) : Int) + 128 := by omega
        have hw : IntKind.u8.wrap (((m % 128 : Nat) : Int) + 128) = ((m % 128 : Nat) : Int) + 128 := by rw [IntKind.wrap_u8]; omega
        have hm2 : m < 34359738368 := Nat.lt_of_lt_of_le h1 (Nat.pow_le_pow_right (n := 128) (by omega) (show f + 1 + 1 ≤ 5 by omega))
        have hq2 : IntKind.i64.wrap ((m / 128 : Nat) : Int) = ((m / 128 : Nat) : Int) := w64 (by omega)
        (try simp (config := { maxSteps := 2000000 }) (disch := omega) only [go_sem, ↓reduceIte, ↓reduceDIte, reduceCtorEq, kA, kB, kC, kD, kE, kF, kG, kH, kI, kJ, kK, kL, kM, kN, kO, kP, kQ, kR, kS, kT, if_pos, if_neg, w64, beqT, beqF, bneT, bneF, pr_get, ir_get, decide_eq_true, decide_eq_false, Tryz.ntmps16, Tryz.results16, ht, hq, hq2, ha, hw, strOf_app, strOf_size])
        refine ⟨(f, m / 128, acc ++ [((m % 128 : Nat) : Int) + 128]), [], ⟨h1', by simp only [List.length_append, List.length_cons, List.length_nil]; omega, by simpa using h3⟩, by simp only; omega, ?_⟩
        constructor <;> (try simp (config := { maxSteps := 2000000 }) (disch := omega) only [go_sem, ↓reduceIte, ↓reduceDIte, reduceCtorEq, kA, kB, kC, kD, kE, kF, kG, kH, kI, kJ, kK, kL, kM, kN, kO, kP, kQ, kR, kS, kT, if_pos, if_neg, w64, beqT, beqF, bneT, bneF, pr_get, ir_get, decide_eq_true, decide_eq_false, Tryz.ntmps16, Tryz.results16])
    · have hl : putN f m = [(m : Int)] := by cases f <;> simp [putN]; omega
      rw [hl] at h3
      have hw := u8b m (by omega)
      rw [← h3]
      (try simp (config := { maxSteps := 2000000 }) (disch := omega) only [go_sem, ↓reduceIte, ↓reduceDIte, reduceCtorEq, kA, kB, kC, kD, kE, kF, kG, kH, kI, kJ, kK, kL, kM, kN, kO, kP, kQ, kR, kS, kT, if_pos, if_neg, w64, beqT, beqF, bneT, bneF, pr_get, ir_get, decide_eq_true, decide_eq_false, Tryz.ntmps16, Tryz.results16, hw, strOf_app, strOf_size])
theorem R1Puts_spec (l : List Int) (hb : l.length ≤ 1000000) : Pure Tryz.prog 17 [lI l] (.p (.sc (.string (strOf (l.flatMap putL))))) := by
  obtain ⟨F, F0, Fs, Fn, Fl, Fk⟩ := flat_acc (putL) ([]) (l) putL_pos
  have Fz := Fl 0 (Nat.zero_le _)
  rw [F0] at Fz
  (try simp only [List.length_append, List.length_range, List.length_cons, List.length_nil, List.length_map, List.length_take] at Fz Fk)
  simp only [List.nil_append] at Fn
  rw [← Fn]
  have e0 : strOf (F 0) = ⟨#[]⟩ := by rw [F0]; rfl
  have hlen : ∀ i, i ≤ l.length → (F i).length ≤ 5 * i := by
    intro i
    induction i with
    | zero => intro _; rw [F0]; simp
    | succ i ih => intro hi; have h1 := putL_le l[i]; rw [Fs i hi, List.length_append]; have := ih (by omega); omega
  refine pcall0 200 (fn := Tryz.f17) Tryz.func17 rfl (by simp [Tryz.ntmps17]) (by first | trivial | (simp only [go_sem, ↓reduceIte, ↓reduceDIte, reduceCtorEq, kA, kB, kC, kD, kE, kF, kG, kH, kI, kJ, kK, kL, kM, kN, kO, kP, kQ, kR, kS, kT, Tryz.ntmps17, Tryz.results17]; done) | (split <;> simp only [go_sem, ↓reduceIte, ↓reduceDIte, reduceCtorEq, kA, kB, kC, kD, kE, kF, kG, kH, kI, kJ, kK, kL, kM, kN, kO, kP, kQ, kR, kS, kT, Tryz.ntmps17, Tryz.results17])) (by first | trivial | (simp only [go_sem, ↓reduceIte, ↓reduceDIte, reduceCtorEq, kA, kB, kC, kD, kE, kF, kG, kH, kI, kJ, kK, kL, kM, kN, kO, kP, kQ, kR, kS, kT, Tryz.ntmps17, Tryz.results17]; done) | (split <;> simp only [go_sem, ↓reduceIte, ↓reduceDIte, reduceCtorEq, kA, kB, kC, kD, kE, kF, kG, kH, kI, kJ, kK, kL, kM, kN, kO, kP, kQ, kR, kS, kT, Tryz.ntmps17, Tryz.results17])) fun hs => ?_
  (try simp (disch := omega) only [go_sem, ↓reduceIte, ↓reduceDIte, reduceCtorEq, kA, kB, kC, kD, kE, kF, kG, kH, kI, kJ, kK, kL, kM, kN, kO, kP, kQ, kR, kS, kT, if_pos, if_neg, w64, beqT, beqF, bneT, bneF, pr_get, ir_get, decide_eq_true, decide_eq_false, Tryz.ntmps17, Tryz.results17])
  (refine walk_trim [0, 3, 4] trivial (by first | exact Nat.zero_le _ | exact Nat.le_refl _ | omega) ?_; try simp only [go_sem, ↓reduceIte, ↓reduceDIte, reduceCtorEq, kA, kB, kC, kD, kE, kF, kG, kH, kI, kJ, kK, kL, kM, kN, kO, kP, kQ, kR, kS, kT, Tryz.ntmps17, Tryz.results17])
  refine walk_floop 200 200 (fun i : Nat => i ≤ l.length)
    (fun i => ⟨19, [(0, lI l), (3, .p (.sc (.string (strOf (F i))))), (4, sci .i64 i)], [], 0, []⟩) (fun i => l.length - i) (0) [] ?_ ?_ ?_
  · simp
  · constructor <;> (try simp (disch := omega) only [go_sem, ↓reduceIte, ↓reduceDIte, reduceCtorEq, kA, kB, kC, kD, kE, kF, kG, kH, kI, kJ, kK, kL, kM, kN, kO, kP, kQ, kR, kS, kT, if_pos, if_neg, w64, beqT, beqF, bneT, bneF, pr_get, ir_get, decide_eq_true, decide_eq_false, Tryz.ntmps17, Tryz.results17, Int.natCast_zero, List.take_of_length_le, List.append_assoc, e0])
  · rintro i hi
    (try simp only [go_sem, ↓reduceIte, ↓reduceDIte, reduceCtorEq, kA, kB, kC, kD, kE, kF, kG, kH, kI, kJ, kK, kL, kM, kN, kO, kP, kQ, kR, kS, kT, Tryz.ntmps17, Tryz.results17])
    by_cases li : i < l.length
    · have he := Fs i li
      have h1 := hlen i hi
      generalize hp : l[i] = p at *
      (try simp (disch := omega) only [go_sem, ↓reduceIte, ↓reduceDIte, reduceCtorEq, kA, kB, kC, kD, kE, kF, kG, kH, kI, kJ, kK, kL, kM, kN, kO, kP, kQ, kR, kS, kT, if_pos, if_neg, w64, beqT, beqF, bneT, bneF, pr_get, ir_get, decide_eq_true, decide_eq_false, Tryz.ntmps17, Tryz.results17, eI, hp])
      (refine at_call 200 ?_; simp only [go_sem, ↓reduceIte, ↓reduceDIte, reduceCtorEq, kA, kB, kC, kD, kE, kF, kG, kH, kI, kJ, kK, kL, kM, kN, kO, kP, kQ, kR, kS, kT, Tryz.ntmps17, Tryz.results17]; refine callA_of (R1Put_spec p) (by first | trivial | (simp only [go_sem, ↓reduceIte, ↓reduceDIte, reduceCtorEq, kA, kB, kC, kD, kE, kF, kG, kH, kI, kJ, kK, kL, kM, kN, kO, kP, kQ, kR, kS, kT, Tryz.ntmps17, Tryz.results17]; done) | (split <;> simp only [go_sem, ↓reduceIte, ↓reduceDIte, reduceCtorEq, kA, kB, kC, kD, kE, kF, kG, kH, kI, kJ, kK, kL, kM, kN, kO, kP, kQ, kR, kS, kT, Tryz.ntmps17, Tryz.results17])) ?_; try simp only [go_sem, ↓reduceIte, ↓reduceDIte, reduceCtorEq, kA, kB, kC, kD, kE, kF, kG, kH, kI, kJ, kK, kL, kM, kN, kO, kP, kQ, kR, kS, kT, Tryz.ntmps17, Tryz.results17])
      have h2 := putL_le p
      have hz : (strOf (F i)).size + (strOf (putL p)).size ≤ 9223372036854775807 := by rw [strOf_size, strOf_size]; omega
      (try simp (disch := omega) only [go_sem, ↓reduceIte, ↓reduceDIte, reduceCtorEq, kA, kB, kC, kD, kE, kF, kG, kH, kI, kJ, kK, kL, kM, kN, kO, kP, kQ, kR, kS, kT, if_pos, if_neg, w64, beqT, beqF, bneT, bneF, pr_get, ir_get, decide_eq_true, decide_eq_false, Tryz.ntmps17, Tryz.results17, strOf_app, ← he, hz])
      refine ⟨i + 1, [], by first | assumption | omega, ?_, ?_⟩
      · (try simp only []); omega
      · constructor <;> (try simp (disch := omega) only [go_sem, ↓reduceIte, ↓reduceDIte, reduceCtorEq, kA, kB, kC, kD, kE, kF, kG, kH, kI, kJ, kK, kL, kM, kN, kO, kP, kQ, kR, kS, kT, if_pos, if_neg, w64, beqT, beqF, bneT, bneF, pr_get, ir_get, decide_eq_true, decide_eq_false, Tryz.ntmps17, Tryz.results17, List.append_assoc])
    · obtain rfl : i = l.length := by omega
      (try simp (disch := omega) only [go_sem, ↓reduceIte, ↓reduceDIte, reduceCtorEq, kA, kB, kC, kD, kE, kF, kG, kH, kI, kJ, kK, kL, kM, kN, kO, kP, kQ, kR, kS, kT, if_pos, if_neg, w64, beqT, beqF, bneT, bneF, pr_get, ir_get, decide_eq_true, decide_eq_false, Tryz.ntmps17, Tryz.results17])
end Go.Proofs.TZ
