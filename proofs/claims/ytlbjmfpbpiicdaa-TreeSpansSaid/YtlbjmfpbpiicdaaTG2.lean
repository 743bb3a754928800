/- How far nodes of the document's graph are, and whether it may be. -/
import Derived.Test.YtlbjmfpbpiicdaaTG
set_option linter.unusedSimpArgs false
set_option linter.unusedVariables false
namespace Go.Proofs.TT
open Go Go.Idl Go.Proofs
set_option maxHeartbeats 1000000
set_option maxRecDepth 100000


def relax (k : Int) (out : List Int) (x : Int × Int) : List Int :=
  if out.getD x.1.toNat 0 = k ∧ out.getD x.2.toNat 0 < 0 then out.set x.2.toNat (k + 1) else out
def distGo (ls : List (Int × Int)) : Nat → Nat → List Int → List Int
  | 0, _, out => out
  | f + 1, k, out => distGo ls f (k + 1) (ls.foldl (relax k) out)
def distL (N : Nat) (ls : List (Int × Int)) (n : Nat) : List Int := distGo ls N 0 ((List.replicate N (-1)).set n 0)
def InR (N : Nat) (ls : List (Int × Int)) : Prop := ∀ x ∈ ls, (0 ≤ x.1 ∧ x.1 < N) ∧ 0 ≤ x.2 ∧ x.2 < N
theorem relax_length {k : Int} {out : List Int} {x : Int × Int} : (relax k out x).length = out.length := by unfold relax; split <;> simp
theorem fold_length {k : Int} : ∀ {ls : List (Int × Int)} {out : List Int}, (ls.foldl (relax k) out).length = out.length
  | [], out => rfl
  | x :: r, out => by rw [List.foldl_cons, fold_length, relax_length]
theorem distGo_length {ls : List (Int × Int)} : ∀ {f k : Nat} {out : List Int}, (distGo ls f k out).length = out.length
  | 0, k, out => rfl
  | f + 1, k, out => by rw [distGo, distGo_length, fold_length]
theorem distL_length {N n : Nat} {ls : List (Int × Int)} : (distL N ls n).length = N := by unfold distL; rw [distGo_length]; simp
theorem R3Dist_spec (N n : Nat) (ls : List (Int × Int)) (hr : InR N ls) (hl : ls.length ≤ 1000000) (hN : N ≤ 1000000) (hn : n < N) : Pure Try.prog 21 [eG N ls, sci .i64 n] (lI (distL N ls n)) := by
  have hn0 : ¬ ((n : Int) < 0) := by omega
  refine pcall0 200 (fn := Try.f21) Try.func21 rfl (by simp [Try.ntmps21]) (by first | trivial | (simp only [go_sem, ↓reduceIte, ↓reduceDIte, reduceCtorEq, Nat.reducePow, Nat.reduceEqDiff, Nat.reduceAdd, Nat.reduceSub, Nat.reduceMul, Nat.reduceMod, Nat.reduceLeDiff, Nat.reduceLT, Nat.reduceBEq, Nat.reduceBNe, Int.reduceLT, Int.reduceLE, Int.reduceToNat, Int.reduceNeg, Int.reduceAdd, Int.reduceSub, Int.reduceMul, Int.reduceBEq, Int.reduceBNe, Int.reduceEq, Try.ntmps21, Try.results21]; done) | (split <;> simp only [go_sem, ↓reduceIte, ↓reduceDIte, reduceCtorEq, Nat.reducePow, Nat.reduceEqDiff, Nat.reduceAdd, Nat.reduceSub, Nat.reduceMul, Nat.reduceMod, Nat.reduceLeDiff, Nat.reduceLT, Nat.reduceBEq, Nat.reduceBNe, Int.reduceLT, Int.reduceLE, Int.reduceToNat, Int.reduceNeg, Int.reduceAdd, Int.reduceSub, Int.reduceMul, Int.reduceBEq, Int.reduceBNe, Int.reduceEq, Try.ntmps21, Try.results21])) (by first | trivial | (simp only [go_sem, ↓reduceIte, ↓reduceDIte, reduceCtorEq, Nat.reducePow, Nat.reduceEqDiff, Nat.reduceAdd, Nat.reduceSub, Nat.reduceMul, Nat.reduceMod, Nat.reduceLeDiff, Nat.reduceLT, Nat.reduceBEq, Nat.reduceBNe, Int.reduceLT, Int.reduceLE, Int.reduceToNat, Int.reduceNeg, Int.reduceAdd, Int.reduceSub, Int.reduceMul, Int.reduceBEq, Int.reduceBNe, Int.reduceEq, Try.ntmps21, Try.results21]; done) | (split <;> simp only [go_sem, ↓reduceIte, ↓reduceDIte, reduceCtorEq, Nat.reducePow, Nat.reduceEqDiff, Nat.reduceAdd, Nat.reduceSub, Nat.reduceMul, Nat.reduceMod, Nat.reduceLeDiff, Nat.reduceLT, Nat.reduceBEq, Nat.reduceBNe, Int.reduceLT, Int.reduceLE, Int.reduceToNat, Int.reduceNeg, Int.reduceAdd, Int.reduceSub, Int.reduceMul, Int.reduceBEq, Int.reduceBNe, Int.reduceEq, Try.ntmps21, Try.results21])) fun hs => ?_
  (try simp (disch := omega) only [go_sem, ↓reduceIte, ↓reduceDIte, reduceCtorEq, Nat.reducePow, Nat.reduceEqDiff, Nat.reduceAdd, Nat.reduceSub, Nat.reduceMul, Nat.reduceMod, Nat.reduceLeDiff, Nat.reduceLT, Nat.reduceBEq, Nat.reduceBNe, Int.reduceLT, Int.reduceLE, Int.reduceToNat, Int.reduceNeg, Int.reduceAdd, Int.reduceSub, Int.reduceMul, Int.reduceBEq, Int.reduceBNe, Int.reduceEq, if_pos, if_neg, w64, beqT, beqF, bneT, bneF, pr_get, ir_get, decide_eq_true, decide_eq_false, Try.ntmps21, Try.results21, hn0])
  refine walk_own 5 1 trivial rfl (.inl rfl) ?_
  refine walk_loop 200 200 (fun i : Nat × Nat => i.1 ≤ N)
    (fun i => ⟨77, [(1, sci .i64 n), (2, .ptr 0 0 0 0), (5, .ref 1 i.2 0 i.1), (6, sci .i64 i.1)], [], 2,
      [(1, .arr 1 i.2 (ir eI (List.replicate i.1 (-1)))), (0, .arr 2 0 [[sci .i64 N, lII ls]])]⟩) (fun i => N - i.1) (0, 0) ?_ ?_ ?_
  · simp
  · constructor <;> (try simp (disch := omega) only [go_sem, ↓reduceIte, ↓reduceDIte, reduceCtorEq, Nat.reducePow, Nat.reduceEqDiff, Nat.reduceAdd, Nat.reduceSub, Nat.reduceMul, Nat.reduceMod, Nat.reduceLeDiff, Nat.reduceLT, Nat.reduceBEq, Nat.reduceBNe, Int.reduceLT, Int.reduceLE, Int.reduceToNat, Int.reduceNeg, Int.reduceAdd, Int.reduceSub, Int.reduceMul, Int.reduceBEq, Int.reduceBNe, Int.reduceEq, if_pos, if_neg, w64, beqT, beqF, bneT, bneF, pr_get, ir_get, decide_eq_true, decide_eq_false, Try.ntmps21, Try.results21, Int.natCast_zero])
  · rintro ⟨i, g⟩ h1
    simp only at h1
    (try simp only [go_sem, ↓reduceIte, ↓reduceDIte, reduceCtorEq, Nat.reducePow, Nat.reduceEqDiff, Nat.reduceAdd, Nat.reduceSub, Nat.reduceMul, Nat.reduceMod, Nat.reduceLeDiff, Nat.reduceLT, Nat.reduceBEq, Nat.reduceBNe, Int.reduceLT, Int.reduceLE, Int.reduceToNat, Int.reduceNeg, Int.reduceAdd, Int.reduceSub, Int.reduceMul, Int.reduceBEq, Int.reduceBNe, Int.reduceEq, Try.ntmps21, Try.results21])
    by_cases hi : i < N
    · (try simp (disch := omega) only [go_sem, ↓reduceIte, ↓reduceDIte, reduceCtorEq, Nat.reducePow, Nat.reduceEqDiff, Nat.reduceAdd, Nat.reduceSub, Nat.reduceMul, Nat.reduceMod, Nat.reduceLeDiff, Nat.reduceLT, Nat.reduceBEq, Nat.reduceBNe, Int.reduceLT, Int.reduceLE, Int.reduceToNat, Int.reduceNeg, Int.reduceAdd, Int.reduceSub, Int.reduceMul, Int.reduceBEq, Int.reduceBNe, Int.reduceEq, if_pos, if_neg, w64, beqT, beqF, bneT, bneF, pr_get, ir_get, decide_eq_true, decide_eq_false, Try.ntmps21, Try.results21])
      have e : List.take i (List.replicate i (-1 : Int)) ++ [-1] = -1 :: List.replicate i (-1) := by
        rw [List.take_of_length_le (by simp), ← List.replicate_succ', List.replicate_succ]
      refine ⟨(i + 1, g + 1), hi, by simp only; omega, ?_⟩
      constructor <;> (try simp (disch := omega) only [go_sem, ↓reduceIte, ↓reduceDIte, reduceCtorEq, Nat.reducePow, Nat.reduceEqDiff, Nat.reduceAdd, Nat.reduceSub, Nat.reduceMul, Nat.reduceMod, Nat.reduceLeDiff, Nat.reduceLT, Nat.reduceBEq, Nat.reduceBNe, Int.reduceLT, Int.reduceLE, Int.reduceToNat, Int.reduceNeg, Int.reduceAdd, Int.reduceSub, Int.reduceMul, Int.reduceBEq, Int.reduceBNe, Int.reduceEq, if_pos, if_neg, w64, beqT, beqF, bneT, bneF, pr_get, ir_get, decide_eq_true, decide_eq_false, Try.ntmps21, Try.results21, e])
    · obtain rfl : i = N := by omega
      (try simp (disch := omega) only [go_sem, ↓reduceIte, ↓reduceDIte, reduceCtorEq, Nat.reducePow, Nat.reduceEqDiff, Nat.reduceAdd, Nat.reduceSub, Nat.reduceMul, Nat.reduceMod, Nat.reduceLeDiff, Nat.reduceLT, Nat.reduceBEq, Nat.reduceBNe, Int.reduceLT, Int.reduceLE, Int.reduceToNat, Int.reduceNeg, Int.reduceAdd, Int.reduceSub, Int.reduceMul, Int.reduceBEq, Int.reduceBNe, Int.reduceEq, if_pos, if_neg, w64, beqT, beqF, bneT, bneF, pr_get, ir_get, decide_eq_true, decide_eq_false, Try.ntmps21, Try.results21])
      have e0 : (ir eI (List.replicate i (-1)))[n]? = some [.p (.sc (.int .i64 (-1)))] := by
        rw [ir_get (by simpa using hn)]; simp [eI]
      (try simp (disch := omega) only [go_sem, ↓reduceIte, ↓reduceDIte, reduceCtorEq, Nat.reducePow, Nat.reduceEqDiff, Nat.reduceAdd, Nat.reduceSub, Nat.reduceMul, Nat.reduceMod, Nat.reduceLeDiff, Nat.reduceLT, Nat.reduceBEq, Nat.reduceBNe, Int.reduceLT, Int.reduceLE, Int.reduceToNat, Int.reduceNeg, Int.reduceAdd, Int.reduceSub, Int.reduceMul, Int.reduceBEq, Int.reduceBNe, Int.reduceEq, if_pos, if_neg, w64, beqT, beqF, bneT, bneF, pr_get, ir_get, decide_eq_true, decide_eq_false, Try.ntmps21, Try.results21, e0])
      refine walk_loop 200 200 (fun k : Nat × List Int => k.1 ≤ i ∧ k.2.length = i ∧ distGo ls (i - k.1) k.1 k.2 = distL i ls n)
        (fun k => ⟨77, [(2, .ptr 0 0 0 0), (5, .ref 1 g 0 i), (7, sci .i64 k.1)], [], 2,
          [(1, .arr 1 g (ir eI k.2)), (0, .arr 2 0 [[sci .i64 i, lII ls]])]⟩) (fun k => i - k.1) (0, (List.replicate i (-1)).set n 0) ?_ ?_ ?_
      · simp [distL]
      · constructor <;> (try simp (disch := omega) only [go_sem, ↓reduceIte, ↓reduceDIte, reduceCtorEq, Nat.reducePow, Nat.reduceEqDiff, Nat.reduceAdd, Nat.reduceSub, Nat.reduceMul, Nat.reduceMod, Nat.reduceLeDiff, Nat.reduceLT, Nat.reduceBEq, Nat.reduceBNe, Int.reduceLT, Int.reduceLE, Int.reduceToNat, Int.reduceNeg, Int.reduceAdd, Int.reduceSub, Int.reduceMul, Int.reduceBEq, Int.reduceBNe, Int.reduceEq, if_pos, if_neg, w64, beqT, beqF, bneT, bneF, pr_get, ir_get, decide_eq_true, decide_eq_false, Try.ntmps21, Try.results21, Int.natCast_zero])
      · rintro ⟨k, out⟩ ⟨h2, h3, h4⟩
        simp only at h2 h3 h4
        (try simp only [go_sem, ↓reduceIte, ↓reduceDIte, reduceCtorEq, Nat.reducePow, Nat.reduceEqDiff, Nat.reduceAdd, Nat.reduceSub, Nat.reduceMul, Nat.reduceMod, Nat.reduceLeDiff, Nat.reduceLT, Nat.reduceBEq, Nat.reduceBNe, Int.reduceLT, Int.reduceLE, Int.reduceToNat, Int.reduceNeg, Int.reduceAdd, Int.reduceSub, Int.reduceMul, Int.reduceBEq, Int.reduceBNe, Int.reduceEq, Try.ntmps21, Try.results21])
        by_cases hk : k < i
        · (try simp (disch := omega) only [go_sem, ↓reduceIte, ↓reduceDIte, reduceCtorEq, Nat.reducePow, Nat.reduceEqDiff, Nat.reduceAdd, Nat.reduceSub, Nat.reduceMul, Nat.reduceMod, Nat.reduceLeDiff, Nat.reduceLT, Nat.reduceBEq, Nat.reduceBNe, Int.reduceLT, Int.reduceLE, Int.reduceToNat, Int.reduceNeg, Int.reduceAdd, Int.reduceSub, Int.reduceMul, Int.reduceBEq, Int.reduceBNe, Int.reduceEq, if_pos, if_neg, w64, beqT, beqF, bneT, bneF, pr_get, ir_get, decide_eq_true, decide_eq_false, Try.ntmps21, Try.results21])
          rw [show i - k = (i - (k + 1)) + 1 by omega, distGo] at h4
          refine walk_loop 200 200 (fun j : Nat × List Int => j.1 ≤ ls.length ∧ j.2.length = i ∧ (ls.drop j.1).foldl (relax k) j.2 = ls.foldl (relax k) out)
            (fun j => ⟨77, [(2, .ptr 0 0 0 0), (5, .ref 1 g 0 i), (7, sci .i64 k), (8, sci .i64 j.1)], [], 2,
              [(1, .arr 1 g (ir eI j.2)), (0, .arr 2 0 [[sci .i64 i, lII ls]])]⟩) (fun j => ls.length - j.1) (0, out) ?_ ?_ ?_
          · simp [h3]
          · constructor <;> (try simp (disch := omega) only [go_sem, ↓reduceIte, ↓reduceDIte, reduceCtorEq, Nat.reducePow, Nat.reduceEqDiff, Nat.reduceAdd, Nat.reduceSub, Nat.reduceMul, Nat.reduceMod, Nat.reduceLeDiff, Nat.reduceLT, Nat.reduceBEq, Nat.reduceBNe, Int.reduceLT, Int.reduceLE, Int.reduceToNat, Int.reduceNeg, Int.reduceAdd, Int.reduceSub, Int.reduceMul, Int.reduceBEq, Int.reduceBNe, Int.reduceEq, if_pos, if_neg, w64, beqT, beqF, bneT, bneF, pr_get, ir_get, decide_eq_true, decide_eq_false, Try.ntmps21, Try.results21, Int.natCast_zero])
          · rintro ⟨j, o⟩ ⟨h5, h6, h7⟩
            simp only at h5 h6 h7
            (try simp only [go_sem, ↓reduceIte, ↓reduceDIte, reduceCtorEq, Nat.reducePow, Nat.reduceEqDiff, Nat.reduceAdd, Nat.reduceSub, Nat.reduceMul, Nat.reduceMod, Nat.reduceLeDiff, Nat.reduceLT, Nat.reduceBEq, Nat.reduceBNe, Int.reduceLT, Int.reduceLE, Int.reduceToNat, Int.reduceNeg, Int.reduceAdd, Int.reduceSub, Int.reduceMul, Int.reduceBEq, Int.reduceBNe, Int.reduceEq, Try.ntmps21, Try.results21])
            by_cases hj : j < ls.length
            · rw [drop_cons hj, List.foldl_cons] at h7
              obtain ⟨⟨a0, a1⟩, b0, b1⟩ := hr ls[j] (List.getElem_mem hj)
              generalize hx : ls[j] = x at *
              obtain ⟨xa, xb⟩ := x
              simp only at a0 a1 b0 b1
              obtain ⟨a, rfl⟩ := Int.eq_ofNat_of_zero_le a0
              obtain ⟨b, rfl⟩ := Int.eq_ofNat_of_zero_le b0
              have ha : a < o.length := by omega
              have hb : b < o.length := by omega
              (try simp (disch := omega) only [go_sem, ↓reduceIte, ↓reduceDIte, reduceCtorEq, Nat.reducePow, Nat.reduceEqDiff, Nat.reduceAdd, Nat.reduceSub, Nat.reduceMul, Nat.reduceMod, Nat.reduceLeDiff, Nat.reduceLT, Nat.reduceBEq, Nat.reduceBNe, Int.reduceLT, Int.reduceLE, Int.reduceToNat, Int.reduceNeg, Int.reduceAdd, Int.reduceSub, Int.reduceMul, Int.reduceBEq, Int.reduceBNe, Int.reduceEq, if_pos, if_neg, w64, beqT, beqF, bneT, bneF, pr_get, ir_get, decide_eq_true, decide_eq_false, Try.ntmps21, Try.results21])
              (refine walk_trim [2, 5, 7, 8] trivial (by first | exact Nat.zero_le _ | exact Nat.le_refl _) ?_; simp only [go_sem, ↓reduceIte, ↓reduceDIte, reduceCtorEq, Nat.reducePow, Nat.reduceEqDiff, Nat.reduceAdd, Nat.reduceSub, Nat.reduceMul, Nat.reduceMod, Nat.reduceLeDiff, Nat.reduceLT, Nat.reduceBEq, Nat.reduceBNe, Int.reduceLT, Int.reduceLE, Int.reduceToNat, Int.reduceNeg, Int.reduceAdd, Int.reduceSub, Int.reduceMul, Int.reduceBEq, Int.reduceBNe, Int.reduceEq, Try.ntmps21, Try.results21]; refine irun_walk (id := 15) (n := 200) [none, none, none, none, none, none, none, none, none, none, none, none, none, none] mixed (by kernel_rfl) ?_)
              (try simp (disch := omega) only [go_sem, ↓reduceIte, ↓reduceDIte, reduceCtorEq, Nat.reducePow, Nat.reduceEqDiff, Nat.reduceAdd, Nat.reduceSub, Nat.reduceMul, Nat.reduceMod, Nat.reduceLeDiff, Nat.reduceLT, Nat.reduceBEq, Nat.reduceBNe, Int.reduceLT, Int.reduceLE, Int.reduceToNat, Int.reduceNeg, Int.reduceAdd, Int.reduceSub, Int.reduceMul, Int.reduceBEq, Int.reduceBNe, Int.reduceEq, if_pos, if_neg, w64, beqT, beqF, bneT, bneF, pr_get, ir_get, decide_eq_true, decide_eq_false, Try.ntmps21, Try.results21, hx, eII])
              (try simp (disch := omega) only [go_sem, ↓reduceIte, ↓reduceDIte, reduceCtorEq, Nat.reducePow, Nat.reduceEqDiff, Nat.reduceAdd, Nat.reduceSub, Nat.reduceMul, Nat.reduceMod, Nat.reduceLeDiff, Nat.reduceLT, Nat.reduceBEq, Nat.reduceBNe, Int.reduceLT, Int.reduceLE, Int.reduceToNat, Int.reduceNeg, Int.reduceAdd, Int.reduceSub, Int.reduceMul, Int.reduceBEq, Int.reduceBNe, Int.reduceEq, if_pos, if_neg, w64, beqT, beqF, bneT, bneF, pr_get, ir_get, decide_eq_true, decide_eq_false, Try.ntmps21, Try.results21, eI])
              have ga : o.getD a 0 = o[a] := by simp [List.getD, ha]
              have gb : o.getD b 0 = o[b] := by simp [List.getD, hb]
              simp only [relax, Int.toNat_natCast, ga, gb] at h7
              cases hc : o[a] == (k : Int)
              · have hc : ¬ o[a] = (k : Int) := by simpa using hc
                rw [if_neg (fun h => hc h.1)] at h7
                (try simp (disch := omega) only [go_sem, ↓reduceIte, ↓reduceDIte, reduceCtorEq, Nat.reducePow, Nat.reduceEqDiff, Nat.reduceAdd, Nat.reduceSub, Nat.reduceMul, Nat.reduceMod, Nat.reduceLeDiff, Nat.reduceLT, Nat.reduceBEq, Nat.reduceBNe, Int.reduceLT, Int.reduceLE, Int.reduceToNat, Int.reduceNeg, Int.reduceAdd, Int.reduceSub, Int.reduceMul, Int.reduceBEq, Int.reduceBNe, Int.reduceEq, if_pos, if_neg, w64, beqT, beqF, bneT, bneF, pr_get, ir_get, decide_eq_true, decide_eq_false, Try.ntmps21, Try.results21])
                refine ⟨(j + 1, o), ⟨hj, h6, h7⟩, by simp only; omega, ?_⟩
                constructor <;> (try simp (disch := omega) only [go_sem, ↓reduceIte, ↓reduceDIte, reduceCtorEq, Nat.reducePow, Nat.reduceEqDiff, Nat.reduceAdd, Nat.reduceSub, Nat.reduceMul, Nat.reduceMod, Nat.reduceLeDiff, Nat.reduceLT, Nat.reduceBEq, Nat.reduceBNe, Int.reduceLT, Int.reduceLE, Int.reduceToNat, Int.reduceNeg, Int.reduceAdd, Int.reduceSub, Int.reduceMul, Int.reduceBEq, Int.reduceBNe, Int.reduceEq, if_pos, if_neg, w64, beqT, beqF, bneT, bneF, pr_get, ir_get, decide_eq_true, decide_eq_false, Try.ntmps21, Try.results21])
              · have hc : o[a] = (k : Int) := by simpa using hc
                (try simp (disch := omega) only [go_sem, ↓reduceIte, ↓reduceDIte, reduceCtorEq, Nat.reducePow, Nat.reduceEqDiff, Nat.reduceAdd, Nat.reduceSub, Nat.reduceMul, Nat.reduceMod, Nat.reduceLeDiff, Nat.reduceLT, Nat.reduceBEq, Nat.reduceBNe, Int.reduceLT, Int.reduceLE, Int.reduceToNat, Int.reduceNeg, Int.reduceAdd, Int.reduceSub, Int.reduceMul, Int.reduceBEq, Int.reduceBNe, Int.reduceEq, if_pos, if_neg, w64, beqT, beqF, bneT, bneF, pr_get, ir_get, decide_eq_true, decide_eq_false, Try.ntmps21, Try.results21, eI])
                by_cases hd : o[b] < 0
                · rw [if_pos ⟨hc, hd⟩] at h7
                  (try simp (disch := omega) only [go_sem, ↓reduceIte, ↓reduceDIte, reduceCtorEq, Nat.reducePow, Nat.reduceEqDiff, Nat.reduceAdd, Nat.reduceSub, Nat.reduceMul, Nat.reduceMod, Nat.reduceLeDiff, Nat.reduceLT, Nat.reduceBEq, Nat.reduceBNe, Int.reduceLT, Int.reduceLE, Int.reduceToNat, Int.reduceNeg, Int.reduceAdd, Int.reduceSub, Int.reduceMul, Int.reduceBEq, Int.reduceBNe, Int.reduceEq, if_pos, if_neg, w64, beqT, beqF, bneT, bneF, pr_get, ir_get, decide_eq_true, decide_eq_false, Try.ntmps21, Try.results21, eI])
                  refine ⟨(j + 1, o.set b (k + 1)), ⟨hj, by simpa using h6, h7⟩, by simp only; omega, ?_⟩
                  constructor <;> (try simp (disch := omega) only [go_sem, ↓reduceIte, ↓reduceDIte, reduceCtorEq, Nat.reducePow, Nat.reduceEqDiff, Nat.reduceAdd, Nat.reduceSub, Nat.reduceMul, Nat.reduceMod, Nat.reduceLeDiff, Nat.reduceLT, Nat.reduceBEq, Nat.reduceBNe, Int.reduceLT, Int.reduceLE, Int.reduceToNat, Int.reduceNeg, Int.reduceAdd, Int.reduceSub, Int.reduceMul, Int.reduceBEq, Int.reduceBNe, Int.reduceEq, if_pos, if_neg, w64, beqT, beqF, bneT, bneF, pr_get, ir_get, decide_eq_true, decide_eq_false, Try.ntmps21, Try.results21, eI])
                · rw [if_neg (fun h => hd h.2)] at h7
                  (try simp (disch := omega) only [go_sem, ↓reduceIte, ↓reduceDIte, reduceCtorEq, Nat.reducePow, Nat.reduceEqDiff, Nat.reduceAdd, Nat.reduceSub, Nat.reduceMul, Nat.reduceMod, Nat.reduceLeDiff, Nat.reduceLT, Nat.reduceBEq, Nat.reduceBNe, Int.reduceLT, Int.reduceLE, Int.reduceToNat, Int.reduceNeg, Int.reduceAdd, Int.reduceSub, Int.reduceMul, Int.reduceBEq, Int.reduceBNe, Int.reduceEq, if_pos, if_neg, w64, beqT, beqF, bneT, bneF, pr_get, ir_get, decide_eq_true, decide_eq_false, Try.ntmps21, Try.results21])
                  refine ⟨(j + 1, o), ⟨hj, h6, h7⟩, by simp only; omega, ?_⟩
                  constructor <;> (try simp (disch := omega) only [go_sem, ↓reduceIte, ↓reduceDIte, reduceCtorEq, Nat.reducePow, Nat.reduceEqDiff, Nat.reduceAdd, Nat.reduceSub, Nat.reduceMul, Nat.reduceMod, Nat.reduceLeDiff, Nat.reduceLT, Nat.reduceBEq, Nat.reduceBNe, Int.reduceLT, Int.reduceLE, Int.reduceToNat, Int.reduceNeg, Int.reduceAdd, Int.reduceSub, Int.reduceMul, Int.reduceBEq, Int.reduceBNe, Int.reduceEq, if_pos, if_neg, w64, beqT, beqF, bneT, bneF, pr_get, ir_get, decide_eq_true, decide_eq_false, Try.ntmps21, Try.results21])
            · obtain rfl : j = ls.length := by omega
              rw [List.drop_length, List.foldl_nil] at h7
              (try simp (disch := omega) only [go_sem, ↓reduceIte, ↓reduceDIte, reduceCtorEq, Nat.reducePow, Nat.reduceEqDiff, Nat.reduceAdd, Nat.reduceSub, Nat.reduceMul, Nat.reduceMod, Nat.reduceLeDiff, Nat.reduceLT, Nat.reduceBEq, Nat.reduceBNe, Int.reduceLT, Int.reduceLE, Int.reduceToNat, Int.reduceNeg, Int.reduceAdd, Int.reduceSub, Int.reduceMul, Int.reduceBEq, Int.reduceBNe, Int.reduceEq, if_pos, if_neg, w64, beqT, beqF, bneT, bneF, pr_get, ir_get, decide_eq_true, decide_eq_false, Try.ntmps21, Try.results21])
              refine ⟨(k + 1, o), ⟨hk, h6, by rw [h7]; exact h4⟩, by simp only; omega, ?_⟩
              constructor <;> (try simp (disch := omega) only [go_sem, ↓reduceIte, ↓reduceDIte, reduceCtorEq, Nat.reducePow, Nat.reduceEqDiff, Nat.reduceAdd, Nat.reduceSub, Nat.reduceMul, Nat.reduceMod, Nat.reduceLeDiff, Nat.reduceLT, Nat.reduceBEq, Nat.reduceBNe, Int.reduceLT, Int.reduceLE, Int.reduceToNat, Int.reduceNeg, Int.reduceAdd, Int.reduceSub, Int.reduceMul, Int.reduceBEq, Int.reduceBNe, Int.reduceEq, if_pos, if_neg, w64, beqT, beqF, bneT, bneF, pr_get, ir_get, decide_eq_true, decide_eq_false, Try.ntmps21, Try.results21])
        · obtain rfl : k = i := by omega
          rw [Nat.sub_self, distGo] at h4
          subst h4
          have := distL_length (N := k) (n := n) (ls := ls)
          (try simp (disch := omega) only [go_sem, ↓reduceIte, ↓reduceDIte, reduceCtorEq, Nat.reducePow, Nat.reduceEqDiff, Nat.reduceAdd, Nat.reduceSub, Nat.reduceMul, Nat.reduceMod, Nat.reduceLeDiff, Nat.reduceLT, Nat.reduceBEq, Nat.reduceBNe, Int.reduceLT, Int.reduceLE, Int.reduceToNat, Int.reduceNeg, Int.reduceAdd, Int.reduceSub, Int.reduceMul, Int.reduceBEq, Int.reduceBNe, Int.reduceEq, if_pos, if_neg, w64, beqT, beqF, bneT, bneF, pr_get, ir_get, decide_eq_true, decide_eq_false, Try.ntmps21, Try.results21])
          have e : (distL k ls n).take k = distL k ls n := List.take_of_length_le (by omega)
          (try simp (disch := omega) only [go_sem, ↓reduceIte, ↓reduceDIte, reduceCtorEq, Nat.reducePow, Nat.reduceEqDiff, Nat.reduceAdd, Nat.reduceSub, Nat.reduceMul, Nat.reduceMod, Nat.reduceLeDiff, Nat.reduceLT, Nat.reduceBEq, Nat.reduceBNe, Int.reduceLT, Int.reduceLE, Int.reduceToNat, Int.reduceNeg, Int.reduceAdd, Int.reduceSub, Int.reduceMul, Int.reduceBEq, Int.reduceBNe, Int.reduceEq, if_pos, if_neg, w64, beqT, beqF, bneT, bneF, pr_get, ir_get, decide_eq_true, decide_eq_false, Try.ntmps21, Try.results21, e])
end Go.Proofs.TT
