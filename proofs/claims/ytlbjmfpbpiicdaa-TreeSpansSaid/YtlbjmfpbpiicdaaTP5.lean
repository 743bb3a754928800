/- The law TreeSpans: the walk. -/
import Derived.Test.YtlbjmfpbpiicdaaTP4
set_option linter.unusedSimpArgs false
set_option linter.unusedVariables false
namespace Go.Proofs.TT
open Go Go.Idl Go.Proofs
set_option maxHeartbeats 4000000
set_option maxRecDepth 100000

def eU16 (n : Int) : List PV := [.sc (.int .u16 n)]
theorem root_lt (root : Int) {N : Nat} (hN : 1 ≤ N) : ∃ r : Nat, (bits .and .i64 root 255).tmod N = r ∧ r < N := by
  have h1 : 0 ≤ bits .and .i64 root 255 := by
    have h : (BitVec.ofInt 64 root &&& BitVec.ofInt 64 255).toNat ≤ 255 := by
      rw [BitVec.toNat_and]
      exact Nat.and_le_right
    show 0 ≤ IntKind.i64.wrap ((BitVec.ofInt 64 root &&& BitVec.ofInt 64 255).toNat : Int)
    rw [w64 (by omega)]
    omega
  refine ⟨((bits .and .i64 root 255).tmod N).toNat, ?_, ?_⟩
  · have := Int.tmod_nonneg (N : Int) h1
    omega
  · have := Int.tmod_lt_of_pos (bits .and .i64 root 255) (show (0 : Int) < N by omega)
    omega
abbrev zrow : List IV := [.p (.sc (.int .i64 0)), .p (.sc (.int .i64 0)), .p (.sc (.int .i64 0)), .p (.sc (.slice none 0 0))]
theorem wk_zrow : wks zrow ((eTr t0).map .p) := by
  simp only [eTr, List.map_cons, List.map_nil, pr]
  simp only [go_sem]
theorem wk_trees {N r : Nat} {e u w : Int} : wkRs ((List.replicate N zrow).set r [.p (.sc (.int .i64 e)), .p (.sc (.int .i64 u)), .p (.sc (.int .i64 w)), .p (.imm 1 [])]) (ir eTr ((List.replicate N t0).set r ⟨e, u, w, []⟩)) := by
  refine .inr ⟨by simp [ir], fun i a b ha hb => ?_⟩
  simp only [ir, List.getElem?_map, List.getElem?_set] at ha hb
  simp only [List.length_replicate] at ha hb
  by_cases h : r = i
  · subst h
    rw [if_pos rfl] at ha hb
    by_cases h2 : r < N
    · rw [if_pos h2] at ha hb
      cases ha; cases hb
      exact wks_refl _
    · rw [if_neg h2] at ha; cases ha
  · rw [if_neg h] at ha hb
    rw [List.getElem?_replicate] at ha hb
    by_cases h2 : i < N
    · rw [if_pos h2] at ha hb
      cases ha; cases hb
      exact wk_zrow
    · rw [if_neg h2] at ha; cases ha
theorem kidsAll_succ {T : Nat → Tr} {n : Nat} : kidsAll T (n + 1) = kidsAll T n ++ (T n).k := by simp [kidsAll, List.range_succ]
theorem kidsAll_len {T : Nat → Tr} (h : ∀ m, (T m).k.length ≤ 60) : ∀ n, (kidsAll T n).length ≤ 60 * n
  | 0 => by simp [kidsAll]
  | n + 1 => by
    have := kidsAll_len h n
    have := h n
    rw [kidsAll_succ, List.length_append]; omega
theorem Spans_spec (N0 : Int) (ls0 : List (Int × Int)) (root : Int) (picks : List Int) (hp : ∀ x ∈ picks, 0 ≤ x ∧ x ≤ 65535) : Pure Try.prog 3 [eG N0 ls0, sci .i64 root, .p (.imm 1 (pr eU16 picks))] (scb true) := by
  refine pcall0 200 (fn := Try.f3) Try.func3 rfl (by simp [Try.ntmps3]) (by first | trivial | (simp only [go_sem, ↓reduceIte, ↓reduceDIte, reduceCtorEq, Nat.reducePow, Nat.reduceEqDiff, Nat.reduceAdd, Nat.reduceSub, Nat.reduceMul, Nat.reduceMod, Nat.reduceLeDiff, Nat.reduceLT, Nat.reduceBEq, Nat.reduceBNe, Int.reduceLT, Int.reduceLE, Int.reduceToNat, Int.reduceNeg, Int.reduceAdd, Int.reduceSub, Int.reduceMul, Int.reduceBEq, Int.reduceBNe, Int.reduceEq, Try.ntmps3, Try.results3]; done) | (split <;> simp only [go_sem, ↓reduceIte, ↓reduceDIte, reduceCtorEq, Nat.reducePow, Nat.reduceEqDiff, Nat.reduceAdd, Nat.reduceSub, Nat.reduceMul, Nat.reduceMod, Nat.reduceLeDiff, Nat.reduceLT, Nat.reduceBEq, Nat.reduceBNe, Int.reduceLT, Int.reduceLE, Int.reduceToNat, Int.reduceNeg, Int.reduceAdd, Int.reduceSub, Int.reduceMul, Int.reduceBEq, Int.reduceBNe, Int.reduceEq, Try.ntmps3, Try.results3])) (by first | trivial | (simp only [go_sem, ↓reduceIte, ↓reduceDIte, reduceCtorEq, Nat.reducePow, Nat.reduceEqDiff, Nat.reduceAdd, Nat.reduceSub, Nat.reduceMul, Nat.reduceMod, Nat.reduceLeDiff, Nat.reduceLT, Nat.reduceBEq, Nat.reduceBNe, Int.reduceLT, Int.reduceLE, Int.reduceToNat, Int.reduceNeg, Int.reduceAdd, Int.reduceSub, Int.reduceMul, Int.reduceBEq, Int.reduceBNe, Int.reduceEq, Try.ntmps3, Try.results3]; done) | (split <;> simp only [go_sem, ↓reduceIte, ↓reduceDIte, reduceCtorEq, Nat.reducePow, Nat.reduceEqDiff, Nat.reduceAdd, Nat.reduceSub, Nat.reduceMul, Nat.reduceMod, Nat.reduceLeDiff, Nat.reduceLT, Nat.reduceBEq, Nat.reduceBNe, Int.reduceLT, Int.reduceLE, Int.reduceToNat, Int.reduceNeg, Int.reduceAdd, Int.reduceSub, Int.reduceMul, Int.reduceBEq, Int.reduceBNe, Int.reduceEq, Try.ntmps3, Try.results3])) fun hs => ?_
  (try simp only [go_sem, ↓reduceIte, ↓reduceDIte, reduceCtorEq, Nat.reducePow, Nat.reduceEqDiff, Nat.reduceAdd, Nat.reduceSub, Nat.reduceMul, Nat.reduceMod, Nat.reduceLeDiff, Nat.reduceLT, Nat.reduceBEq, Nat.reduceBNe, Int.reduceLT, Int.reduceLE, Int.reduceToNat, Int.reduceNeg, Int.reduceAdd, Int.reduceSub, Int.reduceMul, Int.reduceBEq, Int.reduceBNe, Int.reduceEq, Try.ntmps3, Try.results3])
  (refine at_call 200 ?_; simp only [go_sem, ↓reduceIte, ↓reduceDIte, reduceCtorEq, Nat.reducePow, Nat.reduceEqDiff, Nat.reduceAdd, Nat.reduceSub, Nat.reduceMul, Nat.reduceMod, Nat.reduceLeDiff, Nat.reduceLT, Nat.reduceBEq, Nat.reduceBNe, Int.reduceLT, Int.reduceLE, Int.reduceToNat, Int.reduceNeg, Int.reduceAdd, Int.reduceSub, Int.reduceMul, Int.reduceBEq, Int.reduceBNe, Int.reduceEq, Try.ntmps3, Try.results3]; refine callA_of (L3Cut_spec _ _) (by first | trivial | (simp only [go_sem, ↓reduceIte, ↓reduceDIte, reduceCtorEq, Nat.reducePow, Nat.reduceEqDiff, Nat.reduceAdd, Nat.reduceSub, Nat.reduceMul, Nat.reduceMod, Nat.reduceLeDiff, Nat.reduceLT, Nat.reduceBEq, Nat.reduceBNe, Int.reduceLT, Int.reduceLE, Int.reduceToNat, Int.reduceNeg, Int.reduceAdd, Int.reduceSub, Int.reduceMul, Int.reduceBEq, Int.reduceBNe, Int.reduceEq, Try.ntmps3, Try.results3]; done) | (split <;> simp only [go_sem, ↓reduceIte, ↓reduceDIte, reduceCtorEq, Nat.reducePow, Nat.reduceEqDiff, Nat.reduceAdd, Nat.reduceSub, Nat.reduceMul, Nat.reduceMod, Nat.reduceLeDiff, Nat.reduceLT, Nat.reduceBEq, Nat.reduceBNe, Int.reduceLT, Int.reduceLE, Int.reduceToNat, Int.reduceNeg, Int.reduceAdd, Int.reduceSub, Int.reduceMul, Int.reduceBEq, Int.reduceBNe, Int.reduceEq, Try.ntmps3, Try.results3])) ?_; try simp only [go_sem, ↓reduceIte, ↓reduceDIte, reduceCtorEq, Nat.reducePow, Nat.reduceEqDiff, Nat.reduceAdd, Nat.reduceSub, Nat.reduceMul, Nat.reduceMod, Nat.reduceLeDiff, Nat.reduceLT, Nat.reduceBEq, Nat.reduceBNe, Int.reduceLT, Int.reduceLE, Int.reduceToNat, Int.reduceNeg, Int.reduceAdd, Int.reduceSub, Int.reduceMul, Int.reduceBEq, Int.reduceBNe, Int.reduceEq, Try.ntmps3, Try.results3])
  generalize ls0.take 40 = ls
  (try simp only [go_sem, ↓reduceIte, ↓reduceDIte, reduceCtorEq, Nat.reducePow, Nat.reduceEqDiff, Nat.reduceAdd, Nat.reduceSub, Nat.reduceMul, Nat.reduceMod, Nat.reduceLeDiff, Nat.reduceLT, Nat.reduceBEq, Nat.reduceBNe, Int.reduceLT, Int.reduceLE, Int.reduceToNat, Int.reduceNeg, Int.reduceAdd, Int.reduceSub, Int.reduceMul, Int.reduceBEq, Int.reduceBNe, Int.reduceEq, Try.ntmps3, Try.results3])
  (refine at_call 200 ?_; simp only [go_sem, ↓reduceIte, ↓reduceDIte, reduceCtorEq, Nat.reducePow, Nat.reduceEqDiff, Nat.reduceAdd, Nat.reduceSub, Nat.reduceMul, Nat.reduceMod, Nat.reduceLeDiff, Nat.reduceLT, Nat.reduceBEq, Nat.reduceBNe, Int.reduceLT, Int.reduceLE, Int.reduceToNat, Int.reduceNeg, Int.reduceAdd, Int.reduceSub, Int.reduceMul, Int.reduceBEq, Int.reduceBNe, Int.reduceEq, Try.ntmps3, Try.results3]; refine callA_of (L3Ref_spec _ _) (by first | trivial | (simp only [go_sem, ↓reduceIte, ↓reduceDIte, reduceCtorEq, Nat.reducePow, Nat.reduceEqDiff, Nat.reduceAdd, Nat.reduceSub, Nat.reduceMul, Nat.reduceMod, Nat.reduceLeDiff, Nat.reduceLT, Nat.reduceBEq, Nat.reduceBNe, Int.reduceLT, Int.reduceLE, Int.reduceToNat, Int.reduceNeg, Int.reduceAdd, Int.reduceSub, Int.reduceMul, Int.reduceBEq, Int.reduceBNe, Int.reduceEq, Try.ntmps3, Try.results3]; done) | (split <;> simp only [go_sem, ↓reduceIte, ↓reduceDIte, reduceCtorEq, Nat.reducePow, Nat.reduceEqDiff, Nat.reduceAdd, Nat.reduceSub, Nat.reduceMul, Nat.reduceMod, Nat.reduceLeDiff, Nat.reduceLT, Nat.reduceBEq, Nat.reduceBNe, Int.reduceLT, Int.reduceLE, Int.reduceToNat, Int.reduceNeg, Int.reduceAdd, Int.reduceSub, Int.reduceMul, Int.reduceBEq, Int.reduceBNe, Int.reduceEq, Try.ntmps3, Try.results3])) ?_; try simp only [go_sem, ↓reduceIte, ↓reduceDIte, reduceCtorEq, Nat.reducePow, Nat.reduceEqDiff, Nat.reduceAdd, Nat.reduceSub, Nat.reduceMul, Nat.reduceMod, Nat.reduceLeDiff, Nat.reduceLT, Nat.reduceBEq, Nat.reduceBNe, Int.reduceLT, Int.reduceLE, Int.reduceToNat, Int.reduceNeg, Int.reduceAdd, Int.reduceSub, Int.reduceMul, Int.reduceBEq, Int.reduceBNe, Int.reduceEq, Try.ntmps3, Try.results3])
  (try simp only [go_sem, ↓reduceIte, ↓reduceDIte, reduceCtorEq, Nat.reducePow, Nat.reduceEqDiff, Nat.reduceAdd, Nat.reduceSub, Nat.reduceMul, Nat.reduceMod, Nat.reduceLeDiff, Nat.reduceLT, Nat.reduceBEq, Nat.reduceBNe, Int.reduceLT, Int.reduceLE, Int.reduceToNat, Int.reduceNeg, Int.reduceAdd, Int.reduceSub, Int.reduceMul, Int.reduceBEq, Int.reduceBNe, Int.reduceEq, Try.ntmps3, Try.results3])
  (refine at_call 200 ?_; simp only [go_sem, ↓reduceIte, ↓reduceDIte, reduceCtorEq, Nat.reducePow, Nat.reduceEqDiff, Nat.reduceAdd, Nat.reduceSub, Nat.reduceMul, Nat.reduceMod, Nat.reduceLeDiff, Nat.reduceLT, Nat.reduceBEq, Nat.reduceBNe, Int.reduceLT, Int.reduceLE, Int.reduceToNat, Int.reduceNeg, Int.reduceAdd, Int.reduceSub, Int.reduceMul, Int.reduceBEq, Int.reduceBNe, Int.reduceEq, Try.ntmps3, Try.results3]; refine callA_of (R3Right_spec _ _) (by first | trivial | (simp only [go_sem, ↓reduceIte, ↓reduceDIte, reduceCtorEq, Nat.reducePow, Nat.reduceEqDiff, Nat.reduceAdd, Nat.reduceSub, Nat.reduceMul, Nat.reduceMod, Nat.reduceLeDiff, Nat.reduceLT, Nat.reduceBEq, Nat.reduceBNe, Int.reduceLT, Int.reduceLE, Int.reduceToNat, Int.reduceNeg, Int.reduceAdd, Int.reduceSub, Int.reduceMul, Int.reduceBEq, Int.reduceBNe, Int.reduceEq, Try.ntmps3, Try.results3]; done) | (split <;> simp only [go_sem, ↓reduceIte, ↓reduceDIte, reduceCtorEq, Nat.reducePow, Nat.reduceEqDiff, Nat.reduceAdd, Nat.reduceSub, Nat.reduceMul, Nat.reduceMod, Nat.reduceLeDiff, Nat.reduceLT, Nat.reduceBEq, Nat.reduceBNe, Int.reduceLT, Int.reduceLE, Int.reduceToNat, Int.reduceNeg, Int.reduceAdd, Int.reduceSub, Int.reduceMul, Int.reduceBEq, Int.reduceBNe, Int.reduceEq, Try.ntmps3, Try.results3])) ?_; try simp only [go_sem, ↓reduceIte, ↓reduceDIte, reduceCtorEq, Nat.reducePow, Nat.reduceEqDiff, Nat.reduceAdd, Nat.reduceSub, Nat.reduceMul, Nat.reduceMod, Nat.reduceLeDiff, Nat.reduceLT, Nat.reduceBEq, Nat.reduceBNe, Int.reduceLT, Int.reduceLE, Int.reduceToNat, Int.reduceNeg, Int.reduceAdd, Int.reduceSub, Int.reduceMul, Int.reduceBEq, Int.reduceBNe, Int.reduceEq, Try.ntmps3, Try.results3])
  cases hR : rightB N0 ls
  · (try simp (disch := omega) only [go_sem, ↓reduceIte, ↓reduceDIte, reduceCtorEq, Nat.reducePow, Nat.reduceEqDiff, Nat.reduceAdd, Nat.reduceSub, Nat.reduceMul, Nat.reduceMod, Nat.reduceLeDiff, Nat.reduceLT, Nat.reduceBEq, Nat.reduceBNe, Int.reduceLT, Int.reduceLE, Int.reduceToNat, Int.reduceNeg, Int.reduceAdd, Int.reduceSub, Int.reduceMul, Int.reduceBEq, Int.reduceBNe, Int.reduceEq, if_pos, if_neg, w64, beqT, beqF, bneT, bneF, pr_get, ir_get, decide_eq_true, decide_eq_false, Try.ntmps3, Try.results3])
    (refine at_call 200 ?_; simp only [go_sem, ↓reduceIte, ↓reduceDIte, reduceCtorEq, Nat.reducePow, Nat.reduceEqDiff, Nat.reduceAdd, Nat.reduceSub, Nat.reduceMul, Nat.reduceMod, Nat.reduceLeDiff, Nat.reduceLT, Nat.reduceBEq, Nat.reduceBNe, Int.reduceLT, Int.reduceLE, Int.reduceToNat, Int.reduceNeg, Int.reduceAdd, Int.reduceSub, Int.reduceMul, Int.reduceBEq, Int.reduceBNe, Int.reduceEq, Try.ntmps3, Try.results3]; refine callA_of (fixed_spec) (by first | trivial | (simp only [go_sem, ↓reduceIte, ↓reduceDIte, reduceCtorEq, Nat.reducePow, Nat.reduceEqDiff, Nat.reduceAdd, Nat.reduceSub, Nat.reduceMul, Nat.reduceMod, Nat.reduceLeDiff, Nat.reduceLT, Nat.reduceBEq, Nat.reduceBNe, Int.reduceLT, Int.reduceLE, Int.reduceToNat, Int.reduceNeg, Int.reduceAdd, Int.reduceSub, Int.reduceMul, Int.reduceBEq, Int.reduceBNe, Int.reduceEq, Try.ntmps3, Try.results3]; done) | (split <;> simp only [go_sem, ↓reduceIte, ↓reduceDIte, reduceCtorEq, Nat.reducePow, Nat.reduceEqDiff, Nat.reduceAdd, Nat.reduceSub, Nat.reduceMul, Nat.reduceMod, Nat.reduceLeDiff, Nat.reduceLT, Nat.reduceBEq, Nat.reduceBNe, Int.reduceLT, Int.reduceLE, Int.reduceToNat, Int.reduceNeg, Int.reduceAdd, Int.reduceSub, Int.reduceMul, Int.reduceBEq, Int.reduceBNe, Int.reduceEq, Try.ntmps3, Try.results3])) ?_; try simp only [go_sem, ↓reduceIte, ↓reduceDIte, reduceCtorEq, Nat.reducePow, Nat.reduceEqDiff, Nat.reduceAdd, Nat.reduceSub, Nat.reduceMul, Nat.reduceMod, Nat.reduceLeDiff, Nat.reduceLT, Nat.reduceBEq, Nat.reduceBNe, Int.reduceLT, Int.reduceLE, Int.reduceToNat, Int.reduceNeg, Int.reduceAdd, Int.reduceSub, Int.reduceMul, Int.reduceBEq, Int.reduceBNe, Int.reduceEq, Try.ntmps3, Try.results3])
  · have hR' := hR
    simp only [rightB, Bool.and_eq_true, decide_eq_true_eq] at hR'
    obtain ⟨N, rfl⟩ : ∃ N : Nat, N0 = N := ⟨N0.toNat, by omega⟩
    have hN : 1 ≤ N ∧ N ≤ 6 := by omega
    have hL : ls.length ≤ 30 := by omega
    clear hR'
    obtain ⟨r, hr1, hr⟩ : ∃ r : Nat, (bits .and .i64 root 255).tmod N = r ∧ r < N := root_lt root hN.1
    have ho := gr_ok hR
    have hin : InR N ls := by
      simp only [rightB, Bool.and_eq_true] at hR
      exact linksOk_range hR.1.2
    have hos := outs_os (n := r) hin
    have hol : ((grOf N ls).os r).length ≤ ls.length := by
      have := List.length_filter_le (fun l => (grOf N ls).src l == r) (List.range (grOf N ls).L)
      rwa [List.length_range] at this
    have hgL : (grOf N ls).L = ls.length := rfl
    have hgN : (grOf N ls).N = N := rfl
    obtain ⟨os, hoe⟩ : ∃ os, os = (grOf N ls).os r := ⟨_, rfl⟩
    obtain ⟨oi, hoie⟩ : ∃ oi, oi = os.map fun l : Nat => (l : Int) := ⟨_, rfl⟩
    rw [← hoe, ← hoie] at hos
    rw [← hoe] at hol
    have hlen : oi.length = os.length := by rw [hoie, List.length_map]
    have hget : ∀ (j : Nat) (h : j < oi.length) (h' : j < os.length), oi[j] = (os[j] : Int) := by subst hoie; simp
    clear hoie
    have hp0 : ¬ ((os.length : Int) < 0) := by omega
    (try simp (disch := omega) only [go_sem, ↓reduceIte, ↓reduceDIte, reduceCtorEq, Nat.reducePow, Nat.reduceEqDiff, Nat.reduceAdd, Nat.reduceSub, Nat.reduceMul, Nat.reduceMod, Nat.reduceLeDiff, Nat.reduceLT, Nat.reduceBEq, Nat.reduceBNe, Int.reduceLT, Int.reduceLE, Int.reduceToNat, Int.reduceNeg, Int.reduceAdd, Int.reduceSub, Int.reduceMul, Int.reduceBEq, Int.reduceBNe, Int.reduceEq, if_pos, if_neg, w64, beqT, beqF, bneT, bneF, pr_get, ir_get, decide_eq_true, decide_eq_false, Try.ntmps3, Try.results3, hr1])
    (refine at_call 200 ?_; simp only [go_sem, ↓reduceIte, ↓reduceDIte, reduceCtorEq, Nat.reducePow, Nat.reduceEqDiff, Nat.reduceAdd, Nat.reduceSub, Nat.reduceMul, Nat.reduceMod, Nat.reduceLeDiff, Nat.reduceLT, Nat.reduceBEq, Nat.reduceBNe, Int.reduceLT, Int.reduceLE, Int.reduceToNat, Int.reduceNeg, Int.reduceAdd, Int.reduceSub, Int.reduceMul, Int.reduceBEq, Int.reduceBNe, Int.reduceEq, Try.ntmps3, Try.results3]; refine callA_of (L3Ref_spec _ _) (by first | trivial | (simp only [go_sem, ↓reduceIte, ↓reduceDIte, reduceCtorEq, Nat.reducePow, Nat.reduceEqDiff, Nat.reduceAdd, Nat.reduceSub, Nat.reduceMul, Nat.reduceMod, Nat.reduceLeDiff, Nat.reduceLT, Nat.reduceBEq, Nat.reduceBNe, Int.reduceLT, Int.reduceLE, Int.reduceToNat, Int.reduceNeg, Int.reduceAdd, Int.reduceSub, Int.reduceMul, Int.reduceBEq, Int.reduceBNe, Int.reduceEq, Try.ntmps3, Try.results3]; done) | (split <;> simp only [go_sem, ↓reduceIte, ↓reduceDIte, reduceCtorEq, Nat.reducePow, Nat.reduceEqDiff, Nat.reduceAdd, Nat.reduceSub, Nat.reduceMul, Nat.reduceMod, Nat.reduceLeDiff, Nat.reduceLT, Nat.reduceBEq, Nat.reduceBNe, Int.reduceLT, Int.reduceLE, Int.reduceToNat, Int.reduceNeg, Int.reduceAdd, Int.reduceSub, Int.reduceMul, Int.reduceBEq, Int.reduceBNe, Int.reduceEq, Try.ntmps3, Try.results3])) ?_; try simp only [go_sem, ↓reduceIte, ↓reduceDIte, reduceCtorEq, Nat.reducePow, Nat.reduceEqDiff, Nat.reduceAdd, Nat.reduceSub, Nat.reduceMul, Nat.reduceMod, Nat.reduceLeDiff, Nat.reduceLT, Nat.reduceBEq, Nat.reduceBNe, Int.reduceLT, Int.reduceLE, Int.reduceToNat, Int.reduceNeg, Int.reduceAdd, Int.reduceSub, Int.reduceMul, Int.reduceBEq, Int.reduceBNe, Int.reduceEq, Try.ntmps3, Try.results3])
    (try simp (disch := omega) only [go_sem, ↓reduceIte, ↓reduceDIte, reduceCtorEq, Nat.reducePow, Nat.reduceEqDiff, Nat.reduceAdd, Nat.reduceSub, Nat.reduceMul, Nat.reduceMod, Nat.reduceLeDiff, Nat.reduceLT, Nat.reduceBEq, Nat.reduceBNe, Int.reduceLT, Int.reduceLE, Int.reduceToNat, Int.reduceNeg, Int.reduceAdd, Int.reduceSub, Int.reduceMul, Int.reduceBEq, Int.reduceBNe, Int.reduceEq, if_pos, if_neg, w64, beqT, beqF, bneT, bneF, pr_get, ir_get, decide_eq_true, decide_eq_false, Try.ntmps3, Try.results3])
    (refine at_call 200 ?_; simp only [go_sem, ↓reduceIte, ↓reduceDIte, reduceCtorEq, Nat.reducePow, Nat.reduceEqDiff, Nat.reduceAdd, Nat.reduceSub, Nat.reduceMul, Nat.reduceMod, Nat.reduceLeDiff, Nat.reduceLT, Nat.reduceBEq, Nat.reduceBNe, Int.reduceLT, Int.reduceLE, Int.reduceToNat, Int.reduceNeg, Int.reduceAdd, Int.reduceSub, Int.reduceMul, Int.reduceBEq, Int.reduceBNe, Int.reduceEq, Try.ntmps3, Try.results3]; refine callA_of (R3Out_spec _ _ _ (by omega)) (by first | trivial | (simp only [go_sem, ↓reduceIte, ↓reduceDIte, reduceCtorEq, Nat.reducePow, Nat.reduceEqDiff, Nat.reduceAdd, Nat.reduceSub, Nat.reduceMul, Nat.reduceMod, Nat.reduceLeDiff, Nat.reduceLT, Nat.reduceBEq, Nat.reduceBNe, Int.reduceLT, Int.reduceLE, Int.reduceToNat, Int.reduceNeg, Int.reduceAdd, Int.reduceSub, Int.reduceMul, Int.reduceBEq, Int.reduceBNe, Int.reduceEq, Try.ntmps3, Try.results3]; done) | (split <;> simp only [go_sem, ↓reduceIte, ↓reduceDIte, reduceCtorEq, Nat.reducePow, Nat.reduceEqDiff, Nat.reduceAdd, Nat.reduceSub, Nat.reduceMul, Nat.reduceMod, Nat.reduceLeDiff, Nat.reduceLT, Nat.reduceBEq, Nat.reduceBNe, Int.reduceLT, Int.reduceLE, Int.reduceToNat, Int.reduceNeg, Int.reduceAdd, Int.reduceSub, Int.reduceMul, Int.reduceBEq, Int.reduceBNe, Int.reduceEq, Try.ntmps3, Try.results3])) ?_; try simp only [go_sem, ↓reduceIte, ↓reduceDIte, reduceCtorEq, Nat.reducePow, Nat.reduceEqDiff, Nat.reduceAdd, Nat.reduceSub, Nat.reduceMul, Nat.reduceMod, Nat.reduceLeDiff, Nat.reduceLT, Nat.reduceBEq, Nat.reduceBNe, Int.reduceLT, Int.reduceLE, Int.reduceToNat, Int.reduceNeg, Int.reduceAdd, Int.reduceSub, Int.reduceMul, Int.reduceBEq, Int.reduceBNe, Int.reduceEq, Try.ntmps3, Try.results3])
    (try simp (disch := omega) only [go_sem, ↓reduceIte, ↓reduceDIte, reduceCtorEq, Nat.reducePow, Nat.reduceEqDiff, Nat.reduceAdd, Nat.reduceSub, Nat.reduceMul, Nat.reduceMod, Nat.reduceLeDiff, Nat.reduceLT, Nat.reduceBEq, Nat.reduceBNe, Int.reduceLT, Int.reduceLE, Int.reduceToNat, Int.reduceNeg, Int.reduceAdd, Int.reduceSub, Int.reduceMul, Int.reduceBEq, Int.reduceBNe, Int.reduceEq, if_pos, if_neg, w64, beqT, beqF, bneT, bneF, pr_get, ir_get, decide_eq_true, decide_eq_false, Try.ntmps3, Try.results3, hos])
    (refine at_call 200 ?_; simp only [go_sem, ↓reduceIte, ↓reduceDIte, reduceCtorEq, Nat.reducePow, Nat.reduceEqDiff, Nat.reduceAdd, Nat.reduceSub, Nat.reduceMul, Nat.reduceMod, Nat.reduceLeDiff, Nat.reduceLT, Nat.reduceBEq, Nat.reduceBNe, Int.reduceLT, Int.reduceLE, Int.reduceToNat, Int.reduceNeg, Int.reduceAdd, Int.reduceSub, Int.reduceMul, Int.reduceBEq, Int.reduceBNe, Int.reduceEq, Try.ntmps3, Try.results3]; refine callA_of (Plant_spec _ _) (by first | trivial | (simp only [go_sem, ↓reduceIte, ↓reduceDIte, reduceCtorEq, Nat.reducePow, Nat.reduceEqDiff, Nat.reduceAdd, Nat.reduceSub, Nat.reduceMul, Nat.reduceMod, Nat.reduceLeDiff, Nat.reduceLT, Nat.reduceBEq, Nat.reduceBNe, Int.reduceLT, Int.reduceLE, Int.reduceToNat, Int.reduceNeg, Int.reduceAdd, Int.reduceSub, Int.reduceMul, Int.reduceBEq, Int.reduceBNe, Int.reduceEq, Try.ntmps3, Try.results3]; done) | (split <;> simp only [go_sem, ↓reduceIte, ↓reduceDIte, reduceCtorEq, Nat.reducePow, Nat.reduceEqDiff, Nat.reduceAdd, Nat.reduceSub, Nat.reduceMul, Nat.reduceMod, Nat.reduceLeDiff, Nat.reduceLT, Nat.reduceBEq, Nat.reduceBNe, Int.reduceLT, Int.reduceLE, Int.reduceToNat, Int.reduceNeg, Int.reduceAdd, Int.reduceSub, Int.reduceMul, Int.reduceBEq, Int.reduceBNe, Int.reduceEq, Try.ntmps3, Try.results3])) ?_; try simp only [go_sem, ↓reduceIte, ↓reduceDIte, reduceCtorEq, Nat.reducePow, Nat.reduceEqDiff, Nat.reduceAdd, Nat.reduceSub, Nat.reduceMul, Nat.reduceMod, Nat.reduceLeDiff, Nat.reduceLT, Nat.reduceBEq, Nat.reduceBNe, Int.reduceLT, Int.reduceLE, Int.reduceToNat, Int.reduceNeg, Int.reduceAdd, Int.reduceSub, Int.reduceMul, Int.reduceBEq, Int.reduceBNe, Int.reduceEq, Try.ntmps3, Try.results3])
    have e0 : (List.replicate N zrow)[r]? = some zrow := by rw [List.getElem?_replicate, if_pos hr]
    (try simp (disch := omega) only [go_sem, ↓reduceIte, ↓reduceDIte, reduceCtorEq, Nat.reducePow, Nat.reduceEqDiff, Nat.reduceAdd, Nat.reduceSub, Nat.reduceMul, Nat.reduceMod, Nat.reduceLeDiff, Nat.reduceLT, Nat.reduceBEq, Nat.reduceBNe, Int.reduceLT, Int.reduceLE, Int.reduceToNat, Int.reduceNeg, Int.reduceAdd, Int.reduceSub, Int.reduceMul, Int.reduceBEq, Int.reduceBNe, Int.reduceEq, if_pos, if_neg, w64, beqT, beqF, bneT, bneF, pr_get, ir_get, decide_eq_true, decide_eq_false, Try.ntmps3, Try.results3, hlen, hp0, e0])
    refine walk_own 9 3 trivial rfl (.inl rfl) ?_
    refine walk_loop 200 200 (fun q : Nat × Nat => q.1 ≤ os.length) (fun q => ⟨267, [(2, .p (.imm 1 (pr eU16 picks))), (3, .ptr 0 0 0 0), (7, sci .i64 r), (8, .ref 1 0 0 N), (9, .ref 2 q.2 0 q.1), (10, lI oi), (11, sci .i64 (q.1 : Int))], [], 3,
      [(2, .arr 3 q.2 (ir eLt ((os.take q.1).map fun k => ⟨k, false, false⟩))), (1, treesBlk 0 ((List.replicate N t0).set r ⟨1, -1, (os.length : Nat), []⟩)), (0, .arr 2 0 [[sci .i64 N, lII ls]])]⟩) (fun q => os.length - q.1) (0, 0) (Nat.zero_le _) ?_ ?_
    · constructor <;> (try simp (disch := omega) only [go_sem, ↓reduceIte, ↓reduceDIte, reduceCtorEq, Nat.reducePow, Nat.reduceEqDiff, Nat.reduceAdd, Nat.reduceSub, Nat.reduceMul, Nat.reduceMod, Nat.reduceLeDiff, Nat.reduceLT, Nat.reduceBEq, Nat.reduceBNe, Int.reduceLT, Int.reduceLE, Int.reduceToNat, Int.reduceNeg, Int.reduceAdd, Int.reduceSub, Int.reduceMul, Int.reduceBEq, Int.reduceBNe, Int.reduceEq, if_pos, if_neg, w64, beqT, beqF, bneT, bneF, pr_get, ir_get, decide_eq_true, decide_eq_false, Try.ntmps3, Try.results3, Int.natCast_zero, List.take_zero, List.map_nil])
      exact wk_trees
    · rintro ⟨j, g⟩ hj
      simp only at hj
      (try simp only [go_sem, ↓reduceIte, ↓reduceDIte, reduceCtorEq, Nat.reducePow, Nat.reduceEqDiff, Nat.reduceAdd, Nat.reduceSub, Nat.reduceMul, Nat.reduceMod, Nat.reduceLeDiff, Nat.reduceLT, Nat.reduceBEq, Nat.reduceBNe, Int.reduceLT, Int.reduceLE, Int.reduceToNat, Int.reduceNeg, Int.reduceAdd, Int.reduceSub, Int.reduceMul, Int.reduceBEq, Int.reduceBNe, Int.reduceEq, Try.ntmps3, Try.results3])
      by_cases hjl : j < os.length
      · have hjo : j < oi.length := by omega
        have hg := hget j hjo hjl
        have tl : ((os.take j).map fun k => (⟨k, false, false⟩ : Lt)).length = j := by simp; omega
        have tn : ((os.take j).map fun k => (⟨k, false, false⟩ : Lt)) ++ [(⟨os[j], false, false⟩ : Lt)] = ((os.take (j + 1)).map fun k => (⟨k, false, false⟩ : Lt)) := by
          rw [List.take_succ_eq_append_getElem hjl, List.map_append]; simp
        have tt : List.take j ((os.take j).map fun k => (⟨k, false, false⟩ : Lt)) = (os.take j).map fun k => (⟨k, false, false⟩ : Lt) := List.take_of_length_le (by omega)
        (try simp (disch := omega) only [go_sem, ↓reduceIte, ↓reduceDIte, reduceCtorEq, Nat.reducePow, Nat.reduceEqDiff, Nat.reduceAdd, Nat.reduceSub, Nat.reduceMul, Nat.reduceMod, Nat.reduceLeDiff, Nat.reduceLT, Nat.reduceBEq, Nat.reduceBNe, Int.reduceLT, Int.reduceLE, Int.reduceToNat, Int.reduceNeg, Int.reduceAdd, Int.reduceSub, Int.reduceMul, Int.reduceBEq, Int.reduceBNe, Int.reduceEq, if_pos, if_neg, w64, beqT, beqF, bneT, bneF, pr_get, ir_get, decide_eq_true, decide_eq_false, Try.ntmps3, Try.results3, hlen, eI, hg, tl])
        refine ⟨(j + 1, g + 1), by simp only; omega, by simp only; omega, ?_⟩
        constructor <;> (try simp (disch := omega) only [go_sem, ↓reduceIte, ↓reduceDIte, reduceCtorEq, Nat.reducePow, Nat.reduceEqDiff, Nat.reduceAdd, Nat.reduceSub, Nat.reduceMul, Nat.reduceMod, Nat.reduceLeDiff, Nat.reduceLT, Nat.reduceBEq, Nat.reduceBNe, Int.reduceLT, Int.reduceLE, Int.reduceToNat, Int.reduceNeg, Int.reduceAdd, Int.reduceSub, Int.reduceMul, Int.reduceBEq, Int.reduceBNe, Int.reduceEq, if_pos, if_neg, w64, beqT, beqF, bneT, bneF, pr_get, ir_get, decide_eq_true, decide_eq_false, Try.ntmps3, Try.results3, tt, tn, tl])
      · (try simp (disch := omega) only [go_sem, ↓reduceIte, ↓reduceDIte, reduceCtorEq, Nat.reducePow, Nat.reduceEqDiff, Nat.reduceAdd, Nat.reduceSub, Nat.reduceMul, Nat.reduceMod, Nat.reduceLeDiff, Nat.reduceLT, Nat.reduceBEq, Nat.reduceBNe, Int.reduceLT, Int.reduceLE, Int.reduceToNat, Int.reduceNeg, Int.reduceAdd, Int.reduceSub, Int.reduceMul, Int.reduceBEq, Int.reduceBNe, Int.reduceEq, if_pos, if_neg, w64, beqT, beqF, bneT, bneF, pr_get, ir_get, decide_eq_true, decide_eq_false, Try.ntmps3, Try.results3, hlen])
        obtain rfl : j = os.length := by omega
        have hI0 := Inv.init (G := grOf N ls) (r := r) (T := tf ((List.replicate N t0).set r ⟨1, -1, (os.length : Nat), []⟩)) ho hr (by rw [← hoe]; exact tf_set (by simpa using hr)) (fun m hm => by
          rw [tf_set_ne hm]
          simp only [tf, List.getD, List.getElem?_replicate]
          split <;> simp)
        rw [← hoe] at hI0
        have hK0 : ∀ m, (tf ((List.replicate N t0).set r ⟨1, -1, (os.length : Nat), []⟩) m).k.length ≤ 0 := fun m => by
          by_cases hm : m = r
          · subst hm; rw [tf_set (by simpa using hr)]; simp
          · rw [tf_set_ne hm]
            simp only [tf, List.getD, List.getElem?_replicate]
            split <;> simp
        have hL0 : ((List.replicate N t0).set r ⟨1, -1, (os.length : Nat), []⟩).length = N := by simp
        generalize (List.replicate N t0).set r ⟨1, -1, (os.length : Nat), []⟩ = ts0 at *
        have htk : os.take os.length = os := List.take_of_length_le (Nat.le_refl _)
        rw [htk]
        have hwl0 : (os.map (fun k => (⟨k, false, false⟩ : Lt))).length = os.length := by simp
        generalize os.map (fun k => (⟨k, false, false⟩ : Lt)) = way0 at *
        clear hget hoe hos hlen hol htk e0 hp0
        refine walk_floop 200 200 (fun q : List Tr × List Lt × Nat => q.1.length = N ∧ (∃ ord ρ, Inv (grOf N ls) r (tf q.1) q.2.1 q.2.2 ord ρ) ∧ ∀ m, (tf q.1 m).k.length ≤ q.2.2)
          (fun q => ⟨267, [(2, .p (.imm 1 (pr eU16 picks))), (3, .ptr 0 0 0 0), (7, sci .i64 r), (8, .ref 1 0 0 N), (9, .p (.imm 3 (pr eLt q.2.1))), (12, sci .i64 (q.2.2 : Int))], [], 2,
            [(1, treesBlk 0 q.1), (0, .arr 2 0 [[sci .i64 N, lII ls]])]⟩) (fun q => 2 * ls.length - q.2.2) (ts0, way0, 0) [2] ⟨hL0, ⟨_, _, hI0⟩, hK0⟩ ?_ ?_
        · constructor <;> (try simp (disch := omega) only [go_sem, ↓reduceIte, ↓reduceDIte, reduceCtorEq, Nat.reducePow, Nat.reduceEqDiff, Nat.reduceAdd, Nat.reduceSub, Nat.reduceMul, Nat.reduceMod, Nat.reduceLeDiff, Nat.reduceLT, Nat.reduceBEq, Nat.reduceBNe, Int.reduceLT, Int.reduceLE, Int.reduceToNat, Int.reduceNeg, Int.reduceAdd, Int.reduceSub, Int.reduceMul, Int.reduceBEq, Int.reduceBNe, Int.reduceEq, if_pos, if_neg, w64, beqT, beqF, bneT, bneF, pr_get, ir_get, decide_eq_true, decide_eq_false, Try.ntmps3, Try.results3, Int.natCast_zero])
          rw [List.take_of_length_le (by omega)]
        · clear hI0 hK0 hL0
          rintro ⟨ts, way, many⟩ ⟨h1, ⟨ord, ρ, h2⟩, h3⟩
          simp only at h1 h2 h3
          have most := h2.most
          rw [hgL] at most
          (try simp only [go_sem, ↓reduceIte, ↓reduceDIte, reduceCtorEq, Nat.reducePow, Nat.reduceEqDiff, Nat.reduceAdd, Nat.reduceSub, Nat.reduceMul, Nat.reduceMod, Nat.reduceLeDiff, Nat.reduceLT, Nat.reduceBEq, Nat.reduceBNe, Int.reduceLT, Int.reduceLE, Int.reduceToNat, Int.reduceNeg, Int.reduceAdd, Int.reduceSub, Int.reduceMul, Int.reduceBEq, Int.reduceBNe, Int.reduceEq, Try.ntmps3, Try.results3])
          by_cases hw : 0 < way.length
          · have hm := most.2 hw
            have fin : ∀ i : Nat, i < way.length → ∃ ts' way', (∀ b g, PEff Try.prog 14 [eG N ls, .ref b g 0 N, .p (.imm 3 (pr eLt way)), sci .i64 (i : Int)]
                [(b, treesBlk g ts)] (.tup [.p (.imm 3 (pr eLt way')), scb true]) [(b, treesBlk g ts')]) ∧ ts'.length = N ∧ (∃ ord' ρ', Inv (grOf N ls) r (tf ts') way' (many + 1) ord' ρ') ∧ ∀ m, (tf ts' m).k.length ≤ many + 1 :=
              fun i hi => hear_step hR h1 hi h2 h3
            by_cases hpk : many < picks.length
            · have hpx := hp _ (List.getElem_mem hpk)
              obtain ⟨i, hi1, hi⟩ : ∃ i : Nat, (picks[many].tmod way.length) = i ∧ i < way.length := ⟨(picks[many].tmod way.length).toNat, by
                have := Int.tmod_nonneg (way.length : Int) hpx.1
                omega, by
                have := Int.tmod_lt_of_pos picks[many] (show (0 : Int) < way.length by omega)
                omega⟩
              obtain ⟨ts', way', st, l1, l2, l3⟩ := fin i hi
              (try simp (disch := omega) only [go_sem, ↓reduceIte, ↓reduceDIte, reduceCtorEq, Nat.reducePow, Nat.reduceEqDiff, Nat.reduceAdd, Nat.reduceSub, Nat.reduceMul, Nat.reduceMod, Nat.reduceLeDiff, Nat.reduceLT, Nat.reduceBEq, Nat.reduceBNe, Int.reduceLT, Int.reduceLE, Int.reduceToNat, Int.reduceNeg, Int.reduceAdd, Int.reduceSub, Int.reduceMul, Int.reduceBEq, Int.reduceBNe, Int.reduceEq, if_pos, if_neg, w64, beqT, beqF, bneT, bneF, pr_get, ir_get, decide_eq_true, decide_eq_false, Try.ntmps3, Try.results3, eU16, hi1])
              (refine at_eff 200 ?_; simp only [go_sem, ↓reduceIte, ↓reduceDIte, reduceCtorEq, Nat.reducePow, Nat.reduceEqDiff, Nat.reduceAdd, Nat.reduceSub, Nat.reduceMul, Nat.reduceMod, Nat.reduceLeDiff, Nat.reduceLT, Nat.reduceBEq, Nat.reduceBNe, Int.reduceLT, Int.reduceLE, Int.reduceToNat, Int.reduceNeg, Int.reduceAdd, Int.reduceSub, Int.reduceMul, Int.reduceBEq, Int.reduceBNe, Int.reduceEq, Try.ntmps3, Try.results3]; refine callE_of (st 1 0) ?_ ?_)
              · (try simp (disch := omega) only [go_sem, ↓reduceIte, ↓reduceDIte, reduceCtorEq, Nat.reducePow, Nat.reduceEqDiff, Nat.reduceAdd, Nat.reduceSub, Nat.reduceMul, Nat.reduceMod, Nat.reduceLeDiff, Nat.reduceLT, Nat.reduceBEq, Nat.reduceBNe, Int.reduceLT, Int.reduceLE, Int.reduceToNat, Int.reduceNeg, Int.reduceAdd, Int.reduceSub, Int.reduceMul, Int.reduceBEq, Int.reduceBNe, Int.reduceEq, if_pos, if_neg, w64, beqT, beqF, bneT, bneF, pr_get, ir_get, decide_eq_true, decide_eq_false, Try.ntmps3, Try.results3])
              · (try simp (disch := omega) only [go_sem, ↓reduceIte, ↓reduceDIte, reduceCtorEq, Nat.reducePow, Nat.reduceEqDiff, Nat.reduceAdd, Nat.reduceSub, Nat.reduceMul, Nat.reduceMod, Nat.reduceLeDiff, Nat.reduceLT, Nat.reduceBEq, Nat.reduceBNe, Int.reduceLT, Int.reduceLE, Int.reduceToNat, Int.reduceNeg, Int.reduceAdd, Int.reduceSub, Int.reduceMul, Int.reduceBEq, Int.reduceBNe, Int.reduceEq, if_pos, if_neg, w64, beqT, beqF, bneT, bneF, pr_get, ir_get, decide_eq_true, decide_eq_false, Try.ntmps3, Try.results3])
                refine ⟨(ts', way', many + 1), [], ⟨l1, l2, l3⟩, by simp only; omega, ?_⟩
                constructor <;> (try simp (disch := omega) only [go_sem, ↓reduceIte, ↓reduceDIte, reduceCtorEq, Nat.reducePow, Nat.reduceEqDiff, Nat.reduceAdd, Nat.reduceSub, Nat.reduceMul, Nat.reduceMod, Nat.reduceLeDiff, Nat.reduceLT, Nat.reduceBEq, Nat.reduceBNe, Int.reduceLT, Int.reduceLE, Int.reduceToNat, Int.reduceNeg, Int.reduceAdd, Int.reduceSub, Int.reduceMul, Int.reduceBEq, Int.reduceBNe, Int.reduceEq, if_pos, if_neg, w64, beqT, beqF, bneT, bneF, pr_get, ir_get, decide_eq_true, decide_eq_false, Try.ntmps3, Try.results3])
            · obtain ⟨ts', way', st, l1, l2, l3⟩ := fin 0 hw
              (try simp (disch := omega) only [go_sem, ↓reduceIte, ↓reduceDIte, reduceCtorEq, Nat.reducePow, Nat.reduceEqDiff, Nat.reduceAdd, Nat.reduceSub, Nat.reduceMul, Nat.reduceMod, Nat.reduceLeDiff, Nat.reduceLT, Nat.reduceBEq, Nat.reduceBNe, Int.reduceLT, Int.reduceLE, Int.reduceToNat, Int.reduceNeg, Int.reduceAdd, Int.reduceSub, Int.reduceMul, Int.reduceBEq, Int.reduceBNe, Int.reduceEq, if_pos, if_neg, w64, beqT, beqF, bneT, bneF, pr_get, ir_get, decide_eq_true, decide_eq_false, Try.ntmps3, Try.results3])
              (refine at_eff 200 ?_; simp only [go_sem, ↓reduceIte, ↓reduceDIte, reduceCtorEq, Nat.reducePow, Nat.reduceEqDiff, Nat.reduceAdd, Nat.reduceSub, Nat.reduceMul, Nat.reduceMod, Nat.reduceLeDiff, Nat.reduceLT, Nat.reduceBEq, Nat.reduceBNe, Int.reduceLT, Int.reduceLE, Int.reduceToNat, Int.reduceNeg, Int.reduceAdd, Int.reduceSub, Int.reduceMul, Int.reduceBEq, Int.reduceBNe, Int.reduceEq, Try.ntmps3, Try.results3]; refine callE_of (st 1 0) ?_ ?_)
              · (try simp (disch := omega) only [go_sem, ↓reduceIte, ↓reduceDIte, reduceCtorEq, Nat.reducePow, Nat.reduceEqDiff, Nat.reduceAdd, Nat.reduceSub, Nat.reduceMul, Nat.reduceMod, Nat.reduceLeDiff, Nat.reduceLT, Nat.reduceBEq, Nat.reduceBNe, Int.reduceLT, Int.reduceLE, Int.reduceToNat, Int.reduceNeg, Int.reduceAdd, Int.reduceSub, Int.reduceMul, Int.reduceBEq, Int.reduceBNe, Int.reduceEq, if_pos, if_neg, w64, beqT, beqF, bneT, bneF, pr_get, ir_get, decide_eq_true, decide_eq_false, Try.ntmps3, Try.results3])
              · (try simp (disch := omega) only [go_sem, ↓reduceIte, ↓reduceDIte, reduceCtorEq, Nat.reducePow, Nat.reduceEqDiff, Nat.reduceAdd, Nat.reduceSub, Nat.reduceMul, Nat.reduceMod, Nat.reduceLeDiff, Nat.reduceLT, Nat.reduceBEq, Nat.reduceBNe, Int.reduceLT, Int.reduceLE, Int.reduceToNat, Int.reduceNeg, Int.reduceAdd, Int.reduceSub, Int.reduceMul, Int.reduceBEq, Int.reduceBNe, Int.reduceEq, if_pos, if_neg, w64, beqT, beqF, bneT, bneF, pr_get, ir_get, decide_eq_true, decide_eq_false, Try.ntmps3, Try.results3])
                refine ⟨(ts', way', many + 1), [], ⟨l1, l2, l3⟩, by simp only; omega, ?_⟩
                constructor <;> (try simp (disch := omega) only [go_sem, ↓reduceIte, ↓reduceDIte, reduceCtorEq, Nat.reducePow, Nat.reduceEqDiff, Nat.reduceAdd, Nat.reduceSub, Nat.reduceMul, Nat.reduceMod, Nat.reduceLeDiff, Nat.reduceLT, Nat.reduceBEq, Nat.reduceBNe, Int.reduceLT, Int.reduceLE, Int.reduceToNat, Int.reduceNeg, Int.reduceAdd, Int.reduceSub, Int.reduceMul, Int.reduceBEq, Int.reduceBNe, Int.reduceEq, if_pos, if_neg, w64, beqT, beqF, bneT, bneF, pr_get, ir_get, decide_eq_true, decide_eq_false, Try.ntmps3, Try.results3])
          · obtain rfl : way = [] := List.eq_nil_of_length_eq_zero (by omega)
            have fn := h2.fin ho
            have hmany := fn.many
            rw [hgL] at hmany
            have hk : ∀ m, (tf ts m).k.length ≤ 60 := fun m => by have := h3 m; omega
            clear h2 h3 most hw
            (try simp (disch := omega) only [go_sem, ↓reduceIte, ↓reduceDIte, reduceCtorEq, Nat.reducePow, Nat.reduceEqDiff, Nat.reduceAdd, Nat.reduceSub, Nat.reduceMul, Nat.reduceMod, Nat.reduceLeDiff, Nat.reduceLT, Nat.reduceBEq, Nat.reduceBNe, Int.reduceLT, Int.reduceLE, Int.reduceToNat, Int.reduceNeg, Int.reduceAdd, Int.reduceSub, Int.reduceMul, Int.reduceBEq, Int.reduceBNe, Int.reduceEq, if_pos, if_neg, w64, beqT, beqF, bneT, bneF, pr_get, ir_get, decide_eq_true, decide_eq_false, Try.ntmps3, Try.results3])
            have hz : List.replicate N [IV.p (PV.sc (.int .i64 0))] = ir eI (List.replicate N 0) := by simp [ir, eI]
            refine walk_loop 200 200 (fun n : Nat => n ≤ N) (fun n => ⟨267, [(3, .ptr 0 0 0 0), (7, sci .i64 r), (8, .ref 1 0 0 N), (16, .ref 2 0 0 N), (17, sci .i64 (n : Int))], [], 3,
              [(2, .arr 1 0 (ir eI ((kidsAll (tf ts) n).foldl (bump (grOf N ls)) (List.replicate N 0)))), (1, treesBlk 0 ts), (0, .arr 2 0 [[sci .i64 N, lII ls]])]⟩) (fun n => N - n) 0 (Nat.zero_le _) ?_ ?_
            · constructor <;> (try simp (disch := omega) only [go_sem, ↓reduceIte, ↓reduceDIte, reduceCtorEq, Nat.reducePow, Nat.reduceEqDiff, Nat.reduceAdd, Nat.reduceSub, Nat.reduceMul, Nat.reduceMod, Nat.reduceLeDiff, Nat.reduceLT, Nat.reduceBEq, Nat.reduceBNe, Int.reduceLT, Int.reduceLE, Int.reduceToNat, Int.reduceNeg, Int.reduceAdd, Int.reduceSub, Int.reduceMul, Int.reduceBEq, Int.reduceBNe, Int.reduceEq, if_pos, if_neg, w64, beqT, beqF, bneT, bneF, pr_get, ir_get, decide_eq_true, decide_eq_false, Try.ntmps3, Try.results3, Int.natCast_zero, hz])
              exact .inl rfl
            · intro n hn
              (try simp only [go_sem, ↓reduceIte, ↓reduceDIte, reduceCtorEq, Nat.reducePow, Nat.reduceEqDiff, Nat.reduceAdd, Nat.reduceSub, Nat.reduceMul, Nat.reduceMod, Nat.reduceLeDiff, Nat.reduceLT, Nat.reduceBEq, Nat.reduceBNe, Int.reduceLT, Int.reduceLE, Int.reduceToNat, Int.reduceNeg, Int.reduceAdd, Int.reduceSub, Int.reduceMul, Int.reduceBEq, Int.reduceBNe, Int.reduceEq, Try.ntmps3, Try.results3])
              by_cases hnl : n < N
              · have hnt : n < ts.length := by omega
                obtain ⟨u, k, ht⟩ : ∃ u k, ts[n] = ⟨1, u, 0, k⟩ := by
                  have := fn.set n hnl
                  rw [tf_get hnt] at this
                  exact ⟨ts[n].u, ts[n].k, by rw [← this.1, ← this.2]⟩
                have htk : (tf ts n).k = k := by rw [tf_get hnt, ht]
                (try simp (disch := omega) only [go_sem, ↓reduceIte, ↓reduceDIte, reduceCtorEq, Nat.reducePow, Nat.reduceEqDiff, Nat.reduceAdd, Nat.reduceSub, Nat.reduceMul, Nat.reduceMod, Nat.reduceLeDiff, Nat.reduceLT, Nat.reduceBEq, Nat.reduceBNe, Int.reduceLT, Int.reduceLE, Int.reduceToNat, Int.reduceNeg, Int.reduceAdd, Int.reduceSub, Int.reduceMul, Int.reduceBEq, Int.reduceBNe, Int.reduceEq, if_pos, if_neg, w64, beqT, beqF, bneT, bneF, pr_get, ir_get, decide_eq_true, decide_eq_false, Try.ntmps3, Try.results3, ht, eTr])
                (refine at_call 200 ?_; simp only [go_sem, ↓reduceIte, ↓reduceDIte, reduceCtorEq, Nat.reducePow, Nat.reduceEqDiff, Nat.reduceAdd, Nat.reduceSub, Nat.reduceMul, Nat.reduceMod, Nat.reduceLeDiff, Nat.reduceLT, Nat.reduceBEq, Nat.reduceBNe, Int.reduceLT, Int.reduceLE, Int.reduceToNat, Int.reduceNeg, Int.reduceAdd, Int.reduceSub, Int.reduceMul, Int.reduceBEq, Int.reduceBNe, Int.reduceEq, Try.ntmps3, Try.results3]; refine callA_of (Settled_spec _ _ _ _ _) (by first | trivial | (simp only [go_sem, ↓reduceIte, ↓reduceDIte, reduceCtorEq, Nat.reducePow, Nat.reduceEqDiff, Nat.reduceAdd, Nat.reduceSub, Nat.reduceMul, Nat.reduceMod, Nat.reduceLeDiff, Nat.reduceLT, Nat.reduceBEq, Nat.reduceBNe, Int.reduceLT, Int.reduceLE, Int.reduceToNat, Int.reduceNeg, Int.reduceAdd, Int.reduceSub, Int.reduceMul, Int.reduceBEq, Int.reduceBNe, Int.reduceEq, Try.ntmps3, Try.results3]; done) | (split <;> simp only [go_sem, ↓reduceIte, ↓reduceDIte, reduceCtorEq, Nat.reducePow, Nat.reduceEqDiff, Nat.reduceAdd, Nat.reduceSub, Nat.reduceMul, Nat.reduceMod, Nat.reduceLeDiff, Nat.reduceLT, Nat.reduceBEq, Nat.reduceBNe, Int.reduceLT, Int.reduceLE, Int.reduceToNat, Int.reduceNeg, Int.reduceAdd, Int.reduceSub, Int.reduceMul, Int.reduceBEq, Int.reduceBNe, Int.reduceEq, Try.ntmps3, Try.results3])) ?_; try simp only [go_sem, ↓reduceIte, ↓reduceDIte, reduceCtorEq, Nat.reducePow, Nat.reduceEqDiff, Nat.reduceAdd, Nat.reduceSub, Nat.reduceMul, Nat.reduceMod, Nat.reduceLeDiff, Nat.reduceLT, Nat.reduceBEq, Nat.reduceBNe, Int.reduceLT, Int.reduceLE, Int.reduceToNat, Int.reduceNeg, Int.reduceAdd, Int.reduceSub, Int.reduceMul, Int.reduceBEq, Int.reduceBNe, Int.reduceEq, Try.ntmps3, Try.results3])
                (try simp (disch := omega) only [go_sem, ↓reduceIte, ↓reduceDIte, reduceCtorEq, Nat.reducePow, Nat.reduceEqDiff, Nat.reduceAdd, Nat.reduceSub, Nat.reduceMul, Nat.reduceMod, Nat.reduceLeDiff, Nat.reduceLT, Nat.reduceBEq, Nat.reduceBNe, Int.reduceLT, Int.reduceLE, Int.reduceToNat, Int.reduceNeg, Int.reduceAdd, Int.reduceSub, Int.reduceMul, Int.reduceBEq, Int.reduceBNe, Int.reduceEq, if_pos, if_neg, w64, beqT, beqF, bneT, bneF, pr_get, ir_get, decide_eq_true, decide_eq_false, Try.ntmps3, Try.results3])
                refine walk_loop 200 200 (fun j : Nat => j ≤ k.length) (fun j => ⟨267, [(3, .ptr 0 0 0 0), (7, sci .i64 r), (8, .ref 1 0 0 N), (16, .ref 2 0 0 N), (17, sci .i64 (n : Int)), (18, sci .i64 (j : Int))], [], 3,
                  [(2, .arr 1 0 (ir eI ((kidsAll (tf ts) n ++ k.take j).foldl (bump (grOf N ls)) (List.replicate N 0)))), (1, treesBlk 0 ts), (0, .arr 2 0 [[sci .i64 N, lII ls]])]⟩) (fun j => k.length - j) 0 (Nat.zero_le _) ?_ ?_
                · constructor <;> (try simp (disch := omega) only [go_sem, ↓reduceIte, ↓reduceDIte, reduceCtorEq, Nat.reducePow, Nat.reduceEqDiff, Nat.reduceAdd, Nat.reduceSub, Nat.reduceMul, Nat.reduceMod, Nat.reduceLeDiff, Nat.reduceLT, Nat.reduceBEq, Nat.reduceBNe, Int.reduceLT, Int.reduceLE, Int.reduceToNat, Int.reduceNeg, Int.reduceAdd, Int.reduceSub, Int.reduceMul, Int.reduceBEq, Int.reduceBNe, Int.reduceEq, if_pos, if_neg, w64, beqT, beqF, bneT, bneF, pr_get, ir_get, decide_eq_true, decide_eq_false, Try.ntmps3, Try.results3, Int.natCast_zero, List.take_zero, List.append_nil])
                · intro j hj
                  (try simp only [go_sem, ↓reduceIte, ↓reduceDIte, reduceCtorEq, Nat.reducePow, Nat.reduceEqDiff, Nat.reduceAdd, Nat.reduceSub, Nat.reduceMul, Nat.reduceMod, Nat.reduceLeDiff, Nat.reduceLT, Nat.reduceBEq, Nat.reduceBNe, Int.reduceLT, Int.reduceLE, Int.reduceToNat, Int.reduceNeg, Int.reduceAdd, Int.reduceSub, Int.reduceMul, Int.reduceBEq, Int.reduceBNe, Int.reduceEq, Try.ntmps3, Try.results3])
                  by_cases hjl : j < k.length
                  · obtain ⟨l, a1, a2, a3, a4⟩ := (fn.kd n hnl).2 k[j] (by rw [htk]; exact List.getElem_mem hjl)
                    obtain ⟨d, hd⟩ : ∃ d, (grOf N ls).dst l = d := ⟨_, rfl⟩
                    have hl : l < ls.length := a1
                    have hdN : d < N := by rw [← hd]; exact ho.d l a1
                    have hgt : ls.getD l (0, 0) = ls[l] := by simp [List.getD, hl]
                    have hx := hin _ (List.getElem_mem hl)
                    have hs1 : ls[l].1 = (n : Int) := by
                      have : (ls.getD l (0, 0)).1.toNat = n := a3
                      rw [hgt] at this; omega
                    have hs2 : ls[l].2 = (d : Int) := by
                      have : (ls.getD l (0, 0)).2.toNat = d := hd
                      rw [hgt] at this; omega
                    have hdt : d < ts.length := by omega
                    rw [hd, tf_get hdt] at a4
                    obtain ⟨e', w', k', ht'⟩ : ∃ e' w' k', ts[d] = ⟨e', l, w', k'⟩ := ⟨ts[d].e, ts[d].w, ts[d].k, by rw [← a4]⟩
                    have hkl := kidsAll_len hk n
                    have hcl : (kidsAll (tf ts) n ++ k.take j).length ≤ 420 := by
                      have := hk n
                      rw [htk] at this
                      rw [List.length_append, List.length_take]; omega
                    have hkin : ∀ x ∈ kidsAll (tf ts) n ++ k.take j, (grOf N ls).dst x.toNat < (List.replicate N (0 : Int)).length := fun x hx => by
                      rw [List.length_replicate]
                      have : x ∈ kidsAll (tf ts) (n + 1) := by
                        rw [kidsAll_succ, htk]
                        exact (List.mem_append.1 hx).elim (List.mem_append_left _) fun q => List.mem_append_right _ (List.mem_of_mem_take q)
                      obtain ⟨m, hm, hm2⟩ := List.mem_flatMap.1 this
                      obtain ⟨l2, b1, rfl, _⟩ := (fn.kd m (by have := List.mem_range.1 hm; show m < N; omega)).2 x hm2
                      exact ho.d l2 b1
                    have hb := bump_get (grOf N ls) (m := d) (kidsAll (tf ts) n ++ k.take j) (List.replicate N 0) (by simpa using hdN) hkin
                    have hc := List.countP_le_length (p := fun x : Int => (grOf N ls).dst x.toNat == d) (l := kidsAll (tf ts) n ++ k.take j)
                    have hbl := bump_len (grOf N ls) (kidsAll (tf ts) n ++ k.take j) (List.replicate N 0)
                    rw [List.length_replicate] at hbl
                    have hnext : (kidsAll (tf ts) n ++ k.take (j + 1)).foldl (bump (grOf N ls)) (List.replicate N 0) = bump (grOf N ls) ((kidsAll (tf ts) n ++ k.take j).foldl (bump (grOf N ls)) (List.replicate N 0)) l := by
                      rw [List.take_succ_eq_append_getElem hjl, ← List.append_assoc, List.foldl_append, a2]
                      rfl
                    rw [show (List.replicate N (0 : Int)).getD d 0 = 0 by simp [List.getD, hdN]] at hb
                    generalize (kidsAll (tf ts) n ++ k.take j).foldl (bump (grOf N ls)) (List.replicate N 0) = kd at *
                    have hdk : d < kd.length := by omega
                    have hkd : kd.getD d 0 = kd[d] := by simp [List.getD, hdk]
                    rw [hkd] at hb
                    have hbu : bump (grOf N ls) kd l = kd.set d (kd[d] + 1) := by
                      unfold bump
                      rw [Int.toNat_natCast, hd, hkd]
                    have hkb : 0 ≤ kd[d] ∧ kd[d] ≤ 420 := by omega
                    have hk60 := hk n
                    rw [htk] at hk60
                    clear hkin hc hb
                    (try simp (disch := omega) only [go_sem, ↓reduceIte, ↓reduceDIte, reduceCtorEq, Nat.reducePow, Nat.reduceEqDiff, Nat.reduceAdd, Nat.reduceSub, Nat.reduceMul, Nat.reduceMod, Nat.reduceLeDiff, Nat.reduceLT, Nat.reduceBEq, Nat.reduceBNe, Int.reduceLT, Int.reduceLE, Int.reduceToNat, Int.reduceNeg, Int.reduceAdd, Int.reduceSub, Int.reduceMul, Int.reduceBEq, Int.reduceBNe, Int.reduceEq, if_pos, if_neg, w64, beqT, beqF, bneT, bneF, pr_get, ir_get, decide_eq_true, decide_eq_false, Try.ntmps3, Try.results3, ht, eTr, eI, a2])
                    (try simp (disch := omega) only [go_sem, ↓reduceIte, ↓reduceDIte, reduceCtorEq, Nat.reducePow, Nat.reduceEqDiff, Nat.reduceAdd, Nat.reduceSub, Nat.reduceMul, Nat.reduceMod, Nat.reduceLeDiff, Nat.reduceLT, Nat.reduceBEq, Nat.reduceBNe, Int.reduceLT, Int.reduceLE, Int.reduceToNat, Int.reduceNeg, Int.reduceAdd, Int.reduceSub, Int.reduceMul, Int.reduceBEq, Int.reduceBNe, Int.reduceEq, if_pos, if_neg, w64, beqT, beqF, bneT, bneF, pr_get, ir_get, decide_eq_true, decide_eq_false, Try.ntmps3, Try.results3, eII, hs1, hs2, ht', eTr, eI, a2])
                    (refine walk_trim [3, 7, 8, 16, 17, 18, 19] trivial (by first | exact Nat.zero_le _ | exact Nat.le_refl _ | omega) ?_; simp only [go_sem, ↓reduceIte, ↓reduceDIte, reduceCtorEq, Nat.reducePow, Nat.reduceEqDiff, Nat.reduceAdd, Nat.reduceSub, Nat.reduceMul, Nat.reduceMod, Nat.reduceLeDiff, Nat.reduceLT, Nat.reduceBEq, Nat.reduceBNe, Int.reduceLT, Int.reduceLE, Int.reduceToNat, Int.reduceNeg, Int.reduceAdd, Int.reduceSub, Int.reduceMul, Int.reduceBEq, Int.reduceBNe, Int.reduceEq, Try.ntmps3, Try.results3]; refine irun_walk (id := 36) (n := 200) [none, none, none, none, none, none, none, none, none, none, none, none, none, none, none, none, none, none, some []] mixed (by kernel_rfl) ?_)
                    (try simp (disch := omega) only [go_sem, ↓reduceIte, ↓reduceDIte, reduceCtorEq, Nat.reducePow, Nat.reduceEqDiff, Nat.reduceAdd, Nat.reduceSub, Nat.reduceMul, Nat.reduceMod, Nat.reduceLeDiff, Nat.reduceLT, Nat.reduceBEq, Nat.reduceBNe, Int.reduceLT, Int.reduceLE, Int.reduceToNat, Int.reduceNeg, Int.reduceAdd, Int.reduceSub, Int.reduceMul, Int.reduceBEq, Int.reduceBNe, Int.reduceEq, if_pos, if_neg, w64, beqT, beqF, bneT, bneF, pr_get, ir_get, decide_eq_true, decide_eq_false, Try.ntmps3, Try.results3, eII, hs1, hs2, ht', eTr, eI, a2])
                    refine ⟨j + 1, by omega, by omega, ?_⟩
                    constructor <;> (try simp (disch := omega) only [go_sem, ↓reduceIte, ↓reduceDIte, reduceCtorEq, Nat.reducePow, Nat.reduceEqDiff, Nat.reduceAdd, Nat.reduceSub, Nat.reduceMul, Nat.reduceMod, Nat.reduceLeDiff, Nat.reduceLT, Nat.reduceBEq, Nat.reduceBNe, Int.reduceLT, Int.reduceLE, Int.reduceToNat, Int.reduceNeg, Int.reduceAdd, Int.reduceSub, Int.reduceMul, Int.reduceBEq, Int.reduceBNe, Int.reduceEq, if_pos, if_neg, w64, beqT, beqF, bneT, bneF, pr_get, ir_get, decide_eq_true, decide_eq_false, Try.ntmps3, Try.results3, hnext, hbu, eI])
                  · (try simp (disch := omega) only [go_sem, ↓reduceIte, ↓reduceDIte, reduceCtorEq, Nat.reducePow, Nat.reduceEqDiff, Nat.reduceAdd, Nat.reduceSub, Nat.reduceMul, Nat.reduceMod, Nat.reduceLeDiff, Nat.reduceLT, Nat.reduceBEq, Nat.reduceBNe, Int.reduceLT, Int.reduceLE, Int.reduceToNat, Int.reduceNeg, Int.reduceAdd, Int.reduceSub, Int.reduceMul, Int.reduceBEq, Int.reduceBNe, Int.reduceEq, if_pos, if_neg, w64, beqT, beqF, bneT, bneF, pr_get, ir_get, decide_eq_true, decide_eq_false, Try.ntmps3, Try.results3, ht, eTr])
                    obtain rfl : j = k.length := by omega
                    have e : kidsAll (tf ts) n ++ k = kidsAll (tf ts) (n + 1) := by rw [kidsAll_succ, htk]
                    have hk60 := hk n
                    rw [htk] at hk60
                    refine ⟨n + 1, by omega, by omega, ?_⟩
                    constructor <;> (try simp (disch := omega) only [go_sem, ↓reduceIte, ↓reduceDIte, reduceCtorEq, Nat.reducePow, Nat.reduceEqDiff, Nat.reduceAdd, Nat.reduceSub, Nat.reduceMul, Nat.reduceMod, Nat.reduceLeDiff, Nat.reduceLT, Nat.reduceBEq, Nat.reduceBNe, Int.reduceLT, Int.reduceLE, Int.reduceToNat, Int.reduceNeg, Int.reduceAdd, Int.reduceSub, Int.reduceMul, Int.reduceBEq, Int.reduceBNe, Int.reduceEq, if_pos, if_neg, w64, beqT, beqF, bneT, bneF, pr_get, ir_get, decide_eq_true, decide_eq_false, Try.ntmps3, Try.results3, e, List.take_length])
              · obtain rfl : n = N := by omega
                (try simp (disch := omega) only [go_sem, ↓reduceIte, ↓reduceDIte, reduceCtorEq, Nat.reducePow, Nat.reduceEqDiff, Nat.reduceAdd, Nat.reduceSub, Nat.reduceMul, Nat.reduceMod, Nat.reduceLeDiff, Nat.reduceLT, Nat.reduceBEq, Nat.reduceBNe, Int.reduceLT, Int.reduceLE, Int.reduceToNat, Int.reduceNeg, Int.reduceAdd, Int.reduceSub, Int.reduceMul, Int.reduceBEq, Int.reduceBNe, Int.reduceEq, if_pos, if_neg, w64, beqT, beqF, bneT, bneF, pr_get, ir_get, decide_eq_true, decide_eq_false, Try.ntmps3, Try.results3])
                have hkin : ∀ x ∈ kidsAll (tf ts) n, (grOf n ls).dst x.toNat < (List.replicate n (0 : Int)).length := fun x hx => by
                  rw [List.length_replicate]
                  obtain ⟨m, hm, hm2⟩ := List.mem_flatMap.1 hx
                  obtain ⟨l2, b1, rfl, _⟩ := (fn.kd m (List.mem_range.1 hm)).2 x hm2
                  exact ho.d l2 b1
                have hb : ∀ m, m < n → ((kidsAll (tf ts) n).foldl (bump (grOf n ls)) (List.replicate n 0)).getD m 0 = if m = r then 0 else 1 := fun m hm => by
                  rw [bump_get (grOf n ls) (kidsAll (tf ts) n) (List.replicate n 0) (by simpa using hm) hkin]
                  have := kids_count (m := m) ho fn hm
                  rw [show kidsAll (tf ts) n = kidsAll (tf ts) (grOf n ls).N from rfl, this]
                  simp [List.getD, hm]
                  split <;> rfl
                have hbl := bump_len (grOf n ls) (kidsAll (tf ts) n) (List.replicate n 0)
                rw [List.length_replicate] at hbl
                generalize (kidsAll (tf ts) n).foldl (bump (grOf n ls)) (List.replicate n 0) = kd at *
                have hup : ∀ m, m < n → m ≠ r → ∃ l : Nat, ∃ hl : l < ls.length, ∃ hm : m < ts.length, ts[m].u = (l : Int) ∧ ∃ q, ls[l].1 = ((q : Nat) : Int) ∧ q < n ∧ ρ q < ρ m := fun m hm hmr => by
                  obtain ⟨l, a1, a2, _, a4, _⟩ := fn.up m hm hmr
                  have hmt : m < ts.length := by omega
                  rw [tf_get hmt] at a2
                  have hl : l < ls.length := a1
                  have hgt : ls.getD l (0, 0) = ls[l] := by simp [List.getD, hl]
                  have hx := hin _ (List.getElem_mem hl)
                  have hs1 : (grOf n ls).src l = ls[l].1.toNat := by
                    show (ls.getD l (0, 0)).1.toNat = _
                    rw [hgt]
                  rw [hs1] at a4
                  exact ⟨l, hl, hmt, a2, ls[l].1.toNat, by omega, by omega, a4⟩
                have hrk : ∀ m, m < n → ρ m < n := fn.rk
                clear fn hkin hk
                refine walk_loop 200 200 (fun m : Nat => m ≤ n) (fun m => ⟨267, [(3, .ptr 0 0 0 0), (7, sci .i64 r), (8, .ref 1 0 0 n), (16, .ref 2 0 0 n), (20, sci .i64 (m : Int))], [], 3,
                  [(2, .arr 1 0 (ir eI kd)), (1, treesBlk 0 ts), (0, .arr 2 0 [[sci .i64 n, lII ls]])]⟩) (fun m => n - m) 0 (Nat.zero_le _) ?_ ?_
                · constructor <;> (try simp (disch := omega) only [go_sem, ↓reduceIte, ↓reduceDIte, reduceCtorEq, Nat.reducePow, Nat.reduceEqDiff, Nat.reduceAdd, Nat.reduceSub, Nat.reduceMul, Nat.reduceMod, Nat.reduceLeDiff, Nat.reduceLT, Nat.reduceBEq, Nat.reduceBNe, Int.reduceLT, Int.reduceLE, Int.reduceToNat, Int.reduceNeg, Int.reduceAdd, Int.reduceSub, Int.reduceMul, Int.reduceBEq, Int.reduceBNe, Int.reduceEq, if_pos, if_neg, w64, beqT, beqF, bneT, bneF, pr_get, ir_get, decide_eq_true, decide_eq_false, Try.ntmps3, Try.results3, Int.natCast_zero])
                · intro m hm
                  (try simp only [go_sem, ↓reduceIte, ↓reduceDIte, reduceCtorEq, Nat.reducePow, Nat.reduceEqDiff, Nat.reduceAdd, Nat.reduceSub, Nat.reduceMul, Nat.reduceMod, Nat.reduceLeDiff, Nat.reduceLT, Nat.reduceBEq, Nat.reduceBNe, Int.reduceLT, Int.reduceLE, Int.reduceToNat, Int.reduceNeg, Int.reduceAdd, Int.reduceSub, Int.reduceMul, Int.reduceBEq, Int.reduceBNe, Int.reduceEq, Try.ntmps3, Try.results3])
                  by_cases hmn : m < n
                  · (try simp (disch := omega) only [go_sem, ↓reduceIte, ↓reduceDIte, reduceCtorEq, Nat.reducePow, Nat.reduceEqDiff, Nat.reduceAdd, Nat.reduceSub, Nat.reduceMul, Nat.reduceMod, Nat.reduceLeDiff, Nat.reduceLT, Nat.reduceBEq, Nat.reduceBNe, Int.reduceLT, Int.reduceLE, Int.reduceToNat, Int.reduceNeg, Int.reduceAdd, Int.reduceSub, Int.reduceMul, Int.reduceBEq, Int.reduceBNe, Int.reduceEq, if_pos, if_neg, w64, beqT, beqF, bneT, bneF, pr_get, ir_get, decide_eq_true, decide_eq_false, Try.ntmps3, Try.results3])
                    refine walk_loop 200 200 (fun q : Nat × Nat => q.1 < n ∧ ρ q.1 + q.2 < n) (fun q => ⟨267, [(3, .ptr 0 0 0 0), (7, sci .i64 r), (8, .ref 1 0 0 n), (16, .ref 2 0 0 n), (20, sci .i64 (m : Int)), (21, sci .i64 (q.1 : Int)), (22, sci .i64 (q.2 : Int))], [], 3,
                      [(2, .arr 1 0 (ir eI kd)), (1, treesBlk 0 ts), (0, .arr 2 0 [[sci .i64 n, lII ls]])]⟩) (fun q => n - q.2) (m, 0) ⟨hmn, hrk m hmn⟩ ?_ ?_
                    · constructor <;> (try simp (disch := omega) only [go_sem, ↓reduceIte, ↓reduceDIte, reduceCtorEq, Nat.reducePow, Nat.reduceEqDiff, Nat.reduceAdd, Nat.reduceSub, Nat.reduceMul, Nat.reduceMod, Nat.reduceLeDiff, Nat.reduceLT, Nat.reduceBEq, Nat.reduceBNe, Int.reduceLT, Int.reduceLE, Int.reduceToNat, Int.reduceNeg, Int.reduceAdd, Int.reduceSub, Int.reduceMul, Int.reduceBEq, Int.reduceBNe, Int.reduceEq, if_pos, if_neg, w64, beqT, beqF, bneT, bneF, pr_get, ir_get, decide_eq_true, decide_eq_false, Try.ntmps3, Try.results3, Int.natCast_zero])
                    · rintro ⟨at_, i⟩ ⟨i1, i2⟩
                      simp only at i1 i2
                      have hin2 : i < n := by omega
                      (try simp only [go_sem, ↓reduceIte, ↓reduceDIte, reduceCtorEq, Nat.reducePow, Nat.reduceEqDiff, Nat.reduceAdd, Nat.reduceSub, Nat.reduceMul, Nat.reduceMod, Nat.reduceLeDiff, Nat.reduceLT, Nat.reduceBEq, Nat.reduceBNe, Int.reduceLT, Int.reduceLE, Int.reduceToNat, Int.reduceNeg, Int.reduceAdd, Int.reduceSub, Int.reduceMul, Int.reduceBEq, Int.reduceBNe, Int.reduceEq, Try.ntmps3, Try.results3])
                      by_cases hat : at_ = r
                      · subst hat
                        have hkm := hb m hmn
                        have hmk : m < kd.length := by omega
                        rw [show kd.getD m 0 = kd[m] by simp [List.getD, hmk]] at hkm
                        by_cases hmr : m = at_
                        · subst hmr
                          rw [if_pos rfl] at hkm
                          (try simp (disch := omega) only [go_sem, ↓reduceIte, ↓reduceDIte, reduceCtorEq, Nat.reducePow, Nat.reduceEqDiff, Nat.reduceAdd, Nat.reduceSub, Nat.reduceMul, Nat.reduceMod, Nat.reduceLeDiff, Nat.reduceLT, Nat.reduceBEq, Nat.reduceBNe, Int.reduceLT, Int.reduceLE, Int.reduceToNat, Int.reduceNeg, Int.reduceAdd, Int.reduceSub, Int.reduceMul, Int.reduceBEq, Int.reduceBNe, Int.reduceEq, if_pos, if_neg, w64, beqT, beqF, bneT, bneF, pr_get, ir_get, decide_eq_true, decide_eq_false, Try.ntmps3, Try.results3, eI, hkm])
                          refine ⟨m + 1, by omega, by omega, ?_⟩
                          constructor <;> (try simp (disch := omega) only [go_sem, ↓reduceIte, ↓reduceDIte, reduceCtorEq, Nat.reducePow, Nat.reduceEqDiff, Nat.reduceAdd, Nat.reduceSub, Nat.reduceMul, Nat.reduceMod, Nat.reduceLeDiff, Nat.reduceLT, Nat.reduceBEq, Nat.reduceBNe, Int.reduceLT, Int.reduceLE, Int.reduceToNat, Int.reduceNeg, Int.reduceAdd, Int.reduceSub, Int.reduceMul, Int.reduceBEq, Int.reduceBNe, Int.reduceEq, if_pos, if_neg, w64, beqT, beqF, bneT, bneF, pr_get, ir_get, decide_eq_true, decide_eq_false, Try.ntmps3, Try.results3])
                        · rw [if_neg hmr] at hkm
                          (try simp (disch := omega) only [go_sem, ↓reduceIte, ↓reduceDIte, reduceCtorEq, Nat.reducePow, Nat.reduceEqDiff, Nat.reduceAdd, Nat.reduceSub, Nat.reduceMul, Nat.reduceMod, Nat.reduceLeDiff, Nat.reduceLT, Nat.reduceBEq, Nat.reduceBNe, Int.reduceLT, Int.reduceLE, Int.reduceToNat, Int.reduceNeg, Int.reduceAdd, Int.reduceSub, Int.reduceMul, Int.reduceBEq, Int.reduceBNe, Int.reduceEq, if_pos, if_neg, w64, beqT, beqF, bneT, bneF, pr_get, ir_get, decide_eq_true, decide_eq_false, Try.ntmps3, Try.results3, eI, hkm])
                          refine ⟨m + 1, by omega, by omega, ?_⟩
                          constructor <;> (try simp (disch := omega) only [go_sem, ↓reduceIte, ↓reduceDIte, reduceCtorEq, Nat.reducePow, Nat.reduceEqDiff, Nat.reduceAdd, Nat.reduceSub, Nat.reduceMul, Nat.reduceMod, Nat.reduceLeDiff, Nat.reduceLT, Nat.reduceBEq, Nat.reduceBNe, Int.reduceLT, Int.reduceLE, Int.reduceToNat, Int.reduceNeg, Int.reduceAdd, Int.reduceSub, Int.reduceMul, Int.reduceBEq, Int.reduceBNe, Int.reduceEq, if_pos, if_neg, w64, beqT, beqF, bneT, bneF, pr_get, ir_get, decide_eq_true, decide_eq_false, Try.ntmps3, Try.results3])
                      · obtain ⟨l, hl, hmt, u1, q, q1, q2, q3⟩ := hup at_ i1 hat
                        obtain ⟨e', w', k', ht'⟩ : ∃ e' w' k', ts[at_] = ⟨e', l, w', k'⟩ := ⟨ts[at_].e, ts[at_].w, ts[at_].k, by rw [← u1]⟩
                        (try simp (disch := omega) only [go_sem, ↓reduceIte, ↓reduceDIte, reduceCtorEq, Nat.reducePow, Nat.reduceEqDiff, Nat.reduceAdd, Nat.reduceSub, Nat.reduceMul, Nat.reduceMod, Nat.reduceLeDiff, Nat.reduceLT, Nat.reduceBEq, Nat.reduceBNe, Int.reduceLT, Int.reduceLE, Int.reduceToNat, Int.reduceNeg, Int.reduceAdd, Int.reduceSub, Int.reduceMul, Int.reduceBEq, Int.reduceBNe, Int.reduceEq, if_pos, if_neg, w64, beqT, beqF, bneT, bneF, pr_get, ir_get, decide_eq_true, decide_eq_false, Try.ntmps3, Try.results3])
                        (refine walk_trim [3, 7, 8, 16, 20, 21, 22] trivial (by first | exact Nat.zero_le _ | exact Nat.le_refl _ | omega) ?_; simp only [go_sem, ↓reduceIte, ↓reduceDIte, reduceCtorEq, Nat.reducePow, Nat.reduceEqDiff, Nat.reduceAdd, Nat.reduceSub, Nat.reduceMul, Nat.reduceMod, Nat.reduceLeDiff, Nat.reduceLT, Nat.reduceBEq, Nat.reduceBNe, Int.reduceLT, Int.reduceLE, Int.reduceToNat, Int.reduceNeg, Int.reduceAdd, Int.reduceSub, Int.reduceMul, Int.reduceBEq, Int.reduceBNe, Int.reduceEq, Try.ntmps3, Try.results3]; refine irun_walk (id := 44) (n := 200) [none, none, none, none, none, none, none, none, none, none, none, none, none, none, none, none, none] mixed (by kernel_rfl) ?_)
                        (try simp (disch := omega) only [go_sem, ↓reduceIte, ↓reduceDIte, reduceCtorEq, Nat.reducePow, Nat.reduceEqDiff, Nat.reduceAdd, Nat.reduceSub, Nat.reduceMul, Nat.reduceMod, Nat.reduceLeDiff, Nat.reduceLT, Nat.reduceBEq, Nat.reduceBNe, Int.reduceLT, Int.reduceLE, Int.reduceToNat, Int.reduceNeg, Int.reduceAdd, Int.reduceSub, Int.reduceMul, Int.reduceBEq, Int.reduceBNe, Int.reduceEq, if_pos, if_neg, w64, beqT, beqF, bneT, bneF, pr_get, ir_get, decide_eq_true, decide_eq_false, Try.ntmps3, Try.results3, ht', eTr])
                        (refine walk_trim [3, 7, 8, 16, 20, 21, 22] trivial (by first | exact Nat.zero_le _ | exact Nat.le_refl _ | omega) ?_; simp only [go_sem, ↓reduceIte, ↓reduceDIte, reduceCtorEq, Nat.reducePow, Nat.reduceEqDiff, Nat.reduceAdd, Nat.reduceSub, Nat.reduceMul, Nat.reduceMod, Nat.reduceLeDiff, Nat.reduceLT, Nat.reduceBEq, Nat.reduceBNe, Int.reduceLT, Int.reduceLE, Int.reduceToNat, Int.reduceNeg, Int.reduceAdd, Int.reduceSub, Int.reduceMul, Int.reduceBEq, Int.reduceBNe, Int.reduceEq, Try.ntmps3, Try.results3]; refine irun_walk (id := 46) (n := 200) [none, none, none, none, none, none, none, none, none, none, none] mixed (by kernel_rfl) ?_)
                        (try simp (disch := omega) only [go_sem, ↓reduceIte, ↓reduceDIte, reduceCtorEq, Nat.reducePow, Nat.reduceEqDiff, Nat.reduceAdd, Nat.reduceSub, Nat.reduceMul, Nat.reduceMod, Nat.reduceLeDiff, Nat.reduceLT, Nat.reduceBEq, Nat.reduceBNe, Int.reduceLT, Int.reduceLE, Int.reduceToNat, Int.reduceNeg, Int.reduceAdd, Int.reduceSub, Int.reduceMul, Int.reduceBEq, Int.reduceBNe, Int.reduceEq, if_pos, if_neg, w64, beqT, beqF, bneT, bneF, pr_get, ir_get, decide_eq_true, decide_eq_false, Try.ntmps3, Try.results3, ht', eTr, eII, q1])
                        refine ⟨(q, i + 1), ⟨q2, by simp only; omega⟩, by simp only; omega, ?_⟩
                        constructor <;> (try simp (disch := omega) only [go_sem, ↓reduceIte, ↓reduceDIte, reduceCtorEq, Nat.reducePow, Nat.reduceEqDiff, Nat.reduceAdd, Nat.reduceSub, Nat.reduceMul, Nat.reduceMod, Nat.reduceLeDiff, Nat.reduceLT, Nat.reduceBEq, Nat.reduceBNe, Int.reduceLT, Int.reduceLE, Int.reduceToNat, Int.reduceNeg, Int.reduceAdd, Int.reduceSub, Int.reduceMul, Int.reduceBEq, Int.reduceBNe, Int.reduceEq, if_pos, if_neg, w64, beqT, beqF, bneT, bneF, pr_get, ir_get, decide_eq_true, decide_eq_false, Try.ntmps3, Try.results3])
                  · (try simp (disch := omega) only [go_sem, ↓reduceIte, ↓reduceDIte, reduceCtorEq, Nat.reducePow, Nat.reduceEqDiff, Nat.reduceAdd, Nat.reduceSub, Nat.reduceMul, Nat.reduceMod, Nat.reduceLeDiff, Nat.reduceLT, Nat.reduceBEq, Nat.reduceBNe, Int.reduceLT, Int.reduceLE, Int.reduceToNat, Int.reduceNeg, Int.reduceAdd, Int.reduceSub, Int.reduceMul, Int.reduceBEq, Int.reduceBNe, Int.reduceEq, if_pos, if_neg, w64, beqT, beqF, bneT, bneF, pr_get, ir_get, decide_eq_true, decide_eq_false, Try.ntmps3, Try.results3])
                    (refine at_call 200 ?_; simp only [go_sem, ↓reduceIte, ↓reduceDIte, reduceCtorEq, Nat.reducePow, Nat.reduceEqDiff, Nat.reduceAdd, Nat.reduceSub, Nat.reduceMul, Nat.reduceMod, Nat.reduceLeDiff, Nat.reduceLT, Nat.reduceBEq, Nat.reduceBNe, Int.reduceLT, Int.reduceLE, Int.reduceToNat, Int.reduceNeg, Int.reduceAdd, Int.reduceSub, Int.reduceMul, Int.reduceBEq, Int.reduceBNe, Int.reduceEq, Try.ntmps3, Try.results3]; refine callA_of (fixed_spec) (by first | trivial | (simp only [go_sem, ↓reduceIte, ↓reduceDIte, reduceCtorEq, Nat.reducePow, Nat.reduceEqDiff, Nat.reduceAdd, Nat.reduceSub, Nat.reduceMul, Nat.reduceMod, Nat.reduceLeDiff, Nat.reduceLT, Nat.reduceBEq, Nat.reduceBNe, Int.reduceLT, Int.reduceLE, Int.reduceToNat, Int.reduceNeg, Int.reduceAdd, Int.reduceSub, Int.reduceMul, Int.reduceBEq, Int.reduceBNe, Int.reduceEq, Try.ntmps3, Try.results3]; done) | (split <;> simp only [go_sem, ↓reduceIte, ↓reduceDIte, reduceCtorEq, Nat.reducePow, Nat.reduceEqDiff, Nat.reduceAdd, Nat.reduceSub, Nat.reduceMul, Nat.reduceMod, Nat.reduceLeDiff, Nat.reduceLT, Nat.reduceBEq, Nat.reduceBNe, Int.reduceLT, Int.reduceLE, Int.reduceToNat, Int.reduceNeg, Int.reduceAdd, Int.reduceSub, Int.reduceMul, Int.reduceBEq, Int.reduceBNe, Int.reduceEq, Try.ntmps3, Try.results3])) ?_; try simp only [go_sem, ↓reduceIte, ↓reduceDIte, reduceCtorEq, Nat.reducePow, Nat.reduceEqDiff, Nat.reduceAdd, Nat.reduceSub, Nat.reduceMul, Nat.reduceMod, Nat.reduceLeDiff, Nat.reduceLT, Nat.reduceBEq, Nat.reduceBNe, Int.reduceLT, Int.reduceLE, Int.reduceToNat, Int.reduceNeg, Int.reduceAdd, Int.reduceSub, Int.reduceMul, Int.reduceBEq, Int.reduceBNe, Int.reduceEq, Try.ntmps3, Try.results3])
end Go.Proofs.TT
