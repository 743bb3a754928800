/- Rank: the sort in place. -/
import Derived.Test.YtkbbafmaddkehaaSG
set_option linter.unusedSimpArgs false
set_option linter.unusedVariables false
namespace Go.Proofs.TS
open Go Go.Idl Go.Proofs Go.FL
set_option maxHeartbeats 2000000
def eN (n : Nat) : List PV := [.sc (.int .i64 (n : Int))]
@[go_sem] theorem ir_setN {l : List Nat} {i : Nat} {n : Nat} : (ir eN l).set i [.p (.sc (.int .i64 (n : Int)))] = ir eN (l.set i n) := ir_set (f := eN) (a := n)
def swp (l : List Nat) (j : Nat) (x y : Nat) : List Nat := (l.set (j + 1) y).set j x
def sink (lt : Nat → Nat → Bool) : Nat → List Nat → List Nat
  | 0, l => l
  | j + 1, l => match l[j + 1]?, l[j]? with
    | some x, some y => if lt x y then sink lt j (swp l j x y) else l
    | _, _ => l
def ins (lt : Nat → Nat → Bool) : Nat → Nat → List Nat → List Nat
  | 0, _, l => l
  | f + 1, i, l => ins lt f (i + 1) (sink lt i l)
def kLt (fl : List Nat) (x y : Nat) : Bool := decide (keyN (fl.getD x 0) < keyN (fl.getD y 0))
theorem kLt_at {fl : List Nat} {x y : Nat} (hx : x < fl.length) (hy : y < fl.length) : kLt fl x y = decide (keyN fl[x] < keyN fl[y]) := by
  unfold kLt
  simp [List.getD, hx, hy]
theorem sink_at {lt : Nat → Nat → Bool} {j : Nat} {M : List Nat} (hx : j + 1 < M.length) (hy : j < M.length) : sink lt (j + 1) M = if lt M[j + 1] M[j] = true then sink lt j (swp M j M[j + 1] M[j]) else M := by
  rw [sink, List.getElem?_eq_getElem hx, List.getElem?_eq_getElem hy]
theorem swp_len (M : List Nat) (j x y : Nat) : (swp M j x y).length = M.length := by simp [swp]
theorem swp_mem {M : List Nat} {j x y z : Nat} (h : z ∈ swp M j x y) : z ∈ M ∨ z = x ∨ z = y := by
  unfold swp at h
  rcases List.mem_or_eq_of_mem_set h with h | h
  · rcases List.mem_or_eq_of_mem_set h with h | h
    · exact .inl h
    · exact .inr (.inr h)
  · exact .inr (.inl h)
abbrev placesBlk (g : Nat) (l : List Nat) : IBlk := .arr 1 g (ir eN l)
theorem insertion_spec (b g b0 g0 : Nat) (hne : ¬ b = b0) (hne' : ¬ b0 = b) (fl l : List Nat) (hfl : ∀ x ∈ fl, x < 18446744073709551616) (hl : ∀ x ∈ l, x < fl.length) (hn : l.length < 1000) :
    PEff Try.prog 44 [.ref b g 0 l.length, sci .i64 0, sci .i64 (l.length : Int), .clo (.func 34) [] [.ptr b0 g0 0 0]]
      [(b, placesBlk g l), (b0, floatBlk g0 fl)] (.tup []) [(b, placesBlk g (ins (kLt fl) (l.length - 1) 1 l))] := by
  refine peff_of 200 (fn := Try.f44) Try.func44 rfl (by simp [Try.ntmps44]) (fun n h => ⟨h (b, placesBlk g l) (List.mem_cons_self ..), by (try simp only [go_sem, ↓reduceIte, ↓reduceDIte, reduceCtorEq, Nat.reducePow, Nat.reduceEqDiff, Nat.reduceAdd, Nat.reduceSub, Nat.reduceMul, Nat.reduceMod, Nat.reduceLeDiff, Nat.reduceLT, Nat.reduceBEq, Nat.reduceBNe, Int.reduceLT, Int.reduceLE, Int.reduceToNat, Int.reduceNeg, Int.reduceAdd, Int.reduceSub, Int.reduceMul, Int.reduceBEq, Int.reduceBNe, Int.reduceEq, Try.ntmps44, Try.results44]), trivial⟩) fun h hR hlt hs => ?_
  have hb : Idl.look h.m b = some (placesBlk g l) := hR _ (List.mem_cons_self ..)
  have hb0 : Idl.look h.m b0 = some (floatBlk g0 fl) := hR _ (List.mem_cons_of_mem _ (List.mem_cons_self ..))
  have hbl : b < h.nx := hlt _ (List.mem_cons_self ..)
  generalize hres : ins (kLt fl) (l.length - 1) 1 l = res
  (try simp only [go_sem, ↓reduceIte, ↓reduceDIte, reduceCtorEq, Nat.reducePow, Nat.reduceEqDiff, Nat.reduceAdd, Nat.reduceSub, Nat.reduceMul, Nat.reduceMod, Nat.reduceLeDiff, Nat.reduceLT, Nat.reduceBEq, Nat.reduceBNe, Int.reduceLT, Int.reduceLE, Int.reduceToNat, Int.reduceNeg, Int.reduceAdd, Int.reduceSub, Int.reduceMul, Int.reduceBEq, Int.reduceBNe, Int.reduceEq, Try.ntmps44, Try.results44])
  refine walk_loop 200 200 (fun p : Nat × List Nat => 1 ≤ p.1 ∧ (p.1 ≤ l.length ∨ p.1 = 1) ∧ p.2.length = l.length ∧ (∀ x ∈ p.2, x < fl.length) ∧ ins (kLt fl) (l.length - p.1) p.1 p.2 = res)
    (fun p => ⟨53, [(0, .ref b g 0 l.length), (1, sci .i64 0), (2, sci .i64 (l.length : Int)), (3, .clo (.func 34) [] [.ptr b0 g0 0 0]), (8, sci .i64 (p.1 : Int))], [], h.nx, [(b, placesBlk g p.2)]⟩) (fun p => l.length - p.1) (1, l) ?_ ?_ ?_
  · exact ⟨Nat.le_refl _, .inr rfl, rfl, hl, hres⟩
  · constructor <;> (try simp (disch := omega) only [go_sem, ↓reduceIte, ↓reduceDIte, reduceCtorEq, Nat.reducePow, Nat.reduceEqDiff, Nat.reduceAdd, Nat.reduceSub, Nat.reduceMul, Nat.reduceMod, Nat.reduceLeDiff, Nat.reduceLT, Nat.reduceBEq, Nat.reduceBNe, Int.reduceLT, Int.reduceLE, Int.reduceToNat, Int.reduceNeg, Int.reduceAdd, Int.reduceSub, Int.reduceMul, Int.reduceBEq, Int.reduceBNe, Int.reduceEq, if_pos, if_neg, w64, beqT, beqF, bneT, bneF, pr_get, ir_get, decide_eq_true, decide_eq_false, Try.ntmps44, Try.results44, hb, Int.natCast_one])
  · rintro ⟨i, L⟩ ⟨i1, i2, i3, i4, i5⟩
    (try simp only [go_sem, ↓reduceIte, ↓reduceDIte, reduceCtorEq, Nat.reducePow, Nat.reduceEqDiff, Nat.reduceAdd, Nat.reduceSub, Nat.reduceMul, Nat.reduceMod, Nat.reduceLeDiff, Nat.reduceLT, Nat.reduceBEq, Nat.reduceBNe, Int.reduceLT, Int.reduceLE, Int.reduceToNat, Int.reduceNeg, Int.reduceAdd, Int.reduceSub, Int.reduceMul, Int.reduceBEq, Int.reduceBNe, Int.reduceEq, Try.ntmps44, Try.results44])
    simp only at i1 i2 i3 i4 i5
    by_cases hi : i < l.length
    · (try simp (disch := omega) only [go_sem, ↓reduceIte, ↓reduceDIte, reduceCtorEq, Nat.reducePow, Nat.reduceEqDiff, Nat.reduceAdd, Nat.reduceSub, Nat.reduceMul, Nat.reduceMod, Nat.reduceLeDiff, Nat.reduceLT, Nat.reduceBEq, Nat.reduceBNe, Int.reduceLT, Int.reduceLE, Int.reduceToNat, Int.reduceNeg, Int.reduceAdd, Int.reduceSub, Int.reduceMul, Int.reduceBEq, Int.reduceBNe, Int.reduceEq, if_pos, if_neg, w64, beqT, beqF, bneT, bneF, pr_get, ir_get, decide_eq_true, decide_eq_false, Try.ntmps44, Try.results44])
      refine walk_loop 200 200 (fun p : Nat × List Nat => p.1 ≤ i ∧ p.2.length = l.length ∧ (∀ x ∈ p.2, x < fl.length) ∧ sink (kLt fl) p.1 p.2 = sink (kLt fl) i L)
        (fun p => ⟨53, [(0, .ref b g 0 l.length), (1, sci .i64 0), (2, sci .i64 (l.length : Int)), (3, .clo (.func 34) [] [.ptr b0 g0 0 0]), (8, sci .i64 (i : Int)), (9, sci .i64 (p.1 : Int))], [], h.nx, [(b, placesBlk g p.2)]⟩) (fun p => p.1) (i, L) ?_ ?_ ?_
      · exact ⟨Nat.le_refl _, i3, i4, rfl⟩
      · constructor <;> (try simp (disch := omega) only [go_sem, ↓reduceIte, ↓reduceDIte, reduceCtorEq, Nat.reducePow, Nat.reduceEqDiff, Nat.reduceAdd, Nat.reduceSub, Nat.reduceMul, Nat.reduceMod, Nat.reduceLeDiff, Nat.reduceLT, Nat.reduceBEq, Nat.reduceBNe, Int.reduceLT, Int.reduceLE, Int.reduceToNat, Int.reduceNeg, Int.reduceAdd, Int.reduceSub, Int.reduceMul, Int.reduceBEq, Int.reduceBNe, Int.reduceEq, if_pos, if_neg, w64, beqT, beqF, bneT, bneF, pr_get, ir_get, decide_eq_true, decide_eq_false, Try.ntmps44, Try.results44, hb])
        exact .inr ⟨_, rfl⟩
      · rintro ⟨j, M⟩ ⟨j1, j2, j3, j4⟩
        simp only at j1 j2 j3 j4
        (try simp only [go_sem, ↓reduceIte, ↓reduceDIte, reduceCtorEq, Nat.reducePow, Nat.reduceEqDiff, Nat.reduceAdd, Nat.reduceSub, Nat.reduceMul, Nat.reduceMod, Nat.reduceLeDiff, Nat.reduceLT, Nat.reduceBEq, Nat.reduceBNe, Int.reduceLT, Int.reduceLE, Int.reduceToNat, Int.reduceNeg, Int.reduceAdd, Int.reduceSub, Int.reduceMul, Int.reduceBEq, Int.reduceBNe, Int.reduceEq, Try.ntmps44, Try.results44])
        (refine walk_trim [0, 1, 2, 3, 8, 9] trivial (by first | exact Nat.zero_le _ | exact Nat.le_refl _) ?_; simp only [go_sem, ↓reduceIte, ↓reduceDIte, reduceCtorEq, Nat.reducePow, Nat.reduceEqDiff, Nat.reduceAdd, Nat.reduceSub, Nat.reduceMul, Nat.reduceMod, Nat.reduceLeDiff, Nat.reduceLT, Nat.reduceBEq, Nat.reduceBNe, Int.reduceLT, Int.reduceLE, Int.reduceToNat, Int.reduceNeg, Int.reduceAdd, Int.reduceSub, Int.reduceMul, Int.reduceBEq, Int.reduceBNe, Int.reduceEq, Try.ntmps44, Try.results44]; refine irun_walk (id := 4) (n := 200) [none, none, none, none, none, none, none, none, none, none, none, none, none, none, some [], none, none] mixed (by kernel_rfl) ?_)
        cases j with
        | zero =>
          (try simp (disch := omega) only [go_sem, ↓reduceIte, ↓reduceDIte, reduceCtorEq, Nat.reducePow, Nat.reduceEqDiff, Nat.reduceAdd, Nat.reduceSub, Nat.reduceMul, Nat.reduceMod, Nat.reduceLeDiff, Nat.reduceLT, Nat.reduceBEq, Nat.reduceBNe, Int.reduceLT, Int.reduceLE, Int.reduceToNat, Int.reduceNeg, Int.reduceAdd, Int.reduceSub, Int.reduceMul, Int.reduceBEq, Int.reduceBNe, Int.reduceEq, if_pos, if_neg, w64, beqT, beqF, bneT, bneF, pr_get, ir_get, decide_eq_true, decide_eq_false, Try.ntmps44, Try.results44])
          have e0 : M = sink (kLt fl) i L := j4
          refine ⟨(i + 1, M), ⟨by simp, .inl (by simp; omega), j2, j3, ?_⟩, by simp only; omega, ?_⟩
          · rw [show l.length - i = (l.length - (i + 1)) + 1 by omega] at i5
            rw [e0]
            exact i5
          · constructor <;> (try simp (disch := omega) only [go_sem, ↓reduceIte, ↓reduceDIte, reduceCtorEq, Nat.reducePow, Nat.reduceEqDiff, Nat.reduceAdd, Nat.reduceSub, Nat.reduceMul, Nat.reduceMod, Nat.reduceLeDiff, Nat.reduceLT, Nat.reduceBEq, Nat.reduceBNe, Int.reduceLT, Int.reduceLE, Int.reduceToNat, Int.reduceNeg, Int.reduceAdd, Int.reduceSub, Int.reduceMul, Int.reduceBEq, Int.reduceBNe, Int.reduceEq, if_pos, if_neg, w64, beqT, beqF, bneT, bneF, pr_get, ir_get, decide_eq_true, decide_eq_false, Try.ntmps44, Try.results44])
            exact .inr ⟨_, rfl⟩
        | succ j =>
          have hx : j + 1 < M.length := by omega
          have hy : j < M.length := by omega
          have hx2 := j3 _ (List.getElem_mem hx)
          have hy2 := j3 _ (List.getElem_mem hy)
          have tn : ((j : Int) + 1).toNat = j + 1 := rfl
          (try simp (disch := omega) only [go_sem, ↓reduceIte, ↓reduceDIte, reduceCtorEq, Nat.reducePow, Nat.reduceEqDiff, Nat.reduceAdd, Nat.reduceSub, Nat.reduceMul, Nat.reduceMod, Nat.reduceLeDiff, Nat.reduceLT, Nat.reduceBEq, Nat.reduceBNe, Int.reduceLT, Int.reduceLE, Int.reduceToNat, Int.reduceNeg, Int.reduceAdd, Int.reduceSub, Int.reduceMul, Int.reduceBEq, Int.reduceBNe, Int.reduceEq, if_pos, if_neg, w64, beqT, beqF, bneT, bneF, pr_get, ir_get, decide_eq_true, decide_eq_false, Try.ntmps44, Try.results44, eN, Int.add_sub_cancel, tn])
          (refine at_dcall ?_; simp only [go_sem, ↓reduceIte, ↓reduceDIte, reduceCtorEq, Nat.reducePow, Nat.reduceEqDiff, Nat.reduceAdd, Nat.reduceSub, Nat.reduceMul, Nat.reduceMod, Nat.reduceLeDiff, Nat.reduceLT, Nat.reduceBEq, Nat.reduceBNe, Int.reduceLT, Int.reduceLE, Int.reduceToNat, Int.reduceNeg, Int.reduceAdd, Int.reduceSub, Int.reduceMul, Int.reduceBEq, Int.reduceBNe, Int.reduceEq, Try.ntmps44, Try.results44]; refine callA_R (cmpAt_spec b0 g0 fl M[j + 1] M[j] hfl hx2 hy2) (by first | trivial | (simp only [go_sem, ↓reduceIte, ↓reduceDIte, reduceCtorEq, Nat.reducePow, Nat.reduceEqDiff, Nat.reduceAdd, Nat.reduceSub, Nat.reduceMul, Nat.reduceMod, Nat.reduceLeDiff, Nat.reduceLT, Nat.reduceBEq, Nat.reduceBNe, Int.reduceLT, Int.reduceLE, Int.reduceToNat, Int.reduceNeg, Int.reduceAdd, Int.reduceSub, Int.reduceMul, Int.reduceBEq, Int.reduceBNe, Int.reduceEq, Try.ntmps44, Try.results44]; done) | (split <;> simp only [go_sem, ↓reduceIte, ↓reduceDIte, reduceCtorEq, Nat.reducePow, Nat.reduceEqDiff, Nat.reduceAdd, Nat.reduceSub, Nat.reduceMul, Nat.reduceMod, Nat.reduceLeDiff, Nat.reduceLT, Nat.reduceBEq, Nat.reduceBNe, Int.reduceLT, Int.reduceLE, Int.reduceToNat, Int.reduceNeg, Int.reduceAdd, Int.reduceSub, Int.reduceMul, Int.reduceBEq, Int.reduceBNe, Int.reduceEq, Try.ntmps44, Try.results44])) ?_ ?_)
          · (try simp (disch := omega) only [go_sem, ↓reduceIte, ↓reduceDIte, reduceCtorEq, Nat.reducePow, Nat.reduceEqDiff, Nat.reduceAdd, Nat.reduceSub, Nat.reduceMul, Nat.reduceMod, Nat.reduceLeDiff, Nat.reduceLT, Nat.reduceBEq, Nat.reduceBNe, Int.reduceLT, Int.reduceLE, Int.reduceToNat, Int.reduceNeg, Int.reduceAdd, Int.reduceSub, Int.reduceMul, Int.reduceBEq, Int.reduceBNe, Int.reduceEq, if_pos, if_neg, w64, beqT, beqF, bneT, bneF, pr_get, ir_get, decide_eq_true, decide_eq_false, Try.ntmps44, Try.results44, hne, hne', hb0])
          · (try simp (disch := omega) only [go_sem, ↓reduceIte, ↓reduceDIte, reduceCtorEq, Nat.reducePow, Nat.reduceEqDiff, Nat.reduceAdd, Nat.reduceSub, Nat.reduceMul, Nat.reduceMod, Nat.reduceLeDiff, Nat.reduceLT, Nat.reduceBEq, Nat.reduceBNe, Int.reduceLT, Int.reduceLE, Int.reduceToNat, Int.reduceNeg, Int.reduceAdd, Int.reduceSub, Int.reduceMul, Int.reduceBEq, Int.reduceBNe, Int.reduceEq, if_pos, if_neg, w64, beqT, beqF, bneT, bneF, pr_get, ir_get, decide_eq_true, decide_eq_false, Try.ntmps44, Try.results44])
            by_cases hc : keyN fl[M[j + 1]] < keyN fl[M[j]]
            · have hc3 : cmp3 (keyN fl[M[j + 1]]) (keyN fl[M[j]]) = -1 := by unfold cmp3; rw [if_pos hc]
              (try simp (disch := omega) only [go_sem, ↓reduceIte, ↓reduceDIte, reduceCtorEq, Nat.reducePow, Nat.reduceEqDiff, Nat.reduceAdd, Nat.reduceSub, Nat.reduceMul, Nat.reduceMod, Nat.reduceLeDiff, Nat.reduceLT, Nat.reduceBEq, Nat.reduceBNe, Int.reduceLT, Int.reduceLE, Int.reduceToNat, Int.reduceNeg, Int.reduceAdd, Int.reduceSub, Int.reduceMul, Int.reduceBEq, Int.reduceBNe, Int.reduceEq, if_pos, if_neg, w64, beqT, beqF, bneT, bneF, pr_get, ir_get, decide_eq_true, decide_eq_false, Try.ntmps44, Try.results44, hc3])
              (refine walk_trim [0, 1, 2, 3, 8, 9] trivial (by first | exact Nat.zero_le _ | exact Nat.le_refl _) ?_; simp only [go_sem, ↓reduceIte, ↓reduceDIte, reduceCtorEq, Nat.reducePow, Nat.reduceEqDiff, Nat.reduceAdd, Nat.reduceSub, Nat.reduceMul, Nat.reduceMod, Nat.reduceLeDiff, Nat.reduceLT, Nat.reduceBEq, Nat.reduceBNe, Int.reduceLT, Int.reduceLE, Int.reduceToNat, Int.reduceNeg, Int.reduceAdd, Int.reduceSub, Int.reduceMul, Int.reduceBEq, Int.reduceBNe, Int.reduceEq, Try.ntmps44, Try.results44]; refine irun_walk (id := 6) (n := 200) [none, none, none, none, none, none, none, none, none, none, none, none, none, none, none, some [2, 3, 4], none, some []] mixed (by kernel_rfl) ?_)
              have e2 : (ir eN (M.set (j + 1) M[j]))[j]? = some ((eN M[j]).map .p) := ir_get' (by rw [List.getElem?_set_ne (by omega), List.getElem?_eq_getElem hy])
              (try simp (disch := omega) only [go_sem, ↓reduceIte, ↓reduceDIte, reduceCtorEq, Nat.reducePow, Nat.reduceEqDiff, Nat.reduceAdd, Nat.reduceSub, Nat.reduceMul, Nat.reduceMod, Nat.reduceLeDiff, Nat.reduceLT, Nat.reduceBEq, Nat.reduceBNe, Int.reduceLT, Int.reduceLE, Int.reduceToNat, Int.reduceNeg, Int.reduceAdd, Int.reduceSub, Int.reduceMul, Int.reduceBEq, Int.reduceBNe, Int.reduceEq, if_pos, if_neg, w64, beqT, beqF, bneT, bneF, pr_get, ir_get, decide_eq_true, decide_eq_false, Try.ntmps44, Try.results44, eN, Int.add_sub_cancel, tn, e2])
              have e1 := sink_at (lt := kLt fl) hx hy
              rw [kLt_at hx2 hy2, decide_eq_true hc, if_pos rfl] at e1
              refine ⟨(j, swp M j M[j + 1] M[j]), ⟨by simp only; omega, by rw [swp_len]; exact j2, fun z hz => ?_, by rw [← j4, e1]⟩, by simp, ?_⟩
              · rcases swp_mem hz with h1 | rfl | rfl
                · exact j3 _ h1
                · exact hx2
                · exact hy2
              · constructor <;> (try simp (disch := omega) only [go_sem, ↓reduceIte, ↓reduceDIte, reduceCtorEq, Nat.reducePow, Nat.reduceEqDiff, Nat.reduceAdd, Nat.reduceSub, Nat.reduceMul, Nat.reduceMod, Nat.reduceLeDiff, Nat.reduceLT, Nat.reduceBEq, Nat.reduceBNe, Int.reduceLT, Int.reduceLE, Int.reduceToNat, Int.reduceNeg, Int.reduceAdd, Int.reduceSub, Int.reduceMul, Int.reduceBEq, Int.reduceBNe, Int.reduceEq, if_pos, if_neg, w64, beqT, beqF, bneT, bneF, pr_get, ir_get, decide_eq_true, decide_eq_false, Try.ntmps44, Try.results44, swp])
                all_goals exact .inr ⟨_, rfl⟩
            · have hc3 : decide (cmp3 (keyN fl[M[j + 1]]) (keyN fl[M[j]]) < 0) = false := by unfold cmp3; rw [if_neg hc]; split <;> decide
              (try simp (disch := omega) only [go_sem, ↓reduceIte, ↓reduceDIte, reduceCtorEq, Nat.reducePow, Nat.reduceEqDiff, Nat.reduceAdd, Nat.reduceSub, Nat.reduceMul, Nat.reduceMod, Nat.reduceLeDiff, Nat.reduceLT, Nat.reduceBEq, Nat.reduceBNe, Int.reduceLT, Int.reduceLE, Int.reduceToNat, Int.reduceNeg, Int.reduceAdd, Int.reduceSub, Int.reduceMul, Int.reduceBEq, Int.reduceBNe, Int.reduceEq, if_pos, if_neg, w64, beqT, beqF, bneT, bneF, pr_get, ir_get, decide_eq_true, decide_eq_false, Try.ntmps44, Try.results44, hc3])
              have e1 := sink_at (lt := kLt fl) hx hy
              rw [kLt_at hx2 hy2, decide_eq_false hc, if_neg (by decide)] at e1
              have e0 : M = sink (kLt fl) i L := by rw [← e1]; exact j4
              refine ⟨(i + 1, M), ⟨by simp, .inl (by simp; omega), j2, j3, ?_⟩, by simp only; omega, ?_⟩
              · rw [show l.length - i = (l.length - (i + 1)) + 1 by omega] at i5
                rw [e0]
                exact i5
              · constructor <;> (try simp (disch := omega) only [go_sem, ↓reduceIte, ↓reduceDIte, reduceCtorEq, Nat.reducePow, Nat.reduceEqDiff, Nat.reduceAdd, Nat.reduceSub, Nat.reduceMul, Nat.reduceMod, Nat.reduceLeDiff, Nat.reduceLT, Nat.reduceBEq, Nat.reduceBNe, Int.reduceLT, Int.reduceLE, Int.reduceToNat, Int.reduceNeg, Int.reduceAdd, Int.reduceSub, Int.reduceMul, Int.reduceBEq, Int.reduceBNe, Int.reduceEq, if_pos, if_neg, w64, beqT, beqF, bneT, bneF, pr_get, ir_get, decide_eq_true, decide_eq_false, Try.ntmps44, Try.results44])
                exact .inr ⟨_, rfl⟩
    · (try simp (disch := omega) only [go_sem, ↓reduceIte, ↓reduceDIte, reduceCtorEq, Nat.reducePow, Nat.reduceEqDiff, Nat.reduceAdd, Nat.reduceSub, Nat.reduceMul, Nat.reduceMod, Nat.reduceLeDiff, Nat.reduceLT, Nat.reduceBEq, Nat.reduceBNe, Int.reduceLT, Int.reduceLE, Int.reduceToNat, Int.reduceNeg, Int.reduceAdd, Int.reduceSub, Int.reduceMul, Int.reduceBEq, Int.reduceBNe, Int.reduceEq, if_pos, if_neg, w64, beqT, beqF, bneT, bneF, pr_get, ir_get, decide_eq_true, decide_eq_false, Try.ntmps44, Try.results44])
      rw [show l.length - i = 0 by omega] at i5
      rw [← i5]; rfl
end Go.Proofs.TS
