/- The document's rank. -/
import Derived.Test.YtkbbafmaddkehaaSM
import Derived.Test.YtkbbafmaddkehaaSK
set_option linter.unusedSimpArgs false
set_option linter.unusedVariables false
namespace Go.Proofs.TS
open Go Go.Idl Go.Proofs Go.FL
set_option maxHeartbeats 4000000
theorem nextRows (out acc : List Nat) (i k n : Nat) (hk : acc.length = k) (ha : acc = out.take k) (hn : out.length = n) (hkn : k ≤ n) :
    List.take (acc.length + (1 + (n - acc.length))) (List.take (acc.length + 1) (ir eN acc ++ [[IV.p (PV.sc (Value.int IntKind.i64 (i : Int)))]]) ++ ir eN (List.take (n - acc.length) (List.drop acc.length out))) =
      ir eN (List.take k out ++ i :: List.drop k out) := by
  have l1 : ir eN acc ++ [[IV.p (PV.sc (Value.int IntKind.i64 (i : Int)))]] = ir eN (acc ++ [i]) := by simp [ir, eN]
  have l2 : ∀ l : List Nat, (ir eN l).length = l.length := fun l => by simp [ir]
  rw [l1, List.take_of_length_le (l := ir eN (acc ++ [i])) (by rw [l2]; simp), ir_append, List.take_of_length_le (by rw [l2]; simp; omega), List.take_of_length_le (l := List.drop acc.length out) (by rw [List.length_drop]; omega), hk, ← ha]
  simp
theorem RRank_spec (fl : List Nat) (hfl : ∀ x ∈ fl, x < 18446744073709551616) (hn : fl.length ≤ 20) : Pure Try.prog 23 [.p (.imm 1 (pr eF fl))] (.p (.imm 1 (pr eN (rankN fl)))) := by
  refine pcall0 200 (fn := Try.f23) Try.func23 rfl (by simp [Try.ntmps23]) (by first | trivial | (simp only [go_sem, ↓reduceIte, ↓reduceDIte, reduceCtorEq, Nat.reducePow, Nat.reduceEqDiff, Nat.reduceAdd, Nat.reduceSub, Nat.reduceMul, Nat.reduceMod, Nat.reduceLeDiff, Nat.reduceLT, Nat.reduceBEq, Nat.reduceBNe, Int.reduceLT, Int.reduceLE, Int.reduceToNat, Int.reduceNeg, Int.reduceAdd, Int.reduceSub, Int.reduceMul, Int.reduceBEq, Int.reduceBNe, Int.reduceEq, Try.ntmps23, Try.results23]; done) | (split <;> simp only [go_sem, ↓reduceIte, ↓reduceDIte, reduceCtorEq, Nat.reducePow, Nat.reduceEqDiff, Nat.reduceAdd, Nat.reduceSub, Nat.reduceMul, Nat.reduceMod, Nat.reduceLeDiff, Nat.reduceLT, Nat.reduceBEq, Nat.reduceBNe, Int.reduceLT, Int.reduceLE, Int.reduceToNat, Int.reduceNeg, Int.reduceAdd, Int.reduceSub, Int.reduceMul, Int.reduceBEq, Int.reduceBNe, Int.reduceEq, Try.ntmps23, Try.results23])) (by first | trivial | (simp only [go_sem, ↓reduceIte, ↓reduceDIte, reduceCtorEq, Nat.reducePow, Nat.reduceEqDiff, Nat.reduceAdd, Nat.reduceSub, Nat.reduceMul, Nat.reduceMod, Nat.reduceLeDiff, Nat.reduceLT, Nat.reduceBEq, Nat.reduceBNe, Int.reduceLT, Int.reduceLE, Int.reduceToNat, Int.reduceNeg, Int.reduceAdd, Int.reduceSub, Int.reduceMul, Int.reduceBEq, Int.reduceBNe, Int.reduceEq, Try.ntmps23, Try.results23]; done) | (split <;> simp only [go_sem, ↓reduceIte, ↓reduceDIte, reduceCtorEq, Nat.reducePow, Nat.reduceEqDiff, Nat.reduceAdd, Nat.reduceSub, Nat.reduceMul, Nat.reduceMod, Nat.reduceLeDiff, Nat.reduceLT, Nat.reduceBEq, Nat.reduceBNe, Int.reduceLT, Int.reduceLE, Int.reduceToNat, Int.reduceNeg, Int.reduceAdd, Int.reduceSub, Int.reduceMul, Int.reduceBEq, Int.reduceBNe, Int.reduceEq, Try.ntmps23, Try.results23])) fun hs => ?_
  (try simp only [go_sem, ↓reduceIte, ↓reduceDIte, reduceCtorEq, Nat.reducePow, Nat.reduceEqDiff, Nat.reduceAdd, Nat.reduceSub, Nat.reduceMul, Nat.reduceMod, Nat.reduceLeDiff, Nat.reduceLT, Nat.reduceBEq, Nat.reduceBNe, Int.reduceLT, Int.reduceLE, Int.reduceToNat, Int.reduceNeg, Int.reduceAdd, Int.reduceSub, Int.reduceMul, Int.reduceBEq, Int.reduceBNe, Int.reduceEq, Try.ntmps23, Try.results23])
  refine walk_floop 200 200 (fun i : Nat => i ≤ fl.length) (fun i => ⟨57, [(0, .p (.imm 1 (pr eF fl))), (3, .p (.imm 1 (pr eN (turned (kLt fl) i).reverse))), (4, sci .i64 (i : Int))], [], 0, []⟩) (fun i => fl.length - i) 0 [] ?_ ?_ ?_
  · simp
  · constructor <;> (try simp (disch := omega) only [go_sem, ↓reduceIte, ↓reduceDIte, reduceCtorEq, Nat.reducePow, Nat.reduceEqDiff, Nat.reduceAdd, Nat.reduceSub, Nat.reduceMul, Nat.reduceMod, Nat.reduceLeDiff, Nat.reduceLT, Nat.reduceBEq, Nat.reduceBNe, Int.reduceLT, Int.reduceLE, Int.reduceToNat, Int.reduceNeg, Int.reduceAdd, Int.reduceSub, Int.reduceMul, Int.reduceBEq, Int.reduceBNe, Int.reduceEq, if_pos, if_neg, w64, beqT, beqF, bneT, bneF, pr_get, ir_get, decide_eq_true, decide_eq_false, Try.ntmps23, Try.results23, Int.natCast_zero, turned, List.reverse_nil])
  · intro i hi
    (try simp only [go_sem, ↓reduceIte, ↓reduceDIte, reduceCtorEq, Nat.reducePow, Nat.reduceEqDiff, Nat.reduceAdd, Nat.reduceSub, Nat.reduceMul, Nat.reduceMod, Nat.reduceLeDiff, Nat.reduceLT, Nat.reduceBEq, Nat.reduceBNe, Int.reduceLT, Int.reduceLE, Int.reduceToNat, Int.reduceNeg, Int.reduceAdd, Int.reduceSub, Int.reduceMul, Int.reduceBEq, Int.reduceBNe, Int.reduceEq, Try.ntmps23, Try.results23])
    by_cases h : i < fl.length
    · (try simp (disch := omega) only [go_sem, ↓reduceIte, ↓reduceDIte, reduceCtorEq, Nat.reducePow, Nat.reduceEqDiff, Nat.reduceAdd, Nat.reduceSub, Nat.reduceMul, Nat.reduceMod, Nat.reduceLeDiff, Nat.reduceLT, Nat.reduceBEq, Nat.reduceBNe, Int.reduceLT, Int.reduceLE, Int.reduceToNat, Int.reduceNeg, Int.reduceAdd, Int.reduceSub, Int.reduceMul, Int.reduceBEq, Int.reduceBNe, Int.reduceEq, if_pos, if_neg, w64, beqT, beqF, bneT, bneF, pr_get, ir_get, decide_eq_true, decide_eq_false, Try.ntmps23, Try.results23])
      have olen : (turned (kLt fl) i).reverse.length = i := by rw [List.length_reverse, turned_len]
      have omem : ∀ (j : Nat) (hj : j < (turned (kLt fl) i).reverse.length), (turned (kLt fl) i).reverse[j] < fl.length := fun j hj => by
        have := (turned_mem (kLt fl) i _).1 (List.mem_reverse.1 (List.getElem_mem hj))
        omega
      have place := fun k hk h1 h2 => turned_place fl (i := i) (k := k) hk h1 h2
      generalize (turned (kLt fl) i).reverse = out at *
      refine walk_own 5 1 trivial rfl (.inl rfl) ?_
      refine walk_loop 200 200 (fun k : Nat × Nat × List Nat => k.1 ≤ i ∧ k.2.2 = out.take k.1 ∧ ∀ (j : Nat) (hj : j < out.length), j < k.1 → kLt fl i out[j] = false)
        (fun k => ⟨57, [(0, .p (.imm 1 (pr eF fl))), (3, .p (.imm 1 (pr eN out))), (4, sci .i64 (i : Int)), (5, .ref 0 k.2.1 0 k.2.2.length), (6, sci .i64 (k.1 : Int))], [], 1, [(0, .arr 1 k.2.1 (ir eN k.2.2))]⟩) (fun k => i - k.1) (0, 0, []) ?_ ?_ ?_
      · simp
      · constructor <;> (try simp (disch := omega) only [go_sem, ↓reduceIte, ↓reduceDIte, reduceCtorEq, Nat.reducePow, Nat.reduceEqDiff, Nat.reduceAdd, Nat.reduceSub, Nat.reduceMul, Nat.reduceMod, Nat.reduceLeDiff, Nat.reduceLT, Nat.reduceBEq, Nat.reduceBNe, Int.reduceLT, Int.reduceLE, Int.reduceToNat, Int.reduceNeg, Int.reduceAdd, Int.reduceSub, Int.reduceMul, Int.reduceBEq, Int.reduceBNe, Int.reduceEq, if_pos, if_neg, w64, beqT, beqF, bneT, bneF, pr_get, ir_get, decide_eq_true, decide_eq_false, Try.ntmps23, Try.results23, Int.natCast_zero])
      · rintro ⟨k, g, acc⟩ ⟨k1, k2, k3⟩
        simp only at k1 k2 k3
        have hlen : acc.length = k := by rw [k2, List.length_take, olen]; omega
        (try simp only [go_sem, ↓reduceIte, ↓reduceDIte, reduceCtorEq, Nat.reducePow, Nat.reduceEqDiff, Nat.reduceAdd, Nat.reduceSub, Nat.reduceMul, Nat.reduceMod, Nat.reduceLeDiff, Nat.reduceLT, Nat.reduceBEq, Nat.reduceBNe, Int.reduceLT, Int.reduceLE, Int.reduceToNat, Int.reduceNeg, Int.reduceAdd, Int.reduceSub, Int.reduceMul, Int.reduceBEq, Int.reduceBNe, Int.reduceEq, Try.ntmps23, Try.results23])
        (refine walk_trim [0, 3, 4, 5, 6] trivial (by first | exact Nat.zero_le _ | exact Nat.le_refl _) ?_; simp only [go_sem, ↓reduceIte, ↓reduceDIte, reduceCtorEq, Nat.reducePow, Nat.reduceEqDiff, Nat.reduceAdd, Nat.reduceSub, Nat.reduceMul, Nat.reduceMod, Nat.reduceLeDiff, Nat.reduceLT, Nat.reduceBEq, Nat.reduceBNe, Int.reduceLT, Int.reduceLE, Int.reduceToNat, Int.reduceNeg, Int.reduceAdd, Int.reduceSub, Int.reduceMul, Int.reduceBEq, Int.reduceBNe, Int.reduceEq, Try.ntmps23, Try.results23]; refine irun_walk (id := 7) (n := 200) [none, none, none, none, none, none, none, none, none, none, none, none, none, none, none, none, some [], none, none] mixed (by kernel_rfl) ?_)
        by_cases hk : k < i
        · have hko : k < out.length := by omega
          have hm := omem k hko
          have b1 := hfl _ (List.getElem_mem h)
          have b2 := hfl _ (List.getElem_mem hm)
          (try simp (disch := omega) only [go_sem, ↓reduceIte, ↓reduceDIte, reduceCtorEq, Nat.reducePow, Nat.reduceEqDiff, Nat.reduceAdd, Nat.reduceSub, Nat.reduceMul, Nat.reduceMod, Nat.reduceLeDiff, Nat.reduceLT, Nat.reduceBEq, Nat.reduceBNe, Int.reduceLT, Int.reduceLE, Int.reduceToNat, Int.reduceNeg, Int.reduceAdd, Int.reduceSub, Int.reduceMul, Int.reduceBEq, Int.reduceBNe, Int.reduceEq, if_pos, if_neg, w64, beqT, beqF, bneT, bneF, pr_get, ir_get, decide_eq_true, decide_eq_false, Try.ntmps23, Try.results23, olen, eF, eN])
          (refine at_dcall ?_; simp only [go_sem, ↓reduceIte, ↓reduceDIte, reduceCtorEq, Nat.reducePow, Nat.reduceEqDiff, Nat.reduceAdd, Nat.reduceSub, Nat.reduceMul, Nat.reduceMod, Nat.reduceLeDiff, Nat.reduceLT, Nat.reduceBEq, Nat.reduceBNe, Int.reduceLT, Int.reduceLE, Int.reduceToNat, Int.reduceNeg, Int.reduceAdd, Int.reduceSub, Int.reduceMul, Int.reduceBEq, Int.reduceBNe, Int.reduceEq, Try.ntmps23, Try.results23]; refine callA_of (RLess_spec _ _ b1 b2) (by first | trivial | (simp only [go_sem, ↓reduceIte, ↓reduceDIte, reduceCtorEq, Nat.reducePow, Nat.reduceEqDiff, Nat.reduceAdd, Nat.reduceSub, Nat.reduceMul, Nat.reduceMod, Nat.reduceLeDiff, Nat.reduceLT, Nat.reduceBEq, Nat.reduceBNe, Int.reduceLT, Int.reduceLE, Int.reduceToNat, Int.reduceNeg, Int.reduceAdd, Int.reduceSub, Int.reduceMul, Int.reduceBEq, Int.reduceBNe, Int.reduceEq, Try.ntmps23, Try.results23]; done) | (split <;> simp only [go_sem, ↓reduceIte, ↓reduceDIte, reduceCtorEq, Nat.reducePow, Nat.reduceEqDiff, Nat.reduceAdd, Nat.reduceSub, Nat.reduceMul, Nat.reduceMod, Nat.reduceLeDiff, Nat.reduceLT, Nat.reduceBEq, Nat.reduceBNe, Int.reduceLT, Int.reduceLE, Int.reduceToNat, Int.reduceNeg, Int.reduceAdd, Int.reduceSub, Int.reduceMul, Int.reduceBEq, Int.reduceBNe, Int.reduceEq, Try.ntmps23, Try.results23])) ?_; try simp only [go_sem, ↓reduceIte, ↓reduceDIte, reduceCtorEq, Nat.reducePow, Nat.reduceEqDiff, Nat.reduceAdd, Nat.reduceSub, Nat.reduceMul, Nat.reduceMod, Nat.reduceLeDiff, Nat.reduceLT, Nat.reduceBEq, Nat.reduceBNe, Int.reduceLT, Int.reduceLE, Int.reduceToNat, Int.reduceNeg, Int.reduceAdd, Int.reduceSub, Int.reduceMul, Int.reduceBEq, Int.reduceBNe, Int.reduceEq, Try.ntmps23, Try.results23])
          have hq := kLt_at h hm
          cases hc : kLt fl i out[k]
          · rw [hc] at hq
            have hq' : decide ((keyN fl[i] : Int) < (keyN fl[out[k]] : Int)) = false := by
              have := hq.symm
              rw [decide_eq_false_iff_not] at this ⊢
              omega
            (try simp (disch := omega) only [go_sem, ↓reduceIte, ↓reduceDIte, reduceCtorEq, Nat.reducePow, Nat.reduceEqDiff, Nat.reduceAdd, Nat.reduceSub, Nat.reduceMul, Nat.reduceMod, Nat.reduceLeDiff, Nat.reduceLT, Nat.reduceBEq, Nat.reduceBNe, Int.reduceLT, Int.reduceLE, Int.reduceToNat, Int.reduceNeg, Int.reduceAdd, Int.reduceSub, Int.reduceMul, Int.reduceBEq, Int.reduceBNe, Int.reduceEq, if_pos, if_neg, w64, beqT, beqF, bneT, bneF, pr_get, ir_get, decide_eq_true, decide_eq_false, Try.ntmps23, Try.results23, hq', eN])
            refine ⟨(k + 1, g + 1, acc ++ [out[k]]), ⟨by simp only; omega, by rw [List.take_succ_eq_append_getElem hko, k2], fun j hj hjk => ?_⟩, by simp only; omega, ?_⟩
            · rcases Nat.lt_or_ge j k with h5 | h5
              · exact k3 j (by omega) h5
              · obtain rfl : j = k := by simp only at hjk; omega
                exact hc
            · have es : ir eN (acc ++ [out[k]]) = ir eN acc ++ [[.p (.sc (.int .i64 (out[k] : Int)))]] := by simp [ir, eN]
              constructor <;> (try simp (disch := omega) only [go_sem, ↓reduceIte, ↓reduceDIte, reduceCtorEq, Nat.reducePow, Nat.reduceEqDiff, Nat.reduceAdd, Nat.reduceSub, Nat.reduceMul, Nat.reduceMod, Nat.reduceLeDiff, Nat.reduceLT, Nat.reduceBEq, Nat.reduceBNe, Int.reduceLT, Int.reduceLE, Int.reduceToNat, Int.reduceNeg, Int.reduceAdd, Int.reduceSub, Int.reduceMul, Int.reduceBEq, Int.reduceBNe, Int.reduceEq, if_pos, if_neg, w64, beqT, beqF, bneT, bneF, pr_get, ir_get, decide_eq_true, decide_eq_false, Try.ntmps23, Try.results23, es])
          · rw [hc] at hq
            have hq' : decide ((keyN fl[i] : Int) < (keyN fl[out[k]] : Int)) = true := by
              have := hq.symm
              rw [decide_eq_true_eq] at this ⊢
              omega
            have pl := place k (by omega) k3 (fun _ => hc)
            (try simp (disch := omega) only [go_sem, ↓reduceIte, ↓reduceDIte, reduceCtorEq, Nat.reducePow, Nat.reduceEqDiff, Nat.reduceAdd, Nat.reduceSub, Nat.reduceMul, Nat.reduceMod, Nat.reduceLeDiff, Nat.reduceLT, Nat.reduceBEq, Nat.reduceBNe, Int.reduceLT, Int.reduceLE, Int.reduceToNat, Int.reduceNeg, Int.reduceAdd, Int.reduceSub, Int.reduceMul, Int.reduceBEq, Int.reduceBNe, Int.reduceEq, if_pos, if_neg, w64, beqT, beqF, bneT, bneF, pr_get, ir_get, decide_eq_true, decide_eq_false, Try.ntmps23, Try.results23, hq', eN])
            refine ⟨i + 1, [0], by omega, by omega, ?_⟩
            have nr := nextRows out acc i k out.length hlen k2 rfl (by omega)
            constructor <;> (try simp (disch := omega) only [go_sem, ↓reduceIte, ↓reduceDIte, reduceCtorEq, Nat.reducePow, Nat.reduceEqDiff, Nat.reduceAdd, Nat.reduceSub, Nat.reduceMul, Nat.reduceMod, Nat.reduceLeDiff, Nat.reduceLT, Nat.reduceBEq, Nat.reduceBNe, Int.reduceLT, Int.reduceLE, Int.reduceToNat, Int.reduceNeg, Int.reduceAdd, Int.reduceSub, Int.reduceMul, Int.reduceBEq, Int.reduceBNe, Int.reduceEq, if_pos, if_neg, w64, beqT, beqF, bneT, bneF, pr_get, ir_get, decide_eq_true, decide_eq_false, Try.ntmps23, Try.results23, ← pl, nr])
        · have pl := place k (by omega) k3 (fun hx => by omega)
          (try simp (disch := omega) only [go_sem, ↓reduceIte, ↓reduceDIte, reduceCtorEq, Nat.reducePow, Nat.reduceEqDiff, Nat.reduceAdd, Nat.reduceSub, Nat.reduceMul, Nat.reduceMod, Nat.reduceLeDiff, Nat.reduceLT, Nat.reduceBEq, Nat.reduceBNe, Int.reduceLT, Int.reduceLE, Int.reduceToNat, Int.reduceNeg, Int.reduceAdd, Int.reduceSub, Int.reduceMul, Int.reduceBEq, Int.reduceBNe, Int.reduceEq, if_pos, if_neg, w64, beqT, beqF, bneT, bneF, pr_get, ir_get, decide_eq_true, decide_eq_false, Try.ntmps23, Try.results23, olen, eN])
          refine ⟨i + 1, [0], by omega, by omega, ?_⟩
          have nr := nextRows out acc i k i hlen k2 olen (by omega)
          constructor <;> (try simp (disch := omega) only [go_sem, ↓reduceIte, ↓reduceDIte, reduceCtorEq, Nat.reducePow, Nat.reduceEqDiff, Nat.reduceAdd, Nat.reduceSub, Nat.reduceMul, Nat.reduceMod, Nat.reduceLeDiff, Nat.reduceLT, Nat.reduceBEq, Nat.reduceBNe, Int.reduceLT, Int.reduceLE, Int.reduceToNat, Int.reduceNeg, Int.reduceAdd, Int.reduceSub, Int.reduceMul, Int.reduceBEq, Int.reduceBNe, Int.reduceEq, if_pos, if_neg, w64, beqT, beqF, bneT, bneF, pr_get, ir_get, decide_eq_true, decide_eq_false, Try.ntmps23, Try.results23, ← pl, nr])
    · obtain rfl : i = fl.length := by omega
      (try simp (disch := omega) only [go_sem, ↓reduceIte, ↓reduceDIte, reduceCtorEq, Nat.reducePow, Nat.reduceEqDiff, Nat.reduceAdd, Nat.reduceSub, Nat.reduceMul, Nat.reduceMod, Nat.reduceLeDiff, Nat.reduceLT, Nat.reduceBEq, Nat.reduceBNe, Int.reduceLT, Int.reduceLE, Int.reduceToNat, Int.reduceNeg, Int.reduceAdd, Int.reduceSub, Int.reduceMul, Int.reduceBEq, Int.reduceBNe, Int.reduceEq, if_pos, if_neg, w64, beqT, beqF, bneT, bneF, pr_get, ir_get, decide_eq_true, decide_eq_false, Try.ntmps23, Try.results23])
      rw [rankN_eq]
end Go.Proofs.TS
