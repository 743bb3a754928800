/- Scripts cut, on. -/
import Derived.Test.YteebghpjgcacmaaGreatYA
set_option linter.unusedSimpArgs false
set_option linter.unusedVariables false
namespace Go.Proofs.GY
open Go Go.Idl Go.Proofs
set_option maxHeartbeats 20000000
set_option maxRecDepth 100000
def cutNd (n : Nd) : Nd := ⟨n.start, (n.states.take 10).map cutSt⟩
theorem L4Cut_spec (T : List Nd) : Pure Tryz.prog 40 [.p (.imm 2 (pr eNd T))] (.p (.imm 2 (pr eNd ((T.take 8).map cutNd)))) := by
  
  refine pcall0 200 (fn := Tryz.f40) Tryz.func40 rfl (by simp [Tryz.ntmps40]) zB zB fun hs => ?_
  ((try refine zW ?_); (try with_reducible exact True.intro))
  refine walk_own 3 2 trivial rfl (.inl rfl) ?_
  (refine walk_trim [0, 3, 4] trivial zL ?_; ((try refine zW ?_); (try with_reducible exact True.intro)))
  refine walk_floop 200 200 (fun i : Nat × Nat × List Nd => i.1 ≤ T.length ∧ i.1 ≤ 8 ∧ i.2.2 = (T.take i.1).map cutNd)
    (fun i => ⟨57, [(0, .p (.imm 2 (pr eNd T))), (3, .ref 0 i.2.1 0 i.2.2.length), (4, sci .i64 i.1)], [], 1, [(0, .arr 2 i.2.1 (ir eNd i.2.2))]⟩) (fun i => 8 - i.1) (0, 0, []) [] ?_ ?_ ?_
  · simp
  · constructor <;> (try simp (maxSteps := 2000000) (disch := omega) only [go_sem, simprocAttr, if_pos, if_neg, w64, beqT, beqF, bneT, bneF, pr_get, ir_get, decide_eq_true, decide_eq_false, Int.natCast_zero])
  · rintro ⟨i, g, acc⟩ ⟨h1, h2, h3⟩
    simp only at h1 h2 h3
    have hal : acc.length = i := by rw [h3]; simp; omega
    ((try refine zW ?_); (try with_reducible exact True.intro))
    by_cases hlt : i < T.length ∧ i < 8
    · obtain ⟨hl, h8⟩ := hlt
      (try simp (maxSteps := 2000000) (disch := omega) only [go_sem, simprocAttr, if_pos, if_neg, w64, beqT, beqF, bneT, bneF, pr_get, ir_get, decide_eq_true, decide_eq_false, eNd])
      refine walk_ownB 1 0 1 4 trivial rfl rfl rfl (.inr rfl) ?_
      simp only [List.set_cons_zero, List.set_cons_succ, Nat.reduceAdd]
      (refine walk_trim [0, 3, 4, 5, 6] trivial zL ?_; ((try refine zW ?_); (try with_reducible exact True.intro)))
      generalize hss : T[i].states = ss
      generalize hst : T[i].start = st
      refine walk_floop 200 200 (fun k : Nat × Nat × List St => k.1 ≤ ss.length ∧ k.1 ≤ 10 ∧ k.2.2 = (ss.take k.1).map cutSt)
        (fun k => ⟨57, [(0, .p (.imm 2 (pr eNd T))), (3, .ref 0 g 0 acc.length), (4, sci .i64 i), (5, .ptr 1 0 0 0), (6, sci .i64 k.1)], [], 3,
          [(1, .arr 2 0 [[sci .i64 st, .ref 2 k.2.1 0 k.2.2.length]]), (2, .arr 4 k.2.1 (ir eSt k.2.2)), (0, .arr 2 g (ir eNd acc))]⟩) (fun k => 10 - k.1) (0, 0, []) [] ?_ ?_ ?_
      · simp
      · constructor <;> (try simp (maxSteps := 2000000) (disch := omega) only [go_sem, simprocAttr, if_pos, if_neg, w64, beqT, beqF, bneT, bneF, pr_get, ir_get, decide_eq_true, decide_eq_false, Int.natCast_zero])
      · rintro ⟨k, g2, al⟩ ⟨k1, k2, k3⟩
        simp only at k1 k2 k3
        have hkl : al.length = k := by rw [k3]; simp; omega
        ((try refine zW ?_); (try with_reducible exact True.intro))
        by_cases hlt : k < ss.length ∧ k < 10
        · obtain ⟨hk, h10⟩ := hlt
          (try simp (maxSteps := 2000000) (disch := omega) only [go_sem, simprocAttr, if_pos, if_neg, w64, beqT, beqF, bneT, bneF, pr_get, ir_get, decide_eq_true, decide_eq_false, eNd, hss])
          (refine walk_trim [0, 3, 4, 5, 6] trivial zL ?_; (refine zW ?_; try with_reducible exact True.intro); refine irun_walk (id := 9) (n := 200) [none, none, none, none, none, none, none, none, none, none, some [0, 1], some [0, 1], some [], none, some []] mixed (by kernel_rfl) ?_)
          (try simp (maxSteps := 2000000) (disch := omega) only [go_sem, simprocAttr, if_pos, if_neg, w64, beqT, beqF, bneT, bneF, pr_get, ir_get, decide_eq_true, decide_eq_false, eNd, eSt, hss])
          (refine at_dcall ?_; (refine zW ?_; try with_reducible exact True.intro); refine callA_of (L4cut_spec ss[k]) zB ?_; ((try refine zW ?_); (try with_reducible exact True.intro)))
          ((try refine zO ?_); (try with_reducible exact True.intro))
          refine ⟨(k + 1, g2 + 1, al ++ [cutSt ss[k]]), [], ⟨hk, h10, ?_⟩, ?_, ?_⟩
          · simp only [k3]
            rw [List.take_succ_eq_append_getElem hk, List.map_append, List.map_cons, List.map_nil]
          · simp only; omega
          · constructor <;> (try simp (maxSteps := 2000000) (disch := omega) only [go_sem, simprocAttr, if_pos, if_neg, w64, beqT, beqF, bneT, bneF, pr_get, ir_get, decide_eq_true, decide_eq_false, eSt, ir_snoc, List.map_cons, List.map_nil])
        · have h10 : ss.take k = ss.take 10 := by
            rcases Nat.lt_or_ge k 10 with h | h
            · rw [List.take_of_length_le (by omega), List.take_of_length_le (by omega)]
            · rw [show k = 10 by omega]
          rw [h10] at k3
          rcases Nat.lt_or_ge k ss.length with hk | hk
          all_goals
            (try simp (maxSteps := 2000000) (disch := omega) only [go_sem, simprocAttr, if_pos, if_neg, w64, beqT, beqF, bneT, bneF, pr_get, ir_get, decide_eq_true, decide_eq_false, eNd, hss])
            refine ⟨(i + 1, g + 1, acc ++ [cutNd T[i]]), [2], ⟨hl, h8, ?_⟩, ?_, ?_⟩
            · simp only [h3]
              rw [List.take_succ_eq_append_getElem hl, List.map_append, List.map_cons, List.map_nil]
            · simp only; omega
            · constructor <;> (try simp (maxSteps := 2000000) (disch := omega) only [go_sem, simprocAttr, if_pos, if_neg, w64, beqT, beqF, bneT, bneF, pr_get, ir_get, decide_eq_true, decide_eq_false, eNd, cutNd, hss, hst, ← k3, ir_snoc, List.map_cons, List.map_nil])
    · have h10 : T.take i = T.take 8 := by
        rcases Nat.lt_or_ge i 8 with h | h
        · rw [List.take_of_length_le (by omega), List.take_of_length_le (by omega)]
        · rw [show i = 8 by omega]
      rw [h10] at h3
      rcases Nat.lt_or_ge i T.length with hl | hl
      all_goals
        (try simp (maxSteps := 2000000) (disch := omega) only [go_sem, simprocAttr, if_pos, if_neg, w64, beqT, beqF, bneT, bneF, pr_get, ir_get, decide_eq_true, decide_eq_false, ← h3])
end Go.Proofs.GY
