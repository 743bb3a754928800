/- Ranges of pieces swapped, rotated. -/
import Derived.Test.YteebghpjgcacmaaGE
import Derived.Test.YteebghpjgcacmaaGS
set_option linter.unusedSimpArgs false
set_option linter.unusedVariables false
namespace Go.Proofs.GR
open Go Go.Idl Go.Proofs Go.GN
set_option maxHeartbeats 20000000
set_option maxRecDepth 100000
theorem swap_spec (g a b k : Nat) (l : List Pc) (hab : a + k ≤ b) (hb : b + k ≤ l.length) (hn : l.length < 1000) :
    PG Try.prog 81 [.ref 0 g 0 l.length, sci .i64 (a : Int), sci .i64 (b : Int), sci .i64 (k : Int), cmpF] [pB g l] 0 (.tup []) [(0, pB g (swR a b k l))] := by
  
  refine pg_of 200 (fn := Try.f81) Try.func81 rfl (by simp [Try.ntmps81]) 1 rfl zC zC zC zC zC fun hs => ?_
  ((try refine zW ?_); (try with_reducible exact True.intro))
  refine walk_loop 200 200 (fun i : Nat => i ≤ k)
    (fun i => ⟨38, [(0, .ref 0 g 0 l.length), (1, sci .i64 (a : Int)), (2, sci .i64 (b : Int)), (3, sci .i64 (k : Int)), (10, sci .i64 (i : Int))], [], 1, [(0, pB g (swR a b i l))]⟩) (fun i => k - i) 0 (Nat.zero_le _) ?_ ?_
  · constructor <;> (try simp (maxSteps := 2000000) (disch := omega) only [go_sem, simprocAttr, if_pos, if_neg, w64, beqT, beqF, bneT, bneF, pr_get, ir_get, decide_eq_true, decide_eq_false, Int.natCast_zero, swR])
  · intro i hi
    ((try refine zW ?_); (try with_reducible exact True.intro))
    have hl := swR_len a b i l
    have e1 : (l.length = (swR a b i l).length) := hl.symm
    by_cases li : i < k
    · have hA : a + i < (swR a b i l).length := by omega
      have hB : b + i < (swR a b i l).length := by omega
      have es := swR_at hB hA
      generalize hM : swR a b i l = M at *
      have li' : (i : Int) < (k : Int) := by omega
      have ta : ((a : Int) + (i : Int)).toNat = a + i := by omega
      have tb : ((b : Int) + (i : Int)).toNat = b + i := by omega
      have ga : (ir ePc M)[((a : Int) + (i : Int)).toNat]? = some ((ePc M[a + i]).map .p) := by rw [ta]; exact ir_get' (List.getElem?_eq_getElem hA)
      have gb : (ir ePc M)[((b : Int) + (i : Int)).toNat]? = some ((ePc M[b + i]).map .p) := by rw [tb]; exact ir_get' (List.getElem?_eq_getElem hB)
      have gb2 : (ir ePc (M.set (a + i) M[b + i]))[b + i]? = some ((ePc M[b + i]).map .p) := by
        exact ir_get' (by rw [List.getElem?_set_ne (by omega), List.getElem?_eq_getElem hB])
      (try simp (maxSteps := 2000000) (disch := omega) only [go_sem, simprocAttr, if_pos, if_neg, w64, beqT, beqF, bneT, bneF, pr_get, ir_get, decide_eq_true, decide_eq_false, li'])
      (refine walk_trim [0, 1, 2, 3, 10] trivial zL ?_; (refine zW ?_; try with_reducible exact True.intro); refine irun_walk (id := 3) (n := 200) [none, none, none, none, none, none, none, none, none, none, none, none, none, none, none, none, none, none, none, none, none, some [4, 5, 6, 7], none, some []] mixed (by kernel_rfl) ?_)
      (try simp (maxSteps := 2000000) (disch := omega) only [go_sem, simprocAttr, if_pos, if_neg, w64, beqT, beqF, bneT, bneF, pr_get, ir_get, decide_eq_true, decide_eq_false, ga, gb, gb2, ta, tb, ePc])
      refine ⟨i + 1, by omega, by omega, ?_⟩
      constructor <;> (try simp (maxSteps := 2000000) (disch := omega) only [go_sem, simprocAttr, if_pos, if_neg, w64, beqT, beqF, bneT, bneF, pr_get, ir_get, decide_eq_true, decide_eq_false, es])
    · obtain rfl : i = k := by omega
      ((try refine zO ?_); (try with_reducible exact True.intro))
theorem rotate_spec (g : Nat) (L A B R : List Pc) (hA : 1 ≤ A.length) (hB : 1 ≤ B.length) (hn : (L ++ A ++ B ++ R).length < 1000) :
    PG Try.prog 63 [.ref 0 g 0 (L ++ A ++ B ++ R).length, sci .i64 (L.length : Int), sci .i64 ((L.length + A.length : Nat) : Int), sci .i64 ((L.length + A.length + B.length : Nat) : Int), cmpF]
      [pB g (L ++ A ++ B ++ R)] 0 (.tup []) [(0, pB g (L ++ B ++ A ++ R))] := by
  generalize hl : L ++ A ++ B ++ R = l at *
  generalize hm : L.length + A.length = m at *
  generalize hb : m + B.length = b at *
  generalize hres : L ++ B ++ A ++ R = res
  have hlen : b ≤ l.length := by rw [← hl]; simp; omega
  
  refine pg_of 200 (fn := Try.f63) Try.func63 rfl (by simp [Try.ntmps63]) 1 rfl zC zC zC zC zC fun hs => ?_
  ((try refine zW ?_); (try with_reducible exact True.intro))
  have s1 : (m : Int) - (L.length : Int) = (A.length : Int) := by omega
  have s2 : (b : Int) - (m : Int) = (B.length : Int) := by omega
  (try simp (maxSteps := 2000000) (disch := omega) only [go_sem, simprocAttr, if_pos, if_neg, w64, beqT, beqF, bneT, bneF, pr_get, ir_get, decide_eq_true, decide_eq_false, s1, s2])
  refine walk_loop 200 200 (fun p : (Nat × Nat) × List Pc => (1 ≤ p.1.1 ∧ 1 ≤ p.1.2 ∧ p.1.1 ≤ m ∧ m + p.1.2 ≤ b ∧ p.2.length = l.length) ∧ ∃ P X Y S, p.2 = P ++ X ++ Y ++ S ∧ P.length + p.1.1 = m ∧ X.length = p.1.1 ∧ Y.length = p.1.2 ∧ P ++ Y ++ X ++ S = res)
    (fun p => ⟨58, [(0, .ref 0 g 0 l.length), (2, sci .i64 (m : Int)), (4, cmpF), (10, sci .i64 (p.1.1 : Int)), (11, sci .i64 (p.1.2 : Int))], [], 1, [(0, pB g p.2)]⟩) (fun p => p.1.1 + p.1.2) ((A.length, B.length), l) ?_ ?_ ?_
  · exact ⟨⟨hA, hB, by simp only; omega, by simp only; omega, rfl⟩, L, A, B, R, hl.symm, hm, rfl, rfl, hres⟩
  · constructor <;> ((try refine zO ?_); (try with_reducible exact True.intro))
  · rintro ⟨⟨i, j⟩, M⟩ ⟨⟨i1, i2, i3, i4, i5⟩, P, X, Y, S, e1, e2, e3, e4, e5⟩
    simp only at i1 i2 i3 i4 i5 e1 e2 e3 e4 e5
    ((try refine zW ?_); (try with_reducible exact True.intro))
    rcases Nat.lt_trichotomy i j with hij | hij | hij
    · have c1 : ((i : Int) == (j : Int)) = false := by rw [beq_eq_false_iff_ne]; omega
      have c2 : ¬ ((j : Int) < (i : Int)) := by omega
      have s3 : (m : Int) - (i : Int) = ((m - i : Nat) : Int) := by omega
      have s4 : (m : Int) + (j : Int) - (i : Int) = ((m + j - i : Nat) : Int) := by omega
      have s5 : (j : Int) - (i : Int) = ((j - i : Nat) : Int) := by omega
      obtain ⟨Y1, Y2, rfl, hY2⟩ : ∃ Y1 Y2, Y = Y1 ++ Y2 ∧ Y2.length = i := ⟨Y.take (j - i), Y.drop (j - i), (List.take_append_drop ..).symm, by rw [List.length_drop]; omega⟩
      rw [List.length_append] at e4
      have sp := swap_spec g (m - i) (m + j - i) i M (by omega) (by omega) (by omega)
      have sw : swR (m - i) (m + j - i) i M = P ++ Y2 ++ Y1 ++ X ++ S := by
        have := swR_all P X Y1 Y2 S (by omega)
        rw [e3, show P.length + i + Y1.length = m + j - i by omega, show P.length = m - i by omega] at this
        rw [e1, ← this]; congr 1; simp
      rw [sw, i5] at sp
      (try simp (maxSteps := 2000000) (disch := omega) only [go_sem, simprocAttr, if_pos, if_neg, w64, beqT, beqF, bneT, bneF, pr_get, ir_get, decide_eq_true, decide_eq_false, c1, c2, s3, s4, s5])
      (refine at_g 200 ?_; (refine zW ?_; try with_reducible exact True.intro); refine callG_of [0] (sp) (by simp (maxSteps := 2000000) (disch := omega) only [go_sem, simprocAttr, if_pos, if_neg, w64, beqT, beqF, bneT, bneF, pr_get, ir_get, decide_eq_true, decide_eq_false, cmpF]) ?_; ((try refine zW ?_); (try with_reducible exact True.intro)))
      (try simp (maxSteps := 2000000) (disch := omega) only [go_sem, simprocAttr, if_pos, if_neg, w64, beqT, beqF, bneT, bneF, pr_get, ir_get, decide_eq_true, decide_eq_false, s5])
      refine ⟨((i, j - i), P ++ Y2 ++ Y1 ++ X ++ S), ⟨⟨i1, by simp only; omega, i3, by simp only; omega, ?_⟩, P, Y2, Y1, X ++ S, ?_, e2, hY2, by simp only; omega, ?_⟩, by simp only; omega, ?_⟩
      · simp only
        rw [← i5, e1]; simp; omega
      · simp
      · rw [← e5]; simp
      · constructor <;> ((try refine zO ?_); (try with_reducible exact True.intro))
    · subst hij
      have c1 : ((i : Int) == (i : Int)) = true := beq_self_eq_true _
      have s3 : (m : Int) - (i : Int) = ((m - i : Nat) : Int) := by omega
      have sp := swap_spec g (m - i) m i M (by omega) (by omega) (by omega)
      have sw : swR (m - i) m i M = res := by
        have := swR_all P X [] Y S (by omega)
        simp only [List.append_nil, List.length_nil, Nat.add_zero] at this
        rw [e3, e2, show P.length = m - i by omega, ← e1, e5] at this
        exact this
      rw [sw, i5] at sp
      (try simp (maxSteps := 2000000) (disch := omega) only [go_sem, simprocAttr, if_pos, if_neg, w64, beqT, beqF, bneT, bneF, pr_get, ir_get, decide_eq_true, decide_eq_false, s3])
      (refine at_g 200 ?_; (refine zW ?_; try with_reducible exact True.intro); refine callG_of [0] (sp) (by simp (maxSteps := 2000000) (disch := omega) only [go_sem, simprocAttr, if_pos, if_neg, w64, beqT, beqF, bneT, bneF, pr_get, ir_get, decide_eq_true, decide_eq_false, cmpF]) ?_; ((try refine zW ?_); (try with_reducible exact True.intro)))
      try ((try refine zO ?_); (try with_reducible exact True.intro))
    · have c1 : ((i : Int) == (j : Int)) = false := by rw [beq_eq_false_iff_ne]; omega
      have c2 : ((j : Int) < (i : Int)) := by omega
      have s3 : (m : Int) - (i : Int) = ((m - i : Nat) : Int) := by omega
      have s5 : (i : Int) - (j : Int) = ((i - j : Nat) : Int) := by omega
      obtain ⟨X1, X2, rfl, hX1⟩ : ∃ X1 X2, X = X1 ++ X2 ∧ X1.length = j := ⟨X.take j, X.drop j, (List.take_append_drop ..).symm, by rw [List.length_take]; omega⟩
      rw [List.length_append] at e3
      have sp := swap_spec g (m - i) m j M (by omega) (by omega) (by omega)
      have sw : swR (m - i) m j M = P ++ Y ++ X2 ++ X1 ++ S := by
        have := swR_all P X1 X2 Y S (by omega)
        rw [hX1, show P.length + j + X2.length = m by omega, show P.length = m - i by omega] at this
        rw [e1, ← this]; congr 1; simp
      rw [sw, i5] at sp
      (try simp (maxSteps := 2000000) (disch := omega) only [go_sem, simprocAttr, if_pos, if_neg, w64, beqT, beqF, bneT, bneF, pr_get, ir_get, decide_eq_true, decide_eq_false, c1, c2, s3, s5])
      (refine at_g 200 ?_; (refine zW ?_; try with_reducible exact True.intro); refine callG_of [0] (sp) (by simp (maxSteps := 2000000) (disch := omega) only [go_sem, simprocAttr, if_pos, if_neg, w64, beqT, beqF, bneT, bneF, pr_get, ir_get, decide_eq_true, decide_eq_false, cmpF]) ?_; ((try refine zW ?_); (try with_reducible exact True.intro)))
      (try simp (maxSteps := 2000000) (disch := omega) only [go_sem, simprocAttr, if_pos, if_neg, w64, beqT, beqF, bneT, bneF, pr_get, ir_get, decide_eq_true, decide_eq_false, s5])
      refine ⟨((i - j, j), P ++ Y ++ X2 ++ X1 ++ S), ⟨⟨by simp only; omega, i2, by simp only; omega, i4, ?_⟩, P ++ Y, X2, X1, S, ?_, ?_, by simp only; omega, hX1, ?_⟩, by simp only; omega, ?_⟩
      · simp only
        rw [← i5, e1]; simp; omega
      · simp
      · simp only [List.length_append]; omega
      · rw [← e5]; simp
      · constructor <;> ((try refine zO ?_); (try with_reducible exact True.intro))
end Go.Proofs.GR
