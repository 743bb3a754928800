/- What a node may tell: the program's answer, joined. -/
import Derived.Test.YteebghpjgcacmaaGreatYQA
set_option linter.unusedSimpArgs false
set_option linter.unusedVariables false
namespace Go.Proofs.GY
open Go Go.Idl Go.Proofs
set_option maxHeartbeats 20000000
set_option maxRecDepth 100000
abbrev fR1 : IV := .p (.sc (.func (.func 96) #[] #[]))
theorem idxL_spec (l : List Int) (hk : l.length ≤ 1000000) : Pure Tryz.prog 129 [lI l, fR1]
    (sci .i64 (firstB (fun x => !tB (0 ≤ x ∧ x ≤ 3)) 0 l)) := by
  refine pcall0 200 (fn := Tryz.f129) Tryz.func129 rfl (by simp [Tryz.ntmps129]) zB zB fun hs => ?_
  ((try refine zW ?_); (try with_reducible exact True.intro))
  refine walk_floop 200 200 (fun i : Nat => i ≤ l.length ∧ firstB (fun x => !tB (0 ≤ x ∧ x ≤ 3)) i (l.drop i) = firstB (fun x => !tB (0 ≤ x ∧ x ≤ 3)) 0 l)
    (fun i => ⟨19, [(0, lI l), (1, fR1), (7, sci .i64 l.length), (8, sci .i64 i)], [], 0, []⟩) (fun i => l.length - i) (0) [] ?_ ?_ ?_
  · simp
  · constructor <;> (try simp (disch := omega) only [go_sem, simprocAttr, if_pos, if_neg, w64, beqT, beqF, bneT, bneF, pr_get, ir_get, decide_eq_true, decide_eq_false, Int.natCast_zero, List.take_of_length_le, List.append_assoc])
  · rintro i hi
    obtain ⟨hi, hinvi⟩ := hi
    ((try refine zW ?_); (try with_reducible exact True.intro))
    by_cases li : i < l.length
    · rw [drop_cons li, firstB] at hinvi
      (try simp (disch := omega) only [go_sem, simprocAttr, if_pos, if_neg, w64, beqT, beqF, bneT, bneF, pr_get, ir_get, decide_eq_true, decide_eq_false, eI])
      (refine at_call 200 ?_; (refine zW ?_; try with_reducible exact True.intro); refine callA_of (Right1_spec l[i]) zB ?_; ((try refine zW ?_); (try with_reducible exact True.intro)))
      cases e : tB (0 ≤ l[i] ∧ l[i] ≤ 3)
      · simp only [e, Bool.not_false, if_true] at hinvi
        (try simp (disch := omega) only [go_sem, simprocAttr, if_pos, if_neg, w64, beqT, beqF, bneT, bneF, pr_get, ir_get, decide_eq_true, decide_eq_false, ← hinvi])
      · simp only [e, Bool.not_true, Bool.false_eq_true, if_false] at hinvi
        ((try refine zO ?_); (try with_reducible exact True.intro))
        refine ⟨i + 1, [], ⟨by first | assumption | omega, hinvi⟩, ?_, ?_⟩
        · (try simp only []); omega
        · constructor <;> (try simp (disch := omega) only [go_sem, simprocAttr, if_pos, if_neg, w64, beqT, beqF, bneT, bneF, pr_get, ir_get, decide_eq_true, decide_eq_false, List.append_assoc])
    · obtain rfl : i = l.length := by omega
      rw [List.drop_length] at hinvi
      (try simp (disch := omega) only [go_sem, simprocAttr, if_pos, if_neg, w64, beqT, beqF, bneT, bneF, pr_get, ir_get, decide_eq_true, decide_eq_false, ← hinvi, firstB])
theorem hasL_spec (l : List Int) (hk : l.length ≤ 1000000) : Pure Tryz.prog 97 [lI l, fR1] (scb (!tB (LetsP l))) := by
  have e : decide (0 ≤ firstB (fun x => !tB (0 ≤ x ∧ x ≤ 3)) 0 l) = !tB (LetsP l) := by
    rw [tB_not, ← tB_dec]
    refine tB_congr ?_
    rw [firstB_iff]
    constructor
    · rintro ⟨x, hx, h⟩ q
      obtain ⟨j, hj, rfl⟩ := List.getElem_of_mem hx
      have := q j _ hj (List.getElem?_eq_getElem hj)
      rw [tB_pos this] at h; cases h
    · intro h
      refine Classical.byContradiction fun q => h fun j x _ hx => ?_
      have hm : x ∈ l := List.mem_of_getElem? hx
      refine Classical.byContradiction fun q2 => q ⟨x, hm, ?_⟩
      rw [tB_neg q2]; rfl
  refine pcall0 200 (fn := Tryz.f97) Tryz.func97 rfl (by simp [Tryz.ntmps97]) zB zB fun hs => ?_
  ((try refine zW ?_); (try with_reducible exact True.intro))
  (refine at_call 200 ?_; (refine zW ?_; try with_reducible exact True.intro); refine callA_of (idxL_spec l hk) zB ?_; ((try refine zW ?_); (try with_reducible exact True.intro)))
  (try simp (disch := omega) only [go_sem, simprocAttr, if_pos, if_neg, w64, beqT, beqF, bneT, bneF, pr_get, ir_get, decide_eq_true, decide_eq_false, e])
theorem pRight_spec (h : Pc) (hg : gPc h) : Pure Tryz.prog 52 [lPc h] (scb (tB (PieceP h))) := by
  obtain ⟨node, state, steps, sent, inn, out⟩ := h
  obtain ⟨b1, b2, b3, b4, b5⟩ := hg
  simp only at b1 b2 b3 b4 b5
  have bad : ∀ {q : Prop}, (PieceP ⟨node, state, steps, sent, inn, out⟩ → q) → ¬ q → tB (PieceP ⟨node, state, steps, sent, inn, out⟩) = false := fun f g => tB_neg fun h => g (f h)
  
  refine pcall0 200 (fn := Tryz.f52) Tryz.func52 rfl (by simp [Tryz.ntmps52]) zB zB fun hs => ?_
  ((try refine zW ?_); (try with_reducible exact True.intro))
  (refine at_call 200 ?_; (refine zW ?_; try with_reducible exact True.intro); refine callA_of (pwithin_spec node 5) zB ?_; ((try refine zW ?_); (try with_reducible exact True.intro)))
  by_cases hn : 0 ≤ node ∧ node ≤ 5
  rotate_left
  · have en : tB (0 ≤ node ∧ node ≤ 5) = false := tB_neg hn
    have e := bad (fun q => q.1) hn
    (try simp (maxSteps := 2000000) (disch := omega) only [go_sem, simprocAttr, if_pos, if_neg, w64, beqT, beqF, bneT, bneF, pr_get, ir_get, decide_eq_true, decide_eq_false, en, e])
  have en : tB (0 ≤ node ∧ node ≤ 5) = true := tB_pos hn
  (try simp (maxSteps := 2000000) (disch := omega) only [go_sem, simprocAttr, if_pos, if_neg, w64, beqT, beqF, bneT, bneF, pr_get, ir_get, decide_eq_true, decide_eq_false, en])
  (refine at_call 200 ?_; (refine zW ?_; try with_reducible exact True.intro); refine callA_of (pwithin_spec state 7) zB ?_; ((try refine zW ?_); (try with_reducible exact True.intro)))
  by_cases hs : 0 ≤ state ∧ state ≤ 7
  rotate_left
  · have es : tB (0 ≤ state ∧ state ≤ 7) = false := tB_neg hs
    have e := bad (fun q => q.2.1) hs
    (try simp (maxSteps := 2000000) (disch := omega) only [go_sem, simprocAttr, if_pos, if_neg, w64, beqT, beqF, bneT, bneF, pr_get, ir_get, decide_eq_true, decide_eq_false, es, e])
  have es : tB (0 ≤ state ∧ state ≤ 7) = true := tB_pos hs
  (try simp (maxSteps := 2000000) (disch := omega) only [go_sem, simprocAttr, if_pos, if_neg, w64, beqT, beqF, bneT, bneF, pr_get, ir_get, decide_eq_true, decide_eq_false, es])
  (refine at_call 200 ?_; (refine zW ?_; try with_reducible exact True.intro); refine callA_of (pwithin_spec steps 2147483647) zB ?_; ((try refine zW ?_); (try with_reducible exact True.intro)))
  by_cases h1 : 0 ≤ steps ∧ steps ≤ 2147483647
  · have e1 : tB (0 ≤ steps ∧ steps ≤ 2147483647) = true := tB_pos h1
    by_cases h0 : 5 < sent.length
    · have e := bad (fun q => q.2.2.2.2.1) (by simp only; omega)
      (try simp (maxSteps := 2000000) (disch := omega) only [go_sem, simprocAttr, if_pos, if_neg, w64, beqT, beqF, bneT, bneF, pr_get, ir_get, decide_eq_true, decide_eq_false, e1, e])
    by_cases h2 : 5 < inn.length
    · have e := bad (fun q => q.2.2.2.2.2.1) (by simp only; omega)
      (try simp (maxSteps := 2000000) (disch := omega) only [go_sem, simprocAttr, if_pos, if_neg, w64, beqT, beqF, bneT, bneF, pr_get, ir_get, decide_eq_true, decide_eq_false, e1, e])
    by_cases h3 : 5 < out.length
    · have e := bad (fun q => q.2.2.2.2.2.2.1) (by simp only; omega)
      (try simp (maxSteps := 2000000) (disch := omega) only [go_sem, simprocAttr, if_pos, if_neg, w64, beqT, beqF, bneT, bneF, pr_get, ir_get, decide_eq_true, decide_eq_false, e1, e])
    (try simp (maxSteps := 2000000) (disch := omega) only [go_sem, simprocAttr, if_pos, if_neg, w64, beqT, beqF, bneT, bneF, pr_get, ir_get, decide_eq_true, decide_eq_false, e1])
    (refine walk_trim [1, 40, 41, 42] trivial zL ?_; ((try refine zW ?_); (try with_reducible exact True.intro)))
    refine walk_floop 200 200 (fun i : Nat => i ≤ sent.length ∧ ∀ (k : Nat) (x : Int), k < i → sent[k]? = some x → 0 ≤ x ∧ x ≤ 500)
      (fun i => ⟨77, [(1, .ptr 0 0 0 0), (40, lI sent), (41, sci .i64 sent.length), (42, sci .i64 i)], [], 1, [(0, .arr 6 0 [[sci .i64 node, sci .i64 state, sci .i64 steps, lI sent, lMs inn, lLs out]])]⟩) (fun i => sent.length - i) (0) [] ?_ ?_ ?_
    · simp
    · constructor <;> (try simp (maxSteps := 2000000) (disch := omega) only [go_sem, simprocAttr, if_pos, if_neg, w64, beqT, beqF, bneT, bneF, pr_get, ir_get, decide_eq_true, decide_eq_false, Int.natCast_zero, List.take_of_length_le, List.append_assoc])
    · rintro i hi
      obtain ⟨hi, hinvi⟩ := hi
      ((try refine zW ?_); (try with_reducible exact True.intro))
      by_cases li : i < sent.length
      · have sn := all_snoc li hinvi
        have bd : ¬ (0 ≤ sent[i] ∧ sent[i] ≤ 500) → tB (PieceP ⟨node, state, steps, sent, inn, out⟩) = false := fun q => tB_neg fun h => q (h.2.2.2.2.2.2.2.1 i _ li (List.getElem?_eq_getElem li))
        (try simp (maxSteps := 2000000) (disch := omega) only [go_sem, simprocAttr, if_pos, if_neg, w64, beqT, beqF, bneT, bneF, pr_get, ir_get, decide_eq_true, decide_eq_false, eI])
        (refine at_call 200 ?_; (refine zW ?_; try with_reducible exact True.intro); refine callA_of (pwithin_spec sent[i] 500) zB ?_; ((try refine zW ?_); (try with_reducible exact True.intro)))
        by_cases g : 0 ≤ sent[i] ∧ sent[i] ≤ 500
        · have e := tB_pos g
          (try simp (maxSteps := 2000000) (disch := omega) only [go_sem, simprocAttr, if_pos, if_neg, w64, beqT, beqF, bneT, bneF, pr_get, ir_get, decide_eq_true, decide_eq_false, e])
          refine ⟨i + 1, [], ⟨li, sn g⟩, by omega, ?_⟩
          constructor <;> ((try refine zO ?_); (try with_reducible exact True.intro))
        · have e := tB_neg g
          have e2 := bd g
          (try simp (maxSteps := 2000000) (disch := omega) only [go_sem, simprocAttr, if_pos, if_neg, w64, beqT, beqF, bneT, bneF, pr_get, ir_get, decide_eq_true, decide_eq_false, e, e2])
      · obtain rfl : i = sent.length := by omega
        ((try refine zO ?_); (try with_reducible exact True.intro))
        (refine walk_trim [1, 51, 52, 53] trivial zL ?_; ((try refine zW ?_); (try with_reducible exact True.intro)))
        refine walk_floop 200 200 (fun j : Nat => j ≤ inn.length ∧ ∀ (k : Nat) (l : List (Int × Int)), k < j → inn[k]? = some l → RisP 0 l)
          (fun j => ⟨77, [(1, .ptr 0 0 0 0), (51, lMs inn), (52, sci .i64 inn.length), (53, sci .i64 j)], [], 1, [(0, .arr 6 0 [[sci .i64 node, sci .i64 state, sci .i64 steps, lI sent, lMs inn, lLs out]])]⟩) (fun j => inn.length - j) (0) [] ?_ ?_ ?_
        · simp
        · constructor <;> (try simp (maxSteps := 2000000) (disch := omega) only [go_sem, simprocAttr, if_pos, if_neg, w64, beqT, beqF, bneT, bneF, pr_get, ir_get, decide_eq_true, decide_eq_false, Int.natCast_zero, List.take_of_length_le, List.append_assoc])
        · rintro j hj
          obtain ⟨hj, hinvj⟩ := hj
          ((try refine zW ?_); (try with_reducible exact True.intro))
          by_cases lj : j < inn.length
          · have sn := all_snoc lj hinvj
            have bd : ¬ RisP 0 inn[j] → tB (PieceP ⟨node, state, steps, sent, inn, out⟩) = false := fun q => tB_neg fun h => q (h.2.2.2.2.2.2.2.2.1 j _ lj (List.getElem?_eq_getElem lj))
            (try simp (maxSteps := 2000000) (disch := omega) only [go_sem, simprocAttr, if_pos, if_neg, w64, beqT, beqF, bneT, bneF, pr_get, ir_get, decide_eq_true, decide_eq_false, eMs])
            (refine at_call 200 ?_; (refine zW ?_; try with_reducible exact True.intro); refine callA_of (rising_spec inn[j]) zB ?_; ((try refine zW ?_); (try with_reducible exact True.intro)))
            by_cases g : RisP 0 inn[j]
            · have e := tB_pos g
              (try simp (maxSteps := 2000000) (disch := omega) only [go_sem, simprocAttr, if_pos, if_neg, w64, beqT, beqF, bneT, bneF, pr_get, ir_get, decide_eq_true, decide_eq_false, e])
              refine ⟨j + 1, [], ⟨lj, sn g⟩, by omega, ?_⟩
              constructor <;> ((try refine zO ?_); (try with_reducible exact True.intro))
            · have e := tB_neg g
              have e2 := bd g
              (try simp (maxSteps := 2000000) (disch := omega) only [go_sem, simprocAttr, if_pos, if_neg, w64, beqT, beqF, bneT, bneF, pr_get, ir_get, decide_eq_true, decide_eq_false, e, e2])
          · obtain rfl : j = inn.length := by omega
            ((try refine zO ?_); (try with_reducible exact True.intro))
            (refine walk_trim [7, 62, 63, 64] trivial zL ?_; ((try refine zW ?_); (try with_reducible exact True.intro)))
            refine walk_floop 200 200 (fun k : Nat => k ≤ out.length ∧ ∀ (m : Nat) (l : List Int), m < k → out[m]? = some l → l.length ≤ 500 ∧ LetsP l)
              (fun k => ⟨77, [(7, fR1), (62, lLs out), (63, sci .i64 out.length), (64, sci .i64 k)], [], 1, [(0, .arr 6 0 [[sci .i64 node, sci .i64 state, sci .i64 steps, lI sent, lMs inn, lLs out]])]⟩) (fun k => out.length - k) (0) [] ?_ ?_ ?_
            · simp
            · constructor <;> (try simp (maxSteps := 2000000) (disch := omega) only [go_sem, simprocAttr, if_pos, if_neg, w64, beqT, beqF, bneT, bneF, pr_get, ir_get, decide_eq_true, decide_eq_false, Int.natCast_zero, List.take_of_length_le, List.append_assoc])
            · rintro k hk
              obtain ⟨hk, hinvk⟩ := hk
              ((try refine zW ?_); (try with_reducible exact True.intro))
              by_cases lk : k < out.length
              · have sn := all_snoc lk hinvk
                have bd : ¬ (out[k].length ≤ 500 ∧ LetsP out[k]) → tB (PieceP ⟨node, state, steps, sent, inn, out⟩) = false := fun q => tB_neg fun h => q (h.2.2.2.2.2.2.2.2.2 k _ lk (List.getElem?_eq_getElem lk))
                have ho := b5 out[k] (List.getElem_mem lk)
                (try simp (maxSteps := 2000000) (disch := omega) only [go_sem, simprocAttr, if_pos, if_neg, w64, beqT, beqF, bneT, bneF, pr_get, ir_get, decide_eq_true, decide_eq_false, eLs])
                generalize out[k] = x at *
                by_cases g1 : 500 < x.length
                · have e2 := bd fun q => by have := q.1; omega
                  (try simp (maxSteps := 2000000) (disch := omega) only [go_sem, simprocAttr, if_pos, if_neg, w64, beqT, beqF, bneT, bneF, pr_get, ir_get, decide_eq_true, decide_eq_false, e2])
                ((try refine zO ?_); (try with_reducible exact True.intro))
                (refine at_call 200 ?_; (refine zW ?_; try with_reducible exact True.intro); refine callA_of (hasL_spec x ho) zB ?_; ((try refine zW ?_); (try with_reducible exact True.intro)))
                by_cases g : LetsP x
                · have e := tB_pos g
                  (try simp (maxSteps := 2000000) (disch := omega) only [go_sem, simprocAttr, if_pos, if_neg, w64, beqT, beqF, bneT, bneF, pr_get, ir_get, decide_eq_true, decide_eq_false, e])
                  refine ⟨k + 1, [], ⟨lk, sn ⟨by omega, g⟩⟩, by omega, ?_⟩
                  constructor <;> ((try refine zO ?_); (try with_reducible exact True.intro))
                · have e := tB_neg g
                  have e2 := bd fun q => g q.2
                  (try simp (maxSteps := 2000000) (disch := omega) only [go_sem, simprocAttr, if_pos, if_neg, w64, beqT, beqF, bneT, bneF, pr_get, ir_get, decide_eq_true, decide_eq_false, e, e2])
              · obtain rfl : k = out.length := by omega
                have e : tB (PieceP ⟨node, state, steps, sent, inn, out⟩) = true := tB_pos ⟨hn, hs, h1.1, h1.2, by simp only; omega, by simp only; omega, by simp only; omega, hinvi, hinvj, hinvk⟩
                (try simp (maxSteps := 2000000) (disch := omega) only [go_sem, simprocAttr, if_pos, if_neg, w64, beqT, beqF, bneT, bneF, pr_get, ir_get, decide_eq_true, decide_eq_false, e])
  · have e1 : tB (0 ≤ steps ∧ steps ≤ 2147483647) = false := tB_neg h1
    have e := bad (fun q => ⟨q.2.2.1, q.2.2.2.1⟩) h1
    (try simp (maxSteps := 2000000) (disch := omega) only [go_sem, simprocAttr, if_pos, if_neg, w64, beqT, beqF, bneT, bneF, pr_get, ir_get, decide_eq_true, decide_eq_false, e1, e])
end Go.Proofs.GY
