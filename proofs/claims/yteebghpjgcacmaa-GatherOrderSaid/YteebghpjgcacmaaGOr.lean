/- In which order pieces are merged. -/
import Derived.Test.YteebghpjgcacmaaGL
import Derived.Test.YteebghpjgcacmaaGM
set_option linter.unusedSimpArgs false
set_option linter.unusedVariables false
namespace Go.Proofs.GR
open Go Go.Idl Go.Proofs Go.GN
set_option maxHeartbeats 20000000
set_option maxRecDepth 100000
theorem mrg_mem {a b : List Pc} {p : Pc} (h : p ∈ (mrg a b).1) : p ∈ a ∨ p ∈ b := by
  unfold mrg at h
  cases hm : merge Pc.node a b with
  | none => rw [hm] at h; cases h
  | some t =>
    rw [hm] at h
    have := ((merge_some Pc.node).1 hm).1.mem_iff.1 h
    exact List.mem_append.1 this
theorem mrg_le (a b : List Pc) : (mrg a b).1.length ≤ a.length + b.length := by
  unfold mrg
  cases hm : merge Pc.node a b with
  | none => simp
  | some t => simp only; rw [merge_len Pc.node hm]; exact Nat.le_refl _
theorem mrg_g {a b : List Pc} (ha : ∀ p ∈ a, gPc p) (hb : ∀ p ∈ b, gPc p) : ∀ p ∈ (mrg a b).1, gPc p := fun p hp => by
  rcases mrg_mem hp with h | h
  · exact ha p h
  · exact hb p h
theorem mrg_comm (a b : List Pc) : mrg a b = mrg b a := by unfold mrg; rw [merge_comm]
theorem sameAll_refl (a : List Pc) : sameAll a a = true := sameAll_iff.2 rfl
def cutPs (l : List Pc) : List Pc := (l.take 8).map cutPc
theorem cutPs_g (l : List Pc) : ∀ p ∈ cutPs l, gPc p := by
  intro p hp
  obtain ⟨q, _, rfl⟩ := List.mem_map.1 hp
  exact gPc_cut q
theorem cutPs_le (l : List Pc) : (cutPs l).length ≤ 8 := by unfold cutPs; rw [List.length_map, List.length_take]; omega
def Rises (l : List Pc) : Prop := l.Pairwise fun x y => x.node < y.node
theorem order_spec (l k m : List Pc) : Pure Try.prog 3 [lPs l, lPs k, lPs m] (scb true) := by
  have cl := Cut_spec l
  have ck := Cut_spec k
  have cm := Cut_spec m
  have gl := cutPs_g l
  have gk := cutPs_g k
  have gm := cutPs_g m
  have nl := cutPs_le l
  have nk := cutPs_le k
  have nm := cutPs_le m
  have el : ∀ l : List Pc, (l.take 8).map cutPc = cutPs l := fun _ => rfl
  rw [el] at cl ck cm
  generalize cutPs l = L at *
  generalize cutPs k = K at *
  generalize cutPs m = M at *
  have s1 := Merge_spec L K gl gk (by omega)
  have s2 := Merge_spec K L gk gl (by omega)
  rw [mrg_comm K L] at s2
  have gA := mrg_g gl gk
  have nA := mrg_le L K
  have gD := mrg_g gk gm
  have nD := mrg_le K M
  have s3 := Merge_spec (mrg L K).1 M gA gm (by omega)
  have s4 := Merge_spec K M gk gm (by omega)
  have s5 := Merge_spec L (mrg K M).1 gl gD (by omega)
  have s6 := Merge_spec (mrg L K).1 [] gA (by simp) (by simp only [List.length_nil]; omega)
  have nC := mrg_le (mrg L K).1 M
  have nX := mrg_le L (mrg K M).1
  have nY := mrg_le (mrg L K).1 []
  have facts : ((mrg L K).2 = 4 ∧ (mrg L K).1 = []) ∨ ((mrg L K).2 = 0 ∧ Rises (mrg L K).1 ∧ (mrg L K).1.length = L.length + K.length ∧ mrg (mrg L K).1 [] = ((mrg L K).1, 0) ∧
      ((mrg (mrg L K).1 M).2 = 4 ∨ ((mrg (mrg L K).1 M).2 = 0 ∧ (mrg K M).2 = 0 ∧ mrg L (mrg K M).1 = mrg (mrg L K).1 M))) := by
    cases h : merge Pc.node L K with
    | none => left; simp [mrg, h]
    | some s =>
      have e : mrg L K = (s, 0) := by simp [mrg, h]
      rw [e]
      refine .inr ⟨rfl, merge_rises Pc.node h, merge_len Pc.node h, ?_, ?_⟩
      · simp [mrg, merge_nil Pc.node h]
      · cases h2 : merge Pc.node s M with
        | none => left; simp [mrg, h2]
        | some t =>
          obtain ⟨u, u1, u2⟩ := merge_assoc Pc.node h h2
          right
          simp [mrg, h2, u1, u2]
  clear gl gk gm gA gD
  generalize hA : mrg L K = A at *
  generalize hC : mrg A.1 M = C at *
  generalize hD : mrg K M = D at *
  generalize hX : mrg L D.1 = X at *
  generalize hY : mrg A.1 [] = Y at *
  obtain ⟨a, e⟩ := A
  obtain ⟨c, g⟩ := C
  obtain ⟨d, h⟩ := D
  obtain ⟨x, i⟩ := X
  obtain ⟨y, j⟩ := Y
  simp only at *
  clear hA hC hD hX hY
  
  refine pcall0 200 (fn := Try.f3) Try.func3 rfl (by simp [Try.ntmps3]) zB zB fun hs => ?_
  ((try refine zW ?_); (try with_reducible exact True.intro))
  (refine at_call 200 ?_; (refine zW ?_; try with_reducible exact True.intro); refine callA_of (cl) zB ?_; ((try refine zW ?_); (try with_reducible exact True.intro)))
  (refine at_call 200 ?_; (refine zW ?_; try with_reducible exact True.intro); refine callA_of (ck) zB ?_; ((try refine zW ?_); (try with_reducible exact True.intro)))
  (refine at_call 200 ?_; (refine zW ?_; try with_reducible exact True.intro); refine callA_of (cm) zB ?_; ((try refine zW ?_); (try with_reducible exact True.intro)))
  (refine at_call 200 ?_; (refine zW ?_; try with_reducible exact True.intro); refine callA_of (s1) zB ?_; ((try refine zW ?_); (try with_reducible exact True.intro)))
  (refine at_call 200 ?_; (refine zW ?_; try with_reducible exact True.intro); refine callA_of (s2) zB ?_; ((try refine zW ?_); (try with_reducible exact True.intro)))
  have nLp : L.length ≤ 1000 := by omega
  ((try refine zO ?_); (try with_reducible exact True.intro))
  (refine at_call 200 ?_; (refine zW ?_; try with_reducible exact True.intro); refine callA_of (Refs_spec a (by omega)) zB ?_; ((try refine zW ?_); (try with_reducible exact True.intro)))
  ((try refine zO ?_); (try with_reducible exact True.intro))
  (refine at_call 200 ?_; (refine zW ?_; try with_reducible exact True.intro); refine callA_of (Refs_spec a (by omega)) zB ?_; ((try refine zW ?_); (try with_reducible exact True.intro)))
  ((try refine zO ?_); (try with_reducible exact True.intro))
  (refine at_call 200 ?_; (refine zW ?_; try with_reducible exact True.intro); refine callA_of (All_spec a a) zB ?_; ((try refine zW ?_); (try with_reducible exact True.intro)))
  (try simp (maxSteps := 2000000) (disch := omega) only [go_sem, simprocAttr, if_pos, if_neg, w64, beqT, beqF, bneT, bneF, pr_get, ir_get, decide_eq_true, decide_eq_false, sameAll_refl])
  (refine walk_trim [0, 1, 2, 7, 8, 11] trivial zL ?_; ((try refine zW ?_); (try with_reducible exact True.intro)))
  have up : Rises a := by
    rcases facts with ⟨_, rfl⟩ | ⟨_, h, _⟩
    · exact .nil
    · exact h
  refine walk_loop 200 200 (fun i : Nat => 1 ≤ i) (fun i => ⟨134, [(0, lPs L), (1, lPs K), (2, lPs M), (7, lPs a), (8, sci .i64 e), (11, sci .i64 (i : Int))], [], 0, []⟩) (fun i => a.length - i) 1 (Nat.le_refl _) ?_ ?_
  · constructor <;> (try simp (maxSteps := 2000000) (disch := omega) only [go_sem, simprocAttr, if_pos, if_neg, w64, beqT, beqF, bneT, bneF, pr_get, ir_get, decide_eq_true, decide_eq_false, Int.natCast_one])
  · intro q hq
    obtain ⟨q, rfl⟩ : ∃ k, q = k + 1 := ⟨q - 1, by omega⟩
    ((try refine zW ?_); (try with_reducible exact True.intro))
    by_cases li : q + 1 < a.length
    · have li' : (q : Int) + 1 < (a.length : Int) := by omega
      have li2 : q < a.length := by omega
      have g1 : (pr ePc a)[q + 1]? = some (ePc a[q + 1]) := pr_get' (List.getElem?_eq_getElem li)
      have g2 : (pr ePc a)[q]? = some (ePc a[q]) := pr_get' (List.getElem?_eq_getElem li2)
      have tn : ((q : Int) + 1).toNat = q + 1 := rfl
      have lt := List.pairwise_iff_getElem.1 up q (q + 1) li2 li (by omega)
      have nge : ¬ a[q + 1].node ≤ a[q].node := by omega
      (try simp (maxSteps := 2000000) (disch := omega) only [go_sem, simprocAttr, if_pos, if_neg, w64, beqT, beqF, bneT, bneF, pr_get, ir_get, decide_eq_true, decide_eq_false, li'])
      (refine walk_trim [0, 1, 2, 7, 8, 11] trivial zL ?_; (refine zW ?_; try with_reducible exact True.intro); refine irun_walk (id := 11) (n := 200) [none, none, none, none, none, none, none, none, none, none, none, none] mixed (by kernel_rfl) ?_)
      (try simp (maxSteps := 2000000) (disch := omega) only [go_sem, simprocAttr, if_pos, if_neg, w64, beqT, beqF, bneT, bneF, pr_get, ir_get, decide_eq_true, decide_eq_false, g1, g2, ePc, tn, Int.add_sub_cancel, nge])
      refine ⟨q + 1 + 1, by omega, by omega, ?_⟩
      constructor <;> (try simp (maxSteps := 2000000) (disch := omega) only [go_sem, simprocAttr, if_pos, if_neg, w64, beqT, beqF, bneT, bneF, pr_get, ir_get, decide_eq_true, decide_eq_false, Int.natCast_add, Int.natCast_one])
      all_goals omega
    · have li' : ¬ ((q : Int) + 1 < (a.length : Int)) := by omega
      (try simp (maxSteps := 2000000) (disch := omega) only [go_sem, simprocAttr, if_pos, if_neg, w64, beqT, beqF, bneT, bneF, pr_get, ir_get, decide_eq_true, decide_eq_false, li'])
      rcases facts with ⟨e1, -⟩ | ⟨e1, -, hlen, e2, e3⟩
      · (try simp (maxSteps := 2000000) (disch := omega) only [go_sem, simprocAttr, if_pos, if_neg, w64, beqT, beqF, bneT, bneF, pr_get, ir_get, decide_eq_true, decide_eq_false, e1])
        (refine at_call 200 ?_; (refine zW ?_; try with_reducible exact True.intro); refine callA_of (fixed_spec) zB ?_; ((try refine zW ?_); (try with_reducible exact True.intro)))
      · simp only [Prod.mk.injEq] at e2
        obtain ⟨e2, e2'⟩ := e2
        (try simp (maxSteps := 2000000) (disch := omega) only [go_sem, simprocAttr, if_pos, if_neg, w64, beqT, beqF, bneT, bneF, pr_get, ir_get, decide_eq_true, decide_eq_false, e1])
        (refine at_call 200 ?_; (refine zW ?_; try with_reducible exact True.intro); refine callA_of (s3) zB ?_; ((try refine zW ?_); (try with_reducible exact True.intro)))
        ((try refine zO ?_); (try with_reducible exact True.intro))
        (refine at_call 200 ?_; (refine zW ?_; try with_reducible exact True.intro); refine callA_of (s4) zB ?_; ((try refine zW ?_); (try with_reducible exact True.intro)))
        ((try refine zO ?_); (try with_reducible exact True.intro))
        (refine at_call 200 ?_; (refine zW ?_; try with_reducible exact True.intro); refine callA_of (s5) zB ?_; ((try refine zW ?_); (try with_reducible exact True.intro)))
        ((try refine zO ?_); (try with_reducible exact True.intro))
        (refine at_call 200 ?_; (refine zW ?_; try with_reducible exact True.intro); refine callA_of (s6) zB ?_; ((try refine zW ?_); (try with_reducible exact True.intro)))
        (try simp (maxSteps := 2000000) (disch := omega) only [go_sem, simprocAttr, if_pos, if_neg, w64, beqT, beqF, bneT, bneF, pr_get, ir_get, decide_eq_true, decide_eq_false, e2, e2'])
        have hsum : ((a.length : Int) == (L.length : Int) + (K.length : Int)) = true := by rw [beq_iff_eq]; omega
        rcases e3 with e3 | ⟨e3, e4, e5⟩
        · (try simp (maxSteps := 2000000) (disch := omega) only [go_sem, simprocAttr, if_pos, if_neg, w64, beqT, beqF, bneT, bneF, pr_get, ir_get, decide_eq_true, decide_eq_false, e3])
          (refine at_call 200 ?_; (refine zW ?_; try with_reducible exact True.intro); refine callA_of (Refs_spec a (by omega)) zB ?_; ((try refine zW ?_); (try with_reducible exact True.intro)))
          ((try refine zO ?_); (try with_reducible exact True.intro))
          (refine at_call 200 ?_; (refine zW ?_; try with_reducible exact True.intro); refine callA_of (Refs_spec a (by omega)) zB ?_; ((try refine zW ?_); (try with_reducible exact True.intro)))
          ((try refine zO ?_); (try with_reducible exact True.intro))
          (refine at_call 200 ?_; (refine zW ?_; try with_reducible exact True.intro); refine callA_of (All_spec a a) zB ?_; ((try refine zW ?_); (try with_reducible exact True.intro)))
          (try simp (maxSteps := 2000000) (disch := omega) only [go_sem, simprocAttr, if_pos, if_neg, w64, beqT, beqF, bneT, bneF, pr_get, ir_get, decide_eq_true, decide_eq_false, sameAll_refl, hsum])
          (refine at_call 200 ?_; (refine zW ?_; try with_reducible exact True.intro); refine callA_of (fixed_spec) zB ?_; ((try refine zW ?_); (try with_reducible exact True.intro)))
          ((try refine zO ?_); (try with_reducible exact True.intro))
        · simp only [Prod.mk.injEq] at e5
          obtain ⟨rfl, e6⟩ := e5
          rw [e3] at e6
          (try simp (maxSteps := 2000000) (disch := omega) only [go_sem, simprocAttr, if_pos, if_neg, w64, beqT, beqF, bneT, bneF, pr_get, ir_get, decide_eq_true, decide_eq_false, e3, e4, e6])
          (refine at_call 200 ?_; (refine zW ?_; try with_reducible exact True.intro); refine callA_of (Refs_spec x (by omega)) zB ?_; ((try refine zW ?_); (try with_reducible exact True.intro)))
          ((try refine zO ?_); (try with_reducible exact True.intro))
          (refine at_call 200 ?_; (refine zW ?_; try with_reducible exact True.intro); refine callA_of (Refs_spec x (by omega)) zB ?_; ((try refine zW ?_); (try with_reducible exact True.intro)))
          ((try refine zO ?_); (try with_reducible exact True.intro))
          (refine at_call 200 ?_; (refine zW ?_; try with_reducible exact True.intro); refine callA_of (All_spec x x) zB ?_; ((try refine zW ?_); (try with_reducible exact True.intro)))
          (try simp (maxSteps := 2000000) (disch := omega) only [go_sem, simprocAttr, if_pos, if_neg, w64, beqT, beqF, bneT, bneF, pr_get, ir_get, decide_eq_true, decide_eq_false, sameAll_refl])
          (refine at_call 200 ?_; (refine zW ?_; try with_reducible exact True.intro); refine callA_of (Refs_spec a (by omega)) zB ?_; ((try refine zW ?_); (try with_reducible exact True.intro)))
          ((try refine zO ?_); (try with_reducible exact True.intro))
          (refine at_call 200 ?_; (refine zW ?_; try with_reducible exact True.intro); refine callA_of (Refs_spec a (by omega)) zB ?_; ((try refine zW ?_); (try with_reducible exact True.intro)))
          ((try refine zO ?_); (try with_reducible exact True.intro))
          (refine at_call 200 ?_; (refine zW ?_; try with_reducible exact True.intro); refine callA_of (All_spec a a) zB ?_; ((try refine zW ?_); (try with_reducible exact True.intro)))
          (try simp (maxSteps := 2000000) (disch := omega) only [go_sem, simprocAttr, if_pos, if_neg, w64, beqT, beqF, bneT, bneF, pr_get, ir_get, decide_eq_true, decide_eq_false, sameAll_refl, hsum])
          (refine at_call 200 ?_; (refine zW ?_; try with_reducible exact True.intro); refine callA_of (fixed_spec) zB ?_; ((try refine zW ?_); (try with_reducible exact True.intro)))
          ((try refine zO ?_); (try with_reducible exact True.intro))
end Go.Proofs.GR
