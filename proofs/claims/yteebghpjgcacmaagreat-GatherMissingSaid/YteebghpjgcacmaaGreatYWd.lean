/- Pieces of which one is missing, or stands twice, or out of order: the law's walk. -/
import Derived.Test.YteebghpjgcacmaaGreatYWc
import Derived.Test.YteebghpjgcacmaaGreatYPM
set_option linter.unusedSimpArgs false
set_option linter.unusedVariables false
namespace Go.Proofs.GY
open Go Go.Idl Go.Proofs Go.GP
set_option maxHeartbeats 20000000
set_option maxRecDepth 100000
theorem okNd_cut (n : Nd) : OkNd (cutNd n) := by
  refine ⟨by simp only [cutNd, List.length_map, List.length_take]; omega, fun s hs => ?_⟩
  obtain ⟨t, _, rfl⟩ := List.mem_map.1 hs
  refine ⟨?_, ?_, fun p hp => ?_, ?_⟩
  · simp only [cutSt, List.length_take]; omega
  · simp only [cutSt, List.length_map, List.length_take]; omega
  · obtain ⟨q, _, rfl⟩ := List.mem_map.1 hp
    simp only [cutP, List.length_take]; omega
  · simp only [cutSt, List.length_take]; omega
theorem ok_cut (s : Sc) : (cutSc s).T.length ≤ 8 ∧ (cutSc s).ls.length ≤ 1000000 ∧ ∀ n ∈ (cutSc s).T, OkNd n := by
  refine ⟨by simp only [cutSc, List.length_map, List.length_take]; omega, by simp only [cutSc, List.length_take]; omega, fun n hn => ?_⟩
  obtain ⟨m, _, rfl⟩ := List.mem_map.1 hn
  exact okNd_cut m
theorem small_ok {T : List Nd} (h8 : T.length ≤ 8) (h : ∀ n ∈ T, OkNd n) : SmallT T := by
  refine ⟨by omega, fun n x hx => ?_⟩
  obtain ⟨a, b⟩ := h x (List.mem_of_getElem? hx)
  refine ⟨by omega, fun j s hs => ?_⟩
  obtain ⟨c1, c2, c3, c4⟩ := b s (List.mem_of_getElem? hs)
  exact ⟨by omega, by omega, by omega⟩
def cutPs (l : List Pc) : List Pc := (l.take 8).map cutPc
theorem cutPs_g (l : List Pc) : ∀ p ∈ cutPs l, gPc p := by
  intro p hp
  obtain ⟨q, _, rfl⟩ := List.mem_map.1 hp
  exact gPc_cut q
theorem cutPs_le (l : List Pc) : (cutPs l).length ≤ 8 := by unfold cutPs; rw [List.length_map, List.length_take]; omega
theorem Missing_pure (s0 : Sc) (l0 : List Pc) (at0 : Nat) (ha : at0 < 256) : Pure Tryz.prog 5 [lApp s0, lPs l0, .p (.sc (.int .u8 at0))] (scb true) := by
  obtain ⟨k8, kl, ko⟩ := ok_cut s0
  have cl := Cut_spec l0
  have gl := cutPs_g l0
  have nl := cutPs_le l0
  rw [show (l0.take 8).map cutPc = cutPs l0 from rfl] at cl
  generalize cutPs l0 = l at *
  
  refine pcall0 200 (fn := Tryz.f5) Tryz.func5 rfl (by simp [Tryz.ntmps5]) zB zB fun hs => ?_
  ((try refine zW ?_); (try with_reducible exact True.intro))
  (refine at_call 200 ?_; (refine zW ?_; try with_reducible exact True.intro); refine callA_of (L5Cut_spec s0) zB ?_; ((try refine zW ?_); (try with_reducible exact True.intro)))
  generalize cutSc s0 = s at *
  have hT := small_ok k8 ko
  obtain ⟨N, ls, T, ff, room, acts⟩ := s
  simp only at k8 kl ko hT
  ((try refine zO ?_); (try with_reducible exact True.intro))
  (refine at_call 200 ?_; (refine zW ?_; try with_reducible exact True.intro); refine callA_of (cl) zB ?_; ((try refine zW ?_); (try with_reducible exact True.intro)))
  ((try refine zO ?_); (try with_reducible exact True.intro))
  (refine at_call 200 ?_; (refine zW ?_; try with_reducible exact True.intro); refine callA_of (L5App_spec ⟨N, ls, T, ff, room, acts⟩ k8 ko) zB ?_; ((try refine zW ?_); (try with_reducible exact True.intro)))
  ((try refine zO ?_); (try with_reducible exact True.intro))
  (refine walk_trim [1, 2, 3, 7] trivial zL ?_; (refine zW ?_; try with_reducible exact True.intro); refine irun_walk (id := 4) (n := 200) [none, none, none, none, some [], none, none, none, none, some [7], some [], none, none] mixed (by kernel_rfl) ?_)
  ((try refine zO ?_); (try with_reducible exact True.intro))
  (refine at_dcall ?_; (refine zW ?_; try with_reducible exact True.intro); refine callA_of (R4Right_spec N ls T hT) zB ?_; ((try refine zW ?_); (try with_reducible exact True.intro)))
  by_cases hR : TabP N ls T
  rotate_left
  · have e := tB_neg hR
    have e2 : tB (WholeP N ls T l) = false := tB_neg fun h => hR h.1
    (try simp (maxSteps := 2000000) (disch := omega) only [go_sem, simprocAttr, if_pos, if_neg, w64, beqT, beqF, bneT, bneF, pr_get, ir_get, decide_eq_true, decide_eq_false, e])
    (refine at_call 200 ?_; (refine zW ?_; try with_reducible exact True.intro); refine callA_of (Whole_spec ⟨N, ls, T, ff, room, acts⟩ l kl hT gl) zB ?_; ((try refine zW ?_); (try with_reducible exact True.intro)))
    (try simp (maxSteps := 2000000) (disch := omega) only [go_sem, simprocAttr, if_pos, if_neg, w64, beqT, beqF, bneT, bneF, pr_get, ir_get, decide_eq_true, decide_eq_false, e2])
    (refine at_call 200 ?_; (refine zW ?_; try with_reducible exact True.intro); refine callA_of (fixed_spec) zB ?_; ((try refine zW ?_); (try with_reducible exact True.intro)))
  have e := tB_pos hR
  (try simp (maxSteps := 2000000) (disch := omega) only [go_sem, simprocAttr, if_pos, if_neg, w64, beqT, beqF, bneT, bneF, pr_get, ir_get, decide_eq_true, decide_eq_false, e])
  (refine at_dcall ?_; (refine zW ?_; try with_reducible exact True.intro); refine callA_of (Refs_spec l (by omega)) zB ?_; ((try refine zW ?_); (try with_reducible exact True.intro)))
  ((try refine zO ?_); (try with_reducible exact True.intro))
  (refine at_dcall ?_; (refine zW ?_; try with_reducible exact True.intro); refine callA_of (R13Whole_spec ⟨N, ls, T, ff, room, acts⟩ l kl hT gl) zB ?_; ((try refine zW ?_); (try with_reducible exact True.intro)))
  by_cases hW : WholeP N ls T l
  rotate_left
  · have e2 : tB (WholeP N ls T l) = false := tB_neg hW
    (try simp (maxSteps := 2000000) (disch := omega) only [go_sem, simprocAttr, if_pos, if_neg, w64, beqT, beqF, bneT, bneF, pr_get, ir_get, decide_eq_true, decide_eq_false, e2])
    (refine at_call 200 ?_; (refine zW ?_; try with_reducible exact True.intro); refine callA_of (Whole_spec ⟨N, ls, T, ff, room, acts⟩ l kl hT gl) zB ?_; ((try refine zW ?_); (try with_reducible exact True.intro)))
    (try simp (maxSteps := 2000000) (disch := omega) only [go_sem, simprocAttr, if_pos, if_neg, w64, beqT, beqF, bneT, bneF, pr_get, ir_get, decide_eq_true, decide_eq_false, e2])
    (refine at_call 200 ?_; (refine zW ?_; try with_reducible exact True.intro); refine callA_of (fixed_spec) zB ?_; ((try refine zW ?_); (try with_reducible exact True.intro)))
  have eW := tB_pos hW
  have hN1 : 1 ≤ N := by have := hR.1; have := this.1; omega
  have hln : (l.length : Int) = N := hW.2.1
  obtain ⟨k, hke⟩ : ∃ k, k = at0 % l.length := ⟨_, rfl⟩
  obtain ⟨k2, hke2⟩ : ∃ k2, k2 = (k + 1) % l.length := ⟨_, rfl⟩
  have hm : (at0 : Int).tmod (l.length : Int) = (k : Int) := by rw [Int.tmod_eq_emod_of_nonneg (by omega), hke]; rfl
  have hm2 : ((k : Int) + 1).tmod (l.length : Int) = (k2 : Int) := by rw [Int.tmod_eq_emod_of_nonneg (by omega), hke2]; rfl
  have hk : k < l.length := by rw [hke]; exact Nat.mod_lt _ (by omega)
  have hk2 : k2 < l.length := by rw [hke2]; exact Nat.mod_lt _ (by omega)
  have tk : ((k : Int) + 1).toNat = k + 1 := rfl
  have mk : min k l.length = k := by omega
  have mt : (l.take k).take k = l.take k := by rw [List.take_take, Nat.min_self]
  have md : (l.drop (k + 1)).take (l.length - (k + 1)) = l.drop (k + 1) := List.take_of_length_le (by rw [List.length_drop]; omega)
  have iset : ∀ p : Pc, (ir ePc l).set k ((ePc p).map .p) = ir ePc (l.set k p) := fun p => by simp [ir, List.map_set]
  clear hke
  (try simp (maxSteps := 2000000) (disch := omega) only [go_sem, simprocAttr, if_pos, if_neg, w64, beqT, beqF, bneT, bneF, pr_get, ir_get, decide_eq_true, decide_eq_false, eW, hm, hm2, tk, mk, mt, md, ePc])
  obtain ⟨L1, hL1⟩ : ∃ L1, L1 = l.take k ++ l.drop (k + 1) := ⟨_, rfl⟩
  obtain ⟨L2, hL2⟩ : ∃ L2, L2 = l ++ [l[k]] := ⟨_, rfl⟩
  obtain ⟨L3, hL3⟩ : ∃ L3, L3 = l.set k l[k2] := ⟨_, rfl⟩
  have l1 : L1.length = k + (l.length - (k + 1)) := by rw [hL1, List.length_append, List.length_take, List.length_drop]; omega
  have l2 : L2.length = l.length + 1 := by rw [hL2]; simp
  have l3 : L3.length = l.length := by rw [hL3]; simp
  have e1 : ir ePc l ++ [(ePc l[k]).map .p] = ir ePc L2 := by rw [hL2, ir_snoc]
  have e3 : (ir ePc l).set k ((ePc l[k2]).map .p) = ir ePc L3 := by rw [hL3, iset]
  simp only [ePc, List.map_cons, List.map_nil] at e1 e3
  have t1 : ∀ L : List Pc, ∀ n, L.length = n → (ir ePc L).take n = ir ePc L := fun L n h => List.take_of_length_le (by simp [ir]; omega)
  have t11 := t1 L1 _ l1
  have t12 := t1 L2 _ l2
  have t13 := t1 L3 _ l3
  have g1 : ∀ p ∈ L1, gPc p := fun p hp => gl p (by
    rw [hL1] at hp
    rcases List.mem_append.1 hp with h | h
    · exact List.mem_of_mem_take h
    · exact List.mem_of_mem_drop h)
  have g2 : ∀ p ∈ L2, gPc p := fun p hp => gl p (by
    rw [hL2] at hp
    rcases List.mem_append.1 hp with h | h
    · exact h
    · rw [List.mem_singleton.1 h]; exact List.getElem_mem hk)
  have g3 : ∀ p ∈ L3, gPc p := fun p hp => gl p (by
    rw [hL3] at hp
    rcases List.mem_or_eq_of_mem_set hp with h | h
    · exact h
    · rw [h]; exact List.getElem_mem hk2)
  have n1 : ¬ WholeP N ls T L1 := fun h => by have := h.2.1; omega
  have n2 : ¬ WholeP N ls T L2 := fun h => by have := h.2.1; omega
  have n3 : l.length ≠ 1 → ¬ WholeP N ls T L3 := fun h1 h => by
    have q := (h.2.2 k l[k2] (by rw [hL3, List.getElem?_set_self hk])).1
    have q2 := (hW.2.2 k2 l[k2] (List.getElem?_eq_getElem hk2)).1
    have hkk : k = (k + 1) % l.length := by omega
    rcases Nat.lt_or_ge (k + 1) l.length with h2 | h2
    · rw [Nat.mod_eq_of_lt h2] at hkk; omega
    · have e9 : k + 1 = l.length := by omega
      rw [e9, Nat.mod_self] at hkk; omega
  have w1 := tB_neg n1
  have w2 := tB_neg n2
  rw [← hL1]
  refine walk_fcut 200 [2, 3, 4] ⟨127, [(1, lPs l), (3, .ptr 0 0 0 0), (9, lPs L1), (10, lPs L2), (11, lPs L3), (83, .agg [sci .i64 N, lII ls, .p (.imm 2 (pr eNd T)), scb ff]), (84, lPs L1)], [], 5, [(0, .arr 4 0 [[sci .i64 N, lII ls, .p (.imm 2 (pr eNd T)), scb ff]])]⟩ trivial ?_ ?_
  · constructor <;> (try simp (maxSteps := 2000000) only [go_sem, simprocAttr, e1, e3, t11, t12, t13, List.mem_cons])
  clear e1 e3 t11 t12 t13 t1 iset md mt
  ((try refine zW ?_); (try with_reducible exact True.intro))
  (refine at_call 200 ?_; (refine zW ?_; try with_reducible exact True.intro); refine callA_of (BuildNo_spec ⟨N, ls, T, ff, room, acts⟩ L1 true kl hT g1 n1) zB ?_; ((try refine zW ?_); (try with_reducible exact True.intro)))
  ((try refine zO ?_); (try with_reducible exact True.intro))
  (refine at_call 200 ?_; (refine zW ?_; try with_reducible exact True.intro); refine callA_of (BuildNo_spec ⟨N, ls, T, ff, room, acts⟩ L2 false kl hT g2 n2) zB ?_; ((try refine zW ?_); (try with_reducible exact True.intro)))
  ((try refine zO ?_); (try with_reducible exact True.intro))
  (refine at_call 200 ?_; (refine zW ?_; try with_reducible exact True.intro); refine callA_of (Whole_spec ⟨N, ls, T, ff, room, acts⟩ L1 kl hT g1) zB ?_; ((try refine zW ?_); (try with_reducible exact True.intro)))
  (try simp (maxSteps := 2000000) (disch := omega) only [go_sem, simprocAttr, if_pos, if_neg, w64, beqT, beqF, bneT, bneF, pr_get, ir_get, decide_eq_true, decide_eq_false, w1])
  (refine at_call 200 ?_; (refine zW ?_; try with_reducible exact True.intro); refine callA_of (Whole_spec ⟨N, ls, T, ff, room, acts⟩ L2 kl hT g2) zB ?_; ((try refine zW ?_); (try with_reducible exact True.intro)))
  (try simp (maxSteps := 2000000) (disch := omega) only [go_sem, simprocAttr, if_pos, if_neg, w64, beqT, beqF, bneT, bneF, pr_get, ir_get, decide_eq_true, decide_eq_false, w2])
  (refine at_call 200 ?_; (refine zW ?_; try with_reducible exact True.intro); refine callA_of (Whole_spec ⟨N, ls, T, ff, room, acts⟩ l kl hT gl) zB ?_; ((try refine zW ?_); (try with_reducible exact True.intro)))
  by_cases h1 : l.length = 1
  · (try simp (maxSteps := 2000000) (disch := omega) only [go_sem, simprocAttr, if_pos, if_neg, w64, beqT, beqF, bneT, bneF, pr_get, ir_get, decide_eq_true, decide_eq_false, eW, h1])
    (refine at_call 200 ?_; (refine zW ?_; try with_reducible exact True.intro); refine callA_of (fixed_spec) zB ?_; ((try refine zW ?_); (try with_reducible exact True.intro)))
  · have w3 := tB_neg (n3 h1)
    (try simp (maxSteps := 2000000) (disch := omega) only [go_sem, simprocAttr, if_pos, if_neg, w64, beqT, beqF, bneT, bneF, pr_get, ir_get, decide_eq_true, decide_eq_false, eW, h1])
    (refine at_call 200 ?_; (refine zW ?_; try with_reducible exact True.intro); refine callA_of (Whole_spec ⟨N, ls, T, ff, room, acts⟩ L3 kl hT g3) zB ?_; ((try refine zW ?_); (try with_reducible exact True.intro)))
    (try simp (maxSteps := 2000000) (disch := omega) only [go_sem, simprocAttr, if_pos, if_neg, w64, beqT, beqF, bneT, bneF, pr_get, ir_get, decide_eq_true, decide_eq_false, w3])
    (refine at_call 200 ?_; (refine zW ?_; try with_reducible exact True.intro); refine callA_of (fixed_spec) zB ?_; ((try refine zW ?_); (try with_reducible exact True.intro)))
theorem Missing_int (s0 : Sc) (l0 : List Pc) (n : Int) (h : IntKind.u8.min ≤ n ∧ n ≤ IntKind.u8.max) : Pure Tryz.prog 5 [lApp s0, lPs l0, .p (.sc (.int .u8 n))] (scb true) := by
  obtain ⟨h1, h2⟩ := h
  have h1 : (0 : Int) ≤ n := h1
  have h2 : n ≤ 255 := h2
  obtain ⟨k, rfl⟩ := Int.eq_ofNat_of_zero_le h1
  exact Missing_pure s0 l0 k (by omega)
end Go.Proofs.GY
