/- What a host tells: the law's walk. -/
import Derived.Test.YtnbhjoopcaaafaaGreatHP9
import Derived.Test.YtnbhjoopcaaafaaGreatHP4
import Derived.Test.YtnbhjoopcaaafaaGreatHM
set_option linter.unusedSimpArgs false
set_option linter.unusedVariables false
namespace Go.Proofs.HO
open Go Go.Idl Go.Proofs Go.GP
set_option maxHeartbeats 20000000
set_option maxRecDepth 100000
theorem okNd_cut (n : Nd) : OkNd (cutNd n) := by
  refine ⟨by simp only [cutNd, List.length_map, List.length_take]; omega, fun s hs => ?_⟩
  obtain ⟨t, _, rfl⟩ := List.mem_map.1 hs
  refine ⟨?_, ?_, fun p hp => ?_, ?_⟩
  · simp only [cutSt, List.length_take]; omega
  · simp only [cutSt, List.length_map, List.length_take]; omega
  · obtain ⟨q, _, rfl⟩ := List.mem_map.1 hp
    simp only [cutP, List.length_take]; omega
  · simp only [cutSt, List.length_take]; omega
theorem ok_cut (s : Sc) : (cutSc s).T.length ≤ 8 ∧ (cutSc s).ls.length ≤ 1000000 ∧ ∀ n ∈ (cutSc s).T, OkNd n := by
  refine ⟨by simp only [cutSc, List.length_map, List.length_take]; omega, by simp only [cutSc, List.length_take]; omega, fun n hn => ?_⟩
  obtain ⟨m, _, rfl⟩ := List.mem_map.1 hn
  exact okNd_cut m
theorem small_ok {T : List Nd} (h8 : T.length ≤ 8) (h : ∀ n ∈ T, OkNd n) : SmallT T := by
  refine ⟨by omega, fun n x hx => ?_⟩
  obtain ⟨a, b⟩ := h x (List.mem_of_getElem? hx)
  refine ⟨by omega, fun j s hs => ?_⟩
  obtain ⟨c1, c2, c3, c4⟩ := b s (List.mem_of_getElem? hs)
  exact ⟨by omega, by omega, by omega⟩
def eZ (_ : Unit) : List PV := [.sc (.slice none 0 0)]
theorem PieceG_spec (h : Hs) (hg : gHs h) {X : List Int} {Z : List Unit} (hX : X = h.out.map fun l => (l.length : Int)) (hZ : Z = List.replicate h.inn.length ()) :
    Pure Tryz.prog 31 [lHs h, scb false] (.agg [sci .i64 h.node, sci .i64 h.state, sci .i64 h.steps, lI X, .p (.imm 1 (pr eZ Z)), nil0]) := by
  have e : pr eZ Z = List.replicate h.inn.length [PV.sc (.slice none 0 0)] := by rw [hZ]; simp [pr, eZ]
  rw [e, hX]
  exact PieceF_spec h hg
theorem PieceU_spec (h : Hs) (hg : gHs h) {X : List Int} (hX : X = h.out.map fun l => (l.length : Int)) :
    Pure Tryz.prog 31 [lHs h, scb true] (lPc ⟨h.node, h.state, h.steps, X, h.inn, h.out⟩) := by rw [hX]; exact PieceT_spec h hg
theorem HostTells_pure (s0 : Sc) (h0 : Hs) : Pure Tryz.prog 8 [lApp s0, lHs h0] (scb true) := by
  obtain ⟨k8, kl, ko⟩ := ok_cut s0
  have hg := gHs_cut h0
  
  refine pcall0 200 (fn := Tryz.f8) Tryz.func8 rfl (by simp [Tryz.ntmps8]) zB zB fun hs => ?_
  ((try refine zW ?_); (try with_reducible exact True.intro))
  (refine at_call 200 ?_; (refine zW ?_; try with_reducible exact True.intro); refine callA_of (L5Cut_spec s0) zB ?_; ((try refine zW ?_); (try with_reducible exact True.intro)))
  ((try refine zW ?_); (try with_reducible exact True.intro))
  (refine at_call 200 ?_; (refine zW ?_; try with_reducible exact True.intro); refine callA_of (L9cut_spec h0) zB ?_; ((try refine zW ?_); (try with_reducible exact True.intro)))
  generalize cutSc s0 = s at *
  generalize cutHs h0 = h at *
  have hT := small_ok k8 ko
  obtain ⟨N, ls, T, ff, room, acts⟩ := s
  obtain ⟨node, state, steps, inn, out⟩ := h
  have hg2 := hg
  obtain ⟨b2, b3, b4, b5⟩ := hg2
  simp only at k8 kl ko hT b2 b3 b4 b5
  ((try refine zW ?_); (try with_reducible exact True.intro))
  (refine walk_trim [2, 3] trivial zL ?_; (refine zW ?_; try with_reducible exact True.intro); refine irun_walk (id := 3) (n := 200) [none, some [2], none, some [], some [], none] mixed (by kernel_rfl) ?_)
  ((try refine zW ?_); (try with_reducible exact True.intro))
  (refine at_dcall ?_; (refine zW ?_; try with_reducible exact True.intro); refine callA_of (L5App_spec ⟨N, ls, T, ff, room, acts⟩ k8 ko) zB ?_; ((try refine zW ?_); (try with_reducible exact True.intro)))
  ((try refine zW ?_); (try with_reducible exact True.intro))
  (refine at_dcall ?_; (refine zW ?_; try with_reducible exact True.intro); refine callA_of (L9Ref_spec ⟨node, state, steps, inn, out⟩) zB ?_; ((try refine zW ?_); (try with_reducible exact True.intro)))
  ((try refine zW ?_); (try with_reducible exact True.intro))
  (refine at_dcall ?_; (refine zW ?_; try with_reducible exact True.intro); refine callA_of (R9Right_spec ⟨N, ls, T, ff, room, acts⟩ ⟨node, state, steps, inn, out⟩ kl hT hg) zB ?_; ((try refine zW ?_); (try with_reducible exact True.intro)))
  by_cases hH : HostP N ls T ⟨node, state, steps, inn, out⟩
  · have eH := tB_pos hH
    (try simp (maxSteps := 2000000) (disch := omega) only [go_sem, simprocAttr, if_pos, if_neg, w64, beqT, beqF, bneT, bneF, pr_get, ir_get, decide_eq_true, decide_eq_false, eH])
    (refine walk_trim [3] trivial zL ?_; (refine zW ?_; try with_reducible exact True.intro); refine irun_walk (id := 5) (n := 200) [none, some [2, 4, 5], none, some [4, 5], some [0, 1, 2, 3, 5], some [0, 1, 2, 3, 4], some [], some []] mixed (by kernel_rfl) ?_)
    obtain ⟨X, hX⟩ : ∃ X : List Int, X = out.map fun l => (l.length : Int) := ⟨_, rfl⟩
    obtain ⟨Z, hZ⟩ : ∃ Z : List Unit, Z = List.replicate inn.length () := ⟨_, rfl⟩
    have hXl : X.length = out.length := by rw [hX, List.length_map]
    have hZl : Z.length = inn.length := by rw [hZ, List.length_replicate]
    have hXs : ∀ (i : Nat) (li : i < out.length) (lx : i < X.length), X[i] = (out[i].length : Int) := fun i li lx => by
      subst hX; rw [List.getElem_map]
    ((try refine zW ?_); (try with_reducible exact True.intro))
    (refine at_dcall ?_; (refine zW ?_; try with_reducible exact True.intro); refine callA_of (PieceU_spec ⟨node, state, steps, inn, out⟩ hg hX) zB ?_; ((try refine zW ?_); (try with_reducible exact True.intro)))
    ((try refine zW ?_); (try with_reducible exact True.intro))
    (refine at_dcall ?_; (refine zW ?_; try with_reducible exact True.intro); refine callA_of (PieceG_spec ⟨node, state, steps, inn, out⟩ hg hX hZ) zB ?_; ((try refine zW ?_); (try with_reducible exact True.intro)))
    clear hX hZ
    (try simp (maxSteps := 2000000) (disch := omega) only [go_sem, simprocAttr, if_pos, if_neg, w64, beqT, beqF, bneT, bneF, pr_get, ir_get, decide_eq_true, decide_eq_false, hXl, hZl])
    (refine walk_trim [3, 5, 6, 7] trivial zL ?_; ((try refine zW ?_); (try with_reducible exact True.intro)))
    refine walk_floop 200 200 (fun i : Nat => i ≤ out.length)
      (fun i => ⟨175, [(3, .ptr 1 0 0 0), (5, .ptr 2 0 0 0), (6, .ptr 3 0 0 0), (7, sci .i64 i)], [], 4, [(3, .arr 6 0 [[sci .i64 node, sci .i64 state, sci .i64 steps, lI X, .p (.imm 1 (pr eZ Z)), .p (.sc (.slice none 0 0))]]), (2, .arr 6 0 [[sci .i64 node, sci .i64 state, sci .i64 steps, lI X, lMs inn, lLs out]]), (1, .arr 5 0 [[sci .i64 node, sci .i64 state, sci .i64 steps, lMs inn, lLs out]])]⟩) (fun i => out.length - i) (0) [] ?_ ?_ ?_
    · simp
    · constructor <;> (try simp (maxSteps := 2000000) (disch := omega) only [go_sem, simprocAttr, if_pos, if_neg, w64, beqT, beqF, bneT, bneF, pr_get, ir_get, decide_eq_true, decide_eq_false, Int.natCast_zero, List.take_of_length_le, List.append_assoc, hXl, hZl])
    · rintro i hi
      ((try refine zW ?_); (try with_reducible exact True.intro))
      by_cases li : i < out.length
      · have hx := hXs i li (by omega)
        have lx : i < X.length := by omega
        (try simp (maxSteps := 2000000) (disch := omega) only [go_sem, simprocAttr, if_pos, if_neg, w64, beqT, beqF, bneT, bneF, pr_get, ir_get, decide_eq_true, decide_eq_false, eLs, eI])
        (refine walk_trim [3, 5, 6, 7] trivial zL ?_; (refine zW ?_; try with_reducible exact True.intro); refine irun_walk (id := 11) (n := 200) [none, none, none, none, none, none, none, none, none, none, none, none, none, none, none, none, none, none, none, none, none, none, none, none, none, none, none, none, none, none, none, none, none, none, none, none, none, none, none] mixed (by kernel_rfl) ?_)
        (try simp (maxSteps := 2000000) (disch := omega) only [go_sem, simprocAttr, if_pos, if_neg, w64, beqT, beqF, bneT, bneF, pr_get, ir_get, decide_eq_true, decide_eq_false, eLs, eI, hx])
        refine ⟨i + 1, [], li, by omega, ?_⟩
        constructor <;> ((try refine zO ?_); (try with_reducible exact True.intro))
      · obtain rfl : i = out.length := by omega
        (try simp (maxSteps := 2000000) (disch := omega) only [go_sem, simprocAttr, if_pos, if_neg, w64, beqT, beqF, bneT, bneF, pr_get, ir_get, decide_eq_true, decide_eq_false, hXl, hZl])
        (refine walk_trim [3, 5, 6, 8] trivial zL ?_; ((try refine zW ?_); (try with_reducible exact True.intro)))
        refine walk_floop 200 200 (fun j : Nat => j ≤ inn.length)
          (fun j => ⟨175, [(3, .ptr 1 0 0 0), (5, .ptr 2 0 0 0), (6, .ptr 3 0 0 0), (8, sci .i64 j)], [], 4, [(3, .arr 6 0 [[sci .i64 node, sci .i64 state, sci .i64 steps, lI X, .p (.imm 1 (pr eZ Z)), .p (.sc (.slice none 0 0))]]), (2, .arr 6 0 [[sci .i64 node, sci .i64 state, sci .i64 steps, lI X, lMs inn, lLs out]]), (1, .arr 5 0 [[sci .i64 node, sci .i64 state, sci .i64 steps, lMs inn, lLs out]])]⟩) (fun j => inn.length - j) (0) [] ?_ ?_ ?_
        · simp
        · constructor <;> (try simp (maxSteps := 2000000) (disch := omega) only [go_sem, simprocAttr, if_pos, if_neg, w64, beqT, beqF, bneT, bneF, pr_get, ir_get, decide_eq_true, decide_eq_false, Int.natCast_zero, List.take_of_length_le, List.append_assoc, hXl, hZl])
        · rintro j hj
          ((try refine zW ?_); (try with_reducible exact True.intro))
          by_cases lj : j < inn.length
          · have lz : j < Z.length := by omega
            (try simp (maxSteps := 2000000) (disch := omega) only [go_sem, simprocAttr, if_pos, if_neg, w64, beqT, beqF, bneT, bneF, pr_get, ir_get, decide_eq_true, decide_eq_false, eMs, eZ])
            (refine walk_trim [3, 5, 6, 8] trivial zL ?_; (refine zW ?_; try with_reducible exact True.intro); refine irun_walk (id := 16) (n := 200) [none, none, none, none, none, none, none, none, none, none, none, none, none, none, none, none, none, none, some [], none, none] mixed (by kernel_rfl) ?_)
            (try simp (maxSteps := 2000000) (disch := omega) only [go_sem, simprocAttr, if_pos, if_neg, w64, beqT, beqF, bneT, bneF, pr_get, ir_get, decide_eq_true, decide_eq_false, eMs, eZ])
            (refine at_dcall ?_; (refine zW ?_; try with_reducible exact True.intro); refine callA_of (Msgs_spec inn[j] inn[j]) zB ?_; ((try refine zW ?_); (try with_reducible exact True.intro)))
            have e := beq_self_eq_true inn[j]
            (try simp (maxSteps := 2000000) (disch := omega) only [go_sem, simprocAttr, if_pos, if_neg, w64, beqT, beqF, bneT, bneF, pr_get, ir_get, decide_eq_true, decide_eq_false, e])
            refine ⟨j + 1, [], lj, by omega, ?_⟩
            constructor <;> ((try refine zO ?_); (try with_reducible exact True.intro))
          · obtain rfl : j = inn.length := by omega
            (try simp (maxSteps := 2000000) (disch := omega) only [go_sem, simprocAttr, if_pos, if_neg, w64, beqT, beqF, bneT, bneF, pr_get, ir_get, decide_eq_true, decide_eq_false, hXl, hZl])
            (refine at_call 200 ?_; (refine zW ?_; try with_reducible exact True.intro); refine callA_of (fixed_spec) zB ?_; ((try refine zW ?_); (try with_reducible exact True.intro)))
            ((try refine zO ?_); (try with_reducible exact True.intro))
  · have eH := tB_neg hH
    (try simp (maxSteps := 2000000) (disch := omega) only [go_sem, simprocAttr, if_pos, if_neg, w64, beqT, beqF, bneT, bneF, pr_get, ir_get, decide_eq_true, decide_eq_false, eH])
    (refine at_call 200 ?_; (refine zW ?_; try with_reducible exact True.intro); refine callA_of (hRight_spec ⟨N, ls, T, ff, room, acts⟩ ⟨node, state, steps, inn, out⟩ kl hT hg) zB ?_; ((try refine zW ?_); (try with_reducible exact True.intro)))
    (try simp (maxSteps := 2000000) (disch := omega) only [go_sem, simprocAttr, if_pos, if_neg, w64, beqT, beqF, bneT, bneF, pr_get, ir_get, decide_eq_true, decide_eq_false, eH])
    (refine at_call 200 ?_; (refine zW ?_; try with_reducible exact True.intro); refine callA_of (fixed_spec) zB ?_; ((try refine zW ?_); (try with_reducible exact True.intro)))
    ((try refine zO ?_); (try with_reducible exact True.intro))
end Go.Proofs.HO
