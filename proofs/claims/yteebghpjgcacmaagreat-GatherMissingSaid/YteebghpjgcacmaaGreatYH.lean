/- The document on tables: which may be. -/
import Derived.Test.YteebghpjgcacmaaGreatYGb
import Derived.Test.YteebghpjgcacmaaGreatYX
set_option linter.unusedSimpArgs false
set_option linter.unusedVariables false
namespace Go.Proofs.GY
open Go Go.Idl Go.Proofs Go.GP
set_option maxHeartbeats 20000000
set_option maxRecDepth 100000
abbrev stB (s : St) : IBlk := .arr 4 0 [[sci .i64 s.mode, lI s.waits, .p (.imm 2 (pr ePk s.picks)), .p (.imm 3 (pr eIII s.takes))]]
abbrev grB (N : Int) (ls : List (Int × Int)) : IBlk := .arr 2 0 [[sci .i64 N, lII ls]]
theorem R4In_spec (l : List Int) (a : Int) (hk : l.length ≤ 1000000) : Pure Tryz.prog 130 [lI l, sci .i64 a] (scb (tB (a ∈ l))) := by
  generalize hr : tB (a ∈ l) = r
  refine pcall0 200 (fn := Tryz.f130) Tryz.func130 rfl (by simp [Tryz.ntmps130]) zB zB fun hs => ?_
  ((try refine zW ?_); (try with_reducible exact True.intro))
  refine walk_loop 200 200 (fun i : Nat => i ≤ l.length ∧ ∀ j w, j < i → l[j]? = some w → w ≠ a) (fun i => ⟨18, [(0, lI l), (1, sci .i64 a), (5, sci .i64 i)], [], 0, []⟩) (fun i => l.length - i) 0 ⟨Nat.zero_le _, fun j w h => by omega⟩ ?_ ?_
  · constructor <;> (try simp (disch := omega) only [go_sem, simprocAttr, if_pos, if_neg, w64, beqT, beqF, bneT, bneF, pr_get, ir_get, decide_eq_true, decide_eq_false, Int.natCast_zero])
  · rintro i ⟨hi, hp⟩
    ((try refine zW ?_); (try with_reducible exact True.intro))
    by_cases li : i < l.length
    · (try simp (disch := omega) only [go_sem, simprocAttr, if_pos, if_neg, w64, beqT, beqF, bneT, bneF, pr_get, ir_get, decide_eq_true, decide_eq_false, eI])
      by_cases hc : l[i] = a
      · have e : r = true := by rw [← hr]; exact tB_pos (hc ▸ List.getElem_mem li)
        (try simp (disch := omega) only [go_sem, simprocAttr, if_pos, if_neg, w64, beqT, beqF, bneT, bneF, pr_get, ir_get, decide_eq_true, decide_eq_false, hc, e])
      · have hc2 : (l[i] == a) = false := by rw [beq_eq_false_iff_ne]; exact hc
        (try simp (disch := omega) only [go_sem, simprocAttr, if_pos, if_neg, w64, beqT, beqF, bneT, bneF, pr_get, ir_get, decide_eq_true, decide_eq_false, hc2])
        refine ⟨i + 1, ⟨li, all_snoc li hp hc⟩, by omega, ?_⟩
        constructor <;> ((try refine zO ?_); (try with_reducible exact True.intro))
    · have e : r = false := by
        rw [← hr]
        refine tB_neg fun h => ?_
        obtain ⟨j, hj, e⟩ := List.getElem_of_mem h
        exact hp j _ (by omega) (List.getElem?_eq_getElem hj) e
      (try simp (disch := omega) only [go_sem, simprocAttr, if_pos, if_neg, w64, beqT, beqF, bneT, bneF, pr_get, ir_get, decide_eq_true, decide_eq_false, e])
def KeptQ (s to : St) (but : Int) : Prop := ∀ (j : Nat) (w : Int), s.waits[j]? = some w → w ≠ but → to.mode = 2 ∧ w ∈ to.waits
theorem R4kept_spec (s to : St) (but : Int) (h1 : s.waits.length ≤ 1000000) (h2 : to.waits.length ≤ 1000000) : Pure Tryz.prog 101 [lSt s, lSt to, sci .i64 but] (scb (tB (KeptQ s to but))) := by
  generalize hr : tB (KeptQ s to but) = r
  have no : ∀ (j : Nat) (w : Int), s.waits[j]? = some w → w ≠ but → ¬ (to.mode = 2 ∧ w ∈ to.waits) → r = false := fun j w h1 h2 h3 => by
    rw [← hr]; exact tB_neg fun h => h3 (h j w h1 h2)
  refine pcall0 200 (fn := Tryz.f101) Tryz.func101 rfl (by simp [Tryz.ntmps101]) zB zB fun hs => ?_
  ((try refine zW ?_); (try with_reducible exact True.intro))
  refine walk_loop 200 200 (fun i : Nat => i ≤ s.waits.length ∧ ∀ j w, j < i → s.waits[j]? = some w → w ≠ but → to.mode = 2 ∧ w ∈ to.waits)
    (fun i => ⟨38, [(2, sci .i64 but), (3, .ptr 0 0 0 0), (4, .ptr 1 0 0 0), (7, sci .i64 i)], [], 2, [(1, stB to), (0, stB s)]⟩) (fun i => s.waits.length - i) 0 ⟨Nat.zero_le _, fun j w h => by omega⟩ ?_ ?_
  · constructor <;> (try simp (disch := omega) only [go_sem, simprocAttr, if_pos, if_neg, w64, beqT, beqF, bneT, bneF, pr_get, ir_get, decide_eq_true, decide_eq_false, Int.natCast_zero])
  · rintro i ⟨hi, hp⟩
    ((try refine zW ?_); (try with_reducible exact True.intro))
    by_cases li : i < s.waits.length
    · have gi := List.getElem?_eq_getElem li
      ((try refine zO ?_); (try with_reducible exact True.intro))
      (refine walk_trim [2, 3, 4, 7] trivial zL ?_; (refine zW ?_; try with_reducible exact True.intro); refine irun_walk (id := 4) (n := 200) [none, none, none, none, none, none, none, none, none, none, none, none, none, none, none, none, none, none, none, some [], none, none, none] mixed (by kernel_rfl) ?_)
      (try simp (disch := omega) only [go_sem, simprocAttr, if_pos, if_neg, w64, beqT, beqF, bneT, bneF, pr_get, ir_get, decide_eq_true, decide_eq_false, eI])
      by_cases hc : s.waits[i] = but
      · (try simp (disch := omega) only [go_sem, simprocAttr, if_pos, if_neg, w64, beqT, beqF, bneT, bneF, pr_get, ir_get, decide_eq_true, decide_eq_false, hc])
        refine ⟨i + 1, ⟨li, all_snoc li hp fun h => absurd hc h⟩, by omega, ?_⟩
        constructor <;> ((try refine zO ?_); (try with_reducible exact True.intro))
      · have hc2 : (s.waits[i] == but) = false := by rw [beq_eq_false_iff_ne]; exact hc
        by_cases hm : to.mode = 2
        · (try simp (disch := omega) only [go_sem, simprocAttr, if_pos, if_neg, w64, beqT, beqF, bneT, bneF, pr_get, ir_get, decide_eq_true, decide_eq_false, hc2, hm, eI])
          (refine at_dcall ?_; (refine zW ?_; try with_reducible exact True.intro); refine callA_of (R4In_spec to.waits s.waits[i] h2) zB ?_; ((try refine zW ?_); (try with_reducible exact True.intro)))
          by_cases hw : s.waits[i] ∈ to.waits
          · (try simp (disch := omega) only [go_sem, simprocAttr, if_pos, if_neg, w64, beqT, beqF, bneT, bneF, pr_get, ir_get, decide_eq_true, decide_eq_false, tB_pos hw])
            refine ⟨i + 1, ⟨li, all_snoc li (fun j w a b c => (hp j w a b c).2) fun _ => hw⟩, by omega, ?_⟩
            constructor <;> ((try refine zO ?_); (try with_reducible exact True.intro))
          · have e := no i _ gi hc fun h => hw h.2
            (try simp (disch := omega) only [go_sem, simprocAttr, if_pos, if_neg, w64, beqT, beqF, bneT, bneF, pr_get, ir_get, decide_eq_true, decide_eq_false, tB_neg hw, e])
        · have e := no i _ gi hc fun h => hm h.1
          have hm2 : (to.mode == 2) = false := by rw [beq_eq_false_iff_ne]; exact hm
          (try simp (disch := omega) only [go_sem, simprocAttr, if_pos, if_neg, w64, beqT, beqF, bneT, bneF, pr_get, ir_get, decide_eq_true, decide_eq_false, hc2, hm2, e])
    · have e : r = true := by
        rw [← hr]
        obtain rfl : i = s.waits.length := by omega
        exact tB_pos (all_end hp)
      (try simp (disch := omega) only [go_sem, simprocAttr, if_pos, if_neg, w64, beqT, beqF, bneT, bneF, pr_get, ir_get, decide_eq_true, decide_eq_false, e])
theorem R4waits_spec (s : St) (n N : Int) (ls : List (Int × Int)) (hl : ls.length ≤ 1000000) (hw : s.waits.length ≤ 1000000) : Pure Tryz.prog 59 [lSt s, sci .i64 n, eG N ls] (scb (tB (WaitsP ls n s))) := by
  generalize hr : tB (WaitsP ls n s) = r
  refine pcall0 200 (fn := Tryz.f59) Tryz.func59 rfl (by simp [Tryz.ntmps59]) zB zB fun hs => ?_
  ((try refine zW ?_); (try with_reducible exact True.intro))
  by_cases hm : s.mode = 2
  · have hm2 : (s.mode == 2) = true := by rw [beq_iff_eq]; exact hm
    have no : ∀ (j : Nat) (w : Int), s.waits[j]? = some w → ¬ ((w, n) ∈ ls ∧ ∀ v, 0 < j → s.waits[j - 1]? = some v → v < w) → r = false := fun j w h1 h3 => by
      rw [← hr]
      refine tB_neg fun h => ?_
      rcases h with h | h
      · exact h.1 hm
      · exact h3 (h.2.2 j w h1)
    (try simp (disch := omega) only [go_sem, simprocAttr, if_pos, if_neg, w64, beqT, beqF, bneT, bneF, pr_get, ir_get, decide_eq_true, decide_eq_false, hm2])
    refine walk_loop 200 200 (fun i : Nat => i ≤ s.waits.length ∧ ∀ j w, j < i → s.waits[j]? = some w → (w, n) ∈ ls ∧ ∀ v, 0 < j → s.waits[j - 1]? = some v → v < w)
      (fun i => ⟨53, [(1, sci .i64 n), (3, .ptr 0 0 0 0), (5, .ptr 1 0 0 0), (7, sci .i64 i)], [], 2, [(1, grB N ls), (0, stB s)]⟩) (fun i => s.waits.length - i) 0 ⟨Nat.zero_le _, fun j w h => by omega⟩ ?_ ?_
    · constructor <;> (try simp (disch := omega) only [go_sem, simprocAttr, if_pos, if_neg, w64, beqT, beqF, bneT, bneF, pr_get, ir_get, decide_eq_true, decide_eq_false, Int.natCast_zero])
    · rintro i ⟨hi, hp⟩
      ((try refine zW ?_); (try with_reducible exact True.intro))
      by_cases li : i < s.waits.length
      · have gi := List.getElem?_eq_getElem li
        ((try refine zO ?_); (try with_reducible exact True.intro))
        (refine walk_trim [1, 3, 5, 7] trivial zL ?_; (refine zW ?_; try with_reducible exact True.intro); refine irun_walk (id := 6) (n := 200) [none, none, none, none, none, none, none, some [], none, none, none, none, none, none, none, none, none, none, none, none, none, none, none, none, none, none, none] mixed (by kernel_rfl) ?_)
        (try simp (disch := omega) only [go_sem, simprocAttr, if_pos, if_neg, w64, beqT, beqF, bneT, bneF, pr_get, ir_get, decide_eq_true, decide_eq_false, eI])
        (refine at_dcall ?_; (refine zW ?_; try with_reducible exact True.intro); refine callA_of (R3Find_spec _ _ _ _ hl) zB ?_; ((try refine zW ?_); (try with_reducible exact True.intro)))
        by_cases hin : (s.waits[i], n) ∈ ls
        · have hf : ¬ findL s.waits[i] n 0 ls < 0 := by have := findL_mem (s := 0).2 hin; omega
          (try simp (disch := omega) only [go_sem, simprocAttr, if_pos, if_neg, w64, beqT, beqF, bneT, bneF, pr_get, ir_get, decide_eq_true, decide_eq_false, hf])
          cases i with
          | zero =>
            (try simp (disch := omega) only [go_sem, simprocAttr, if_pos, if_neg, w64, beqT, beqF, bneT, bneF, pr_get, ir_get, decide_eq_true, decide_eq_false, Int.natCast_zero])
            refine ⟨1, ⟨li, all_snoc li hp ⟨hin, fun v h => by omega⟩⟩, by omega, ?_⟩
            constructor <;> (try simp (disch := omega) only [go_sem, simprocAttr, if_pos, if_neg, w64, beqT, beqF, bneT, bneF, pr_get, ir_get, decide_eq_true, decide_eq_false, Int.natCast_one])
          | succ i =>
            have li2 : i < s.waits.length := by omega
            have tn : ((i : Int) + 1).toNat = i + 1 := rfl
            have g2 : (pr eI s.waits)[i]? = some (eI s.waits[i]) := pr_get' (List.getElem?_eq_getElem li2)
            have g1 : (pr eI s.waits)[i + 1]? = some (eI s.waits[i + 1]) := pr_get' gi
            (try simp (disch := omega) only [go_sem, simprocAttr, if_pos, if_neg, w64, beqT, beqF, bneT, bneF, pr_get, ir_get, decide_eq_true, decide_eq_false, tn, g1, g2, eI, Int.add_sub_cancel])
            by_cases hlt : s.waits[i + 1] ≤ s.waits[i]
            · have e := no (i + 1) _ gi fun h => by
                have := h.2 s.waits[i] (by omega) (by simp)
                omega
              (try simp (disch := omega) only [go_sem, simprocAttr, if_pos, if_neg, w64, beqT, beqF, bneT, bneF, pr_get, ir_get, decide_eq_true, decide_eq_false, hlt, e])
            · (try simp (disch := omega) only [go_sem, simprocAttr, if_pos, if_neg, w64, beqT, beqF, bneT, bneF, pr_get, ir_get, decide_eq_true, decide_eq_false, hlt])
              refine ⟨i + 1 + 1, ⟨li, all_snoc li hp ⟨hin, fun v _ hv => ?_⟩⟩, by omega, ?_⟩
              · simp only [Nat.add_sub_cancel] at hv
                rw [List.getElem?_eq_getElem li2] at hv
                cases hv; omega
              · constructor <;> (try simp (disch := omega) only [go_sem, simprocAttr, if_pos, if_neg, w64, beqT, beqF, bneT, bneF, pr_get, ir_get, decide_eq_true, decide_eq_false, Int.natCast_add, Int.natCast_one])
                all_goals omega
        · have hf : findL s.waits[i] n 0 ls < 0 := by
            rcases Int.lt_or_le (findL s.waits[i] n 0 ls) 0 with h | h
            · exact h
            · exact absurd (findL_mem.1 h) hin
          have e := no i _ gi fun h => hin h.1
          (try simp (disch := omega) only [go_sem, simprocAttr, if_pos, if_neg, w64, beqT, beqF, bneT, bneF, pr_get, ir_get, decide_eq_true, decide_eq_false, hf, e])
      · obtain rfl : i = s.waits.length := by omega
        by_cases h0 : 1 ≤ s.waits.length
        · have e : r = true := by rw [← hr]; exact tB_pos (.inr ⟨hm, h0, all_end hp⟩)
          have h0' : (1 : Int) ≤ (s.waits.length : Int) := by omega
          (try simp (disch := omega) only [go_sem, simprocAttr, if_pos, if_neg, w64, beqT, beqF, bneT, bneF, pr_get, ir_get, decide_eq_true, decide_eq_false, h0', e])
        · have e : r = false := by rw [← hr]; exact tB_neg fun h => h.elim (fun h => h.1 hm) fun h => h0 h.2.1
          have h0' : ¬ (1 : Int) ≤ (s.waits.length : Int) := by omega
          (try simp (disch := omega) only [go_sem, simprocAttr, if_pos, if_neg, w64, beqT, beqF, bneT, bneF, pr_get, ir_get, decide_eq_true, decide_eq_false, h0', e])
  · have hm2 : (s.mode == 2) = false := by rw [beq_eq_false_iff_ne]; exact hm
    have e : r = ((s.waits.length : Int) == 0) := by
      rw [← hr]
      by_cases h0 : s.waits.length = 0
      · rw [tB_pos (.inl ⟨hm, h0⟩)]; symm; rw [beq_iff_eq]; omega
      · rw [tB_neg fun h => h.elim (fun h => h0 h.2) fun h => hm h.1]; symm; rw [beq_eq_false_iff_ne]; omega
    (try simp (disch := omega) only [go_sem, simprocAttr, if_pos, if_neg, w64, beqT, beqF, bneT, bneF, pr_get, ir_get, decide_eq_true, decide_eq_false, hm2, e])
end Go.Proofs.GY
