/- The document on tables: what a state takes. -/
import Derived.Test.YteebghpjgcacmaaGreatYH2
set_option linter.unusedSimpArgs false
set_option linter.unusedVariables false
namespace Go.Proofs.GY
open Go Go.Idl Go.Proofs Go.GP
set_option maxHeartbeats 20000000
set_option maxRecDepth 100000
abbrev lNd (x : Nd) : IV := .agg [sci .i64 x.start, .p (.imm 4 (pr eSt x.states))]
abbrev ndB (x : Nd) : IBlk := .arr 2 0 [[sci .i64 x.start, .p (.imm 4 (pr eSt x.states))]]
def TakeQ (ls : List (Int × Int)) (n : Int) (x : Nd) (s : St) (j : Nat) (t : Int × Int × Int) : Prop :=
  (t.1, n) ∈ ls ∧ LetP t.2.1 ∧ StaP x.states.length t.2.2 ∧ (∀ to, x.states[t.2.2.toNat]? = some to → KeptQ s to t.1) ∧ Once (s.takes.take j) t
def TakesQ (ls : List (Int × Int)) (n : Int) (x : Nd) (s : St) : Prop := ∀ (j : Nat) (t : Int × Int × Int), s.takes[j]? = some t → TakeQ ls n x s j t
theorem R4takes_spec (s : St) (n : Int) (x : Nd) (N : Int) (ls : List (Int × Int)) (hl : ls.length ≤ 1000000) (hw : s.waits.length ≤ 1000000) (ht : s.takes.length ≤ 1000000) (hx : ∀ to ∈ x.states, to.waits.length ≤ 1000000) :
    Pure Tryz.prog 61 [lSt s, sci .i64 n, lNd x, eG N ls] (scb (tB (TakesQ ls n x s))) := by
  generalize hr : tB (TakesQ ls n x s) = r
  have no : ∀ (j : Nat) (t : Int × Int × Int), s.takes[j]? = some t → ¬ TakeQ ls n x s j t → r = false := fun j t h1 h2 => by
    rw [← hr]; exact tB_neg fun h => h2 (h j t h1)
  
  refine pcall0 200 (fn := Tryz.f61) Tryz.func61 rfl (by simp [Tryz.ntmps61]) zB zB fun hs => ?_
  ((try refine zW ?_); (try with_reducible exact True.intro))
  refine walk_floop 200 200 (fun i : Nat => i ≤ s.takes.length ∧ ∀ j t, j < i → s.takes[j]? = some t → TakeQ ls n x s j t)
    (fun i => ⟨91, [(1, sci .i64 n), (4, .ptr 0 0 0 0), (6, .ptr 1 0 0 0), (7, .ptr 2 0 0 0), (9, sci .i64 i)], [], 3, [(2, grB N ls), (1, ndB x), (0, stB s)]⟩) (fun i => s.takes.length - i) 0 [] ⟨Nat.zero_le _, fun j w h => by omega⟩ ?_ ?_
  · constructor <;> (try simp (maxSteps := 2000000) (disch := omega) only [go_sem, simprocAttr, if_pos, if_neg, w64, beqT, beqF, bneT, bneF, pr_get, ir_get, decide_eq_true, decide_eq_false, Int.natCast_zero])
  · rintro i ⟨hi, hp⟩
    ((try refine zW ?_); (try with_reducible exact True.intro))
    by_cases li : i < s.takes.length
    · have gi := List.getElem?_eq_getElem li
      have noi := no i _ gi
      (try simp (maxSteps := 2000000) (disch := omega) only [go_sem, simprocAttr, if_pos, if_neg, w64, beqT, beqF, bneT, bneF, pr_get, ir_get, decide_eq_true, decide_eq_false, eIII])
      generalize htk : s.takes[i] = tk at *
      obtain ⟨from', lt, nx⟩ := tk
      (refine walk_trim [1, 4, 6, 7, 9, 10] trivial zL ?_; (refine zW ?_; try with_reducible exact True.intro); refine irun_walk (id := 5) (n := 200) (none :: none :: none :: none :: some [] :: none :: none :: none :: none :: none :: none :: none :: none :: none :: none :: none :: none :: none :: none :: none :: none :: none :: none :: none :: none :: none :: none :: none :: none :: none :: none :: none :: none :: none :: none :: none :: none :: none :: none :: some [] :: none :: none :: []) mixed (by kernel_rfl) ?_)
      ((try refine zW ?_); (try with_reducible exact True.intro))
      (refine at_dcall ?_; (refine zW ?_; try with_reducible exact True.intro); refine callA_of (R3Find_spec _ _ _ _ hl) zB ?_; ((try refine zW ?_); (try with_reducible exact True.intro)))
      by_cases hin : (from', n) ∈ ls
      rotate_left
      · have hf : findL from' n 0 ls < 0 := by
          rcases Int.lt_or_le (findL from' n 0 ls) 0 with h | h
          · exact h
          · exact absurd (findL_mem.1 h) hin
        (try simp (maxSteps := 2000000) (disch := omega) only [go_sem, simprocAttr, if_pos, if_neg, w64, beqT, beqF, bneT, bneF, pr_get, ir_get, decide_eq_true, decide_eq_false, hf, noi fun h => hin h.1])
      have hf : ¬ findL from' n 0 ls < 0 := by have := findL_mem (s := 0).2 hin; omega
      by_cases d1 : lt < 0
      · (try simp (maxSteps := 2000000) (disch := omega) only [go_sem, simprocAttr, if_pos, if_neg, w64, beqT, beqF, bneT, bneF, pr_get, ir_get, decide_eq_true, decide_eq_false, hf, d1, noi fun h => by have := h.2.1.1; simp only at this; omega])
      by_cases d2 : (3 : Int) < lt
      · (try simp (maxSteps := 2000000) (disch := omega) only [go_sem, simprocAttr, if_pos, if_neg, w64, beqT, beqF, bneT, bneF, pr_get, ir_get, decide_eq_true, decide_eq_false, hf, d1, d2, noi fun h => by have := h.2.1.2; simp only at this; omega])
      by_cases d3 : nx < 0
      · (try simp (maxSteps := 2000000) (disch := omega) only [go_sem, simprocAttr, if_pos, if_neg, w64, beqT, beqF, bneT, bneF, pr_get, ir_get, decide_eq_true, decide_eq_false, hf, d1, d2, d3, noi fun h => by have := h.2.2.1.1; simp only at this; omega])
      by_cases d4 : (x.states.length : Int) ≤ nx
      · (try simp (maxSteps := 2000000) (disch := omega) only [go_sem, simprocAttr, if_pos, if_neg, w64, beqT, beqF, bneT, bneF, pr_get, ir_get, decide_eq_true, decide_eq_false, hf, d1, d2, d3, d4, noi fun h => by have := h.2.2.1.2; simp only at this; omega])
      obtain ⟨nx, rfl⟩ := Int.eq_ofNat_of_zero_le (show 0 ≤ nx by omega)
      have hnx : nx < x.states.length := by omega
      have gn := List.getElem?_eq_getElem hnx
      have gs : (pr eSt x.states)[nx]? = some (eSt x.states[nx]) := pr_get' gn
      have hto := hx _ (List.getElem_mem hnx)
      generalize x.states[nx] = to at *
      (try simp (maxSteps := 2000000) (disch := omega) only [go_sem, simprocAttr, if_pos, if_neg, w64, beqT, beqF, bneT, bneF, pr_get, ir_get, decide_eq_true, decide_eq_false, hf, d1, d2, d3, d4, gs, eSt])
      (refine at_dcall ?_; (refine zW ?_; try with_reducible exact True.intro); refine callA_of (R4kept_spec s to from' hw hto) zB ?_; ((try refine zW ?_); (try with_reducible exact True.intro)))
      by_cases hkp : KeptQ s to from'
      rotate_left
      · (try simp (maxSteps := 2000000) (disch := omega) only [go_sem, simprocAttr, if_pos, if_neg, w64, beqT, beqF, bneT, bneF, pr_get, ir_get, decide_eq_true, decide_eq_false, tB_neg hkp, noi fun h => hkp (h.2.2.2.1 to (by simpa using gn))])
      (try simp (maxSteps := 2000000) (disch := omega) only [go_sem, simprocAttr, if_pos, if_neg, w64, beqT, beqF, bneT, bneF, pr_get, ir_get, decide_eq_true, decide_eq_false, tB_pos hkp])
      refine walk_loop 200 200 (fun k : Nat => k ≤ i ∧ ∀ j u, j < k → s.takes[j]? = some u → ¬ (u.1 = from' ∧ u.2.1 = lt))
        (fun k => ⟨91, [(1, sci .i64 n), (4, .ptr 0 0 0 0), (6, .ptr 1 0 0 0), (7, .ptr 2 0 0 0), (9, sci .i64 i), (10, .ptr 3 0 0 0), (11, sci .i64 k)], [], 4, [(3, .arr 3 0 [[sci .i64 from', sci .i64 lt, sci .i64 (nx : Int)]]), (2, grB N ls), (1, ndB x), (0, stB s)]⟩) (fun k => i - k) 0 ⟨Nat.zero_le _, fun j w h => by omega⟩ ?_ ?_
      · constructor <;> (try simp (maxSteps := 2000000) (disch := omega) only [go_sem, simprocAttr, if_pos, if_neg, w64, beqT, beqF, bneT, bneF, pr_get, ir_get, decide_eq_true, decide_eq_false, Int.natCast_zero])
      · rintro k ⟨hk, hq⟩
        ((try refine zW ?_); (try with_reducible exact True.intro))
        by_cases lk : k < i
        · have lk2 : k < s.takes.length := by omega
          have gk := List.getElem?_eq_getElem lk2
          have gk2 : (pr eIII s.takes)[k]? = some (eIII s.takes[k]) := pr_get' gk
          have nok : (s.takes[k].1 = from' ∧ s.takes[k].2.1 = lt) → r = false := fun h => noi fun q => q.2.2.2.2 k _ (by rw [List.getElem?_take, if_pos lk]; exact gk) h
          ((try refine zO ?_); (try with_reducible exact True.intro))
          (refine walk_trim [1, 4, 6, 7, 9, 10, 11] trivial zL ?_; (refine zW ?_; try with_reducible exact True.intro); refine irun_walk (id := 10) (n := 200) [none, none, none, none, none, none, none, none, none, none, none, none, none, none, none, none, none, none, none, none] mixed (by kernel_rfl) ?_)
          (try simp (maxSteps := 2000000) (disch := omega) only [go_sem, simprocAttr, if_pos, if_neg, w64, beqT, beqF, bneT, bneF, pr_get, ir_get, decide_eq_true, decide_eq_false, gk2, eIII])
          by_cases e1 : s.takes[k].1 = from'
          · by_cases e2 : s.takes[k].2.1 = lt
            · (try simp (maxSteps := 2000000) (disch := omega) only [go_sem, simprocAttr, if_pos, if_neg, w64, beqT, beqF, bneT, bneF, pr_get, ir_get, decide_eq_true, decide_eq_false, e1, gk2, eIII, e2, nok ⟨e1, e2⟩])
            · have e2' : (s.takes[k].2.1 == lt) = false := by rw [beq_eq_false_iff_ne]; exact e2
              (try simp (maxSteps := 2000000) (disch := omega) only [go_sem, simprocAttr, if_pos, if_neg, w64, beqT, beqF, bneT, bneF, pr_get, ir_get, decide_eq_true, decide_eq_false, e1, gk2, eIII, e2'])
              refine ⟨k + 1, ⟨lk, all_snoc lk2 hq fun h => e2 h.2⟩, by omega, ?_⟩
              constructor <;> ((try refine zO ?_); (try with_reducible exact True.intro))
          · have e1' : (s.takes[k].1 == from') = false := by rw [beq_eq_false_iff_ne]; exact e1
            (try simp (maxSteps := 2000000) (disch := omega) only [go_sem, simprocAttr, if_pos, if_neg, w64, beqT, beqF, bneT, bneF, pr_get, ir_get, decide_eq_true, decide_eq_false, e1'])
            refine ⟨k + 1, ⟨lk, all_snoc lk2 hq fun h => e1 h.1⟩, by omega, ?_⟩
            constructor <;> ((try refine zO ?_); (try with_reducible exact True.intro))
        · obtain rfl : k = i := by omega
          ((try refine zO ?_); (try with_reducible exact True.intro))
          refine ⟨k + 1, [3], ⟨li, all_snoc li hp (by
            rw [htk]
            refine ⟨hin, ⟨by simp only; omega, by simp only; omega⟩, ⟨by simp only; omega, by simp only; omega⟩, fun t' h' => ?_, fun j u h => ?_⟩
            · simp only [Int.toNat_natCast] at h'
              rw [gn] at h'
              cases h'; exact hkp
            · rw [List.getElem?_take] at h
              split at h
              · exact hq j u (by assumption) h
              · cases h)⟩, by omega, ?_⟩
          constructor <;> ((try refine zO ?_); (try with_reducible exact True.intro))
    · obtain rfl : i = s.takes.length := by omega
      have e : r = true := by rw [← hr]; exact tB_pos (all_end hp)
      (try simp (maxSteps := 2000000) (disch := omega) only [go_sem, simprocAttr, if_pos, if_neg, w64, beqT, beqF, bneT, bneF, pr_get, ir_get, decide_eq_true, decide_eq_false, e])
end Go.Proofs.GY
