/- The document on tables: the whole. -/
import Derived.Test.YteebghpjgcacmaaGreatYH3
set_option linter.unusedSimpArgs false
set_option linter.unusedVariables false
namespace Go.Proofs.GY
open Go Go.Idl Go.Proofs Go.GP
set_option maxHeartbeats 20000000
set_option maxRecDepth 100000
theorem may_iff {ls : List (Int × Int)} {n : Int} {x : Nd} {s : St} : MayP ls n x.states s ↔ ModeP s ∧ WaitsP ls n s ∧ PicksP ls n x.states.length s ∧ TakesQ ls n x s := by
  unfold MayP TakesP StaysP TakesQ TakeQ KeptP KeptQ
  constructor
  · rintro ⟨h1, h2, h3, h4, h5⟩
    refine ⟨h1, h2, h3, fun j t hj => ?_⟩
    obtain ⟨a, b, c, d⟩ := h4 j t hj
    exact ⟨a, b, c, fun to hto i w hw hne => h5 j t hj i w hw hne to hto, d⟩
  · rintro ⟨h1, h2, h3, h4⟩
    refine ⟨h1, h2, h3, fun j t hj => ?_, fun j t hj i w hw hne to hto => ?_⟩
    · obtain ⟨a, b, c, d, e⟩ := h4 j t hj
      exact ⟨a, b, c, e⟩
    · obtain ⟨a, b, c, d, e⟩ := h4 j t hj
      exact d to hto i w hw hne
theorem R4Right_spec (N : Int) (ls : List (Int × Int)) (T : List Nd) (hT : SmallT T) : Pure Tryz.prog 19 [.p (.imm 2 (pr eNd T)), eG N ls] (scb (tB (TabP N ls T))) := by
  generalize hr : tB (TabP N ls T) = r
  have hTl := hT.1
  
  refine pcall0 200 (fn := Tryz.f19) Tryz.func19 rfl (by simp [Tryz.ntmps19]) zB zB fun hs => ?_
  ((try refine zW ?_); (try with_reducible exact True.intro))
  (refine at_call 200 ?_; (refine zW ?_; try with_reducible exact True.intro); refine callA_of (R3Right_spec N ls) zB ?_; ((try refine zW ?_); (try with_reducible exact True.intro)))
  cases hrb : rightB N ls with
  | false =>
    have e : r = false := by rw [← hr]; exact tB_neg fun h => by have := rightB_iff.2 h.1; rw [hrb] at this; cases this
    (try simp (maxSteps := 2000000) (disch := omega) only [go_sem, simprocAttr, if_pos, if_neg, w64, beqT, beqF, bneT, bneF, pr_get, ir_get, decide_eq_true, decide_eq_false, e])
  | true =>
    have hrp := rightB_iff.1 hrb
    have hl : ls.length ≤ 1000000 := by have := hrp.2.2.1; omega
    by_cases hN : (T.length : Int) = N
    rotate_left
    · have hN2 : ((T.length : Int) == N) = false := by rw [beq_eq_false_iff_ne]; exact hN
      have e : r = false := by rw [← hr]; exact tB_neg fun h => hN h.2.1
      (try simp (maxSteps := 2000000) (disch := omega) only [go_sem, simprocAttr, if_pos, if_neg, w64, beqT, beqF, bneT, bneF, pr_get, ir_get, decide_eq_true, decide_eq_false, hN2, e])
    have hN2 : ((T.length : Int) == N) = true := by rw [beq_iff_eq]; exact hN
    have no : ∀ (j : Nat) (x : Nd), T[j]? = some x → ¬ NodeP ls j x → r = false := fun j x h1 h2 => by
      rw [← hr]; exact tB_neg fun h => h2 (h.2.2 j x h1)
    (try simp (maxSteps := 2000000) (disch := omega) only [go_sem, simprocAttr, if_pos, if_neg, w64, beqT, beqF, bneT, bneF, pr_get, ir_get, decide_eq_true, decide_eq_false, hN2])
    refine walk_loop 200 200 (fun i : Nat => i ≤ T.length ∧ ∀ j x, j < i → T[j]? = some x → NodeP ls j x)
      (fun i => ⟨101, [(0, .p (.imm 2 (pr eNd T))), (3, .ptr 0 0 0 0), (5, sci .i64 i)], [], 1, [(0, grB N ls)]⟩) (fun i => T.length - i) 0 ⟨Nat.zero_le _, fun j w h => by omega⟩ ?_ ?_
    · constructor <;> (try simp (maxSteps := 2000000) (disch := omega) only [go_sem, simprocAttr, if_pos, if_neg, w64, beqT, beqF, bneT, bneF, pr_get, ir_get, decide_eq_true, decide_eq_false, Int.natCast_zero])
    · rintro i ⟨hi, hp⟩
      ((try refine zW ?_); (try with_reducible exact True.intro))
      by_cases li : i < T.length
      · have gi := List.getElem?_eq_getElem li
        have noi := no i _ gi
        obtain ⟨hss, hsx⟩ := hT.2 i _ gi
        have gx : (pr eNd T)[i]? = some (eNd T[i]) := pr_get' gi
        generalize hx : T[i] = x at *
        (try simp (maxSteps := 2000000) (disch := omega) only [go_sem, simprocAttr, if_pos, if_neg, w64, beqT, beqF, bneT, bneF, pr_get, ir_get, decide_eq_true, decide_eq_false, gx, eNd])
        by_cases c1 : (x.states.length : Int) < 1
        · (try simp (maxSteps := 2000000) (disch := omega) only [go_sem, simprocAttr, if_pos, if_neg, w64, beqT, beqF, bneT, bneF, pr_get, ir_get, decide_eq_true, decide_eq_false, c1, noi fun h => by have := h.1; omega])
        by_cases c2 : (8 : Int) < (x.states.length : Int)
        · (try simp (maxSteps := 2000000) (disch := omega) only [go_sem, simprocAttr, if_pos, if_neg, w64, beqT, beqF, bneT, bneF, pr_get, ir_get, decide_eq_true, decide_eq_false, c1, c2, noi fun h => by have := h.2.1; omega])
        by_cases c3 : x.start < 0
        · (try simp (maxSteps := 2000000) (disch := omega) only [go_sem, simprocAttr, if_pos, if_neg, w64, beqT, beqF, bneT, bneF, pr_get, ir_get, decide_eq_true, decide_eq_false, c1, c2, gx, eNd, c3, noi fun h => by have := h.2.2.1.1; omega])
        by_cases c4 : (x.states.length : Int) ≤ x.start
        · (try simp (maxSteps := 2000000) (disch := omega) only [go_sem, simprocAttr, if_pos, if_neg, w64, beqT, beqF, bneT, bneF, pr_get, ir_get, decide_eq_true, decide_eq_false, c1, c2, gx, eNd, c3, c4, noi fun h => by have := h.2.2.1.2; omega])
        (try simp (maxSteps := 2000000) (disch := omega) only [go_sem, simprocAttr, if_pos, if_neg, w64, beqT, beqF, bneT, bneF, pr_get, ir_get, decide_eq_true, decide_eq_false, c1, c2, gx, eNd, c3, c4])
        refine walk_floop 200 200 (fun k : Nat => k ≤ x.states.length ∧ ∀ j s, j < k → x.states[j]? = some s → MayP ls i x.states s)
          (fun k => ⟨101, [(0, .p (.imm 2 (pr eNd T))), (3, .ptr 0 0 0 0), (5, sci .i64 i), (6, sci .i64 x.states.length), (7, sci .i64 k)], [], 1, [(0, grB N ls)]⟩) (fun k => x.states.length - k) 0 [] ⟨Nat.zero_le _, fun j w h => by omega⟩ ?_ ?_
        · constructor <;> (try simp (maxSteps := 2000000) (disch := omega) only [go_sem, simprocAttr, if_pos, if_neg, w64, beqT, beqF, bneT, bneF, pr_get, ir_get, decide_eq_true, decide_eq_false, Int.natCast_zero])
        · rintro k ⟨hk, hq⟩
          ((try refine zW ?_); (try with_reducible exact True.intro))
          by_cases lk : k < x.states.length
          · have gk := List.getElem?_eq_getElem lk
            have nok : ¬ MayP ls i x.states x.states[k] → r = false := fun h => noi fun q => h (q.2.2.2 k _ gk)
            have gks : (pr eSt x.states)[k]? = some (eSt x.states[k]) := pr_get' gk
            obtain ⟨w1, w2, w3⟩ := hsx k _ gk
            have hall : ∀ to ∈ x.states, to.waits.length ≤ 1000000 := fun to hto => by
              obtain ⟨q, hq, rfl⟩ := List.getElem_of_mem hto
              exact (hsx q _ (List.getElem?_eq_getElem hq)).1
            generalize hs : x.states[k] = s at *
            (try simp (maxSteps := 2000000) (disch := omega) only [go_sem, simprocAttr, if_pos, if_neg, w64, beqT, beqF, bneT, bneF, pr_get, ir_get, decide_eq_true, decide_eq_false, gx, eNd, gks, eSt])
            (refine walk_trim [0, 3, 5, 6, 7, 8] trivial zL ?_; (refine zW ?_; try with_reducible exact True.intro); refine irun_walk (id := 13) (n := 200) [none, none, none, none, none, none, none, none, none, none, none, none, some [], none, none, none, none, none, none, none, some [], none, none, none, none, none, none, none, none, none, none, some [], none, none] mixed (by kernel_rfl) ?_)
            ((try refine zW ?_); (try with_reducible exact True.intro))
            by_cases m1 : s.mode < 0
            · (try simp (maxSteps := 2000000) (disch := omega) only [go_sem, simprocAttr, if_pos, if_neg, w64, beqT, beqF, bneT, bneF, pr_get, ir_get, decide_eq_true, decide_eq_false, m1, nok fun h => by have := h.1.1; omega])
            by_cases m2 : (2 : Int) < s.mode
            · (try simp (maxSteps := 2000000) (disch := omega) only [go_sem, simprocAttr, if_pos, if_neg, w64, beqT, beqF, bneT, bneF, pr_get, ir_get, decide_eq_true, decide_eq_false, m1, m2, nok fun h => by have := h.1.2; omega])
            have mm : ModeP s := ⟨by omega, by omega⟩
            (try simp (maxSteps := 2000000) (disch := omega) only [go_sem, simprocAttr, if_pos, if_neg, w64, beqT, beqF, bneT, bneF, pr_get, ir_get, decide_eq_true, decide_eq_false, m1, m2])
            (refine at_dcall ?_; (refine zW ?_; try with_reducible exact True.intro); refine callA_of (R4waits_spec s i N ls hl w1) zB ?_; ((try refine zW ?_); (try with_reducible exact True.intro)))
            by_cases h1 : WaitsP ls i s
            rotate_left
            · (try simp (maxSteps := 2000000) (disch := omega) only [go_sem, simprocAttr, if_pos, if_neg, w64, beqT, beqF, bneT, bneF, pr_get, ir_get, decide_eq_true, decide_eq_false, tB_neg h1, nok fun h => h1 h.2.1])
            (try simp (maxSteps := 2000000) (disch := omega) only [go_sem, simprocAttr, if_pos, if_neg, w64, beqT, beqF, bneT, bneF, pr_get, ir_get, decide_eq_true, decide_eq_false, tB_pos h1])
            (refine at_dcall ?_; (refine zW ?_; try with_reducible exact True.intro); refine callA_of (R4picks_spec s i x.states.length N ls hl) zB ?_; ((try refine zW ?_); (try with_reducible exact True.intro)))
            by_cases h2 : PicksP ls i x.states.length s
            rotate_left
            · (try simp (maxSteps := 2000000) (disch := omega) only [go_sem, simprocAttr, if_pos, if_neg, w64, beqT, beqF, bneT, bneF, pr_get, ir_get, decide_eq_true, decide_eq_false, tB_neg h2, nok fun h => h2 h.2.2.1])
            (try simp (maxSteps := 2000000) (disch := omega) only [go_sem, simprocAttr, if_pos, if_neg, w64, beqT, beqF, bneT, bneF, pr_get, ir_get, decide_eq_true, decide_eq_false, tB_pos h2, gx, eNd])
            (refine at_dcall ?_; (refine zW ?_; try with_reducible exact True.intro); refine callA_of (R4takes_spec s i x N ls hl w1 w3 hall) zB ?_; ((try refine zW ?_); (try with_reducible exact True.intro)))
            by_cases h3 : TakesQ ls i x s
            rotate_left
            · (try simp (maxSteps := 2000000) (disch := omega) only [go_sem, simprocAttr, if_pos, if_neg, w64, beqT, beqF, bneT, bneF, pr_get, ir_get, decide_eq_true, decide_eq_false, tB_neg h3, nok fun h => h3 (may_iff.1 h).2.2.2])
            (try simp (maxSteps := 2000000) (disch := omega) only [go_sem, simprocAttr, if_pos, if_neg, w64, beqT, beqF, bneT, bneF, pr_get, ir_get, decide_eq_true, decide_eq_false, tB_pos h3])
            refine ⟨k + 1, [1], ⟨lk, all_snoc lk hq (by rw [hs]; exact may_iff.2 ⟨mm, h1, h2, h3⟩)⟩, by omega, ?_⟩
            constructor <;> ((try refine zO ?_); (try with_reducible exact True.intro))
          · obtain rfl : k = x.states.length := by omega
            ((try refine zO ?_); (try with_reducible exact True.intro))
            refine ⟨i + 1, ⟨li, all_snoc li hp (by rw [hx]; exact ⟨by omega, by omega, ⟨by omega, by omega⟩, all_end hq⟩)⟩, by omega, ?_⟩
            constructor <;> ((try refine zO ?_); (try with_reducible exact True.intro))
      · obtain rfl : i = T.length := by omega
        have e : r = true := by rw [← hr]; exact tB_pos ⟨hrp, hN, all_end hp⟩
        (try simp (maxSteps := 2000000) (disch := omega) only [go_sem, simprocAttr, if_pos, if_neg, w64, beqT, beqF, bneT, bneF, pr_get, ir_get, decide_eq_true, decide_eq_false, e])
end Go.Proofs.GY
