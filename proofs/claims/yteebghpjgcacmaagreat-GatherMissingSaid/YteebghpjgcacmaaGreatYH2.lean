/- The document on tables: picks, takes. -/
import Derived.Test.YteebghpjgcacmaaGreatYH
set_option linter.unusedSimpArgs false
set_option linter.unusedVariables false
namespace Go.Proofs.GY
open Go Go.Idl Go.Proofs Go.GP
set_option maxHeartbeats 20000000
set_option maxRecDepth 100000
theorem R4picks_spec (s : St) (n : Int) (m : Nat) (N : Int) (ls : List (Int × Int)) (hl : ls.length ≤ 1000000) : Pure Tryz.prog 60 [lSt s, sci .i64 n, sci .i64 (m : Int), eG N ls] (scb (tB (PicksP ls n m s))) := by
  generalize hr : tB (PicksP ls n m s) = r
  refine pcall0 200 (fn := Tryz.f60) Tryz.func60 rfl (by simp [Tryz.ntmps60]) zB zB fun hs => ?_
  ((try refine zW ?_); (try with_reducible exact True.intro))
  by_cases h4 : s.picks.length ≤ 4
  · have h4' : ¬ (4 : Int) < (s.picks.length : Int) := by omega
    have hmode : (s.mode = 1 ∨ s.picks.length = 0) ∨ ((0 : Int) < (s.picks.length : Int) ∧ (s.mode == 1) = false) := by
      by_cases h : s.mode = 1
      · exact .inl (.inl h)
      · by_cases h0 : s.picks.length = 0
        · exact .inl (.inr h0)
        · exact .inr ⟨by omega, by rw [beq_eq_false_iff_ne]; exact h⟩
    (try simp (disch := omega) only [go_sem, simprocAttr, if_pos, if_neg, w64, beqT, beqF, bneT, bneF, pr_get, ir_get, decide_eq_true, decide_eq_false, h4'])
    rcases hmode with hmode | ⟨hm1, hm2⟩
    rotate_left
    · have hm3 : (s.mode != 1) = true := by rw [bne, hm2]; rfl
      have e : r = false := by
        rw [← hr]
        refine tB_neg fun h => ?_
        rw [beq_eq_false_iff_ne] at hm2
        rcases h.2.1 with h | h
        · exact hm2 h
        · omega
      (try simp (disch := omega) only [go_sem, simprocAttr, if_pos, if_neg, w64, beqT, beqF, bneT, bneF, pr_get, ir_get, decide_eq_true, decide_eq_false, hm1, hm3, e])
    have no : ∀ (j : Nat) (p : Int × List (Int × Int)), s.picks[j]? = some p → ¬ (StaP m p.1 ∧ p.2.length ≤ 4 ∧ SendsP ls n p.2) → r = false := fun j p h1 h2 => by
      rw [← hr]; exact tB_neg fun h => h2 (h.2.2 j p h1)
    have go : ∀ (d : Bool), (d = true ∨ d = false) := fun d => by cases d <;> simp
    have cond : (0 < s.picks.length ∧ (s.mode == 1) = true) ∨ s.picks.length = 0 := by
      rcases Nat.eq_zero_or_pos s.picks.length with h | h
      · exact .inr h
      · rcases hmode with h1 | h1
        · exact .inl ⟨h, by rw [beq_iff_eq]; exact h1⟩
        · exact .inr h1
    rcases cond with ⟨k1, k2⟩ | k1
    · have k1' : (0 : Int) < (s.picks.length : Int) := by omega
      have k3 : (s.mode != 1) = false := by rw [bne, k2]; rfl
      (try simp (disch := omega) only [go_sem, simprocAttr, if_pos, if_neg, w64, beqT, beqF, bneT, bneF, pr_get, ir_get, decide_eq_true, decide_eq_false, k1', k3])
      refine walk_floop 200 200 (fun i : Nat => i ≤ s.picks.length ∧ ∀ j p, j < i → s.picks[j]? = some p → StaP m p.1 ∧ p.2.length ≤ 4 ∧ SendsP ls n p.2)
        (fun i => ⟨89, [(1, sci .i64 n), (2, sci .i64 (m : Int)), (4, .ptr 0 0 0 0), (7, .ptr 1 0 0 0), (9, sci .i64 i)], [], 2, [(1, grB N ls), (0, stB s)]⟩) (fun i => s.picks.length - i) 0 [] ⟨Nat.zero_le _, fun j w h => by omega⟩ ?_ ?_
      · constructor <;> (try simp (disch := omega) only [go_sem, simprocAttr, if_pos, if_neg, w64, beqT, beqF, bneT, bneF, pr_get, ir_get, decide_eq_true, decide_eq_false, Int.natCast_zero])
      · rintro i ⟨hi, hp⟩
        ((try refine zW ?_); (try with_reducible exact True.intro))
        by_cases li : i < s.picks.length
        · have gi := List.getElem?_eq_getElem li
          ((try refine zO ?_); (try with_reducible exact True.intro))
          (try simp (disch := omega) only [go_sem, simprocAttr, if_pos, if_neg, w64, beqT, beqF, bneT, bneF, pr_get, ir_get, decide_eq_true, decide_eq_false, ePk])
          generalize hpk : s.picks[i] = pk at *
          obtain ⟨nx, sends⟩ := pk
          by_cases c1 : nx < 0
          · have e := no i _ gi fun h => by have := h.1.1; simp only at this; omega
            (try simp (disch := omega) only [go_sem, simprocAttr, if_pos, if_neg, w64, beqT, beqF, bneT, bneF, pr_get, ir_get, decide_eq_true, decide_eq_false, c1, e])
          by_cases c2 : (m : Int) ≤ nx
          · have e := no i _ gi fun h => by have := h.1.2; simp only at this; omega
            (try simp (disch := omega) only [go_sem, simprocAttr, if_pos, if_neg, w64, beqT, beqF, bneT, bneF, pr_get, ir_get, decide_eq_true, decide_eq_false, c1, c2, e])
          by_cases c3 : (4 : Int) < (sends.length : Int)
          · have e := no i _ gi fun h => by have := h.2.1; simp only at this; omega
            (try simp (disch := omega) only [go_sem, simprocAttr, if_pos, if_neg, w64, beqT, beqF, bneT, bneF, pr_get, ir_get, decide_eq_true, decide_eq_false, c1, c2, c3, e])
          (try simp (disch := omega) only [go_sem, simprocAttr, if_pos, if_neg, w64, beqT, beqF, bneT, bneF, pr_get, ir_get, decide_eq_true, decide_eq_false, c1, c2, c3])
          refine walk_loop 200 200 (fun k : Nat => k ≤ sends.length ∧ ∀ j x, j < k → sends[j]? = some x → (n, x.1) ∈ ls ∧ LetP x.2)
            (fun k => ⟨89, [(1, sci .i64 n), (2, sci .i64 (m : Int)), (4, .ptr 0 0 0 0), (7, .ptr 1 0 0 0), (9, sci .i64 i), (10, .ptr 2 0 0 0), (11, sci .i64 k)], [], 3, [(2, .arr 2 0 [[sci .i64 nx, lII sends]]), (1, grB N ls), (0, stB s)]⟩) (fun k => sends.length - k) 0 ⟨Nat.zero_le _, fun j w h => by omega⟩ ?_ ?_
          · constructor <;> (try simp (disch := omega) only [go_sem, simprocAttr, if_pos, if_neg, w64, beqT, beqF, bneT, bneF, pr_get, ir_get, decide_eq_true, decide_eq_false, Int.natCast_zero])
          · rintro k ⟨hk, hq⟩
            ((try refine zW ?_); (try with_reducible exact True.intro))
            by_cases lk : k < sends.length
            · have gk := List.getElem?_eq_getElem lk
              have nok : ¬ ((n, sends[k].1) ∈ ls ∧ LetP sends[k].2) → r = false := fun h => no i _ gi fun q => h (q.2.2 k _ gk)
              ((try refine zO ?_); (try with_reducible exact True.intro))
              (refine walk_trim [1, 2, 4, 7, 9, 10, 11] trivial zL ?_; (refine zW ?_; try with_reducible exact True.intro); refine irun_walk (id := 12) (n := 200) [none, none, none, none, none, none, none, none, some [], none, none, none, none, none, none, none, none, none, none, none, none, none, none, none, none, none, none, none] mixed (by kernel_rfl) ?_)
              (try simp (disch := omega) only [go_sem, simprocAttr, if_pos, if_neg, w64, beqT, beqF, bneT, bneF, pr_get, ir_get, decide_eq_true, decide_eq_false, eII])
              (refine at_dcall ?_; (refine zW ?_; try with_reducible exact True.intro); refine callA_of (R3Find_spec _ _ _ _ hl) zB ?_; ((try refine zW ?_); (try with_reducible exact True.intro)))
              generalize hx : sends[k] = x at *
              obtain ⟨to, lt⟩ := x
              simp only at nok
              by_cases hin : (n, to) ∈ ls
              · have hf : ¬ findL n to 0 ls < 0 := by have := findL_mem (s := 0).2 hin; omega
                (try simp (disch := omega) only [go_sem, simprocAttr, if_pos, if_neg, w64, beqT, beqF, bneT, bneF, pr_get, ir_get, decide_eq_true, decide_eq_false, hf, hx, eII])
                by_cases d1 : lt < 0
                · (try simp (disch := omega) only [go_sem, simprocAttr, if_pos, if_neg, w64, beqT, beqF, bneT, bneF, pr_get, ir_get, decide_eq_true, decide_eq_false, d1, hx, eII, nok fun h => by have := h.2.1; omega])
                by_cases d2 : (3 : Int) < lt
                · (try simp (disch := omega) only [go_sem, simprocAttr, if_pos, if_neg, w64, beqT, beqF, bneT, bneF, pr_get, ir_get, decide_eq_true, decide_eq_false, d1, d2, hx, eII, nok fun h => by have := h.2.2; omega])
                (try simp (disch := omega) only [go_sem, simprocAttr, if_pos, if_neg, w64, beqT, beqF, bneT, bneF, pr_get, ir_get, decide_eq_true, decide_eq_false, d1, d2, hx, eII])
                refine ⟨k + 1, ⟨lk, all_snoc lk hq (by rw [hx]; exact ⟨hin, by unfold LetP; simp only; omega⟩)⟩, by omega, ?_⟩
                constructor <;> ((try refine zO ?_); (try with_reducible exact True.intro))
              · have hf : findL n to 0 ls < 0 := by
                  rcases Int.lt_or_le (findL n to 0 ls) 0 with h | h
                  · exact h
                  · exact absurd (findL_mem.1 h) hin
                (try simp (disch := omega) only [go_sem, simprocAttr, if_pos, if_neg, w64, beqT, beqF, bneT, bneF, pr_get, ir_get, decide_eq_true, decide_eq_false, hf, hx, eII, nok fun h => hin h.1])
            · obtain rfl : k = sends.length := by omega
              ((try refine zO ?_); (try with_reducible exact True.intro))
              refine ⟨i + 1, [2], ⟨li, all_snoc li hp (by rw [hpk]; exact ⟨⟨by simp only; omega, by simp only; omega⟩, by simp only; omega, all_end hq⟩)⟩, by omega, ?_⟩
              constructor <;> ((try refine zO ?_); (try with_reducible exact True.intro))
        · obtain rfl : i = s.picks.length := by omega
          have e : r = true := by rw [← hr]; exact tB_pos ⟨h4, hmode, all_end hp⟩
          (try simp (disch := omega) only [go_sem, simprocAttr, if_pos, if_neg, w64, beqT, beqF, bneT, bneF, pr_get, ir_get, decide_eq_true, decide_eq_false, e])
    · have k1' : ¬ (0 : Int) < (s.picks.length : Int) := by omega
      have kn : s.picks = [] := List.eq_nil_of_length_eq_zero k1
      have e : r = true := by rw [← hr]; exact tB_pos ⟨h4, hmode, fun j p h => by rw [kn] at h; simp at h⟩
      (try simp (disch := omega) only [go_sem, simprocAttr, if_pos, if_neg, w64, beqT, beqF, bneT, bneF, pr_get, ir_get, decide_eq_true, decide_eq_false, k1'])
      refine walk_loop 200 200 (fun i : Nat => i = 0)
        (fun i => ⟨89, [(4, .ptr 0 0 0 0), (9, sci .i64 0)], [], 2, [(1, grB N ls), (0, stB s)]⟩) (fun i => i) 0 rfl ?_ ?_
      · constructor <;> ((try refine zO ?_); (try with_reducible exact True.intro))
      · rintro i rfl
        (try simp (disch := omega) only [go_sem, simprocAttr, if_pos, if_neg, w64, beqT, beqF, bneT, bneF, pr_get, ir_get, decide_eq_true, decide_eq_false, k1', e])
  · have h4' : (4 : Int) < (s.picks.length : Int) := by omega
    have e : r = false := by rw [← hr]; exact tB_neg fun h => h4 h.1
    (try simp (disch := omega) only [go_sem, simprocAttr, if_pos, if_neg, w64, beqT, beqF, bneT, bneF, pr_get, ir_get, decide_eq_true, decide_eq_false, h4', e])
end Go.Proofs.GY
