/- What is wrong with a script; its bytes. -/
import Derived.Test.YtoiledoommblcaaRPb
import Derived.Test.YtoiledoommblcaaRH
import Derived.Test.YtoiledoommblcaaRL2
set_option linter.unusedSimpArgs false
set_option linter.unusedVariables false
namespace Go.Proofs.TR
open Go Go.Idl Go.Proofs Go.GP Go.FL
set_option maxHeartbeats 20000000
set_option maxRecDepth 100000
def OkP (n : Int) : Prop := 0 ≤ n ∧ n ≤ 2147483647
def ActP (t : Int × Int × Int) : Prop := (0 ≤ t.1 ∧ t.1 < 4) ∧ OkP t.2.1 ∧ OkP t.2.2 ∧ (t.1 ≤ 1 ∨ t.2.2 = 0)
def ActsP (l : List (Int × Int × Int)) : Prop := ∀ (j : Nat) (t : Int × Int × Int), l[j]? = some t → ActP t
theorem ok_spec (n : Int) : Pure Try.prog 50 [sci .i64 n] (scb (tB (OkP n))) := by
  have e : tB (OkP n) = (decide (0 ≤ n) && decide (n ≤ 2147483647)) := by rw [← Bool.decide_and]; exact tB_dec (P := _ ∧ _)
  rw [e]
  refine pcall0 200 (fn := Try.f50) Try.func50 rfl (by simp [Try.ntmps50]) zB zB fun hs => ?_
  ((try refine zW ?_); (try with_reducible exact True.intro))
  by_cases h : 0 ≤ n
  · (try simp (disch := omega) only [go_sem, simprocAttr, if_pos, if_neg, w64, beqT, beqF, bneT, bneF, pr_get, ir_get, decide_eq_true, decide_eq_false, h])
  · (try simp (disch := omega) only [go_sem, simprocAttr, if_pos, if_neg, w64, beqT, beqF, bneT, bneF, pr_get, ir_get, decide_eq_true, decide_eq_false, h])
theorem actMay_spec (t : Int × Int × Int) : Pure Try.prog 25 [.agg [sci .i64 t.1, sci .i64 t.2.1, sci .i64 t.2.2]] (scb (tB (ActP t))) := by
  obtain ⟨k, a, b⟩ := t
  refine pcall0 200 (fn := Try.f25) Try.func25 rfl (by simp [Try.ntmps25]) zB zB fun hs => ?_
  ((try refine zW ?_); (try with_reducible exact True.intro))
  by_cases h1 : 0 ≤ k
  · by_cases h2 : k < 4
    · (try simp (disch := omega) only [go_sem, simprocAttr, if_pos, if_neg, w64, beqT, beqF, bneT, bneF, pr_get, ir_get, decide_eq_true, decide_eq_false, h1, h2])
      (refine at_call 200 ?_; (refine zW ?_; try with_reducible exact True.intro); refine callA_of (ok_spec a) zB ?_; ((try refine zW ?_); (try with_reducible exact True.intro)))
      by_cases h3 : OkP a
      · have e3 := tB_pos h3
        (try simp (disch := omega) only [go_sem, simprocAttr, if_pos, if_neg, w64, beqT, beqF, bneT, bneF, pr_get, ir_get, decide_eq_true, decide_eq_false, e3])
        (refine at_call 200 ?_; (refine zW ?_; try with_reducible exact True.intro); refine callA_of (ok_spec b) zB ?_; ((try refine zW ?_); (try with_reducible exact True.intro)))
        by_cases h4 : OkP b
        · have e4 := tB_pos h4
          by_cases h5 : k ≤ 1
          · have e : tB (ActP (k, a, b)) = true := tB_pos ⟨⟨h1, h2⟩, h3, h4, .inl h5⟩
            (try simp (disch := omega) only [go_sem, simprocAttr, if_pos, if_neg, w64, beqT, beqF, bneT, bneF, pr_get, ir_get, decide_eq_true, decide_eq_false, e4, h5, e])
          · by_cases h6 : b = 0
            · have e : tB (ActP (k, a, b)) = true := tB_pos ⟨⟨h1, h2⟩, h3, h4, .inr h6⟩
              subst h6
              rw [e]
              (try simp (disch := omega) only [go_sem, simprocAttr, if_pos, if_neg, w64, beqT, beqF, bneT, bneF, pr_get, ir_get, decide_eq_true, decide_eq_false, e4, h5])
            · have e : tB (ActP (k, a, b)) = false := tB_neg fun q => by rcases q.2.2.2 with q | q; exact h5 q; exact h6 q
              rw [e]
              (try simp (disch := omega) only [go_sem, simprocAttr, if_pos, if_neg, w64, beqT, beqF, bneT, bneF, pr_get, ir_get, decide_eq_true, decide_eq_false, e4, h5, h6])
        · have e4 := tB_neg h4
          have e : tB (ActP (k, a, b)) = false := tB_neg fun q => h4 q.2.2.1
          (try simp (disch := omega) only [go_sem, simprocAttr, if_pos, if_neg, w64, beqT, beqF, bneT, bneF, pr_get, ir_get, decide_eq_true, decide_eq_false, e4, e])
      · have e3 := tB_neg h3
        have e : tB (ActP (k, a, b)) = false := tB_neg fun q => h3 q.2.1
        (try simp (disch := omega) only [go_sem, simprocAttr, if_pos, if_neg, w64, beqT, beqF, bneT, bneF, pr_get, ir_get, decide_eq_true, decide_eq_false, e3, e])
    · have e : tB (ActP (k, a, b)) = false := tB_neg fun q => h2 q.1.2
      (try simp (disch := omega) only [go_sem, simprocAttr, if_pos, if_neg, w64, beqT, beqF, bneT, bneF, pr_get, ir_get, decide_eq_true, decide_eq_false, h1, h2, e])
  · have e : tB (ActP (k, a, b)) = false := tB_neg fun q => h1 q.1.1
    (try simp (disch := omega) only [go_sem, simprocAttr, if_pos, if_neg, w64, beqT, beqF, bneT, bneF, pr_get, ir_get, decide_eq_true, decide_eq_false, h1, e])
/-- What is wrong with a script. -/
noncomputable def errL (s : Sc) : Int :=
  if rightB s.N s.ls = false then 10 else if tB (TabP s.N s.ls s.T) = false then 11 else if (capN s.room).2 ≠ 0 then (capN s.room).2 else if tB (ActsP s.acts) = true then 0 else 4
theorem fit_small {s : Sc} (h : Fit s) : SmallT s.T := by
  obtain ⟨h1, h2, h3, h4⟩ := h
  refine ⟨by omega, fun n x hx => ?_⟩
  obtain ⟨a, b⟩ := h3 x (List.mem_of_getElem? hx)
  refine ⟨by omega, fun j s hs => ?_⟩
  obtain ⟨c1, c2, c3, c4⟩ := b s (List.mem_of_getElem? hs)
  exact ⟨by omega, by omega, by omega⟩
theorem scRight_gen (s : Sc) (hsm : SmallT s.T) (f4 : s.acts.length ≤ 1000000) (hr : s.room < 18446744073709551616) : Pure Try.prog 9 [lSc s] (sci .i64 (errL s)) := by
  obtain ⟨N, ls, T, fifo, room, acts⟩ := s
  simp only at hr hsm f4
  unfold errL
  
  refine pcall0 200 (fn := Try.f9) Try.func9 rfl (by simp [Try.ntmps9]) zB zB fun hs => ?_
  ((try refine zW ?_); (try with_reducible exact True.intro))
  (refine at_call 200 ?_; (refine zW ?_; try with_reducible exact True.intro); refine callA_of (Right_spec N ls) zB ?_; ((try refine zW ?_); (try with_reducible exact True.intro)))
  cases hR : rightB N ls
  · ((try refine zO ?_); (try with_reducible exact True.intro))
  · ((try refine zO ?_); (try with_reducible exact True.intro))
    (refine at_call 200 ?_; (refine zW ?_; try with_reducible exact True.intro); refine callA_of (tabRight_spec N ls T hsm) zB ?_; ((try refine zW ?_); (try with_reducible exact True.intro)))
    cases hT : tB (TabP N ls T)
    · ((try refine zO ?_); (try with_reducible exact True.intro))
    · ((try refine zO ?_); (try with_reducible exact True.intro))
      (refine at_call 200 ?_; (refine zW ?_; try with_reducible exact True.intro); refine callA_of (Cap_spec room hr) zB ?_; ((try refine zW ?_); (try with_reducible exact True.intro)))
      by_cases hc : (capN room).2 = 0
      · (try simp (maxSteps := 2000000) (disch := omega) only [go_sem, simprocAttr, if_pos, if_neg, w64, beqT, beqF, bneT, bneF, pr_get, ir_get, decide_eq_true, decide_eq_false, hc])
        (refine walk_trim [32, 33, 34] trivial zL ?_; ((try refine zW ?_); (try with_reducible exact True.intro)))
        refine walk_floop 200 200 (fun i : Nat => i ≤ acts.length ∧ ∀ (j : Nat) (t : Int × Int × Int), j < i → acts[j]? = some t → ActP t)
          (fun i => ⟨42, [(32, .p (.imm 3 (pr eIII acts))), (33, sci .i64 acts.length), (34, sci .i64 i)], [], 1, [(0, .arr 6 0 [[sci .i64 N, lII ls, .p (.imm 2 (pr eNd T)), scb fifo, .p (.sc (.float .f64 room)), .p (.imm 3 (pr eIII acts))]])]⟩) (fun i => acts.length - i) (0) [] ?_ ?_ ?_
        · simp
        · constructor <;> (try simp (maxSteps := 2000000) (disch := omega) only [go_sem, simprocAttr, if_pos, if_neg, w64, beqT, beqF, bneT, bneF, pr_get, ir_get, decide_eq_true, decide_eq_false, Int.natCast_zero, List.take_of_length_le, List.append_assoc])
        · rintro i hi
          obtain ⟨hi, hinvi⟩ := hi
          ((try refine zW ?_); (try with_reducible exact True.intro))
          by_cases li : i < acts.length
          · have bad : ¬ ActP acts[i] → tB (ActsP acts) = false := fun q => tB_neg fun h => q (h i _ (List.getElem?_eq_getElem li))
            have sn := all_snoc li hinvi
            generalize hp : acts[i] = t at *
            (try simp (maxSteps := 2000000) (disch := omega) only [go_sem, simprocAttr, if_pos, if_neg, w64, beqT, beqF, bneT, bneF, pr_get, ir_get, decide_eq_true, decide_eq_false, eIII, hp])
            (refine at_call 200 ?_; (refine zW ?_; try with_reducible exact True.intro); refine callA_of (actMay_spec t) zB ?_; ((try refine zW ?_); (try with_reducible exact True.intro)))
            by_cases h : ActP t
            · have e := tB_pos h
              (try simp (maxSteps := 2000000) (disch := omega) only [go_sem, simprocAttr, if_pos, if_neg, w64, beqT, beqF, bneT, bneF, pr_get, ir_get, decide_eq_true, decide_eq_false, e])
              refine ⟨i + 1, [], ⟨li, sn h⟩, by omega, ?_⟩
              constructor <;> ((try refine zO ?_); (try with_reducible exact True.intro))
            · have e := tB_neg h
              have e2 := bad h
              (try simp (maxSteps := 2000000) (disch := omega) only [go_sem, simprocAttr, if_pos, if_neg, w64, beqT, beqF, bneT, bneF, pr_get, ir_get, decide_eq_true, decide_eq_false, e, e2])
          · obtain rfl : i = acts.length := by omega
            have e : tB (ActsP acts) = true := tB_pos (all_end hinvi)
            (try simp (maxSteps := 2000000) (disch := omega) only [go_sem, simprocAttr, if_pos, if_neg, w64, beqT, beqF, bneT, bneF, pr_get, ir_get, decide_eq_true, decide_eq_false, e])
      · (try simp (maxSteps := 2000000) (disch := omega) only [go_sem, simprocAttr, if_pos, if_neg, w64, beqT, beqF, bneT, bneF, pr_get, ir_get, decide_eq_true, decide_eq_false, hc])
theorem scRight_spec (s : Sc) (hf : Fit s) (hr : s.room < 18446744073709551616) : Pure Try.prog 9 [lSc s] (sci .i64 (errL s)) :=
  scRight_gen s (fit_small hf) (by have := hf.2.2.2; omega) hr
theorem Encode_gen (s : Sc) (hsm : SmallT s.T) (f4 : s.acts.length ≤ 1000000) (ha : (appL s).length ≤ 1000000) (hb : (actsL s.acts).length ≤ 1000000) (hr : s.room < 18446744073709551616) : Pure Try.prog 8 [lSc s]
    (.tup [.p (.sc (.string (strOf (if errL s = 0 then (appL s).flatMap putL ++ flB s.room ++ (actsL s.acts).flatMap putL else [])))), sci .i64 (errL s)]) := by
  refine pcall0 200 (fn := Try.f8) Try.func8 rfl (by simp [Try.ntmps8]) zB zB fun hs => ?_
  ((try refine zW ?_); (try with_reducible exact True.intro))
  (refine at_call 200 ?_; (refine zW ?_; try with_reducible exact True.intro); refine callA_of (scRight_gen s hsm f4 hr) zB ?_; ((try refine zW ?_); (try with_reducible exact True.intro)))
  have p1 : ((appL s).flatMap putL).length ≤ 5 * (appL s).length := flat_le fun n _ => putL_le n
  have p2 : ((actsL s.acts).flatMap putL).length ≤ 5 * (actsL s.acts).length := flat_le fun n _ => putL_le n
  have p3 : (flB s.room).length = 8 := by simp [flB]
  by_cases h : errL s = 0
  · (try simp (disch := omega) only [go_sem, simprocAttr, if_pos, if_neg, w64, beqT, beqF, bneT, bneF, pr_get, ir_get, decide_eq_true, decide_eq_false, h])
    (refine walk_trim [1] trivial zL ?_; (refine zW ?_; try with_reducible exact True.intro); refine irun_walk (id := 4) (n := 200) [none, none, some [4, 5, 8, 9], some [4, 5, 8, 9], none, none, some [8, 9], none, none, none, some [7], some [7], none, none, none] mixed (by kernel_rfl) ?_)
    ((try refine zW ?_); (try with_reducible exact True.intro))
    (refine at_dcall ?_; (refine zW ?_; try with_reducible exact True.intro); refine callA_of (app_spec s ha) zB ?_; ((try refine zW ?_); (try with_reducible exact True.intro)))
    ((try refine zW ?_); (try with_reducible exact True.intro))
    (refine at_dcall ?_; (refine zW ?_; try with_reducible exact True.intro); refine callA_of (Puts_spec _ ha) zB ?_; ((try refine zW ?_); (try with_reducible exact True.intro)))
    ((try refine zW ?_); (try with_reducible exact True.intro))
    (refine at_dcall ?_; (refine zW ?_; try with_reducible exact True.intro); refine callA_of (bits_spec _ hr) zB ?_; ((try refine zW ?_); (try with_reducible exact True.intro)))
    (try simp (disch := omega) only [go_sem, simprocAttr, if_pos, if_neg, w64, beqT, beqF, bneT, bneF, pr_get, ir_get, decide_eq_true, decide_eq_false, strOf_size, strOf_app, List.length_append])
    (refine at_dcall ?_; (refine zW ?_; try with_reducible exact True.intro); refine callA_of (acts_spec _ hb) zB ?_; ((try refine zW ?_); (try with_reducible exact True.intro)))
    ((try refine zW ?_); (try with_reducible exact True.intro))
    (refine at_dcall ?_; (refine zW ?_; try with_reducible exact True.intro); refine callA_of (Puts_spec _ hb) zB ?_; ((try refine zW ?_); (try with_reducible exact True.intro)))
    (try simp (disch := omega) only [go_sem, simprocAttr, if_pos, if_neg, w64, beqT, beqF, bneT, bneF, pr_get, ir_get, decide_eq_true, decide_eq_false, strOf_size, strOf_app, List.length_append])
  · have e : strOf [] = ⟨#[]⟩ := rfl
    (try simp (disch := omega) only [go_sem, simprocAttr, if_pos, if_neg, w64, beqT, beqF, bneT, bneF, pr_get, ir_get, decide_eq_true, decide_eq_false, h, e])
theorem Encode_spec (s : Sc) (hf : Fit s) (hr : s.room < 18446744073709551616) : Pure Try.prog 8 [lSc s]
    (.tup [.p (.sc (.string (strOf (if errL s = 0 then (appL s).flatMap putL ++ flB s.room ++ (actsL s.acts).flatMap putL else [])))), sci .i64 (errL s)]) := by
  exact Encode_gen s (fit_small hf) (by have := hf.2.2.2; omega) (Nat.le_trans (appL_small hf) (by omega)) (Nat.le_trans (actsL_small hf) (by omega)) hr
end Go.Proofs.TR
