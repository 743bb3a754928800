/- Facts that the proofs of this claim lean on. -/
import Derived.Test.YtoiledoommblcaaRD
set_option linter.unusedSimpArgs false
set_option linter.unusedVariables false
/- Numbers as the document tells them. -/
namespace Go.Proofs.TR
open Go Go.Idl Go.Proofs
set_option maxHeartbeats 20000000
set_option maxRecDepth 100000
theorem Ints_spec (l k : List Int) : Pure Try.prog 32 [lI l, lI k] (scb (decide (l = k))) := by
  refine pcall0 200 (fn := Try.f32) Try.func32 rfl (by simp [Try.ntmps32]) zB zB fun hs => ?_
  simp only [go_sem, simprocAttr, maxLen] at hs
  obtain ⟨ha, hb⟩ := hs
  ((try refine zO ?_); (try with_reducible exact True.intro))
  by_cases hl : l.length = k.length
  · (try simp (disch := omega) only [go_sem, simprocAttr, if_pos, if_neg, w64, beqT, beqF, bneT, bneF, pr_get, ir_get, decide_eq_true, decide_eq_false, hl])
    (refine walk_trim [0, 1, 5] trivial zL ?_; ((try refine zW ?_); (try with_reducible exact True.intro)))
    refine walk_floop 200 200 (fun i : Nat => i ≤ l.length ∧ ∀ j, j < i → l[j]? = k[j]?)
      (fun i => ⟨26, [(0, lI l), (1, lI k), (5, sci .i64 i)], [], 0, []⟩) (fun i => l.length - i) (0) [] ?_ ?_ ?_
    · simp
    · constructor <;> (try simp (disch := omega) only [go_sem, simprocAttr, if_pos, if_neg, w64, beqT, beqF, bneT, bneF, pr_get, ir_get, decide_eq_true, decide_eq_false, Int.natCast_zero, List.take_of_length_le, List.append_assoc])
    · rintro i hi
      obtain ⟨hi, hinvi⟩ := hi
      ((try refine zW ?_); (try with_reducible exact True.intro))
      by_cases li : i < l.length
      · ((try refine zO ?_); (try with_reducible exact True.intro))
        (refine walk_trim [0, 1, 5] trivial zL ?_; (refine zW ?_; try with_reducible exact True.intro); refine irun_walk (id := 6) (n := 200) [none, none, none, none, none, none, none, none, none] mixed (by kernel_rfl) ?_)
        (try simp (disch := omega) only [go_sem, simprocAttr, if_pos, if_neg, w64, beqT, beqF, bneT, bneF, pr_get, ir_get, decide_eq_true, decide_eq_false, eI])
        have li' : i < k.length := by omega
        by_cases e : l[i] = k[i]
        · (try simp (disch := omega) only [go_sem, simprocAttr, if_pos, if_neg, w64, beqT, beqF, bneT, bneF, pr_get, ir_get, decide_eq_true, decide_eq_false, e])
          refine ⟨i + 1, [], ⟨by omega, fun j hj => ?_⟩, by omega, ?_⟩
          · rcases Nat.lt_or_ge j i with h | h
            · exact hinvi j h
            · obtain rfl : j = i := by omega
              rw [List.getElem?_eq_getElem li, List.getElem?_eq_getElem li', e]
          · constructor <;> ((try refine zO ?_); (try with_reducible exact True.intro))
        · have : ¬ l = k := by rintro rfl; exact e rfl
          (try simp (disch := omega) only [go_sem, simprocAttr, if_pos, if_neg, w64, beqT, beqF, bneT, bneF, pr_get, ir_get, decide_eq_true, decide_eq_false, e, this])
      · have : l = k := by
          apply List.ext_getElem?
          intro j
          rcases Nat.lt_or_ge j i with h | h
          · exact hinvi j h
          · rw [List.getElem?_eq_none (by omega), List.getElem?_eq_none (by omega)]
        (try simp (disch := omega) only [go_sem, simprocAttr, if_pos, if_neg, w64, beqT, beqF, bneT, bneF, pr_get, ir_get, decide_eq_true, decide_eq_false, this])
  · have : ¬ l = k := by rintro rfl; exact hl rfl
    have hl' : ¬ (l.length : Int) = k.length := by omega
    (try simp (disch := omega) only [go_sem, simprocAttr, if_pos, if_neg, w64, beqT, beqF, bneT, bneF, pr_get, ir_get, decide_eq_true, decide_eq_false, this, hl'])
theorem R21state_spec (s : St) (hb : (stL s).length ≤ 1000000) : Pure Try.prog 56 [lSt s] (lI (stL s)) := by
  obtain ⟨mode, waits, picks, takes⟩ := s
  simp only [stL] at hb ⊢
  obtain ⟨F, F0, Fs, Fn, Fl, Fk⟩ := flat_acc (pkL) ([mode, (waits.length : Int)] ++ waits ++ [(picks.length : Int)]) (picks) (fun _ => by simp [pkL])
  have Fz := Fl 0 (Nat.zero_le _)
  rw [F0] at Fz
  (try simp only [List.length_append, List.length_range, List.length_cons, List.length_nil, List.length_map, List.length_take] at Fz Fk)
  obtain ⟨H, H0, Hs, Hn, Hl, Hk⟩ := flat_acc (fun t : Int × Int × Int => [t.1, t.2.1, t.2.2]) (F picks.length ++ [(takes.length : Int)]) (takes) (fun _ => by simp)
  have Hz := Hl 0 (Nat.zero_le _)
  rw [H0] at Hz
  (try simp only [List.length_append, List.length_range, List.length_cons, List.length_nil, List.length_map, List.length_take] at Hz Hk)
  rw [← Fn, ← Hn] at hb ⊢
  
  refine pcall0 200 (fn := Try.f56) Try.func56 rfl (by simp [Try.ntmps56]) zB zB fun hs => ?_
  have ha : 2 + waits.length = waits.length + 2 := by omega
  (try simp (maxSteps := 2000000) (disch := omega) only [go_sem, simprocAttr, if_pos, if_neg, w64, beqT, beqF, bneT, bneF, pr_get, ir_get, decide_eq_true, decide_eq_false, ha])
  (refine walk_trim [1, 3, 4] trivial zL ?_; ((try refine zW ?_); (try with_reducible exact True.intro)))
  refine walk_floop 200 200 (fun i : Nat × Nat => i.1 ≤ picks.length)
    (fun i => ⟨127, [(1, .ptr 0 0 0 0), (3, .ref 1 i.2 0 (F i.1).length), (4, sci .i64 i.1)], [], 2, [(1, .arr 1 i.2 (ir eI (F i.1))), (0, .arr 4 0 [[sci .i64 mode, lI waits, .p (.imm 2 (pr ePk picks)), .p (.imm 3 (pr eIII takes))]])]⟩) (fun i => picks.length - i.1) (0, 2) [] ?_ ?_ ?_
  · simp
  · constructor <;> (try simp (maxSteps := 2000000) (disch := omega) only [go_sem, simprocAttr, if_pos, if_neg, w64, beqT, beqF, bneT, bneF, pr_get, ir_get, decide_eq_true, decide_eq_false, Int.natCast_zero, List.take_of_length_le, List.append_assoc, F0, ha])
  · rintro ⟨i, g⟩ hi
    simp only at hi
    ((try refine zW ?_); (try with_reducible exact True.intro))
    by_cases li : i < picks.length
    · have hfi := Fl (i + 1) li
      have hpi := Fs i li
      generalize hp : picks[i] = p at *
      obtain ⟨G, G0, Gs, Gn, Gl, Gk⟩ := flat_acc (fun x : Int × Int => [x.1, x.2]) (F i ++ [p.1, (p.2.length : Int)]) (p.2) (fun _ => by simp)
      have Gz := Gl 0 (Nat.zero_le _)
      rw [G0] at Gz
      (try simp only [List.length_append, List.length_range, List.length_cons, List.length_nil, List.length_map, List.length_take] at Gz Gk)
      have gF : G p.2.length = F (i + 1) := by rw [Gn, hpi]; simp [pkL]
      rw [← gF] at hfi
      (try simp (maxSteps := 2000000) (disch := omega) only [go_sem, simprocAttr, if_pos, if_neg, w64, beqT, beqF, bneT, bneF, pr_get, ir_get, decide_eq_true, decide_eq_false, ePk, hp])
      (refine walk_trim [1, 3, 4, 5] trivial zL ?_; ((try refine zW ?_); (try with_reducible exact True.intro)))
      refine walk_floop 200 200 (fun k : Nat × Nat => k.1 ≤ p.2.length)
        (fun k => ⟨127, [(1, .ptr 0 0 0 0), (3, .ref 1 k.2 0 (G k.1).length), (4, sci .i64 i), (5, sci .i64 k.1)], [], 2, [(1, .arr 1 k.2 (ir eI (G k.1))), (0, .arr 4 0 [[sci .i64 mode, lI waits, .p (.imm 2 (pr ePk picks)), .p (.imm 3 (pr eIII takes))]])]⟩) (fun k => p.2.length - k.1) (0, g + 2) [] ?_ ?_ ?_
      · simp
      · constructor <;> (try simp (maxSteps := 2000000) (disch := omega) only [go_sem, simprocAttr, if_pos, if_neg, w64, beqT, beqF, bneT, bneF, pr_get, ir_get, decide_eq_true, decide_eq_false, Int.natCast_zero, List.take_of_length_le, List.append_assoc, G0])
      · rintro ⟨k, e⟩ hk
        simp only at hk
        ((try refine zW ?_); (try with_reducible exact True.intro))
        by_cases lk : k < p.2.length
        · have Gi := Gl (k + 1) lk
          have Ge := Gs k lk
          rw [Ge] at Gi
          (try simp only [List.length_append, List.length_range, List.length_cons, List.length_nil, List.length_map, List.length_take] at Gi)
          (try simp (maxSteps := 2000000) (disch := omega) only [go_sem, simprocAttr, if_pos, if_neg, w64, beqT, beqF, bneT, bneF, pr_get, ir_get, decide_eq_true, decide_eq_false, ePk, hp, eII])
          refine ⟨(k + 1, e + 2), [], by first | assumption | omega, ?_, ?_⟩
          · (try simp only []); omega
          · constructor <;> (try simp (maxSteps := 2000000) (disch := omega) only [go_sem, simprocAttr, if_pos, if_neg, w64, beqT, beqF, bneT, bneF, pr_get, ir_get, decide_eq_true, decide_eq_false, Ge, List.take_of_length_le, List.append_assoc])
        · obtain rfl : k = p.2.length := by omega
          (try simp (maxSteps := 2000000) (disch := omega) only [go_sem, simprocAttr, if_pos, if_neg, w64, beqT, beqF, bneT, bneF, pr_get, ir_get, decide_eq_true, decide_eq_false, ePk, hp])
          refine ⟨(i + 1, e), [], by first | assumption | omega, ?_, ?_⟩
          · (try simp only []); omega
          · constructor <;> (try simp (maxSteps := 2000000) (disch := omega) only [go_sem, simprocAttr, if_pos, if_neg, w64, beqT, beqF, bneT, bneF, pr_get, ir_get, decide_eq_true, decide_eq_false, gF, List.append_assoc])
    · obtain rfl : i = picks.length := by omega
      ((try refine zO ?_); (try with_reducible exact True.intro))
      (refine walk_trim [1, 3, 6] trivial zL ?_; ((try refine zW ?_); (try with_reducible exact True.intro)))
      refine walk_floop 200 200 (fun i : Nat × Nat => i.1 ≤ takes.length)
        (fun i => ⟨127, [(1, .ptr 0 0 0 0), (3, .ref 1 i.2 0 (H i.1).length), (6, sci .i64 i.1)], [], 2, [(1, .arr 1 i.2 (ir eI (H i.1))), (0, .arr 4 0 [[sci .i64 mode, lI waits, .p (.imm 2 (pr ePk picks)), .p (.imm 3 (pr eIII takes))]])]⟩) (fun i => takes.length - i.1) (0, g + 1) [] ?_ ?_ ?_
      · simp
      · constructor <;> (try simp (maxSteps := 2000000) (disch := omega) only [go_sem, simprocAttr, if_pos, if_neg, w64, beqT, beqF, bneT, bneF, pr_get, ir_get, decide_eq_true, decide_eq_false, Int.natCast_zero, List.take_of_length_le, List.append_assoc, H0])
      · rintro ⟨i, e⟩ hi
        simp only at hi
        ((try refine zW ?_); (try with_reducible exact True.intro))
        by_cases li : i < takes.length
        · have Hi := Hl (i + 1) li
          have He := Hs i li
          rw [He] at Hi
          (try simp only [List.length_append, List.length_range, List.length_cons, List.length_nil, List.length_map, List.length_take] at Hi)
          (try simp (maxSteps := 2000000) (disch := omega) only [go_sem, simprocAttr, if_pos, if_neg, w64, beqT, beqF, bneT, bneF, pr_get, ir_get, decide_eq_true, decide_eq_false, eIII])
          refine ⟨(i + 1, e + 3), [], by first | assumption | omega, ?_, ?_⟩
          · (try simp only []); omega
          · constructor <;> (try simp (maxSteps := 2000000) (disch := omega) only [go_sem, simprocAttr, if_pos, if_neg, w64, beqT, beqF, bneT, bneF, pr_get, ir_get, decide_eq_true, decide_eq_false, He, List.take_of_length_le, List.append_assoc])
        · obtain rfl : i = takes.length := by omega
          ((try refine zO ?_); (try with_reducible exact True.intro))
end Go.Proofs.TR

/- Numbers of an application and of acts, as the document tells them. -/
namespace Go.Proofs.TR
open Go Go.Idl Go.Proofs
set_option maxHeartbeats 20000000
set_option maxRecDepth 100000

theorem R21Acts_spec (l : List (Int × Int × Int)) (hb : (actsL l).length ≤ 1000000) : Pure Try.prog 34 [.p (.imm 3 (pr eIII l))] (lI (actsL l)) := by
  unfold actsL at hb ⊢
  obtain ⟨F, F0, Fs, Fn, Fl, Fk⟩ := flat_acc (fun t : Int × Int × Int => [t.1, t.2.1, t.2.2]) ([(l.length : Int)]) (l) (fun _ => by simp)
  have Fz := Fl 0 (Nat.zero_le _)
  rw [F0] at Fz
  (try simp only [List.length_append, List.length_range, List.length_cons, List.length_nil, List.length_map, List.length_take] at Fz Fk)
  rw [← Fn] at hb ⊢
  refine pcall0 200 (fn := Try.f34) Try.func34 rfl (by simp [Try.ntmps34]) zB zB fun hs => ?_
  ((try refine zO ?_); (try with_reducible exact True.intro))
  (refine walk_trim [0, 3, 4] trivial zL ?_; ((try refine zW ?_); (try with_reducible exact True.intro)))
  refine walk_floop 200 200 (fun i : Nat × Nat => i.1 ≤ l.length)
    (fun i => ⟨39, [(0, .p (.imm 3 (pr eIII l))), (3, .ref 0 i.2 0 (F i.1).length), (4, sci .i64 i.1)], [], 1, [(0, .arr 1 i.2 (ir eI (F i.1)))]⟩) (fun i => l.length - i.1) (0, 0) [] ?_ ?_ ?_
  · simp
  · constructor <;> (try simp (disch := omega) only [go_sem, simprocAttr, if_pos, if_neg, w64, beqT, beqF, bneT, bneF, pr_get, ir_get, decide_eq_true, decide_eq_false, Int.natCast_zero, List.take_of_length_le, List.append_assoc, F0, irl1])
  · rintro ⟨i, e⟩ hi
    simp only at hi
    ((try refine zW ?_); (try with_reducible exact True.intro))
    by_cases li : i < l.length
    · have Fi := Fl (i + 1) li
      have Fe := Fs i li
      rw [Fe] at Fi
      (try simp only [List.length_append, List.length_range, List.length_cons, List.length_nil, List.length_map, List.length_take] at Fi)
      (try simp (disch := omega) only [go_sem, simprocAttr, if_pos, if_neg, w64, beqT, beqF, bneT, bneF, pr_get, ir_get, decide_eq_true, decide_eq_false, eIII])
      refine ⟨(i + 1, e + 3), [], by first | assumption | omega, ?_, ?_⟩
      · (try simp only []); omega
      · constructor <;> (try simp (disch := omega) only [go_sem, simprocAttr, if_pos, if_neg, w64, beqT, beqF, bneT, bneF, pr_get, ir_get, decide_eq_true, decide_eq_false, Fe, List.take_of_length_le, List.append_assoc])
    · obtain rfl : i = l.length := by omega
      ((try refine zO ?_); (try with_reducible exact True.intro))
theorem R21App_spec (s : Sc) (hb : (appL s).length ≤ 1000000) : Pure Try.prog 33 [lApp s] (lI (appL s)) := by
  obtain ⟨N, ls, T, fifo, room, acts⟩ := s
  simp only [appL] at hb ⊢
  obtain ⟨F, F0, Fs, Fn, Fl, Fk⟩ := flat_acc (fun x : Int × Int => [x.1, x.2]) ([N, (ls.length : Int)]) (ls) (fun _ => by simp)
  have Fz := Fl 0 (Nat.zero_le _)
  rw [F0] at Fz
  (try simp only [List.length_append, List.length_range, List.length_cons, List.length_nil, List.length_map, List.length_take] at Fz Fk)
  obtain ⟨H, H0, Hs, Hn, Hl, Hk⟩ := flat_acc (ndL) (F ls.length ++ [fifoN fifo, (T.length : Int)]) (T) (fun _ => by simp [ndL])
  have Hz := Hl 0 (Nat.zero_le _)
  rw [H0] at Hz
  (try simp only [List.length_append, List.length_range, List.length_cons, List.length_nil, List.length_map, List.length_take] at Hz Hk)
  rw [← Fn, ← Hn] at hb ⊢
  
  refine pcall0 200 (fn := Try.f33) Try.func33 rfl (by simp [Try.ntmps33]) zB zB fun hs => ?_
  ((try refine zO ?_); (try with_reducible exact True.intro))
  (refine walk_trim [1, 3, 4] trivial zL ?_; ((try refine zW ?_); (try with_reducible exact True.intro)))
  refine walk_floop 200 200 (fun i : Nat × Nat => i.1 ≤ ls.length)
    (fun i => ⟨107, [(1, .ptr 0 0 0 0), (3, .ref 1 i.2 0 (F i.1).length), (4, sci .i64 i.1)], [], 2, [(1, .arr 1 i.2 (ir eI (F i.1))), (0, .arr 4 0 [[sci .i64 N, lII ls, .p (.imm 2 (pr eNd T)), scb fifo]])]⟩) (fun i => ls.length - i.1) (0, 0) [] ?_ ?_ ?_
  · simp
  · constructor <;> (try simp (maxSteps := 2000000) (disch := omega) only [go_sem, simprocAttr, if_pos, if_neg, w64, beqT, beqF, bneT, bneF, pr_get, ir_get, decide_eq_true, decide_eq_false, Int.natCast_zero, List.take_of_length_le, List.append_assoc, F0, irl2])
  · rintro ⟨i, g⟩ hi
    simp only at hi
    ((try refine zW ?_); (try with_reducible exact True.intro))
    by_cases li : i < ls.length
    · have Fi := Fl (i + 1) li
      have Fe := Fs i li
      rw [Fe] at Fi
      (try simp only [List.length_append, List.length_range, List.length_cons, List.length_nil, List.length_map, List.length_take] at Fi)
      (try simp (maxSteps := 2000000) (disch := omega) only [go_sem, simprocAttr, if_pos, if_neg, w64, beqT, beqF, bneT, bneF, pr_get, ir_get, decide_eq_true, decide_eq_false, eII])
      refine ⟨(i + 1, g + 2), [], by first | assumption | omega, ?_, ?_⟩
      · (try simp only []); omega
      · constructor <;> (try simp (maxSteps := 2000000) (disch := omega) only [go_sem, simprocAttr, if_pos, if_neg, w64, beqT, beqF, bneT, bneF, pr_get, ir_get, decide_eq_true, decide_eq_false, Fe, List.take_of_length_le, List.append_assoc])
    · obtain rfl : i = ls.length := by omega
      ((try refine zO ?_); (try with_reducible exact True.intro))
      cases fifo
      · simp only [fifoN, if_true, if_false, Bool.false_eq_true] at H0
        ((try refine zO ?_); (try with_reducible exact True.intro))
        (refine walk_trim [1, 3, 5] trivial zL ?_; ((try refine zW ?_); (try with_reducible exact True.intro)))
        refine walk_floop 200 200 (fun k : Nat × Nat => k.1 ≤ T.length)
          (fun k => ⟨107, [(1, .ptr 0 0 0 0), (3, .ref 1 k.2 0 (H k.1).length), (5, sci .i64 k.1)], [], 2, [(1, .arr 1 k.2 (ir eI (H k.1))), (0, .arr 4 0 [[sci .i64 N, lII ls, .p (.imm 2 (pr eNd T)), scb false]])]⟩) (fun k => T.length - k.1) (0, g + 2) [] ?_ ?_ ?_
        · simp
        · constructor <;> (try simp (maxSteps := 2000000) (disch := omega) only [go_sem, simprocAttr, if_pos, if_neg, w64, beqT, beqF, bneT, bneF, pr_get, ir_get, decide_eq_true, decide_eq_false, Int.natCast_zero, List.take_of_length_le, List.append_assoc, H0])
        · rintro ⟨k, e⟩ hk
          simp only at hk
          ((try refine zW ?_); (try with_reducible exact True.intro))
          by_cases lk : k < T.length
          · have hfi := Hl (k + 1) lk
            have hpi := Hs k lk
            generalize hp : T[k] = p at *
            obtain ⟨G, G0, Gs, Gn, Gl, Gk⟩ := flat_acc (stL) (H k ++ [p.start, (p.states.length : Int)]) (p.states) stL_pos
            have Gz := Gl 0 (Nat.zero_le _)
            rw [G0] at Gz
            (try simp only [List.length_append, List.length_range, List.length_cons, List.length_nil, List.length_map, List.length_take] at Gz Gk)
            have gF : G p.states.length = H (k + 1) := by rw [Gn, hpi]; simp [ndL]
            rw [← gF] at hfi
            (try simp (maxSteps := 2000000) (disch := omega) only [go_sem, simprocAttr, if_pos, if_neg, w64, beqT, beqF, bneT, bneF, pr_get, ir_get, decide_eq_true, decide_eq_false, eNd, hp])
            (refine walk_trim [1, 3, 5, 6] trivial zL ?_; ((try refine zW ?_); (try with_reducible exact True.intro)))
            refine walk_floop 200 200 (fun j : Nat × Nat => j.1 ≤ p.states.length)
              (fun j => ⟨107, [(1, .ptr 0 0 0 0), (3, .ref 1 j.2 0 (G j.1).length), (5, sci .i64 k), (6, sci .i64 j.1)], [], 2, [(1, .arr 1 j.2 (ir eI (G j.1))), (0, .arr 4 0 [[sci .i64 N, lII ls, .p (.imm 2 (pr eNd T)), scb false]])]⟩) (fun j => p.states.length - j.1) (0, e + 2) [] ?_ ?_ ?_
            · simp
            · constructor <;> (try simp (maxSteps := 2000000) (disch := omega) only [go_sem, simprocAttr, if_pos, if_neg, w64, beqT, beqF, bneT, bneF, pr_get, ir_get, decide_eq_true, decide_eq_false, Int.natCast_zero, List.take_of_length_le, List.append_assoc, G0])
            · rintro ⟨j, f⟩ hj
              simp only at hj
              ((try refine zW ?_); (try with_reducible exact True.intro))
              by_cases lj : j < p.states.length
              · have Gi := Gl (j + 1) lj
                have Ge := Gs j lj
                rw [Ge] at Gi
                (try simp only [List.length_append, List.length_range, List.length_cons, List.length_nil, List.length_map, List.length_take] at Gi)
                (try simp (maxSteps := 2000000) (disch := omega) only [go_sem, simprocAttr, if_pos, if_neg, w64, beqT, beqF, bneT, bneF, pr_get, ir_get, decide_eq_true, decide_eq_false, eNd, hp, eSt])
                (refine at_call 200 ?_; (refine zW ?_; try with_reducible exact True.intro); refine callA_of (R21state_spec p.states[j] (by omega)) zB ?_; ((try refine zW ?_); (try with_reducible exact True.intro)))
                ((try refine zO ?_); (try with_reducible exact True.intro))
                refine ⟨(j + 1, f + 1), [], by first | assumption | omega, ?_, ?_⟩
                · (try simp only []); omega
                · constructor <;> (try simp (maxSteps := 2000000) (disch := omega) only [go_sem, simprocAttr, if_pos, if_neg, w64, beqT, beqF, bneT, bneF, pr_get, ir_get, decide_eq_true, decide_eq_false, Ge, List.take_of_length_le, List.append_assoc])
              · obtain rfl : j = p.states.length := by omega
                (try simp (maxSteps := 2000000) (disch := omega) only [go_sem, simprocAttr, if_pos, if_neg, w64, beqT, beqF, bneT, bneF, pr_get, ir_get, decide_eq_true, decide_eq_false, eNd, hp])
                refine ⟨(k + 1, f), [], by first | assumption | omega, ?_, ?_⟩
                · (try simp only []); omega
                · constructor <;> (try simp (maxSteps := 2000000) (disch := omega) only [go_sem, simprocAttr, if_pos, if_neg, w64, beqT, beqF, bneT, bneF, pr_get, ir_get, decide_eq_true, decide_eq_false, gF, List.append_assoc])
          · obtain rfl : k = T.length := by omega
            ((try refine zO ?_); (try with_reducible exact True.intro))
      · simp only [fifoN, if_true, if_false, Bool.false_eq_true] at H0
        ((try refine zO ?_); (try with_reducible exact True.intro))
        (refine walk_trim [1, 3, 5] trivial zL ?_; ((try refine zW ?_); (try with_reducible exact True.intro)))
        refine walk_floop 200 200 (fun k : Nat × Nat => k.1 ≤ T.length)
          (fun k => ⟨107, [(1, .ptr 0 0 0 0), (3, .ref 1 k.2 0 (H k.1).length), (5, sci .i64 k.1)], [], 2, [(1, .arr 1 k.2 (ir eI (H k.1))), (0, .arr 4 0 [[sci .i64 N, lII ls, .p (.imm 2 (pr eNd T)), scb true]])]⟩) (fun k => T.length - k.1) (0, g + 2) [] ?_ ?_ ?_
        · simp
        · constructor <;> (try simp (maxSteps := 2000000) (disch := omega) only [go_sem, simprocAttr, if_pos, if_neg, w64, beqT, beqF, bneT, bneF, pr_get, ir_get, decide_eq_true, decide_eq_false, Int.natCast_zero, List.take_of_length_le, List.append_assoc, H0])
        · rintro ⟨k, e⟩ hk
          simp only at hk
          ((try refine zW ?_); (try with_reducible exact True.intro))
          by_cases lk : k < T.length
          · have hfi := Hl (k + 1) lk
            have hpi := Hs k lk
            generalize hp : T[k] = p at *
            obtain ⟨G, G0, Gs, Gn, Gl, Gk⟩ := flat_acc (stL) (H k ++ [p.start, (p.states.length : Int)]) (p.states) stL_pos
            have Gz := Gl 0 (Nat.zero_le _)
            rw [G0] at Gz
            (try simp only [List.length_append, List.length_range, List.length_cons, List.length_nil, List.length_map, List.length_take] at Gz Gk)
            have gF : G p.states.length = H (k + 1) := by rw [Gn, hpi]; simp [ndL]
            rw [← gF] at hfi
            (try simp (maxSteps := 2000000) (disch := omega) only [go_sem, simprocAttr, if_pos, if_neg, w64, beqT, beqF, bneT, bneF, pr_get, ir_get, decide_eq_true, decide_eq_false, eNd, hp])
            (refine walk_trim [1, 3, 5, 6] trivial zL ?_; ((try refine zW ?_); (try with_reducible exact True.intro)))
            refine walk_floop 200 200 (fun j : Nat × Nat => j.1 ≤ p.states.length)
              (fun j => ⟨107, [(1, .ptr 0 0 0 0), (3, .ref 1 j.2 0 (G j.1).length), (5, sci .i64 k), (6, sci .i64 j.1)], [], 2, [(1, .arr 1 j.2 (ir eI (G j.1))), (0, .arr 4 0 [[sci .i64 N, lII ls, .p (.imm 2 (pr eNd T)), scb true]])]⟩) (fun j => p.states.length - j.1) (0, e + 2) [] ?_ ?_ ?_
            · simp
            · constructor <;> (try simp (maxSteps := 2000000) (disch := omega) only [go_sem, simprocAttr, if_pos, if_neg, w64, beqT, beqF, bneT, bneF, pr_get, ir_get, decide_eq_true, decide_eq_false, Int.natCast_zero, List.take_of_length_le, List.append_assoc, G0])
            · rintro ⟨j, f⟩ hj
              simp only at hj
              ((try refine zW ?_); (try with_reducible exact True.intro))
              by_cases lj : j < p.states.length
              · have Gi := Gl (j + 1) lj
                have Ge := Gs j lj
                rw [Ge] at Gi
                (try simp only [List.length_append, List.length_range, List.length_cons, List.length_nil, List.length_map, List.length_take] at Gi)
                (try simp (maxSteps := 2000000) (disch := omega) only [go_sem, simprocAttr, if_pos, if_neg, w64, beqT, beqF, bneT, bneF, pr_get, ir_get, decide_eq_true, decide_eq_false, eNd, hp, eSt])
                (refine at_call 200 ?_; (refine zW ?_; try with_reducible exact True.intro); refine callA_of (R21state_spec p.states[j] (by omega)) zB ?_; ((try refine zW ?_); (try with_reducible exact True.intro)))
                ((try refine zO ?_); (try with_reducible exact True.intro))
                refine ⟨(j + 1, f + 1), [], by first | assumption | omega, ?_, ?_⟩
                · (try simp only []); omega
                · constructor <;> (try simp (maxSteps := 2000000) (disch := omega) only [go_sem, simprocAttr, if_pos, if_neg, w64, beqT, beqF, bneT, bneF, pr_get, ir_get, decide_eq_true, decide_eq_false, Ge, List.take_of_length_le, List.append_assoc])
              · obtain rfl : j = p.states.length := by omega
                (try simp (maxSteps := 2000000) (disch := omega) only [go_sem, simprocAttr, if_pos, if_neg, w64, beqT, beqF, bneT, bneF, pr_get, ir_get, decide_eq_true, decide_eq_false, eNd, hp])
                refine ⟨(k + 1, f), [], by first | assumption | omega, ?_, ?_⟩
                · (try simp only []); omega
                · constructor <;> (try simp (maxSteps := 2000000) (disch := omega) only [go_sem, simprocAttr, if_pos, if_neg, w64, beqT, beqF, bneT, bneF, pr_get, ir_get, decide_eq_true, decide_eq_false, gF, List.append_assoc])
          · obtain rfl : k = T.length := by omega
            ((try refine zO ?_); (try with_reducible exact True.intro))
end Go.Proofs.TR

/- Numbers as a text. -/
namespace Go.Proofs.TR
open Go Go.Idl Go.Proofs
set_option maxHeartbeats 20000000
set_option maxRecDepth 100000
def byteN (n : Int) (i : Nat) : Int := IntKind.u8.wrap (n.fdiv (2 ^ min (8 * (i : Int)).toNat 64))
def le8 (n : Int) : List Int := (List.range 8).map (byteN n)
theorem le8_len (n : Int) : (le8 n).length = 8 := by simp [le8]
theorem text_spec (l : List Int) (hb : l.length ≤ 1000000) : Pure Try.prog 60 [lI l] (.p (.sc (.string (strOf (l.flatMap le8))))) := by
  obtain ⟨F, F0, Fs, Fn, Fl, Fk⟩ := flat_acc (le8) ([]) (l) (fun n => by simp [le8])
  have Fz := Fl 0 (Nat.zero_le _)
  rw [F0] at Fz
  (try simp only [List.length_append, List.length_range, List.length_cons, List.length_nil, List.length_map, List.length_take] at Fz Fk)
  simp only [List.nil_append] at Fn
  rw [← Fn]
  have hlen : ∀ i, i ≤ l.length → (F i).length = 8 * i := by
    intro i
    induction i with
    | zero => intro _; rw [F0]; rfl
    | succ i ih => intro hi; rw [Fs i hi, List.length_append, ih (by omega), le8_len]; omega
  
  refine pcall0 200 (fn := Try.f60) Try.func60 rfl (by simp [Try.ntmps60]) zB zB fun hs => ?_
  ((try refine zO ?_); (try with_reducible exact True.intro))
  refine walk_own 3 1 trivial rfl (.inr rfl) ?_
  (refine walk_trim [3, 7, 8, 9] trivial zL ?_; ((try refine zW ?_); (try with_reducible exact True.intro)))
  refine walk_floop 200 200 (fun i : Nat × Nat => i.1 ≤ l.length)
    (fun i => ⟨28, [(3, .ref 0 i.2 0 (F i.1).length), (7, lI l), (8, sci .i64 l.length), (9, sci .i64 i.1)], [], 1, [(0, .arr 1 i.2 (ir eY (F i.1)))]⟩) (fun i => l.length - i.1) (0, 0) [] ?_ ?_ ?_
  · simp
  · constructor <;> (try simp (maxSteps := 2000000) (disch := omega) only [go_sem, simprocAttr, if_pos, if_neg, w64, beqT, beqF, bneT, bneF, pr_get, ir_get, decide_eq_true, decide_eq_false, Int.natCast_zero, List.take_of_length_le, List.append_assoc, F0])
  · rintro ⟨i, g⟩ hi
    simp only at hi
    ((try refine zW ?_); (try with_reducible exact True.intro))
    by_cases li : i < l.length
    · have hF1 := hlen (i + 1) li
      have hF0 := hlen i hi
      have hpi := Fs i li
      generalize hp : l[i] = p at *
      obtain ⟨G, G0, Gs, Gn, Gl, Gk⟩ := flat_acc (fun k => [byteN p k]) (F i) (List.range 8) (fun _ => by simp)
      have Gz := Gl 0 (Nat.zero_le _)
      rw [G0] at Gz
      (try simp only [List.length_append, List.length_range, List.length_cons, List.length_nil, List.length_map, List.length_take] at Gz Gk)
      have gF : G 8 = F (i + 1) := by
        rw [List.length_range] at Gn
        rw [Gn, hpi, le8, List.map_eq_flatMap]
      have Gs' : ∀ k, k < 8 → G (k + 1) = G k ++ [byteN p k] := fun k hk => by have := Gs k (by simpa using hk); simpa using this
      (try simp (maxSteps := 2000000) (disch := omega) only [go_sem, simprocAttr, if_pos, if_neg, w64, beqT, beqF, bneT, bneF, pr_get, ir_get, decide_eq_true, decide_eq_false, eI, hp])
      (refine walk_trim [3, 5, 7, 8, 9, 13] trivial zL ?_; ((try refine zW ?_); (try with_reducible exact True.intro)))
      refine walk_floop 200 200 (fun k : Nat × Nat => k.1 ≤ 8)
        (fun k => ⟨28, [(3, .ref 0 k.2 0 (G k.1).length), (5, sci .i64 p), (7, lI l), (8, sci .i64 l.length), (9, sci .i64 i), (13, sci .i64 k.1)], [], 1, [(0, .arr 1 k.2 (ir eY (G k.1)))]⟩) (fun k => 8 - k.1) (0, g) [] ?_ ?_ ?_
      · simp
      · constructor <;> (try simp (maxSteps := 2000000) (disch := omega) only [go_sem, simprocAttr, if_pos, if_neg, w64, beqT, beqF, bneT, bneF, pr_get, ir_get, decide_eq_true, decide_eq_false, Int.natCast_zero, List.take_of_length_le, List.append_assoc, G0])
      · rintro ⟨k, e⟩ hk
        simp only at hk
        ((try refine zW ?_); (try with_reducible exact True.intro))
        by_cases lk : k < 8
        · have hGi : (G k).length ≤ (F i).length + 8 := by
            have := Gl k (by simp; omega)
            simp only [List.length_range] at this
            rw [gF] at this
            omega
          have Gk := Gs' k lk
          have hb8 : (G k).length ≤ 140737488355327 := by omega
          (try simp (maxSteps := 2000000) (disch := omega) only [go_sem, simprocAttr, if_pos, if_neg, w64, beqT, beqF, bneT, bneF, pr_get, ir_get, decide_eq_true, decide_eq_false, hb8])
          refine ⟨(k + 1, e + 1), [], by first | assumption | omega, ?_, ?_⟩
          · (try simp only []); omega
          · constructor <;> (try simp (maxSteps := 2000000) (disch := omega) only [go_sem, simprocAttr, if_pos, if_neg, w64, beqT, beqF, bneT, bneF, pr_get, ir_get, decide_eq_true, decide_eq_false, Gk, byteN, List.append_assoc])
        · obtain rfl : k = 8 := by omega
          ((try refine zO ?_); (try with_reducible exact True.intro))
          refine ⟨(i + 1, e), [], by first | assumption | omega, ?_, ?_⟩
          · (try simp only []); omega
          · constructor <;> (try simp (maxSteps := 2000000) (disch := omega) only [go_sem, simprocAttr, if_pos, if_neg, w64, beqT, beqF, bneT, bneF, pr_get, ir_get, decide_eq_true, decide_eq_false, gF, List.append_assoc])
    · obtain rfl : i = l.length := by omega
      ((try refine zO ?_); (try with_reducible exact True.intro))
end Go.Proofs.TR

/- A number's bytes; all that a script has; whether two scripts are the same. -/
namespace Go.Proofs.TR
open Go Go.Idl Go.Proofs
set_option maxHeartbeats 20000000
set_option maxRecDepth 100000
def byteF (n : Nat) (i : Nat) : Int := IntKind.u8.wrap ((n : Int).fdiv (2 ^ min (8 * (i : Int)).toNat 64))
def flB (n : Nat) : List Int := (List.range 8).map (byteF n)
theorem bits_spec (x : Nat) (h : x < 18446744073709551616) : Pure Try.prog 20 [.p (.sc (.float .f64 x))] (.p (.sc (.string (strOf (flB x))))) := by
  obtain ⟨G, G0, Gs, Gn, Gl, Gk⟩ := flat_acc (fun k => [byteF x k]) ([]) (List.range 8) (fun _ => by simp)
  have Gz := Gl 0 (Nat.zero_le _)
  rw [G0] at Gz
  (try simp only [List.length_append, List.length_range, List.length_cons, List.length_nil, List.length_map, List.length_take] at Gz Gk)
  have gF : G 8 = flB x := by
    rw [List.length_range] at Gn
    rw [Gn, flB, List.map_eq_flatMap]; rfl
  have Gs' : ∀ k, k < 8 → G (k + 1) = G k ++ [byteF x k] := fun k hk => by have := Gs k (by simpa using hk); simpa using this
  have hGk : ∀ k, k ≤ 8 → (G k).length ≤ 8 := fun k hk => by have := Gl k (by simpa using hk); rw [List.length_range, gF, flB, List.length_map, List.length_range] at this; exact this
  
  refine pcall0 200 (fn := Try.f20) Try.func20 rfl (by simp [Try.ntmps20]) zB zB fun hs => ?_
  ((try refine zO ?_); (try with_reducible exact True.intro))
  refine walk_own 3 1 trivial rfl (.inr rfl) ?_
  (refine walk_trim [0, 3, 5] trivial zL ?_; ((try refine zW ?_); (try with_reducible exact True.intro)))
  refine walk_floop 200 200 (fun k : Nat × Nat => k.1 ≤ 8)
    (fun k => ⟨20, [(0, .p (.sc (.float .f64 x))), (3, .ref 0 k.2 0 (G k.1).length), (5, sci .i64 k.1)], [], 1, [(0, .arr 1 k.2 (ir eY (G k.1)))]⟩) (fun k => 8 - k.1) (0, 0) [] ?_ ?_ ?_
  · simp
  · constructor <;> (try simp (maxSteps := 2000000) (disch := omega) only [go_sem, simprocAttr, if_pos, if_neg, w64, beqT, beqF, bneT, bneF, pr_get, ir_get, decide_eq_true, decide_eq_false, Int.natCast_zero, List.take_of_length_le, List.append_assoc, G0])
  · rintro ⟨k, e⟩ hk
    simp only at hk
    ((try refine zW ?_); (try with_reducible exact True.intro))
    by_cases lk : k < 8
    · have hk8 := hGk k hk
      have Gk := Gs' k lk
      ((try refine zO ?_); (try with_reducible exact True.intro))
      refine ⟨(k + 1, e + 1), [], by first | assumption | omega, ?_, ?_⟩
      · (try simp only []); omega
      · constructor <;> (try simp (maxSteps := 2000000) (disch := omega) only [go_sem, simprocAttr, if_pos, if_neg, w64, beqT, beqF, bneT, bneF, pr_get, ir_get, decide_eq_true, decide_eq_false, Gk, byteF, List.append_assoc])
    · obtain rfl : k = 8 := by omega
      (try simp (maxSteps := 2000000) (disch := omega) only [go_sem, simprocAttr, if_pos, if_neg, w64, beqT, beqF, bneT, bneF, pr_get, ir_get, decide_eq_true, decide_eq_false, gF])







theorem raw_spec (s : Sc) (h : s.room < 18446744073709551616) (ha : (appL s).length ≤ 1000000) (hb : (actsL s.acts).length ≤ 1000000) : Pure Try.prog 40 [lSc s]
    (.agg [.p (.sc (.string (strOf ((appL s).flatMap le8)))), .p (.sc (.string (strOf (flB s.room)))), .p (.sc (.string (strOf ((actsL s.acts).flatMap le8))))]) := by
  refine pcall0 200 (fn := Try.f40) Try.func40 rfl (by simp [Try.ntmps40]) zB zB fun hs => ?_
  ((try refine zW ?_); (try with_reducible exact True.intro))
  (refine walk_trim [1, 2, 91] trivial zL ?_; (refine zW ?_; try with_reducible exact True.intro); refine irun_walk (id := 1) (n := 200) [none, none, some [4, 5, 7, 8], some [4, 5, 7, 8], none, none, some [7, 8], none, none, some [], some [], none, some []] mixed (by kernel_rfl) ?_)
  ((try refine zW ?_); (try with_reducible exact True.intro))
  (refine at_dcall ?_; (refine zW ?_; try with_reducible exact True.intro); refine callA_of (app_spec s ha) zB ?_; ((try refine zW ?_); (try with_reducible exact True.intro)))
  ((try refine zW ?_); (try with_reducible exact True.intro))
  (refine at_dcall ?_; (refine zW ?_; try with_reducible exact True.intro); refine callA_of (text_spec _ ha) zB ?_; ((try refine zW ?_); (try with_reducible exact True.intro)))
  ((try refine zW ?_); (try with_reducible exact True.intro))
  (refine at_dcall ?_; (refine zW ?_; try with_reducible exact True.intro); refine callA_of (bits_spec _ h) zB ?_; ((try refine zW ?_); (try with_reducible exact True.intro)))
  ((try refine zW ?_); (try with_reducible exact True.intro))
  (refine at_dcall ?_; (refine zW ?_; try with_reducible exact True.intro); refine callA_of (acts_spec _ hb) zB ?_; ((try refine zW ?_); (try with_reducible exact True.intro)))
  ((try refine zW ?_); (try with_reducible exact True.intro))
  (refine at_dcall ?_; (refine zW ?_; try with_reducible exact True.intro); refine callA_of (text_spec _ hb) zB ?_; ((try refine zW ?_); (try with_reducible exact True.intro)))
  ((try refine zW ?_); (try with_reducible exact True.intro))
def sameB (x y : Sc) : Bool := ((strOf ((appL x).flatMap le8)).toList == (strOf ((appL y).flatMap le8)).toList) && (((strOf (flB x.room)).toList == (strOf (flB y.room)).toList) &&
  ((strOf ((actsL x.acts).flatMap le8)).toList == (strOf ((actsL y.acts).flatMap le8)).toList))
theorem Same_spec (x y : Sc) (hx : x.room < 18446744073709551616) (hy : y.room < 18446744073709551616) (hxa : (appL x).length ≤ 1000000) (hxb : (actsL x.acts).length ≤ 1000000)
    (hya : (appL y).length ≤ 1000000) (hyb : (actsL y.acts).length ≤ 1000000) : Pure Try.prog 17 [lSc x, lSc y] (scb (sameB x y)) := by
  refine pcall0 200 (fn := Try.f17) Try.func17 rfl (by simp [Try.ntmps17]) zB zB fun hs => ?_
  ((try refine zW ?_); (try with_reducible exact True.intro))
  (refine walk_trim [2, 3] trivial zL ?_; (refine zW ?_; try with_reducible exact True.intro); refine irun_walk (id := 1) (n := 200) [none, some [2], none, some [], none, none] mixed (by kernel_rfl) ?_)
  ((try refine zW ?_); (try with_reducible exact True.intro))
  (refine at_dcall ?_; (refine zW ?_; try with_reducible exact True.intro); refine callA_of (raw_spec x hx hxa hxb) zB ?_; ((try refine zW ?_); (try with_reducible exact True.intro)))
  ((try refine zW ?_); (try with_reducible exact True.intro))
  (refine at_dcall ?_; (refine zW ?_; try with_reducible exact True.intro); refine callA_of (raw_spec y hy hya hyb) zB ?_; ((try refine zW ?_); (try with_reducible exact True.intro)))
  (try simp only [go_sem, simprocAttr, sameB])
theorem R21Same_spec (x y : Sc) (hx : x.room < 18446744073709551616) (hy : y.room < 18446744073709551616) (hxa : (appL x).length ≤ 1000000) (hxb : (actsL x.acts).length ≤ 1000000)
    (hya : (appL y).length ≤ 1000000) (hyb : (actsL y.acts).length ≤ 1000000) : Pure Try.prog 11 [lSc x, lSc y]
    (scb (decide (appL x = appL y ∧ x.room = y.room ∧ actsL x.acts = actsL y.acts))) := by
  refine pcall0 200 (fn := Try.f11) Try.func11 rfl (by simp [Try.ntmps11]) zB zB fun hs => ?_
  ((try refine zW ?_); (try with_reducible exact True.intro))
  (refine walk_trim [2, 3] trivial zL ?_; (refine zW ?_; try with_reducible exact True.intro); refine irun_walk (id := 1) (n := 200) [none, none, some [3, 4], none, none, some [], some [], none, none, none, some [11, 12], none, none, some [], none, none, none, none, none, some [20, 21], none, none, some [], some [], none, none] mixed (by kernel_rfl) ?_)
  ((try refine zW ?_); (try with_reducible exact True.intro))
  (refine at_dcall ?_; (refine zW ?_; try with_reducible exact True.intro); refine callA_of (R21App_spec x hxa) zB ?_; ((try refine zW ?_); (try with_reducible exact True.intro)))
  ((try refine zW ?_); (try with_reducible exact True.intro))
  (refine at_dcall ?_; (refine zW ?_; try with_reducible exact True.intro); refine callA_of (R21App_spec y hya) zB ?_; ((try refine zW ?_); (try with_reducible exact True.intro)))
  ((try refine zW ?_); (try with_reducible exact True.intro))
  (refine at_dcall ?_; (refine zW ?_; try with_reducible exact True.intro); refine callA_of (Ints_spec _ _) zB ?_; ((try refine zW ?_); (try with_reducible exact True.intro)))
  ((try refine zW ?_); (try with_reducible exact True.intro))
  by_cases e : appL x = appL y
  · (try simp only [go_sem, simprocAttr, e, false_and, decide_false])
    by_cases e2 : x.room = y.room
    · (try simp (disch := omega) only [go_sem, simprocAttr, if_pos, if_neg, w64, beqT, beqF, bneT, bneF, pr_get, ir_get, decide_eq_true, decide_eq_false, e2])
      (refine at_dcall ?_; (refine zW ?_; try with_reducible exact True.intro); refine callA_of (R21Acts_spec _ hxb) zB ?_; ((try refine zW ?_); (try with_reducible exact True.intro)))
      ((try refine zW ?_); (try with_reducible exact True.intro))
      (refine at_dcall ?_; (refine zW ?_; try with_reducible exact True.intro); refine callA_of (R21Acts_spec _ hyb) zB ?_; ((try refine zW ?_); (try with_reducible exact True.intro)))
      ((try refine zW ?_); (try with_reducible exact True.intro))
      (refine at_dcall ?_; (refine zW ?_; try with_reducible exact True.intro); refine callA_of (Ints_spec _ _) zB ?_; ((try refine zW ?_); (try with_reducible exact True.intro)))
      ((try refine zW ?_); (try with_reducible exact True.intro))
    · have e3 : ¬ (x.room : Int) = y.room := by omega
      (try simp (disch := omega) only [go_sem, simprocAttr, if_pos, if_neg, w64, beqT, beqF, bneT, bneF, pr_get, ir_get, decide_eq_true, decide_eq_false, e2, e3, false_and])
  · (try simp only [go_sem, simprocAttr, e, false_and, decide_false])
end Go.Proofs.TR
