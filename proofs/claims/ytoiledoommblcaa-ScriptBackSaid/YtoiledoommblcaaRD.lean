/- Facts that the proofs of this claim lean on. -/
import Derived.Test.YtoiledoommblcaaRTypes
import Derived.Test.YtoiledoommblcaaIdTx
set_option linter.unusedSimpArgs false
set_option linter.unusedVariables false
/- Scripts cut and handed to the document: what each of these functions answers. -/
namespace Go.Proofs.TR
open Go Go.Idl Go.Proofs
set_option maxHeartbeats 20000000
set_option maxRecDepth 100000
/-- A state: mode, waits, picks, takes. -/
structure St where
  mode : Int
  waits : List Int
  picks : List (Int × List (Int × Int))
  takes : List (Int × Int × Int)
structure Nd where
  start : Int
  states : List St
abbrev eG (N : Int) (ls : List (Int × Int)) : IV := .agg [sci .i64 N, lII ls]
def eIII (p : Int × Int × Int) : List PV := [.sc (.int .i64 p.1), .sc (.int .i64 p.2.1), .sc (.int .i64 p.2.2)]
def ePk (p : Int × List (Int × Int)) : List PV := [.sc (.int .i64 p.1), .imm 2 (pr eII p.2)]
def eSt (s : St) : List PV := [.sc (.int .i64 s.mode), .imm 1 (pr eI s.waits), .imm 2 (pr ePk s.picks), .imm 3 (pr eIII s.takes)]
def eNd (n : Nd) : List PV := [.sc (.int .i64 n.start), .imm 4 (pr eSt n.states)]
abbrev lSt (s : St) : IV := .agg [sci .i64 s.mode, lI s.waits, .p (.imm 2 (pr ePk s.picks)), .p (.imm 3 (pr eIII s.takes))]
/-- A script. -/
structure Sc where
  N : Int
  ls : List (Int × Int)
  T : List Nd
  fifo : Bool
  room : Nat
  acts : List (Int × Int × Int)
abbrev lApp (s : Sc) : IV := .agg [sci .i64 s.N, lII s.ls, .p (.imm 2 (pr eNd s.T)), scb s.fifo]
abbrev lSc (s : Sc) : IV := .agg [sci .i64 s.N, lII s.ls, .p (.imm 2 (pr eNd s.T)), scb s.fifo, .p (.sc (.float .f64 s.room)), .p (.imm 3 (pr eIII s.acts))]
def cutP (p : Int × List (Int × Int)) : Int × List (Int × Int) := (p.1, p.2.take 10)
def cutSt (s : St) : St := ⟨s.mode, s.waits.take 10, (s.picks.take 10).map cutP, s.takes.take 30⟩
theorem mn10 (n : Nat) : (if (10:Int) < (n:Int) then (10:Int) else (n:Int)) = ((min n 10 : Nat) : Int) := by split <;> omega
theorem mn60 (n : Nat) : (if (60:Int) < (n:Int) then (60:Int) else (n:Int)) = ((min n 60 : Nat) : Int) := by split <;> omega
theorem ir_snoc {α : Type} (f : α → List PV) (l : List α) (x : α) : ir f (l ++ [x]) = ir f l ++ [(f x).map .p] := by simp [ir]
theorem tk_len' {α : Type} (l : List α) (c : Nat) : (List.take c l).length = min l.length c := by
  rw [List.length_take]; omega
theorem tk_min {α : Type} (l : List α) (c : Nat) : List.take (min l.length c) l = List.take c l := by
  rcases Nat.le_total l.length c with h | h
  · rw [Nat.min_eq_left h, List.take_length, List.take_of_length_le h]
  · rw [Nat.min_eq_right h]
theorem tk_self {α : Type} (l : List α) (c : Nat) : List.take (min l.length c) (List.take c l) = List.take c l := by
  rw [← tk_len', List.take_length]
theorem tk_len {α : Type} (l : List α) (c : Nat) : (List.take c l).length = min l.length c := by
  rw [List.length_take]; omega


theorem L3Ref_spec (N : Int) (ls : List (Int × Int)) : Pure Try.prog 57 [eG N ls] (eG N ls) := by
  refine pcall0 200 (fn := Try.f57) Try.func57 rfl (by simp [Try.ntmps57]) zB zB fun hs => ?_
  (repeat (first | ((refine zW ?_; try with_reducible exact True.intro))))
theorem L3Cut_spec (N : Int) (ls : List (Int × Int)) : Pure Try.prog 38 [eG N ls] (eG N (ls.take 40)) := by
  refine pcall0 200 (fn := Try.f38) Try.func38 rfl (by simp [Try.ntmps38]) zB zB fun hs => ?_
  ((try refine zW ?_); (try with_reducible exact True.intro))
  by_cases h : 40 < ls.length
  · have h' : (40 : Int) < ls.length := by omega
    (try simp (disch := omega) only [go_sem, simprocAttr, if_pos, if_neg, w64, beqT, beqF, bneT, bneF, pr_get, ir_get, decide_eq_true, decide_eq_false, h'])
  · have h' : ¬ (40 : Int) < ls.length := by omega
    have ht : ls.take 40 = ls := List.take_of_length_le (by omega)
    (try simp (disch := omega) only [go_sem, simprocAttr, if_pos, if_neg, w64, beqT, beqF, bneT, bneF, pr_get, ir_get, decide_eq_true, decide_eq_false, h', ht])
theorem L4cut_spec (s : St) : Pure Try.prog 59 [lSt s] (lSt (cutSt s)) := by
  obtain ⟨mode, waits, picks, takes⟩ := s
  
  refine pcall0 200 (fn := Try.f59) Try.func59 rfl (by simp [Try.ntmps59]) zB zB fun hs => ?_
  ((try refine zW ?_); (try with_reducible exact True.intro))
  (refine walk_trim [1, 2, 101] trivial zL ?_; (refine zW ?_; try with_reducible exact True.intro); refine irun_walk (id := 1) (n := 200) [none, none, some [0, 1, 3, 4, 5, 6, 7, 8, 9, 12], none, none, none, none, none, none, none, some [0, 1, 12], none, some [0, 1, 2, 3, 4, 5, 6, 7, 8, 9, 10, 11], some []] mixed (by kernel_rfl) ?_)
  (try simp (maxSteps := 2000000) (disch := omega) only [go_sem, simprocAttr, if_pos, if_neg, w64, beqT, beqF, bneT, bneF, pr_get, ir_get, decide_eq_true, decide_eq_false, mn10, Nat.sub_zero, List.drop_zero, tk_min, tk_len])
  refine walk_ownB 3 0 2 2 trivial rfl rfl rfl (.inr rfl) ?_
  simp only [List.set_cons_zero, List.set_cons_succ, Nat.reduceAdd]
  (refine walk_trim [1, 2, 3, 4, 101] trivial zL ?_; ((try refine zW ?_); (try with_reducible exact True.intro)))
  refine walk_floop 200 200 (fun i : Nat × Nat × List (Int × List (Int × Int)) => i.1 ≤ picks.length ∧ i.1 ≤ 10 ∧ i.2.2 = (picks.take i.1).map cutP)
    (fun i => ⟨74, [(1, .ptr 0 0 0 0), (2, .ptr 1 0 0 0), (3, .ptr 3 0 0 0), (4, sci .i64 i.1)], [], 5,
      [(4, .arr 2 i.2.1 (ir ePk i.2.2)), (3, .arr 4 0 [[sci .i64 mode, lI (waits.take 10), .ref 4 i.2.1 0 i.2.2.length, .p (.sc (.slice none 0 0))]]),
       (1, .arr 4 0 [[sci .i64 0, .p (.sc (.slice none 0 0)), .p (.sc (.slice none 0 0)), .p (.sc (.slice none 0 0))]]),
       (0, .arr 4 0 [[sci .i64 mode, lI waits, .p (.imm 2 (pr ePk picks)), .p (.imm 3 (pr eIII takes))]])]⟩) (fun i => 10 - i.1) (0, 0, []) [2] ?_ ?_ ?_
  · simp
  · constructor <;> (try simp (maxSteps := 2000000) (disch := omega) only [go_sem, simprocAttr, if_pos, if_neg, w64, beqT, beqF, bneT, bneF, pr_get, ir_get, decide_eq_true, decide_eq_false, Int.natCast_zero, tk_self])
  · rintro ⟨i, g, acc⟩ ⟨h1, h2, h3⟩
    simp only at h1 h2 h3
    have hal : acc.length = i := by rw [h3]; simp; omega
    ((try refine zW ?_); (try with_reducible exact True.intro))
    by_cases hlt : i < picks.length ∧ i < 10
    · obtain ⟨hl, h10⟩ := hlt
      (try simp (maxSteps := 2000000) (disch := omega) only [go_sem, simprocAttr, if_pos, if_neg, w64, beqT, beqF, bneT, bneF, pr_get, ir_get, decide_eq_true, decide_eq_false, ePk])
      (refine walk_trim [1, 2, 3, 4, 5, 101] trivial zL ?_; (refine zW ?_; try with_reducible exact True.intro); refine irun_walk (id := 6) (n := 200) [none, none, none, none, some [0, 1, 2, 3, 5, 6, 7, 8, 9, 10, 11], none, none, none, none, none, none, none, some [0, 1, 2, 3], none, some [0, 1], some [], none, some []] mixed (by kernel_rfl) ?_)
      (try simp (maxSteps := 2000000) (disch := omega) only [go_sem, simprocAttr, if_pos, if_neg, w64, beqT, beqF, bneT, bneF, pr_get, ir_get, decide_eq_true, decide_eq_false, mn10, Nat.sub_zero, List.drop_zero, tk_min, tk_len, ePk])
      refine ⟨(i + 1, g + 1, acc ++ [cutP picks[i]]), [6], ⟨hl, h10, ?_⟩, ?_, ?_⟩
      · simp only [h3]
        rw [List.take_succ_eq_append_getElem hl, List.map_append, List.map_cons, List.map_nil]
      · simp only; omega
      · constructor <;> (try simp (maxSteps := 2000000) (disch := omega) only [go_sem, simprocAttr, if_pos, if_neg, w64, beqT, beqF, bneT, bneF, pr_get, ir_get, decide_eq_true, decide_eq_false, cutP, tk_self, ePk, ir_snoc, List.map_cons, List.map_nil])
    · have h10 : picks.take i = picks.take 10 := by
        rcases Nat.lt_or_ge i 10 with h | h
        · rw [List.take_of_length_le (by omega), List.take_of_length_le (by omega)]
        · rw [show i = 10 by omega]
      rw [h10] at h3
      rcases Nat.lt_or_ge i picks.length with hl | hl
      all_goals
        ((try refine zO ?_); (try with_reducible exact True.intro))
        refine walk_ownB 3 0 3 3 trivial rfl rfl rfl (.inr rfl) ?_
        simp only [List.set_cons_zero, List.set_cons_succ, Nat.reduceAdd]
        (refine walk_trim [1, 2, 3, 6, 101] trivial zL ?_; ((try refine zW ?_); (try with_reducible exact True.intro)))
        refine walk_floop 200 200 (fun j : Nat × Nat => j.1 ≤ takes.length ∧ j.1 ≤ 30)
          (fun j => ⟨74, [(1, .ptr 0 0 0 0), (2, .ptr 1 0 0 0), (3, .ptr 3 0 0 0), (6, sci .i64 j.1)], [], 6,
            [(5, .arr 3 j.2 (ir eIII (takes.take j.1))), (3, .arr 4 0 [[sci .i64 mode, lI (waits.take 10), .p (.imm 2 (pr ePk acc)), .ref 5 j.2 0 j.1]]),
             (1, .arr 4 0 [[sci .i64 0, .p (.sc (.slice none 0 0)), .p (.sc (.slice none 0 0)), .p (.sc (.slice none 0 0))]]),
             (0, .arr 4 0 [[sci .i64 mode, lI waits, .p (.imm 2 (pr ePk picks)), .p (.imm 3 (pr eIII takes))]])]⟩) (fun j => 30 - j.1) (0, 0) [4] ?_ ?_ ?_
        · simp
        · constructor <;> (try simp (maxSteps := 2000000) (disch := omega) only [go_sem, simprocAttr, if_pos, if_neg, w64, beqT, beqF, bneT, bneF, pr_get, ir_get, decide_eq_true, decide_eq_false, Int.natCast_zero, List.take_zero])
        · clear hl hlt hal h1 h2 h10
          rintro ⟨j, g2⟩ ⟨k1, k2⟩
          simp only at k1 k2
          have hjl : (takes.take j).length = j := by simp; omega
          have hjj : (takes.take j).take j = takes.take j := List.take_of_length_le (by omega)
          ((try refine zW ?_); (try with_reducible exact True.intro))
          by_cases hlt : j < takes.length ∧ j < 30
          · obtain ⟨hl, h30⟩ := hlt
            (try simp (maxSteps := 2000000) (disch := omega) only [go_sem, simprocAttr, if_pos, if_neg, w64, beqT, beqF, bneT, bneF, pr_get, ir_get, decide_eq_true, decide_eq_false, eIII])
            (refine walk_trim [1, 2, 3, 6, 101] trivial zL ?_; (refine zW ?_; try with_reducible exact True.intro); refine irun_walk (id := 10) (n := 200) [none, none, none, none, none, none, none, some [0, 1], some [], none, some []] mixed (by kernel_rfl) ?_)
            (try simp (maxSteps := 2000000) (disch := omega) only [go_sem, simprocAttr, if_pos, if_neg, w64, beqT, beqF, bneT, bneF, pr_get, ir_get, decide_eq_true, decide_eq_false, eIII, hjl])
            refine ⟨(j + 1, g2 + 1), [], ⟨hl, h30⟩, ?_, ?_⟩
            · simp only; omega
            · constructor <;> (try simp (maxSteps := 2000000) (disch := omega) only [go_sem, simprocAttr, if_pos, if_neg, w64, beqT, beqF, bneT, bneF, pr_get, ir_get, decide_eq_true, decide_eq_false, eIII, hjj, List.take_succ_eq_append_getElem hl, ir_snoc, List.map_cons, List.map_nil])
          · have h30 : takes.take j = takes.take 30 := by
              rcases Nat.lt_or_ge j 30 with h | h
              · rw [List.take_of_length_le (by omega), List.take_of_length_le (by omega)]
              · rw [show j = 30 by omega]
            rw [h30] at hjj
            rcases Nat.lt_or_ge j takes.length with hl | hl
            all_goals
              (try simp (maxSteps := 2000000) (disch := omega) only [go_sem, simprocAttr, if_pos, if_neg, w64, beqT, beqF, bneT, bneF, pr_get, ir_get, decide_eq_true, decide_eq_false, h30, h3, cutSt, hjj])
end Go.Proofs.TR

/- Scripts cut, on. -/
namespace Go.Proofs.TR
open Go Go.Idl Go.Proofs
set_option maxHeartbeats 20000000
set_option maxRecDepth 100000
def cutNd (n : Nd) : Nd := ⟨n.start, (n.states.take 10).map cutSt⟩
theorem L4Cut_spec (T : List Nd) : Pure Try.prog 39 [.p (.imm 2 (pr eNd T))] (.p (.imm 2 (pr eNd ((T.take 8).map cutNd)))) := by
  
  refine pcall0 200 (fn := Try.f39) Try.func39 rfl (by simp [Try.ntmps39]) zB zB fun hs => ?_
  ((try refine zW ?_); (try with_reducible exact True.intro))
  refine walk_own 3 2 trivial rfl (.inl rfl) ?_
  (refine walk_trim [0, 3, 4] trivial zL ?_; ((try refine zW ?_); (try with_reducible exact True.intro)))
  refine walk_floop 200 200 (fun i : Nat × Nat × List Nd => i.1 ≤ T.length ∧ i.1 ≤ 8 ∧ i.2.2 = (T.take i.1).map cutNd)
    (fun i => ⟨57, [(0, .p (.imm 2 (pr eNd T))), (3, .ref 0 i.2.1 0 i.2.2.length), (4, sci .i64 i.1)], [], 1, [(0, .arr 2 i.2.1 (ir eNd i.2.2))]⟩) (fun i => 8 - i.1) (0, 0, []) [] ?_ ?_ ?_
  · simp
  · constructor <;> (try simp (maxSteps := 2000000) (disch := omega) only [go_sem, simprocAttr, if_pos, if_neg, w64, beqT, beqF, bneT, bneF, pr_get, ir_get, decide_eq_true, decide_eq_false, Int.natCast_zero])
  · rintro ⟨i, g, acc⟩ ⟨h1, h2, h3⟩
    simp only at h1 h2 h3
    have hal : acc.length = i := by rw [h3]; simp; omega
    ((try refine zW ?_); (try with_reducible exact True.intro))
    by_cases hlt : i < T.length ∧ i < 8
    · obtain ⟨hl, h8⟩ := hlt
      (try simp (maxSteps := 2000000) (disch := omega) only [go_sem, simprocAttr, if_pos, if_neg, w64, beqT, beqF, bneT, bneF, pr_get, ir_get, decide_eq_true, decide_eq_false, eNd])
      refine walk_ownB 1 0 1 4 trivial rfl rfl rfl (.inr rfl) ?_
      simp only [List.set_cons_zero, List.set_cons_succ, Nat.reduceAdd]
      (refine walk_trim [0, 3, 4, 5, 6] trivial zL ?_; ((try refine zW ?_); (try with_reducible exact True.intro)))
      generalize hss : T[i].states = ss
      generalize hst : T[i].start = st
      refine walk_floop 200 200 (fun k : Nat × Nat × List St => k.1 ≤ ss.length ∧ k.1 ≤ 10 ∧ k.2.2 = (ss.take k.1).map cutSt)
        (fun k => ⟨57, [(0, .p (.imm 2 (pr eNd T))), (3, .ref 0 g 0 acc.length), (4, sci .i64 i), (5, .ptr 1 0 0 0), (6, sci .i64 k.1)], [], 3,
          [(1, .arr 2 0 [[sci .i64 st, .ref 2 k.2.1 0 k.2.2.length]]), (2, .arr 4 k.2.1 (ir eSt k.2.2)), (0, .arr 2 g (ir eNd acc))]⟩) (fun k => 10 - k.1) (0, 0, []) [] ?_ ?_ ?_
      · simp
      · constructor <;> (try simp (maxSteps := 2000000) (disch := omega) only [go_sem, simprocAttr, if_pos, if_neg, w64, beqT, beqF, bneT, bneF, pr_get, ir_get, decide_eq_true, decide_eq_false, Int.natCast_zero])
      · rintro ⟨k, g2, al⟩ ⟨k1, k2, k3⟩
        simp only at k1 k2 k3
        have hkl : al.length = k := by rw [k3]; simp; omega
        ((try refine zW ?_); (try with_reducible exact True.intro))
        by_cases hlt : k < ss.length ∧ k < 10
        · obtain ⟨hk, h10⟩ := hlt
          (try simp (maxSteps := 2000000) (disch := omega) only [go_sem, simprocAttr, if_pos, if_neg, w64, beqT, beqF, bneT, bneF, pr_get, ir_get, decide_eq_true, decide_eq_false, eNd, hss])
          (refine walk_trim [0, 3, 4, 5, 6] trivial zL ?_; (refine zW ?_; try with_reducible exact True.intro); refine irun_walk (id := 9) (n := 200) [none, none, none, none, none, none, none, none, none, none, some [0, 1], some [0, 1], some [], none, some []] mixed (by kernel_rfl) ?_)
          (try simp (maxSteps := 2000000) (disch := omega) only [go_sem, simprocAttr, if_pos, if_neg, w64, beqT, beqF, bneT, bneF, pr_get, ir_get, decide_eq_true, decide_eq_false, eNd, eSt, hss])
          (refine at_dcall ?_; (refine zW ?_; try with_reducible exact True.intro); refine callA_of (L4cut_spec ss[k]) zB ?_; ((try refine zW ?_); (try with_reducible exact True.intro)))
          ((try refine zO ?_); (try with_reducible exact True.intro))
          refine ⟨(k + 1, g2 + 1, al ++ [cutSt ss[k]]), [], ⟨hk, h10, ?_⟩, ?_, ?_⟩
          · simp only [k3]
            rw [List.take_succ_eq_append_getElem hk, List.map_append, List.map_cons, List.map_nil]
          · simp only; omega
          · constructor <;> (try simp (maxSteps := 2000000) (disch := omega) only [go_sem, simprocAttr, if_pos, if_neg, w64, beqT, beqF, bneT, bneF, pr_get, ir_get, decide_eq_true, decide_eq_false, eSt, ir_snoc, List.map_cons, List.map_nil])
        · have h10 : ss.take k = ss.take 10 := by
            rcases Nat.lt_or_ge k 10 with h | h
            · rw [List.take_of_length_le (by omega), List.take_of_length_le (by omega)]
            · rw [show k = 10 by omega]
          rw [h10] at k3
          rcases Nat.lt_or_ge k ss.length with hk | hk
          all_goals
            (try simp (maxSteps := 2000000) (disch := omega) only [go_sem, simprocAttr, if_pos, if_neg, w64, beqT, beqF, bneT, bneF, pr_get, ir_get, decide_eq_true, decide_eq_false, eNd, hss])
            refine ⟨(i + 1, g + 1, acc ++ [cutNd T[i]]), [2], ⟨hl, h8, ?_⟩, ?_, ?_⟩
            · simp only [h3]
              rw [List.take_succ_eq_append_getElem hl, List.map_append, List.map_cons, List.map_nil]
            · simp only; omega
            · constructor <;> (try simp (maxSteps := 2000000) (disch := omega) only [go_sem, simprocAttr, if_pos, if_neg, w64, beqT, beqF, bneT, bneF, pr_get, ir_get, decide_eq_true, decide_eq_false, eNd, cutNd, hss, hst, ← k3, ir_snoc, List.map_cons, List.map_nil])
    · have h10 : T.take i = T.take 8 := by
        rcases Nat.lt_or_ge i 8 with h | h
        · rw [List.take_of_length_le (by omega), List.take_of_length_le (by omega)]
        · rw [show i = 8 by omega]
      rw [h10] at h3
      rcases Nat.lt_or_ge i T.length with hl | hl
      all_goals
        (try simp (maxSteps := 2000000) (disch := omega) only [go_sem, simprocAttr, if_pos, if_neg, w64, beqT, beqF, bneT, bneF, pr_get, ir_get, decide_eq_true, decide_eq_false, ← h3])
end Go.Proofs.TR

/- Numbers of scripts: those of the program and those of the document. -/
namespace Go.Proofs.TR
open Go Go.Idl Go.Proofs
set_option maxHeartbeats 20000000
set_option maxRecDepth 100000
def pkL (p : Int × List (Int × Int)) : List Int := p.1 :: (p.2.length : Int) :: p.2.flatMap fun x => [x.1, x.2]
def stL (s : St) : List Int := ([s.mode, (s.waits.length : Int)] ++ s.waits ++ [(s.picks.length : Int)] ++ s.picks.flatMap pkL) ++ [(s.takes.length : Int)] ++ s.takes.flatMap fun t => [t.1, t.2.1, t.2.2]
theorem state_spec (s : St) (hb : (stL s).length ≤ 1000000) : Pure Try.prog 42 [lSt s] (lI (stL s)) := by
  obtain ⟨mode, waits, picks, takes⟩ := s
  simp only [stL] at hb ⊢
  obtain ⟨F, F0, Fs, Fn, Fl, Fk⟩ := flat_acc (pkL) ([mode, (waits.length : Int)] ++ waits ++ [(picks.length : Int)]) (picks) (fun _ => by simp [pkL])
  have Fz := Fl 0 (Nat.zero_le _)
  rw [F0] at Fz
  (try simp only [List.length_append, List.length_range, List.length_cons, List.length_nil, List.length_map, List.length_take] at Fz Fk)
  obtain ⟨H, H0, Hs, Hn, Hl, Hk⟩ := flat_acc (fun t : Int × Int × Int => [t.1, t.2.1, t.2.2]) (F picks.length ++ [(takes.length : Int)]) (takes) (fun _ => by simp)
  have Hz := Hl 0 (Nat.zero_le _)
  rw [H0] at Hz
  (try simp only [List.length_append, List.length_range, List.length_cons, List.length_nil, List.length_map, List.length_take] at Hz Hk)
  rw [← Fn, ← Hn] at hb ⊢
  
  refine pcall0 200 (fn := Try.f42) Try.func42 rfl (by simp [Try.ntmps42]) zB zB fun hs => ?_
  have ha : 2 + waits.length = waits.length + 2 := by omega
  (try simp (maxSteps := 2000000) (disch := omega) only [go_sem, simprocAttr, if_pos, if_neg, w64, beqT, beqF, bneT, bneF, pr_get, ir_get, decide_eq_true, decide_eq_false, ha])
  (refine walk_trim [1, 3, 26, 27, 28] trivial zL ?_; ((try refine zW ?_); (try with_reducible exact True.intro)))
  refine walk_floop 200 200 (fun i : Nat × Nat => i.1 ≤ picks.length)
    (fun i => ⟨80, [(1, .ptr 0 0 0 0), (3, .ref 1 i.2 0 (F i.1).length), (26, .p (.imm 2 (pr ePk picks))), (27, sci .i64 picks.length), (28, sci .i64 i.1)], [], 2, [(1, .arr 1 i.2 (ir eI (F i.1))), (0, .arr 4 0 [[sci .i64 mode, lI waits, .p (.imm 2 (pr ePk picks)), .p (.imm 3 (pr eIII takes))]])]⟩) (fun i => picks.length - i.1) (0, 2) [] ?_ ?_ ?_
  · simp
  · constructor <;> (try simp (maxSteps := 2000000) (disch := omega) only [go_sem, simprocAttr, if_pos, if_neg, w64, beqT, beqF, bneT, bneF, pr_get, ir_get, decide_eq_true, decide_eq_false, Int.natCast_zero, List.take_of_length_le, List.append_assoc, F0, ha])
  · rintro ⟨i, g⟩ hi
    simp only at hi
    ((try refine zW ?_); (try with_reducible exact True.intro))
    by_cases li : i < picks.length
    · have hfi := Fl (i + 1) li
      have hpi := Fs i li
      generalize hp : picks[i] = p at *
      obtain ⟨G, G0, Gs, Gn, Gl, Gk⟩ := flat_acc (fun x : Int × Int => [x.1, x.2]) (F i ++ [p.1, (p.2.length : Int)]) (p.2) (fun _ => by simp)
      have Gz := Gl 0 (Nat.zero_le _)
      rw [G0] at Gz
      (try simp only [List.length_append, List.length_range, List.length_cons, List.length_nil, List.length_map, List.length_take] at Gz Gk)
      have gF : G p.2.length = F (i + 1) := by rw [Gn, hpi]; simp [pkL]
      rw [← gF] at hfi
      (try simp (maxSteps := 2000000) (disch := omega) only [go_sem, simprocAttr, if_pos, if_neg, w64, beqT, beqF, bneT, bneF, pr_get, ir_get, decide_eq_true, decide_eq_false, ePk, hp])
      (refine walk_trim [1, 3, 26, 27, 28, 41, 42, 43] trivial zL ?_; ((try refine zW ?_); (try with_reducible exact True.intro)))
      refine walk_floop 200 200 (fun k : Nat × Nat => k.1 ≤ p.2.length)
        (fun k => ⟨80, [(1, .ptr 0 0 0 0), (3, .ref 1 k.2 0 (G k.1).length), (26, .p (.imm 2 (pr ePk picks))), (27, sci .i64 picks.length), (28, sci .i64 i), (41, lII p.2), (42, sci .i64 p.2.length), (43, sci .i64 k.1)], [], 3, [(1, .arr 1 k.2 (ir eI (G k.1))), (0, .arr 4 0 [[sci .i64 mode, lI waits, .p (.imm 2 (pr ePk picks)), .p (.imm 3 (pr eIII takes))]])]⟩) (fun k => p.2.length - k.1) (0, g + 1) [] ?_ ?_ ?_
      · simp
      · constructor <;> (try simp (maxSteps := 2000000) (disch := omega) only [go_sem, simprocAttr, if_pos, if_neg, w64, beqT, beqF, bneT, bneF, pr_get, ir_get, decide_eq_true, decide_eq_false, Int.natCast_zero, List.take_of_length_le, List.append_assoc, G0])
      · rintro ⟨k, e⟩ hk
        simp only at hk
        ((try refine zW ?_); (try with_reducible exact True.intro))
        by_cases lk : k < p.2.length
        · have Gi := Gl (k + 1) lk
          have Ge := Gs k lk
          rw [Ge] at Gi
          (try simp only [List.length_append, List.length_range, List.length_cons, List.length_nil, List.length_map, List.length_take] at Gi)
          (try simp (maxSteps := 2000000) (disch := omega) only [go_sem, simprocAttr, if_pos, if_neg, w64, beqT, beqF, bneT, bneF, pr_get, ir_get, decide_eq_true, decide_eq_false, eII])
          refine ⟨(k + 1, e + 1), [], by first | assumption | omega, ?_, ?_⟩
          · (try simp only []); omega
          · constructor <;> (try simp (maxSteps := 2000000) (disch := omega) only [go_sem, simprocAttr, if_pos, if_neg, w64, beqT, beqF, bneT, bneF, pr_get, ir_get, decide_eq_true, decide_eq_false, Ge, List.take_of_length_le, List.append_assoc])
        · obtain rfl : k = p.2.length := by omega
          ((try refine zO ?_); (try with_reducible exact True.intro))
          refine ⟨(i + 1, e), [], by first | assumption | omega, ?_, ?_⟩
          · (try simp only []); omega
          · constructor <;> (try simp (maxSteps := 2000000) (disch := omega) only [go_sem, simprocAttr, if_pos, if_neg, w64, beqT, beqF, bneT, bneF, pr_get, ir_get, decide_eq_true, decide_eq_false, gF, List.append_assoc])
    · obtain rfl : i = picks.length := by omega
      ((try refine zO ?_); (try with_reducible exact True.intro))
      (refine walk_trim [3, 63, 64, 65] trivial zL ?_; ((try refine zW ?_); (try with_reducible exact True.intro)))
      refine walk_floop 200 200 (fun i : Nat × Nat => i.1 ≤ takes.length)
        (fun i => ⟨80, [(3, .ref 1 i.2 0 (H i.1).length), (63, .p (.imm 3 (pr eIII takes))), (64, sci .i64 takes.length), (65, sci .i64 i.1)], [], 2, [(1, .arr 1 i.2 (ir eI (H i.1)))]⟩) (fun i => takes.length - i.1) (0, g + 1) [] ?_ ?_ ?_
      · simp
      · constructor <;> (try simp (maxSteps := 2000000) (disch := omega) only [go_sem, simprocAttr, if_pos, if_neg, w64, beqT, beqF, bneT, bneF, pr_get, ir_get, decide_eq_true, decide_eq_false, Int.natCast_zero, List.take_of_length_le, List.append_assoc, H0])
      · rintro ⟨i, e⟩ hi
        simp only at hi
        ((try refine zW ?_); (try with_reducible exact True.intro))
        by_cases li : i < takes.length
        · have Hi := Hl (i + 1) li
          have He := Hs i li
          rw [He] at Hi
          (try simp only [List.length_append, List.length_range, List.length_cons, List.length_nil, List.length_map, List.length_take] at Hi)
          (try simp (maxSteps := 2000000) (disch := omega) only [go_sem, simprocAttr, if_pos, if_neg, w64, beqT, beqF, bneT, bneF, pr_get, ir_get, decide_eq_true, decide_eq_false, eIII])
          refine ⟨(i + 1, e + 1), [], by first | assumption | omega, ?_, ?_⟩
          · (try simp only []); omega
          · constructor <;> (try simp (maxSteps := 2000000) (disch := omega) only [go_sem, simprocAttr, if_pos, if_neg, w64, beqT, beqF, bneT, bneF, pr_get, ir_get, decide_eq_true, decide_eq_false, He, List.take_of_length_le, List.append_assoc])
        · obtain rfl : i = takes.length := by omega
          ((try refine zO ?_); (try with_reducible exact True.intro))
end Go.Proofs.TR

/- Numbers of an application and of acts, as the program tells them. -/
namespace Go.Proofs.TR
open Go Go.Idl Go.Proofs
set_option maxHeartbeats 20000000
set_option maxRecDepth 100000

def ndL (n : Nd) : List Int := n.start :: (n.states.length : Int) :: n.states.flatMap stL
def fifoN (b : Bool) : Int := if b then 1 else 0
def appL (s : Sc) : List Int := [s.N, (s.ls.length : Int)] ++ s.ls.flatMap (fun x => [x.1, x.2]) ++ [fifoN s.fifo, (s.T.length : Int)] ++ s.T.flatMap ndL
def actsL (l : List (Int × Int × Int)) : List Int := [(l.length : Int)] ++ l.flatMap fun t => [t.1, t.2.1, t.2.2]
theorem acts_spec (l : List (Int × Int × Int)) (hb : (actsL l).length ≤ 1000000) : Pure Try.prog 21 [.p (.imm 3 (pr eIII l))] (lI (actsL l)) := by
  unfold actsL at hb ⊢
  obtain ⟨F, F0, Fs, Fn, Fl, Fk⟩ := flat_acc (fun t : Int × Int × Int => [t.1, t.2.1, t.2.2]) ([(l.length : Int)]) (l) (fun _ => by simp)
  have Fz := Fl 0 (Nat.zero_le _)
  rw [F0] at Fz
  (try simp only [List.length_append, List.length_range, List.length_cons, List.length_nil, List.length_map, List.length_take] at Fz Fk)
  rw [← Fn] at hb ⊢
  refine pcall0 200 (fn := Try.f21) Try.func21 rfl (by simp [Try.ntmps21]) zB zB fun hs => ?_
  ((try refine zO ?_); (try with_reducible exact True.intro))
  (refine walk_trim [3, 9, 10, 11] trivial zL ?_; ((try refine zW ?_); (try with_reducible exact True.intro)))
  refine walk_floop 200 200 (fun i : Nat × Nat => i.1 ≤ l.length)
    (fun i => ⟨26, [(3, .ref 0 i.2 0 (F i.1).length), (9, .p (.imm 3 (pr eIII l))), (10, sci .i64 l.length), (11, sci .i64 i.1)], [], 1, [(0, .arr 1 i.2 (ir eI (F i.1)))]⟩) (fun i => l.length - i.1) (0, 0) [] ?_ ?_ ?_
  · simp
  · constructor <;> (try simp (disch := omega) only [go_sem, simprocAttr, if_pos, if_neg, w64, beqT, beqF, bneT, bneF, pr_get, ir_get, decide_eq_true, decide_eq_false, Int.natCast_zero, List.take_of_length_le, List.append_assoc, F0, irl1, irl2])
  · rintro ⟨i, e⟩ hi
    simp only at hi
    ((try refine zW ?_); (try with_reducible exact True.intro))
    by_cases li : i < l.length
    · have Fi := Fl (i + 1) li
      have Fe := Fs i li
      rw [Fe] at Fi
      (try simp only [List.length_append, List.length_range, List.length_cons, List.length_nil, List.length_map, List.length_take] at Fi)
      (try simp (disch := omega) only [go_sem, simprocAttr, if_pos, if_neg, w64, beqT, beqF, bneT, bneF, pr_get, ir_get, decide_eq_true, decide_eq_false, eIII])
      refine ⟨(i + 1, e + 1), [], by first | assumption | omega, ?_, ?_⟩
      · (try simp only []); omega
      · constructor <;> (try simp (disch := omega) only [go_sem, simprocAttr, if_pos, if_neg, w64, beqT, beqF, bneT, bneF, pr_get, ir_get, decide_eq_true, decide_eq_false, Fe, List.take_of_length_le, List.append_assoc])
    · obtain rfl : i = l.length := by omega
      ((try refine zO ?_); (try with_reducible exact True.intro))
theorem stL_pos (s : St) : 0 < (stL s).length := by simp [stL]
theorem stL_le {n : Nd} {i : Nat} {s : St} (h : n.states[i]? = some s) : (stL s).length ≤ (ndL n).length := by
  obtain ⟨hi, rfl⟩ := List.getElem?_eq_some_iff.1 h
  have : (n.states.flatMap stL) = ((n.states.take i).flatMap stL) ++ (stL n.states[i] ++ ((n.states.drop (i + 1)).flatMap stL)) := by
    rw [← List.flatMap_cons, ← List.flatMap_append, ← List.drop_eq_getElem_cons hi, List.take_append_drop]
  simp only [ndL, List.length_cons, this, List.length_append]
  omega
theorem app_spec (s : Sc) (hb : (appL s).length ≤ 1000000) : Pure Try.prog 19 [lApp s] (lI (appL s)) := by
  obtain ⟨N, ls, T, fifo, room, acts⟩ := s
  simp only [appL] at hb ⊢
  obtain ⟨F, F0, Fs, Fn, Fl, Fk⟩ := flat_acc (fun x : Int × Int => [x.1, x.2]) ([N, (ls.length : Int)]) (ls) (fun _ => by simp)
  have Fz := Fl 0 (Nat.zero_le _)
  rw [F0] at Fz
  (try simp only [List.length_append, List.length_range, List.length_cons, List.length_nil, List.length_map, List.length_take] at Fz Fk)
  obtain ⟨H, H0, Hs, Hn, Hl, Hk⟩ := flat_acc (ndL) (F ls.length ++ [fifoN fifo, (T.length : Int)]) (T) (fun _ => by simp [ndL])
  have Hz := Hl 0 (Nat.zero_le _)
  rw [H0] at Hz
  (try simp only [List.length_append, List.length_range, List.length_cons, List.length_nil, List.length_map, List.length_take] at Hz Hk)
  rw [← Fn, ← Hn] at hb ⊢
  
  refine pcall0 200 (fn := Try.f19) Try.func19 rfl (by simp [Try.ntmps19]) zB zB fun hs => ?_
  ((try refine zO ?_); (try with_reducible exact True.intro))
  (refine walk_trim [1, 3, 21, 22, 23] trivial zL ?_; ((try refine zW ?_); (try with_reducible exact True.intro)))
  refine walk_floop 200 200 (fun i : Nat × Nat => i.1 ≤ ls.length)
    (fun i => ⟨73, [(1, .ptr 0 0 0 0), (3, .ref 1 i.2 0 (F i.1).length), (21, lII ls), (22, sci .i64 ls.length), (23, sci .i64 i.1)], [], 2, [(1, .arr 1 i.2 (ir eI (F i.1))), (0, .arr 4 0 [[sci .i64 N, lII ls, .p (.imm 2 (pr eNd T)), scb fifo]])]⟩) (fun i => ls.length - i.1) (0, 0) [] ?_ ?_ ?_
  · simp
  · constructor <;> (try simp (maxSteps := 2000000) (disch := omega) only [go_sem, simprocAttr, if_pos, if_neg, w64, beqT, beqF, bneT, bneF, pr_get, ir_get, decide_eq_true, decide_eq_false, Int.natCast_zero, List.take_of_length_le, List.append_assoc, F0, irl1, irl2])
  · rintro ⟨i, g⟩ hi
    simp only at hi
    ((try refine zW ?_); (try with_reducible exact True.intro))
    by_cases li : i < ls.length
    · have Fi := Fl (i + 1) li
      have Fe := Fs i li
      rw [Fe] at Fi
      (try simp only [List.length_append, List.length_range, List.length_cons, List.length_nil, List.length_map, List.length_take] at Fi)
      (try simp (maxSteps := 2000000) (disch := omega) only [go_sem, simprocAttr, if_pos, if_neg, w64, beqT, beqF, bneT, bneF, pr_get, ir_get, decide_eq_true, decide_eq_false, eII])
      refine ⟨(i + 1, g + 1), [], by first | assumption | omega, ?_, ?_⟩
      · (try simp only []); omega
      · constructor <;> (try simp (maxSteps := 2000000) (disch := omega) only [go_sem, simprocAttr, if_pos, if_neg, w64, beqT, beqF, bneT, bneF, pr_get, ir_get, decide_eq_true, decide_eq_false, Fe, List.take_of_length_le, List.append_assoc])
    · obtain rfl : i = ls.length := by omega
      ((try refine zO ?_); (try with_reducible exact True.intro))
      cases fifo
      all_goals
        ((try refine zO ?_); (try with_reducible exact True.intro))
        (refine walk_trim [3, 45, 46, 47] trivial zL ?_; ((try refine zW ?_); (try with_reducible exact True.intro)))
        simp only [fifoN, if_true, if_false, Bool.false_eq_true] at H0
        refine walk_floop 200 200 (fun k : Nat × Nat => k.1 ≤ T.length)
          (fun k => ⟨73, [(3, .ref 1 k.2 0 (H k.1).length), (45, .p (.imm 2 (pr eNd T))), (46, sci .i64 T.length), (47, sci .i64 k.1)], [], 2, [(1, .arr 1 k.2 (ir eI (H k.1)))]⟩) (fun k => T.length - k.1) (0, g + 1) [] ?_ ?_ ?_
        · simp
        · constructor <;> (try simp (maxSteps := 2000000) (disch := omega) only [go_sem, simprocAttr, if_pos, if_neg, w64, beqT, beqF, bneT, bneF, pr_get, ir_get, decide_eq_true, decide_eq_false, Int.natCast_zero, List.take_of_length_le, List.append_assoc, H0])
        · rintro ⟨k, e⟩ hk
          simp only at hk
          ((try refine zW ?_); (try with_reducible exact True.intro))
          by_cases lk : k < T.length
          · have hfi := Hl (k + 1) lk
            have hpi := Hs k lk
            generalize hp : T[k] = p at *
            obtain ⟨G, G0, Gs, Gn, Gl, Gk⟩ := flat_acc (stL) (H k ++ [p.start, (p.states.length : Int)]) (p.states) stL_pos
            have Gz := Gl 0 (Nat.zero_le _)
            rw [G0] at Gz
            (try simp only [List.length_append, List.length_range, List.length_cons, List.length_nil, List.length_map, List.length_take] at Gz Gk)
            have gF : G p.states.length = H (k + 1) := by rw [Gn, hpi]; simp [ndL]
            rw [← gF] at hfi
            (try simp (maxSteps := 2000000) (disch := omega) only [go_sem, simprocAttr, if_pos, if_neg, w64, beqT, beqF, bneT, bneF, pr_get, ir_get, decide_eq_true, decide_eq_false, eNd, hp])
            (refine walk_trim [3, 45, 46, 47, 60, 61, 62] trivial zL ?_; ((try refine zW ?_); (try with_reducible exact True.intro)))
            refine walk_floop 200 200 (fun j : Nat × Nat => j.1 ≤ p.states.length)
              (fun j => ⟨73, [(3, .ref 1 j.2 0 (G j.1).length), (45, .p (.imm 2 (pr eNd T))), (46, sci .i64 T.length), (47, sci .i64 k), (60, .p (.imm 4 (pr eSt p.states))), (61, sci .i64 p.states.length), (62, sci .i64 j.1)], [], 3, [(1, .arr 1 j.2 (ir eI (G j.1)))]⟩) (fun j => p.states.length - j.1) (0, e + 1) [] ?_ ?_ ?_
            · simp
            · constructor <;> (try simp (maxSteps := 2000000) (disch := omega) only [go_sem, simprocAttr, if_pos, if_neg, w64, beqT, beqF, bneT, bneF, pr_get, ir_get, decide_eq_true, decide_eq_false, Int.natCast_zero, List.take_of_length_le, List.append_assoc, G0])
            · rintro ⟨j, f⟩ hj
              simp only at hj
              ((try refine zW ?_); (try with_reducible exact True.intro))
              by_cases lj : j < p.states.length
              · have Gi := Gl (j + 1) lj
                have Ge := Gs j lj
                rw [Ge] at Gi
                (try simp only [List.length_append, List.length_range, List.length_cons, List.length_nil, List.length_map, List.length_take] at Gi)
                (try simp (maxSteps := 2000000) (disch := omega) only [go_sem, simprocAttr, if_pos, if_neg, w64, beqT, beqF, bneT, bneF, pr_get, ir_get, decide_eq_true, decide_eq_false, eSt])
                (refine at_call 200 ?_; (refine zW ?_; try with_reducible exact True.intro); refine callA_of (state_spec p.states[j] (by omega)) zB ?_; ((try refine zW ?_); (try with_reducible exact True.intro)))
                ((try refine zO ?_); (try with_reducible exact True.intro))
                refine ⟨(j + 1, f + 1), [], by first | assumption | omega, ?_, ?_⟩
                · (try simp only []); omega
                · constructor <;> (try simp (maxSteps := 2000000) (disch := omega) only [go_sem, simprocAttr, if_pos, if_neg, w64, beqT, beqF, bneT, bneF, pr_get, ir_get, decide_eq_true, decide_eq_false, Ge, List.take_of_length_le, List.append_assoc])
              · obtain rfl : j = p.states.length := by omega
                ((try refine zO ?_); (try with_reducible exact True.intro))
                refine ⟨(k + 1, f), [], by first | assumption | omega, ?_, ?_⟩
                · (try simp only []); omega
                · constructor <;> (try simp (maxSteps := 2000000) (disch := omega) only [go_sem, simprocAttr, if_pos, if_neg, w64, beqT, beqF, bneT, bneF, pr_get, ir_get, decide_eq_true, decide_eq_false, gF, List.append_assoc])
          · obtain rfl : k = T.length := by omega
            ((try refine zO ?_); (try with_reducible exact True.intro))
end Go.Proofs.TR
