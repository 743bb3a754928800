/- The document's take of a host: its walk. -/
import Derived.Test.YtnbhjoopcaaafaaGreatHDb
import Derived.Test.YtnbhjoopcaaafaaGreatHOw
set_option linter.unusedSimpArgs false
set_option linter.unusedVariables false
namespace Go.Proofs.HO
open Go Go.Idl Go.Proofs Go.GP
set_option maxHeartbeats 20000000
set_option maxRecDepth 100000
theorem posL_lt {q : Int} : ∀ {l : List (Int × Int)} {i : Nat} (h : i < posL q l) (hl : i < l.length), l[i].1 < q
 | [], i, h, hl => by simp at hl
 | x :: r, i, h, hl => by
   unfold posL at h
   split at h
   ·rename_i c
    cases i with
    | zero => exact c
    | succ i => exact posL_lt (Nat.lt_of_succ_lt_succ h) (by simpa using hl)
   ·omega
theorem posL_nlt {q : Int} : ∀ {l : List (Int × Int)} (y : Int × Int), l[posL q l]? = some y → ¬ y.1 < q
 | [], y, h => by simp at h
 | x :: r, y, h => by
   unfold posL at h
   split at h
   ·exact posL_nlt (l := r) y (by simpa using h)
   ·rename_i c
    simp at h
    rw [← h]; exact c
theorem fwRs_set {G : Nat → Option IBlk} {ids : List Nat} {rs : List (List IV)} {i : Nat} {r r' : List IV} (h : fws G ids r r') : fwRs G ids (rs.set i r) (rs.set i r') := by
 refine .inr ⟨by simp, fun k a b ha hb => ?_⟩
 rw [List.getElem?_set] at ha hb
 by_cases e : i = k
 ·subst e
  rw [if_pos rfl] at ha hb
  split at ha
  ·rename_i c
   rw [if_pos c] at hb
   cases ha; cases hb; exact h
  ·cases ha
 ·rw [if_neg e] at ha hb
  rw [ha] at hb
  cases hb
  exact fws_self a
theorem R9Take_spec (s : Sc) (h : Hs) (x : Int) (m : Int × Int) (n j : Nat) (nd : Nd) (st : St) (hn : h.node = n) (hj : h.state = j) (hx : s.T[n]? = some nd) (hq : nd.states[j]? = some st) (hg : gHs h) (hl : s.ls.length ≤ 1000000) (hk : st.takes.length ≤ 1000000)
  (hi : h.inn.length = (ins h.node 0 s.ls).length) (hu : ∀ l ∈ h.inn, Up l ∧ l.length ≤ 1000) (h0 : 0 ≤ h.steps ∧ h.steps ≤ 2147483647) :
  Pure Tryz.prog 22 [lApp s, lHs h, sci .i64 x, .agg [sci .i64 m.1, sci .i64 m.2]] (.tup [lHs (takeH s.ls st h x m).1, sci .i64 (takeH s.ls st h x m).2]) := by
 obtain ⟨N, ls, T, ff, room, acts⟩ := s
 obtain ⟨node, state, steps, inn, out⟩ := h
 obtain ⟨q1, q2⟩ := m
 obtain ⟨b2, b3, b4, b5⟩ := id hg
 simp only at hn hj hx hl hi hu h0 b2 b3 b4 b5
 subst hn hj
 generalize hres : takeH ls st ⟨n, j, steps, inn, out⟩ x (q1, q2) = res
 unfold takeH at hres
 simp only at hres
 refine pcall0 200 (fn := Tryz.f22) Tryz.func22 rfl (by simp [Tryz.ntmps22]) zB zB fun hs => ?_
 ((try refine zW ?_); (try with_reducible exact True.intro))
 (refine at_call 200 ?_; (refine zW ?_; try with_reducible exact True.intro); refine callA_of (R3In_spec N n ls hl) zB ?_; ((try refine zW ?_); (try with_reducible exact True.intro)))
 ((try refine zO ?_); (try with_reducible exact True.intro))
 (refine at_call 200 ?_; (refine zW ?_; try with_reducible exact True.intro); refine callA_of (R9Place_spec _ _) zB ?_; ((try refine zW ?_); (try with_reducible exact True.intro)))
 by_cases c1 : indexL x 0 (ins n 0 ls) < 0
 ·rw [if_pos (.inl c1)] at hres
  subst hres
  (try simp (maxSteps := 2000000) (disch := omega) only [go_sem, simprocAttr, zD, zE, c1])
  (refine walk_trim [2, 4, 5, 7, 8, 10] trivial zL ?_; (refine zW ?_; try with_reducible exact True.intro); refine irun_walk (id := 2) (n := 200) [none, none, none, none, none, none, none, none, none, none, none, none, none, none, none, none, none, none, none, none, none, none, none, none, none, none, none, none, none, none, some [], none, none] mixed (by kernel_rfl) ?_)
  (try simp (maxSteps := 2000000) (disch := omega) only [go_sem, simprocAttr, zD, zE, c1, zH])
 by_cases c2 : q1 < 1
 ·rw [if_pos (.inr (.inl c2))] at hres
  subst hres
  ((try refine zO ?_); (try with_reducible exact True.intro))
  (refine walk_trim [2, 4, 5, 7, 8, 10] trivial zL ?_; (refine zW ?_; try with_reducible exact True.intro); refine irun_walk (id := 2) (n := 200) [none, none, none, none, none, none, none, none, none, none, none, none, none, none, none, none, none, none, none, none, none, none, none, none, none, none, none, none, none, none, some [], none, none] mixed (by kernel_rfl) ?_)
  (try simp (maxSteps := 2000000) (disch := omega) only [go_sem, simprocAttr, zD, zE, c1, c2, zH])
 by_cases c3 : 500 < q1
 ·rw [if_pos (.inr (.inr (.inl c3)))] at hres
  subst hres
  ((try refine zO ?_); (try with_reducible exact True.intro))
  (refine walk_trim [2, 4, 5, 7, 8, 10] trivial zL ?_; (refine zW ?_; try with_reducible exact True.intro); refine irun_walk (id := 2) (n := 200) [none, none, none, none, none, none, none, none, none, none, none, none, none, none, none, none, none, none, none, none, none, none, none, none, none, none, none, none, none, none, some [], none, none] mixed (by kernel_rfl) ?_)
  (try simp (maxSteps := 2000000) (disch := omega) only [go_sem, simprocAttr, zD, zE, c1, c2, c3, zH])
 by_cases c4 : q2 < 0
 ·rw [if_pos (.inr (.inr (.inr (.inl c4))))] at hres
  subst hres
  ((try refine zO ?_); (try with_reducible exact True.intro))
  (refine walk_trim [2, 4, 5, 7, 8, 10] trivial zL ?_; (refine zW ?_; try with_reducible exact True.intro); refine irun_walk (id := 2) (n := 200) [none, none, none, none, none, none, none, none, none, none, none, none, none, none, none, none, none, none, none, none, none, none, none, none, none, none, none, none, none, none, some [], none, none] mixed (by kernel_rfl) ?_)
  (try simp (maxSteps := 2000000) (disch := omega) only [go_sem, simprocAttr, zD, zE, c1, c2, c3, c4, zH])
 by_cases c5 : 4 ≤ q2
 ·rw [if_pos (.inr (.inr (.inr (.inr c5))))] at hres
  subst hres
  ((try refine zO ?_); (try with_reducible exact True.intro))
  (refine walk_trim [2, 4, 5, 7, 8, 10] trivial zL ?_; (refine zW ?_; try with_reducible exact True.intro); refine irun_walk (id := 2) (n := 200) [none, none, none, none, none, none, none, none, none, none, none, none, none, none, none, none, none, none, none, none, none, none, none, none, none, none, none, none, none, none, some [], none, none] mixed (by kernel_rfl) ?_)
  (try simp (maxSteps := 2000000) (disch := omega) only [go_sem, simprocAttr, zD, zE, c1, c2, c3, c4, c5, zH])
 rw [if_neg (fun q => q.elim c1 fun q => q.elim c2 fun q => q.elim c3 fun q => q.elim c4 c5)] at hres
 rcases indexL_at x (ins n 0 ls) with e | ⟨i, e, hil, hig⟩
 ·exact absurd (by omega) c1
 have lin : i < inn.length := by omega
 rw [e, Int.toNat_natCast, List.getElem?_eq_getElem lin] at hres
 obtain ⟨kx, hkx, rfl, hlk⟩ := ins_mem (List.mem_of_getElem? hig)
 simp only [Nat.zero_add] at hig e hres
 rw [Int.toNat_natCast, List.getElem?_eq_getElem hkx] at hres
 simp only at hres
 obtain ⟨hup, hrl⟩ := hu _ (List.getElem_mem lin)
 have hblk := R9ownI_blk ⟨n, j, steps, inn, out⟩ hg
 simp only at hblk
 generalize hrow : inn[i] = row at *
 generalize hlx : ls[kx] = lk at *
 obtain ⟨la, lb⟩ := lk
 have c1' : ¬ ((i : Int) < 0) := by omega
 (try simp (maxSteps := 2000000) (disch := omega) only [go_sem, simprocAttr, zD, zE, e])
 (refine walk_trim [2, 4, 5, 7, 8, 10] trivial zL ?_; (refine zW ?_; try with_reducible exact True.intro); refine irun_walk (id := 2) (n := 200) [none, none, none, none, none, none, none, none, none, none, none, none, none, none, none, none, none, none, none, none, none, none, none, none, none, none, none, none, none, none, some [], none, none] mixed (by kernel_rfl) ?_)
 (try simp (maxSteps := 2000000) (disch := omega) only [go_sem, simprocAttr, zD, zE, e, c1', c2, c3, c4, c5, eMs, hrow])
 (refine at_dcall ?_; (refine zW ?_; try with_reducible exact True.intro); refine callA_of (R5Place_spec row q1) zB ?_; ((try refine zW ?_); (try with_reducible exact True.intro)))
 have hiff : (0 ≤ idxM q1 0 row) ↔ ∃ y, row[posL q1 row]? = some y ∧ y.fst = q1 := by rw [idxM_mem, posL_has (up_pw.1 hup)]
 cases hf : tB (∃ y, row[posL q1 row]? = some y ∧ y.fst = q1) with
 | true =>
   rw [hf, if_pos rfl] at hres
   subst hres
   have hi0 := hiff.2 (tB_iff.1 hf)
   (try simp (maxSteps := 2000000) (disch := omega) only [go_sem, simprocAttr, zD, zE, hi0, zH])
 | false =>
   rw [hf, if_neg (by decide)] at hres
   subst hres
   have hi0 : ¬ 0 ≤ idxM q1 0 row := fun c => by rw [tB_pos (hiff.1 c)] at hf; cases hf
   (try simp (maxSteps := 2000000) (disch := omega) only [go_sem, simprocAttr, zD, zE, hi0])
   (refine at_gr 200 ?_; (refine zW ?_; try with_reducible exact True.intro); refine callG_of [] (hblk) zU ?_; ((try refine zW ?_); (try with_reducible exact True.intro)))
   ((try refine zO ?_); (try with_reducible exact True.intro))
   refine walk_own 12 2 trivial rfl (.inl rfl) ?_
   (refine walk_trim [2, 4, 5, 7, 8, 10, 11, 12, 13, 43] trivial zL ?_; ((try refine zW ?_); (try with_reducible exact True.intro)))
   have hpl := posL_le q1 row
   generalize hk1 : posL q1 row = k1 at *
   refine walk_floop 200 200 (fun i1 : Nat => i1 ≤ k1)
    (fun i1 => ⟨136, [(2, sci .i64 kx), (4, .ptr 0 0 0 0), (5, .ptr 1 0 0 0), (7, .ptr 2 0 0 0), (8, .ptr 3 0 0 0), (10, sci .i64 i), (11, .ptr 5 0 0 0), (12, .ref 6 i1 0 i1), (13, sci .i64 i1)], [], 7, [(6, .arr 2 i1 (ir eII (row.take i1))), (5, .arr 5 0 [[sci .i64 n, sci .i64 j, sci .i64 steps, .ref 4 inn.length 0 inn.length, lLs out]]), (4, .arr 1 inn.length (ir eMs inn)), (3, .arr 5 0 [[sci .i64 0, sci .i64 0, sci .i64 0, nil0, nil0]]), (2, .arr 2 0 [[sci .i64 q1, sci .i64 q2]]), (1, .arr 5 0 [[sci .i64 n, sci .i64 j, sci .i64 steps, lMs inn, lLs out]]), (0, .arr 4 0 [[sci .i64 N, lII ls, .p (.imm 2 (pr eNd T)), scb ff]])]⟩) (fun i1 => k1 - i1) (0) [] ?_ ?_ ?_
   ·simp
   ·constructor <;> (try simp (maxSteps := 2000000) (disch := omega) only [go_sem, simprocAttr, zD, zE, Int.natCast_zero, List.take_of_length_le, List.append_assoc, List.take_zero])
   ·rintro i1 hi1
    ((try refine zW ?_); (try with_reducible exact True.intro))
    by_cases li1 : i1 < k1
    ·have lr : i1 < row.length := by omega
     have hlt : (row.take i1).length = i1 := by rw [List.length_take]; omega
     have hl2 : (row.take i1).take i1 = row.take i1 := by rw [List.take_take, Nat.min_self]
     have hS : row.take (i1 + 1) = row.take i1 ++ [row[i1]] := List.take_succ_eq_append_getElem lr
     have hlq : row[i1].1 < q1 := posL_lt (by rw [hk1]; exact li1) lr
     (refine walk_trim [2, 4, 5, 7, 8, 10, 11, 12, 13, 43] trivial zL ?_; (refine zW ?_; try with_reducible exact True.intro); refine irun_walk (id := 7) (n := 200) [none, none, none, none, none, none, none, none, none, none, none, none, none, none, none, none, none, none, none, none, none, none] mixed (by kernel_rfl) ?_)
     (try simp (maxSteps := 2000000) (disch := omega) only [go_sem, simprocAttr, zD, zE, eMs, hrow, eII, hlq, hlt, hl2])
     refine ⟨i1 + 1, [], by first | assumption | omega, ?_, ?_⟩
     ·(try simp only []); omega
     ·constructor <;> (try simp (maxSteps := 2000000) (disch := omega) only [go_sem, simprocAttr, zD, zE, ir_snoc, hS, hlt, hl2, eII, List.map_cons, List.map_nil, List.append_assoc])
    ·obtain rfl : i1 = k1 := by omega
     have hlt : (row.take i1).length = i1 := by rw [List.length_take]; omega
     have hl2 : (row.take i1).take i1 = row.take i1 := by rw [List.take_take, Nat.min_self]
     have hdr : List.take (row.length - i1) (List.drop i1 row) = row.drop i1 := List.take_of_length_le (by rw [List.length_drop]; omega)
     have hdl : (row.drop i1).length = row.length - i1 := List.length_drop
     have hir : (ir eII (row.take i1)).length = i1 := by rw [ir, List.length_map, hlt]
     have htk : List.take (i1 + 1) (ir eII (row.take i1) ++ [[IV.p (.sc (.int .i64 q1)), IV.p (.sc (.int .i64 q2))]]) = ir eII (row.take i1) ++ [[IV.p (.sc (.int .i64 q1)), IV.p (.sc (.int .i64 q2))]] := List.take_of_length_le (by rw [List.length_append, hir]; exact Nat.le_refl _)
     have hnew : ir eII (row.take i1) ++ [[IV.p (.sc (.int .i64 q1)), IV.p (.sc (.int .i64 q2))]] ++ ir eII (row.drop i1) = ir eII (row.take i1 ++ (q1, q2) :: row.drop i1) := by simp [ir, eII]
     have hnl : (row.take i1 ++ (q1, q2) :: row.drop i1).length = i1 + (1 + (row.length - i1)) := by rw [List.length_append, hlt, List.length_cons, hdl]; omega
     have hset : ir eMs (inn.set i (row.take i1 ++ (q1, q2) :: row.drop i1)) = (ir eMs inn).set i [.p (.imm 2 (pr eII (row.take i1 ++ (q1, q2) :: row.drop i1)))] := by rw [ir, ir, List.map_set]; rfl
     (refine walk_trim [2, 4, 5, 7, 8, 10, 11, 12, 13, 43] trivial zL ?_; (refine zW ?_; try with_reducible exact True.intro); refine irun_walk (id := 7) (n := 200) [none, none, none, none, none, none, none, none, none, none, none, none, none, none, none, none, none, none, none, none, none, none] mixed (by kernel_rfl) ?_)
     rcases Nat.lt_or_ge i1 row.length with lr | lr
     case' inl =>
      have hlq : ¬ row[i1].1 < q1 := posL_nlt _ (by rw [hk1]; exact List.getElem?_eq_getElem lr)
      (try simp (maxSteps := 2000000) (disch := omega) only [go_sem, simprocAttr, zD, zE, eMs, hrow, eII, hlq, hlt, hl2, hdr, hdl, htk, hnew])
     case' inr =>
      (try simp (maxSteps := 2000000) (disch := omega) only [go_sem, simprocAttr, zD, zE, eMs, hrow, eII, hlt, hl2, hdr, hdl, htk, hnew])
     all_goals
      generalize hne : row.take i1 ++ (q1, q2) :: row.drop i1 = new at *
      have hnt : (ir eII new).take (i1 + (1 + (row.length - i1))) = ir eII new := List.take_of_length_le (by rw [ir, List.length_map, hnl]; exact Nat.le_refl _)
      refine walk_fcut 200 [6] ⟨136, [(2, sci .i64 kx), (4, .ptr 0 0 0 0), (5, .ptr 1 0 0 0), (7, .ptr 2 0 0 0), (8, .ptr 3 0 0 0), (11, .ptr 5 0 0 0)], [], 7,
       [(5, .arr 5 0 [[sci .i64 n, sci .i64 j, sci .i64 steps, .ref 4 inn.length 0 inn.length, lLs out]]), (4, .arr 1 inn.length (ir eMs (inn.set i new))), (3, .arr 5 0 [[sci .i64 0, sci .i64 0, sci .i64 0, nil0, nil0]]), (2, .arr 2 0 [[sci .i64 q1, sci .i64 q2]]),
       (1, .arr 5 0 [[sci .i64 n, sci .i64 j, sci .i64 steps, lMs inn, lLs out]]), (0, .arr 4 0 [[sci .i64 N, lII ls, .p (.imm 2 (pr eNd T)), scb ff]])]⟩ trivial ?_ ?_
      ·constructor
       case blks =>
        ((try refine zO ?_); (try with_reducible exact True.intro))
        rw [hset]
        refine fwRs_set ?_
        (try simp (maxSteps := 2000000) (disch := omega) only [go_sem, simprocAttr, zD, zE, hnt])
       all_goals ((try refine zO ?_); (try with_reducible exact True.intro))
      ((try refine zO ?_); (try with_reducible exact True.intro))
      (refine walk_trim [2, 4, 5, 7, 8, 11, 43] trivial zL ?_; (refine zW ?_; try with_reducible exact True.intro); refine irun_walk (id := 14) (n := 200) [none, none, none, none, none, none, none, none, none, none, none, none, none, none, none, some [], none, some []] mixed (by kernel_rfl) ?_)
      (try simp (maxSteps := 2000000) (disch := omega) only [go_sem, simprocAttr, zD, zE, hlx, eII])
      (refine at_dcall ?_; (refine zW ?_; try with_reducible exact True.intro); refine callA_of (R4Taken_spec T n j nd st hx hq la q2 hk) zB ?_; ((try refine zW ?_); (try with_reducible exact True.intro)))
      ((try refine zO ?_); (try with_reducible exact True.intro))
      rw [List.take_of_length_le (by simp)]
end Go.Proofs.HO
