/- Facts that the proofs of this claim lean on. -/
import Derived.Test.YtnbhjoopcaaafaaGreatHS2
import Derived.Test.YtnbhjoopcaaafaaGreatHP2
import Derived.Test.YtnbhjoopcaaafaaGreatHGb
import Derived.Test.YtnbhjoopcaaafaaGreatHFb
set_option linter.unusedSimpArgs false
set_option linter.unusedVariables false
/- The document's hosts: the simple functions. -/
namespace Go.Proofs.HO
open Go Go.Idl Go.Proofs Go.GP
set_option maxHeartbeats 20000000
set_option maxRecDepth 100000
abbrev lSs (l : List (Int × Int × Int)) : IV := .p (.imm 3 (pr eIII l))
theorem RIntsR_spec (l : List Int) (hl : l.length ≤ 1000000) : Pure Tryz.prog 76 [lI l, lI l] (scb true) := by
 refine pcall0 200 (fn := Tryz.f76) Tryz.func76 rfl (by simp [Tryz.ntmps76]) zB zB fun hs => ?_
 ((try refine zW ?_); (try with_reducible exact True.intro))
 refine walk_floop 200 200 (fun i : Nat => i ≤ l.length)
  (fun i => ⟨26, [(0, lI l), (1, lI l), (5, sci .i64 i)], [], 0, []⟩) (fun i => l.length - i) (0) [] ?_ ?_ ?_
 ·simp
 ·constructor <;> (try simp (disch := omega) only [go_sem, simprocAttr, zD, zE, Int.natCast_zero, List.take_of_length_le, List.append_assoc])
 ·rintro i hi
  ((try refine zW ?_); (try with_reducible exact True.intro))
  by_cases li : i < l.length
  ·((try refine zO ?_); (try with_reducible exact True.intro))
   (refine walk_trim [0, 1, 5] trivial zL ?_; (refine zW ?_; try with_reducible exact True.intro); refine irun_walk (id := 6) (n := 200) [none, none, none, none, none, none, none, none, none] mixed (by kernel_rfl) ?_)
   have e := beq_self_eq_true l[i]
   (try simp (disch := omega) only [go_sem, simprocAttr, zD, zE, eI, e])
   refine ⟨i + 1, [], li, by omega, ?_⟩
   constructor <;> ((try refine zO ?_); (try with_reducible exact True.intro))
  ·obtain rfl : i = l.length := by omega
   ((try refine zO ?_); (try with_reducible exact True.intro))
theorem R9SentsR_spec (l : List (Int × Int × Int)) (hl : l.length ≤ 1000000) : Pure Tryz.prog 23 [lSs l, lSs l] (scb true) := by
 refine pcall0 200 (fn := Tryz.f23) Tryz.func23 rfl (by simp [Tryz.ntmps23]) zB zB fun hs => ?_
 ((try refine zW ?_); (try with_reducible exact True.intro))
 refine walk_floop 200 200 (fun i : Nat => i ≤ l.length)
  (fun i => ⟨26, [(0, lSs l), (1, lSs l), (5, sci .i64 i)], [], 0, []⟩) (fun i => l.length - i) (0) [] ?_ ?_ ?_
 ·simp
 ·constructor <;> (try simp (disch := omega) only [go_sem, simprocAttr, zD, zE, Int.natCast_zero, List.take_of_length_le, List.append_assoc])
 ·rintro i hi
  ((try refine zW ?_); (try with_reducible exact True.intro))
  by_cases li : i < l.length
  ·((try refine zO ?_); (try with_reducible exact True.intro))
   (refine walk_trim [0, 1, 5] trivial zL ?_; (refine zW ?_; try with_reducible exact True.intro); refine irun_walk (id := 6) (n := 200) [none, none, none, none, none, none, none, none, none] mixed (by kernel_rfl) ?_)
   have e1 := beq_self_eq_true l[i].1
   have e2 := beq_self_eq_true l[i].2.1
   have e3 := beq_self_eq_true l[i].2.2
   (try simp (disch := omega) only [go_sem, simprocAttr, zD, zE, eIII, e1, e2, e3])
   refine ⟨i + 1, [], li, by omega, ?_⟩
   constructor <;> ((try refine zO ?_); (try with_reducible exact True.intro))
  ·obtain rfl : i = l.length := by omega
   ((try refine zO ?_); (try with_reducible exact True.intro))
theorem L9Sents_spec (l : List (Int × Int × Int)) (hl : l.length ≤ 1000000) : Pure Tryz.prog 24 [lSs l] (lSs l) := by
 refine pcall0 200 (fn := Tryz.f24) Tryz.func24 rfl (by simp [Tryz.ntmps24]) zB zB fun hs => ?_
 ((try refine zW ?_); (try with_reducible exact True.intro))
 refine walk_own 3 3 trivial rfl (.inl rfl) ?_
 (refine walk_trim [0, 3, 4] trivial zL ?_; ((try refine zW ?_); (try with_reducible exact True.intro)))
 refine walk_floop 200 200 (fun i : Nat × Nat => i.1 ≤ l.length)
  (fun i => ⟨27, [(0, lSs l), (3, .ref 0 i.2 0 i.1), (4, sci .i64 i.1)], [], 1, [(0, .arr 3 i.2 (ir eIII (l.take i.1)))]⟩) (fun i => l.length - i.1) (0, 0) [] ?_ ?_ ?_
 ·simp
 ·constructor <;> (try simp (disch := omega) only [go_sem, simprocAttr, zD, zE, Int.natCast_zero, List.take_of_length_le, List.append_assoc])
 ·rintro ⟨i, g⟩ hi
  simp only at hi
  ((try refine zW ?_); (try with_reducible exact True.intro))
  by_cases li : i < l.length
  ·have hlt : (l.take i).length = i := by rw [List.length_take]; omega
   have hl2 : (l.take i).take i = l.take i := by rw [List.take_take, Nat.min_self]
   have hS : l.take (i + 1) = l.take i ++ [l[i]] := List.take_succ_eq_append_getElem li
   ((try refine zO ?_); (try with_reducible exact True.intro))
   (refine walk_trim [0, 3, 4] trivial zL ?_; (refine zW ?_; try with_reducible exact True.intro); refine irun_walk (id := 5) (n := 200) [none, none, none, none, none, none, none, none, none, none, none, none, some [0], some [], none] mixed (by kernel_rfl) ?_)
   (try simp (disch := omega) only [go_sem, simprocAttr, zD, zE, eIII, hlt, hl2])
   refine ⟨(i + 1, g + 1), [], by first | assumption | omega, ?_, ?_⟩
   ·(try simp only []); omega
   ·constructor <;> (try simp (disch := omega) only [go_sem, simprocAttr, zD, zE, ir_snoc, hS, hlt, hl2, eIII, List.map_cons, List.map_nil, List.append_assoc])
  ·obtain rfl : i = l.length := by omega
   ((try refine zO ?_); (try with_reducible exact True.intro))
theorem R9Place_spec (l : List Int) (a : Int) : Pure Tryz.prog 69 [lI l, sci .i64 a] (sci .i64 (indexL a 0 l)) := by
 refine pcall0 200 (fn := Tryz.f69) Tryz.func69 rfl (by simp [Tryz.ntmps69]) zB zB fun hs => ?_
 simp only [go_sem, simprocAttr, maxLen] at hs
 ((try refine zO ?_); (try with_reducible exact True.intro))
 refine walk_floop 200 200 (fun i : Nat => i ≤ l.length ∧ indexL a i (l.drop i) = indexL a 0 l)
  (fun i => ⟨19, [(0, lI l), (1, sci .i64 a), (5, sci .i64 i)], [], 0, []⟩) (fun i => l.length - i) (0) [] ?_ ?_ ?_
 ·simp
 ·constructor <;> (try simp (disch := omega) only [go_sem, simprocAttr, zD, zE, Int.natCast_zero, List.take_of_length_le, List.append_assoc])
 ·rintro i hi
  obtain ⟨hi, hinvi⟩ := hi
  ((try refine zW ?_); (try with_reducible exact True.intro))
  by_cases li : i < l.length
  ·rw [drop_cons li, indexL] at hinvi
   by_cases e : a = l[i]
   ·rw [if_pos e] at hinvi
    (try simp (disch := omega) only [go_sem, simprocAttr, zD, zE, eI, ← e, ← hinvi])
   ·rw [if_neg e] at hinvi
    have e2 : (l[i] == a) = false := beq_eq_false_iff_ne.2 fun q => e q.symm
    (try simp (disch := omega) only [go_sem, simprocAttr, zD, zE, eI, e2])
    refine ⟨i + 1, [], ⟨by first | assumption | omega, hinvi⟩, ?_, ?_⟩
    ·(try simp only []); omega
    ·constructor <;> (try simp (disch := omega) only [go_sem, simprocAttr, zD, zE, List.append_assoc])
  ·obtain rfl : i = l.length := by omega
   rw [List.drop_length] at hinvi
   (try simp (disch := omega) only [go_sem, simprocAttr, zD, zE, ← hinvi, indexL])
def idxM (q : Int) : Nat → List (Int × Int) → Int
 | _, [] => -1
 | i, x :: r => if x.1 = q then i else idxM q (i + 1) r
theorem idxM_mem {q : Int} : ∀ {l : List (Int × Int)} {i : Nat}, 0 ≤ idxM q i l ↔ ∃ x ∈ l, x.1 = q
 | [], i => by simp [idxM]
 | x :: r, i => by
   unfold idxM
   split
   ·rename_i e; simp [e]
   ·rename_i e; rw [idxM_mem]; simp [e]
theorem R5Place_spec (l : List (Int × Int)) (q : Int) : Pure Tryz.prog 43 [lII l, sci .i64 q] (sci .i64 (idxM q 0 l)) := by
 refine pcall0 200 (fn := Tryz.f43) Tryz.func43 rfl (by simp [Tryz.ntmps43]) zB zB fun hs => ?_
 simp only [go_sem, simprocAttr, maxLen] at hs
 ((try refine zO ?_); (try with_reducible exact True.intro))
 refine walk_floop 200 200 (fun i : Nat => i ≤ l.length ∧ idxM q i (l.drop i) = idxM q 0 l)
  (fun i => ⟨20, [(0, lII l), (1, sci .i64 q), (5, sci .i64 i)], [], 0, []⟩) (fun i => l.length - i) (0) [] ?_ ?_ ?_
 ·simp
 ·constructor <;> (try simp (disch := omega) only [go_sem, simprocAttr, zD, zE, Int.natCast_zero, List.take_of_length_le, List.append_assoc])
 ·rintro i hi
  obtain ⟨hi, hinvi⟩ := hi
  ((try refine zW ?_); (try with_reducible exact True.intro))
  by_cases li : i < l.length
  ·rw [drop_cons li, idxM] at hinvi
   by_cases e : l[i].1 = q
   ·rw [if_pos e] at hinvi
    have e2 : (l[i].1 == q) = true := beq_iff_eq.2 e
    (try simp (disch := omega) only [go_sem, simprocAttr, zD, zE, eII, e2, ← hinvi])
   ·rw [if_neg e] at hinvi
    have e2 : (l[i].1 == q) = false := beq_eq_false_iff_ne.2 e
    (try simp (disch := omega) only [go_sem, simprocAttr, zD, zE, eII, e2])
    refine ⟨i + 1, [], ⟨by first | assumption | omega, hinvi⟩, ?_, ?_⟩
    ·(try simp only []); omega
    ·constructor <;> (try simp (disch := omega) only [go_sem, simprocAttr, zD, zE, List.append_assoc])
  ·obtain rfl : i = l.length := by omega
   rw [List.drop_length] at hinvi
   (try simp (disch := omega) only [go_sem, simprocAttr, zD, zE, ← hinvi, idxM])
theorem R6SameR_spec (p : Pc) (h1 : p.inn.length ≤ 1000000) (h2 : p.out.length ≤ 1000000) (h3 : p.sent.length ≤ 1000000) (h4 : ∀ l ∈ p.out, l.length ≤ 1000000) : Pure Tryz.prog 29 [lPc p, lPc p] (scb true) := by
 obtain ⟨node, state, steps, sent, inn, out⟩ := p
 simp only at h1 h2 h3 h4
 refine pcall0 200 (fn := Tryz.f29) Tryz.func29 rfl (by simp [Tryz.ntmps29]) zB zB fun hs => ?_
 have a1 := beq_self_eq_true node
 have a2 := beq_self_eq_true state
 have a3 := beq_self_eq_true steps
 ((try refine zW ?_); (try with_reducible exact True.intro))
 ((try refine zO ?_); (try with_reducible exact True.intro))
 (refine at_call 200 ?_; (refine zW ?_; try with_reducible exact True.intro); refine callA_of (RIntsR_spec sent h3) zB ?_; ((try refine zW ?_); (try with_reducible exact True.intro)))
 ((try refine zO ?_); (try with_reducible exact True.intro))
 refine walk_floop 200 200 (fun i : Nat => i ≤ inn.length)
  (fun i => ⟨90, [(2, .ptr 0 0 0 0), (3, .ptr 1 0 0 0), (5, sci .i64 i)], [], 2, [(1, .arr 6 0 [[sci .i64 node, sci .i64 state, sci .i64 steps, lI sent, lMs inn, lLs out]]), (0, .arr 6 0 [[sci .i64 node, sci .i64 state, sci .i64 steps, lI sent, lMs inn, lLs out]])]⟩) (fun i => inn.length - i) (0) [] ?_ ?_ ?_
 ·simp
 ·constructor <;> (try simp (maxSteps := 2000000) (disch := omega) only [go_sem, simprocAttr, zD, zE, Int.natCast_zero, List.take_of_length_le, List.append_assoc])
 ·rintro i hi
  ((try refine zW ?_); (try with_reducible exact True.intro))
  by_cases li : i < inn.length
  ·(try simp (maxSteps := 2000000) (disch := omega) only [go_sem, simprocAttr, zD, zE, eMs])
   (refine walk_trim [2, 3, 5] trivial zL ?_; (refine zW ?_; try with_reducible exact True.intro); refine irun_walk (id := 6) (n := 200) [none, none, none, none, none, none, none, none, none, none, some [], none] mixed (by kernel_rfl) ?_)
   (try simp (maxSteps := 2000000) (disch := omega) only [go_sem, simprocAttr, zD, zE, eMs])
   (refine at_dcall ?_; (refine zW ?_; try with_reducible exact True.intro); refine callA_of (Msgs_spec inn[i] inn[i]) zB ?_; ((try refine zW ?_); (try with_reducible exact True.intro)))
   have e := beq_self_eq_true inn[i]
   (try simp (maxSteps := 2000000) (disch := omega) only [go_sem, simprocAttr, zD, zE, e])
   refine ⟨i + 1, [], li, by omega, ?_⟩
   constructor <;> ((try refine zO ?_); (try with_reducible exact True.intro))
  ·obtain rfl : i = inn.length := by omega
   ((try refine zO ?_); (try with_reducible exact True.intro))
   (refine walk_trim [2, 3, 6] trivial zL ?_; ((try refine zW ?_); (try with_reducible exact True.intro)))
   refine walk_floop 200 200 (fun j : Nat => j ≤ out.length)
    (fun j => ⟨90, [(2, .ptr 0 0 0 0), (3, .ptr 1 0 0 0), (6, sci .i64 j)], [], 2, [(1, .arr 6 0 [[sci .i64 node, sci .i64 state, sci .i64 steps, lI sent, lMs inn, lLs out]]), (0, .arr 6 0 [[sci .i64 node, sci .i64 state, sci .i64 steps, lI sent, lMs inn, lLs out]])]⟩) (fun j => out.length - j) (0) [] ?_ ?_ ?_
   ·simp
   ·constructor <;> (try simp (maxSteps := 2000000) (disch := omega) only [go_sem, simprocAttr, zD, zE, Int.natCast_zero, List.take_of_length_le, List.append_assoc])
   ·rintro j hj
    ((try refine zW ?_); (try with_reducible exact True.intro))
    by_cases lj : j < out.length
    ·(try simp (maxSteps := 2000000) (disch := omega) only [go_sem, simprocAttr, zD, zE, eLs])
     (refine walk_trim [2, 3, 6] trivial zL ?_; (refine zW ?_; try with_reducible exact True.intro); refine irun_walk (id := 11) (n := 200) [none, none, none, none, none, none, none, none, none, none, some [], none] mixed (by kernel_rfl) ?_)
     (try simp (maxSteps := 2000000) (disch := omega) only [go_sem, simprocAttr, zD, zE, eLs])
     (refine at_dcall ?_; (refine zW ?_; try with_reducible exact True.intro); refine callA_of (RIntsR_spec out[j] (h4 _ (List.getElem_mem lj))) zB ?_; ((try refine zW ?_); (try with_reducible exact True.intro)))
     ((try refine zO ?_); (try with_reducible exact True.intro))
     refine ⟨j + 1, [], lj, by omega, ?_⟩
     constructor <;> ((try refine zO ?_); (try with_reducible exact True.intro))
    ·obtain rfl : j = out.length := by omega
     ((try refine zO ?_); (try with_reducible exact True.intro))
theorem R9SameR_spec (h : Hs) (hg : gHs h) : Pure Tryz.prog 17 [lHs h, lHs h] (scb true) := by
 obtain ⟨node, state, steps, inn, out⟩ := h
 obtain ⟨b2, b3, b4, b5⟩ := hg
 simp only at b2 b3 b4 b5
 refine pcall0 200 (fn := Tryz.f17) Tryz.func17 rfl (by simp [Tryz.ntmps17]) zB zB fun hs => ?_
 have a1 := beq_self_eq_true node
 have a2 := beq_self_eq_true state
 have a3 := beq_self_eq_true steps
 (try simp (maxSteps := 2000000) (disch := omega) only [go_sem, simprocAttr, zD, zE, a1, a2, a3])
 (refine at_call 200 ?_; (refine zW ?_; try with_reducible exact True.intro); refine callA_of (R6SameR_spec ⟨0, 0, 0, [], inn, out⟩ b2 b3 (by simp) b5) zB ?_; ((try refine zW ?_); (try with_reducible exact True.intro)))
 ((try refine zO ?_); (try with_reducible exact True.intro))
theorem R4At_spec (T : List Nd) (n k : Nat) (x : Nd) (s : St) (hx : T[n]? = some x) (hq : x.states[k]? = some s) :
  Pure Tryz.prog 65 [.p (.imm 2 (pr eNd T)), sci .i64 n, sci .i64 k] (lSt s) := by
 obtain ⟨ln, ex⟩ := List.getElem?_eq_some_iff.1 hx
 obtain ⟨st, ss⟩ := x
 obtain ⟨lk, es⟩ := List.getElem?_eq_some_iff.1 hq
 simp only at lk es
 refine pcall0 200 (fn := Tryz.f65) Tryz.func65 rfl (by simp [Tryz.ntmps65]) zB zB fun hs => ?_
 simp (maxSteps := 2000000) only [go_sem, simprocAttr, maxLen] at hs
 ((try refine zW ?_); (try with_reducible exact True.intro))
 (try simp (maxSteps := 2000000) (disch := omega) only [go_sem, simprocAttr, zD, zE, eNd, ex, eSt, es])
theorem R4Picked_spec (T : List Nd) (n k : Nat) (x : Nd) (s : St) (hx : T[n]? = some x) (hq : x.states[k]? = some s) (i : Int) :
  Pure Tryz.prog 66 [.p (.imm 2 (pr eNd T)), sci .i64 n, sci .i64 k, sci .i64 i]
   (if i < 0 then .tup [.agg [sci .i64 0, lII []], scb false] else match s.picks[i.toNat]? with | some p => .tup [.agg [sci .i64 p.1, lII p.2], scb true] | none => .tup [.agg [sci .i64 0, lII []], scb false]) := by
 by_cases h1 : i < 0
 ·rw [if_pos h1]
  refine pcall0 200 (fn := Tryz.f66) Tryz.func66 rfl (by simp [Tryz.ntmps66]) zB zB fun hs => ?_
  ((try refine zW ?_); (try with_reducible exact True.intro))
  (refine at_call 200 ?_; (refine zW ?_; try with_reducible exact True.intro); refine callA_of (R4At_spec T n k x s hx hq) zB ?_; ((try refine zW ?_); (try with_reducible exact True.intro)))
  (try simp (maxSteps := 2000000) (disch := omega) only [go_sem, simprocAttr, zD, zE, h1])
 rw [if_neg h1]
 obtain ⟨j, rfl⟩ := Int.eq_ofNat_of_zero_le (show 0 ≤ i by omega)
 rw [Int.toNat_natCast]
 by_cases h2 : j < s.picks.length
 ·rw [List.getElem?_eq_getElem h2]
  generalize hpe : s.picks[j] = p at *
  obtain ⟨nx, sn⟩ := p
  simp only
  refine pcall0 200 (fn := Tryz.f66) Tryz.func66 rfl (by simp [Tryz.ntmps66]) zB zB fun hs => ?_
  ((try refine zW ?_); (try with_reducible exact True.intro))
  (refine at_call 200 ?_; (refine zW ?_; try with_reducible exact True.intro); refine callA_of (R4At_spec T n k x s hx hq) zB ?_; ((try refine zW ?_); (try with_reducible exact True.intro)))
  (try simp (maxSteps := 2000000) (disch := omega) only [go_sem, simprocAttr, zD, zE, ePk, hpe])
 ·rw [List.getElem?_eq_none (by omega)]
  simp only
  refine pcall0 200 (fn := Tryz.f66) Tryz.func66 rfl (by simp [Tryz.ntmps66]) zB zB fun hs => ?_
  ((try refine zW ?_); (try with_reducible exact True.intro))
  (refine at_call 200 ?_; (refine zW ?_; try with_reducible exact True.intro); refine callA_of (R4At_spec T n k x s hx hq) zB ?_; ((try refine zW ?_); (try with_reducible exact True.intro)))
  ((try refine zO ?_); (try with_reducible exact True.intro))
theorem R4Taken_spec (T : List Nd) (n k : Nat) (x : Nd) (s : St) (hx : T[n]? = some x) (hq : x.states[k]? = some s) (f a : Int) (hk : s.takes.length ≤ 1000000) :
  Pure Tryz.prog 75 [.p (.imm 2 (pr eNd T)), sci .i64 n, sci .i64 k, sci .i64 f, sci .i64 a] (sci .i64 (takenL f a k s.takes)) := by
 refine pcall0 200 (fn := Tryz.f75) Tryz.func75 rfl (by simp [Tryz.ntmps75]) zB zB fun hs => ?_
 ((try refine zW ?_); (try with_reducible exact True.intro))
 (refine at_call 200 ?_; (refine zW ?_; try with_reducible exact True.intro); refine callA_of (R4At_spec T n k x s hx hq) zB ?_; ((try refine zW ?_); (try with_reducible exact True.intro)))
 ((try refine zO ?_); (try with_reducible exact True.intro))
 (refine walk_trim [2, 3, 4, 11, 12] trivial zL ?_; ((try refine zW ?_); (try with_reducible exact True.intro)))
 refine walk_floop 200 200 (fun i : Nat => i ≤ s.takes.length ∧ takenL f a k (s.takes.drop i) = takenL f a k s.takes)
  (fun i => ⟨46, [(2, sci .i64 k), (3, sci .i64 f), (4, sci .i64 a), (11, .p (.imm 3 (pr eIII s.takes))), (12, sci .i64 i)], [], 0, []⟩) (fun i => s.takes.length - i) (0) [] ?_ ?_ ?_
 ·simp
 ·constructor <;> (try simp (disch := omega) only [go_sem, simprocAttr, zD, zE, Int.natCast_zero, List.take_of_length_le, List.append_assoc])
 ·rintro i hi
  obtain ⟨hi, hinvi⟩ := hi
  ((try refine zW ?_); (try with_reducible exact True.intro))
  by_cases li : i < s.takes.length
  ·rw [drop_cons li, takenL] at hinvi
   (try simp (disch := omega) only [go_sem, simprocAttr, zD, zE, eIII])
   obtain ⟨t1, t2, t3, ht⟩ : ∃ t1 t2 t3, s.takes[i] = (t1, t2, t3) := ⟨_, _, _, rfl⟩
   simp only [ht] at hinvi
   by_cases h1 : t1 = f
   ·by_cases h2 : t2 = a
    ·rw [if_pos ⟨h1, h2⟩] at hinvi
     (try simp (disch := omega) only [go_sem, simprocAttr, zD, zE, eIII, ht, h1, h2, ← hinvi])
    ·rw [if_neg fun q => h2 q.2] at hinvi
     (try simp (disch := omega) only [go_sem, simprocAttr, zD, zE, eIII, ht, h1, h2])
     refine ⟨i + 1, [], ⟨li, hinvi⟩, by omega, ?_⟩
     constructor <;> ((try refine zO ?_); (try with_reducible exact True.intro))
   ·rw [if_neg fun q => h1 q.1] at hinvi
    (try simp (disch := omega) only [go_sem, simprocAttr, zD, zE, eIII, ht, h1])
    refine ⟨i + 1, [], ⟨li, hinvi⟩, by omega, ?_⟩
    constructor <;> ((try refine zO ?_); (try with_reducible exact True.intro))
  ·obtain rfl : i = s.takes.length := by omega
   rw [List.drop_length, takenL] at hinvi
   (try simp (disch := omega) only [go_sem, simprocAttr, zD, zE, ← hinvi])
theorem R9Got_spec (s : Sc) (h : Hs) (x : Int) (hl : s.ls.length ≤ 1000000) (hi : h.inn.length = (ins h.node 0 s.ls).length) : Pure Tryz.prog 26 [lApp s, lHs h, sci .i64 x]
  (sci .i64 (lenAt h.inn (indexL x 0 (ins h.node 0 s.ls)))) := by
 obtain ⟨N, ls, T, ff, room, acts⟩ := s
 obtain ⟨node, state, steps, inn, out⟩ := h
 simp only at hl hi
 refine pcall0 200 (fn := Tryz.f26) Tryz.func26 rfl (by simp [Tryz.ntmps26]) zB zB fun hs => ?_
 ((try refine zW ?_); (try with_reducible exact True.intro))
 (refine at_call 200 ?_; (refine zW ?_; try with_reducible exact True.intro); refine callA_of (R3In_spec N node ls hl) zB ?_; ((try refine zW ?_); (try with_reducible exact True.intro)))
 ((try refine zW ?_); (try with_reducible exact True.intro))
 (refine at_call 200 ?_; (refine zW ?_; try with_reducible exact True.intro); refine callA_of (R9Place_spec _ _) zB ?_; ((try refine zW ?_); (try with_reducible exact True.intro)))
 rcases indexL_at x (ins node 0 ls) with e | ⟨j, e, hj, -⟩
 ·have ez := lenAt_neg inn
  (try simp (maxSteps := 2000000) (disch := omega) only [go_sem, simprocAttr, zD, zE, e, ez])
 ·have lj : j < inn.length := by omega
  have ez := lenAt_pos lj
  (try simp (maxSteps := 2000000) (disch := omega) only [go_sem, simprocAttr, zD, zE, e, ez, eMs])
theorem R9Gave_spec (s : Sc) (h : Hs) (x : Int) (hl : s.ls.length ≤ 1000000) (hi : h.out.length = (outs h.node 0 s.ls).length) : Pure Tryz.prog 28 [lApp s, lHs h, sci .i64 x]
  (sci .i64 (lenAt h.out (indexL x 0 (outs h.node 0 s.ls)))) := by
 obtain ⟨N, ls, T, ff, room, acts⟩ := s
 obtain ⟨node, state, steps, inn, out⟩ := h
 simp only at hl hi
 refine pcall0 200 (fn := Tryz.f28) Tryz.func28 rfl (by simp [Tryz.ntmps28]) zB zB fun hs => ?_
 ((try refine zW ?_); (try with_reducible exact True.intro))
 (refine at_call 200 ?_; (refine zW ?_; try with_reducible exact True.intro); refine callA_of (R3Out_spec N node ls hl) zB ?_; ((try refine zW ?_); (try with_reducible exact True.intro)))
 ((try refine zW ?_); (try with_reducible exact True.intro))
 (refine at_call 200 ?_; (refine zW ?_; try with_reducible exact True.intro); refine callA_of (R9Place_spec _ _) zB ?_; ((try refine zW ?_); (try with_reducible exact True.intro)))
 rcases indexL_at x (outs node 0 ls) with e | ⟨j, e, hj, -⟩
 ·have ez := lenAt_neg out
  (try simp (maxSteps := 2000000) (disch := omega) only [go_sem, simprocAttr, zD, zE, e, ez])
 ·have lj : j < out.length := by omega
  have ez := lenAt_pos lj
  (try simp (maxSteps := 2000000) (disch := omega) only [go_sem, simprocAttr, zD, zE, e, ez, eLs])
end Go.Proofs.HO
/- The document's host with lists of its own. -/
namespace Go.Proofs.HO
open Go Go.Idl Go.Proofs Go.GP
set_option maxHeartbeats 20000000
set_option maxRecDepth 100000
theorem R9own_spec (h : Hs) (hg : gHs h) : Pure Tryz.prog 67 [lHs h] (lHs h) := by
 obtain ⟨node, state, steps, inn, out⟩ := h
 obtain ⟨b2, b3, b4, b5⟩ := hg
 simp only at b2 b3 b4 b5
 refine pcall0 200 (fn := Tryz.f67) Tryz.func67 rfl (by simp [Tryz.ntmps67]) zB zB fun hs => ?_
 ((try refine zW ?_); (try with_reducible exact True.intro))
 refine walk_ownB 2 0 3 1 trivial rfl rfl rfl (.inr rfl) ?_
 simp only [List.set_cons_zero, List.set_cons_succ, Nat.reduceAdd]
 (refine walk_trim [1, 2, 3, 4, 43] trivial zL ?_; ((try refine zW ?_); (try with_reducible exact True.intro)))
 refine walk_floop 200 200 (fun i : Nat => i ≤ inn.length)
  (fun i => ⟨52, [(1, .ptr 0 0 0 0), (2, .ptr 1 0 0 0), (3, .ptr 2 0 0 0), (4, sci .i64 i)], [], 4, [(3, .arr 1 i (ir eMs (inn.take i))), (2, .arr 5 0 [[sci .i64 node, sci .i64 state, sci .i64 steps, .ref 3 i 0 i, .p (.sc (.slice none 0 0))]]), (1, .arr 5 0 [[sci .i64 0, sci .i64 0, sci .i64 0, .p (.sc (.slice none 0 0)), .p (.sc (.slice none 0 0))]]), (0, .arr 5 0 [[sci .i64 node, sci .i64 state, sci .i64 steps, lMs inn, lLs out]])]⟩) (fun i => inn.length - i) (0) [] ?_ ?_ ?_
 ·simp
 ·constructor <;> (try simp (maxSteps := 2000000) (disch := omega) only [go_sem, simprocAttr, zD, zE, Int.natCast_zero, List.take_of_length_le, List.append_assoc, List.take_zero])
 ·rintro i hi
  ((try refine zW ?_); (try with_reducible exact True.intro))
  by_cases li : i < inn.length
  ·have hlt : (inn.take i).length = i := by rw [List.length_take]; omega
   have hl2 : (inn.take i).take i = inn.take i := by rw [List.take_take, Nat.min_self]
   have hS : inn.take (i + 1) = inn.take i ++ [inn[i]] := List.take_succ_eq_append_getElem li
   have hrl := b4 _ (List.getElem_mem li)
   (try simp (maxSteps := 2000000) (disch := omega) only [go_sem, simprocAttr, zD, zE, eMs])
   (refine walk_trim [1, 2, 3, 4, 43] trivial zL ?_; (refine zW ?_; try with_reducible exact True.intro); refine irun_walk (id := 5) (n := 200) [none, none, some [0, 1, 3, 4, 5, 6, 7], none, none, none, none, none, some [0, 1], some [0, 1], some [], none, some []] mixed (by kernel_rfl) ?_)
   (try simp (maxSteps := 2000000) (disch := omega) only [go_sem, simprocAttr, zD, zE, eMs, hlt, hl2])
   refine ⟨i + 1, [4], by first | assumption | omega, ?_, ?_⟩
   ·(try simp only []); omega
   ·constructor <;> (try simp (maxSteps := 2000000) (disch := omega) only [go_sem, simprocAttr, zD, zE, ir_snoc, hS, hlt, hl2, eMs, List.map_cons, List.map_nil, List.append_assoc])
  ·obtain rfl : i = inn.length := by omega
   (try simp (maxSteps := 2000000) (disch := omega) only [go_sem, simprocAttr, zD, zE, List.take_length])
   refine walk_ownB 2 0 4 1 trivial rfl rfl rfl (.inr rfl) ?_
   simp only [List.set_cons_zero, List.set_cons_succ, Nat.reduceAdd]
   (refine walk_trim [1, 2, 3, 5, 43] trivial zL ?_; ((try refine zW ?_); (try with_reducible exact True.intro)))
   refine walk_floop 200 200 (fun j : Nat => j ≤ out.length)
    (fun j => ⟨52, [(1, .ptr 0 0 0 0), (2, .ptr 1 0 0 0), (3, .ptr 2 0 0 0), (5, sci .i64 j)], [], 5, [(4, .arr 1 j (ir eLs (out.take j))), (2, .arr 5 0 [[sci .i64 node, sci .i64 state, sci .i64 steps, lMs inn, .ref 4 j 0 j]]), (1, .arr 5 0 [[sci .i64 0, sci .i64 0, sci .i64 0, .p (.sc (.slice none 0 0)), .p (.sc (.slice none 0 0))]]), (0, .arr 5 0 [[sci .i64 node, sci .i64 state, sci .i64 steps, lMs inn, lLs out]])]⟩) (fun j => out.length - j) (0) [3] ?_ ?_ ?_
   ·simp
   ·constructor <;> (try simp (maxSteps := 2000000) (disch := omega) only [go_sem, simprocAttr, zD, zE, Int.natCast_zero, List.take_of_length_le, List.append_assoc, List.take_zero])
   ·rintro j hj
    ((try refine zW ?_); (try with_reducible exact True.intro))
    by_cases lj : j < out.length
    ·have hlt : (out.take j).length = j := by rw [List.length_take]; omega
     have hl2 : (out.take j).take j = out.take j := by rw [List.take_take, Nat.min_self]
     have hS : out.take (j + 1) = out.take j ++ [out[j]] := List.take_succ_eq_append_getElem lj
     have hrl := b5 _ (List.getElem_mem lj)
     (try simp (maxSteps := 2000000) (disch := omega) only [go_sem, simprocAttr, zD, zE, eLs])
     (refine walk_trim [1, 2, 3, 5] trivial zL ?_; (refine zW ?_; try with_reducible exact True.intro); refine irun_walk (id := 9) (n := 200) [none, none, some [0, 1, 3, 4, 5, 6, 7], none, none, none, none, none, some [0, 1], some [0, 1], some [], none, some []] mixed (by kernel_rfl) ?_)
     (try simp (maxSteps := 2000000) (disch := omega) only [go_sem, simprocAttr, zD, zE, eLs, hlt, hl2])
     refine ⟨j + 1, [5], by first | assumption | omega, ?_, ?_⟩
     ·(try simp only []); omega
     ·constructor <;> (try simp (maxSteps := 2000000) (disch := omega) only [go_sem, simprocAttr, zD, zE, ir_snoc, hS, hlt, hl2, eLs, List.map_cons, List.map_nil, List.append_assoc])
    ·obtain rfl : j = out.length := by omega
     (try simp (maxSteps := 2000000) (disch := omega) only [go_sem, simprocAttr, zD, zE, List.take_length])
theorem R9ownI_blk (h : Hs) (hg : gHs h) : PG Tryz.prog 67 [lHs h] [] 1
  (.agg [sci .i64 h.node, sci .i64 h.state, sci .i64 h.steps, .ref 0 h.inn.length 0 h.inn.length, lLs h.out]) [(0, .arr 1 h.inn.length (ir eMs h.inn))] := by
 obtain ⟨node, state, steps, inn, out⟩ := h
 obtain ⟨b2, b3, b4, b5⟩ := hg
 simp only at b2 b3 b4 b5
 simp only
 refine pg_of 200 (fn := Tryz.f67) Tryz.func67 rfl (by simp [Tryz.ntmps67]) 0 rfl zC zC zC zC zC fun hs => ?_
 ((try refine zW ?_); (try with_reducible exact True.intro))
 refine walk_ownB 2 0 3 1 trivial rfl rfl rfl (.inr rfl) ?_
 simp only [List.set_cons_zero, List.set_cons_succ, Nat.reduceAdd]
 (refine walk_trim [1, 2, 3, 4, 43] trivial zL ?_; ((try refine zW ?_); (try with_reducible exact True.intro)))
 refine walk_floop 200 200 (fun i : Nat => i ≤ inn.length)
  (fun i => ⟨52, [(1, .ptr 0 0 0 0), (2, .ptr 1 0 0 0), (3, .ptr 2 0 0 0), (4, sci .i64 i)], [], 4, [(3, .arr 1 i (ir eMs (inn.take i))), (2, .arr 5 0 [[sci .i64 node, sci .i64 state, sci .i64 steps, .ref 3 i 0 i, .p (.sc (.slice none 0 0))]]), (1, .arr 5 0 [[sci .i64 0, sci .i64 0, sci .i64 0, .p (.sc (.slice none 0 0)), .p (.sc (.slice none 0 0))]]), (0, .arr 5 0 [[sci .i64 node, sci .i64 state, sci .i64 steps, lMs inn, lLs out]])]⟩) (fun i => inn.length - i) (0) [] ?_ ?_ ?_
 ·simp
 ·constructor <;> (try simp (maxSteps := 2000000) (disch := omega) only [go_sem, simprocAttr, zD, zE, Int.natCast_zero, List.take_of_length_le, List.append_assoc, List.take_zero])
 ·rintro i hi
  ((try refine zW ?_); (try with_reducible exact True.intro))
  by_cases li : i < inn.length
  ·have hlt : (inn.take i).length = i := by rw [List.length_take]; omega
   have hl2 : (inn.take i).take i = inn.take i := by rw [List.take_take, Nat.min_self]
   have hS : inn.take (i + 1) = inn.take i ++ [inn[i]] := List.take_succ_eq_append_getElem li
   have hrl := b4 _ (List.getElem_mem li)
   (try simp (maxSteps := 2000000) (disch := omega) only [go_sem, simprocAttr, zD, zE, eMs])
   (refine walk_trim [1, 2, 3, 4, 43] trivial zL ?_; (refine zW ?_; try with_reducible exact True.intro); refine irun_walk (id := 5) (n := 200) [none, none, some [0, 1, 3, 4, 5, 6, 7], none, none, none, none, none, some [0, 1], some [0, 1], some [], none, some []] mixed (by kernel_rfl) ?_)
   (try simp (maxSteps := 2000000) (disch := omega) only [go_sem, simprocAttr, zD, zE, eMs, hlt, hl2])
   refine ⟨i + 1, [4], by first | assumption | omega, ?_, ?_⟩
   ·(try simp only []); omega
   ·constructor <;> (try simp (maxSteps := 2000000) (disch := omega) only [go_sem, simprocAttr, zD, zE, ir_snoc, hS, hlt, hl2, eMs, List.map_cons, List.map_nil, List.append_assoc])
  ·obtain rfl : i = inn.length := by omega
   (try simp (maxSteps := 2000000) (disch := omega) only [go_sem, simprocAttr, zD, zE, List.take_length])
   refine walk_ownB 2 0 4 1 trivial rfl rfl rfl (.inr rfl) ?_
   simp only [List.set_cons_zero, List.set_cons_succ, Nat.reduceAdd]
   (refine walk_trim [1, 2, 3, 5, 43] trivial zL ?_; ((try refine zW ?_); (try with_reducible exact True.intro)))
   refine walk_floop 200 200 (fun j : Nat => j ≤ out.length)
    (fun j => ⟨52, [(1, .ptr 0 0 0 0), (2, .ptr 1 0 0 0), (3, .ptr 2 0 0 0), (5, sci .i64 j)], [], 5, [(4, .arr 1 j (ir eLs (out.take j))), (3, .arr 1 inn.length (ir eMs inn)), (2, .arr 5 0 [[sci .i64 node, sci .i64 state, sci .i64 steps, .ref 3 inn.length 0 inn.length, .ref 4 j 0 j]]), (1, .arr 5 0 [[sci .i64 0, sci .i64 0, sci .i64 0, .p (.sc (.slice none 0 0)), .p (.sc (.slice none 0 0))]]), (0, .arr 5 0 [[sci .i64 node, sci .i64 state, sci .i64 steps, lMs inn, lLs out]])]⟩) (fun j => out.length - j) (0) [] ?_ ?_ ?_
   ·simp
   ·constructor <;> (try simp (maxSteps := 2000000) (disch := omega) only [go_sem, simprocAttr, zD, zE, Int.natCast_zero, List.take_of_length_le, List.append_assoc, List.take_zero])
   ·rintro j hj
    ((try refine zW ?_); (try with_reducible exact True.intro))
    by_cases lj : j < out.length
    ·have hlt : (out.take j).length = j := by rw [List.length_take]; omega
     have hl2 : (out.take j).take j = out.take j := by rw [List.take_take, Nat.min_self]
     have hS : out.take (j + 1) = out.take j ++ [out[j]] := List.take_succ_eq_append_getElem lj
     have hrl := b5 _ (List.getElem_mem lj)
     (try simp (maxSteps := 2000000) (disch := omega) only [go_sem, simprocAttr, zD, zE, eLs])
     (refine walk_trim [1, 2, 3, 5] trivial zL ?_; (refine zW ?_; try with_reducible exact True.intro); refine irun_walk (id := 9) (n := 200) [none, none, some [0, 1, 3, 4, 5, 6, 7], none, none, none, none, none, some [0, 1], some [0, 1], some [], none, some []] mixed (by kernel_rfl) ?_)
     (try simp (maxSteps := 2000000) (disch := omega) only [go_sem, simprocAttr, zD, zE, eLs, hlt, hl2])
     refine ⟨j + 1, [5], by first | assumption | omega, ?_, ?_⟩
     ·(try simp only []); omega
     ·constructor <;> (try simp (maxSteps := 2000000) (disch := omega) only [go_sem, simprocAttr, zD, zE, ir_snoc, hS, hlt, hl2, eLs, List.map_cons, List.map_nil, List.append_assoc])
    ·obtain rfl : j = out.length := by omega
     (try simp (maxSteps := 2000000) (disch := omega) only [go_sem, simprocAttr, zD, zE, List.take_length])
     refine ⟨[3], ⟨rfl, by simp [apartN, apartN.nin]⟩, ⟨rfl, rfl⟩, rfl, rfl, fzRs_refl _⟩
theorem R9ownO_blk (h : Hs) (hg : gHs h) {c : Nat} (hc : c = 1 + h.out.length) : PG Tryz.prog 67 [lHs h] [] c
  (.agg [sci .i64 h.node, sci .i64 h.state, sci .i64 h.steps, lMs h.inn, .ref 0 h.out.length 0 h.out.length])
  ((0, .arr 1 h.out.length (refsR 1 (freshF h.out))) :: enumB 1 (famB 1 eI (freshF h.out))) := by
 obtain ⟨node, state, steps, inn, out⟩ := h
 obtain ⟨b2, b3, b4, b5⟩ := hg
 simp only at b2 b3 b4 b5
 simp only at hc ⊢
 refine pg_of 200 (fn := Tryz.f67) Tryz.func67 rfl (by simp [Tryz.ntmps67]) 0 rfl (by ((try refine zW ?_); (try with_reducible exact True.intro))) (by ((try refine zW ?_); (try with_reducible exact True.intro))) (ownF_low _ hc rfl) (ownF_has _ hc) (by ((try refine zW ?_); (try with_reducible exact True.intro)); omega) fun hs => ?_
 ((try refine zW ?_); (try with_reducible exact True.intro))
 refine walk_ownB 2 0 3 1 trivial rfl rfl rfl (.inr rfl) ?_
 simp only [List.set_cons_zero, List.set_cons_succ, Nat.reduceAdd]
 (refine walk_trim [1, 2, 3, 4, 43] trivial zL ?_; ((try refine zW ?_); (try with_reducible exact True.intro)))
 refine walk_floop 200 200 (fun i : Nat => i ≤ inn.length)
  (fun i => ⟨52, [(1, .ptr 0 0 0 0), (2, .ptr 1 0 0 0), (3, .ptr 2 0 0 0), (4, sci .i64 i)], [], 4, [(3, .arr 1 i (ir eMs (inn.take i))), (2, .arr 5 0 [[sci .i64 node, sci .i64 state, sci .i64 steps, .ref 3 i 0 i, .p (.sc (.slice none 0 0))]]), (1, .arr 5 0 [[sci .i64 0, sci .i64 0, sci .i64 0, .p (.sc (.slice none 0 0)), .p (.sc (.slice none 0 0))]]), (0, .arr 5 0 [[sci .i64 node, sci .i64 state, sci .i64 steps, lMs inn, lLs out]])]⟩) (fun i => inn.length - i) (0) [] ?_ ?_ ?_
 ·simp
 ·constructor <;> (try simp (maxSteps := 2000000) (disch := omega) only [go_sem, simprocAttr, zD, zE, Int.natCast_zero, List.take_of_length_le, List.append_assoc, List.take_zero])
 ·rintro i hi
  ((try refine zW ?_); (try with_reducible exact True.intro))
  by_cases li : i < inn.length
  ·have hlt : (inn.take i).length = i := by rw [List.length_take]; omega
   have hl2 : (inn.take i).take i = inn.take i := by rw [List.take_take, Nat.min_self]
   have hS : inn.take (i + 1) = inn.take i ++ [inn[i]] := List.take_succ_eq_append_getElem li
   have hrl := b4 _ (List.getElem_mem li)
   (try simp (maxSteps := 2000000) (disch := omega) only [go_sem, simprocAttr, zD, zE, eMs])
   (refine walk_trim [1, 2, 3, 4, 43] trivial zL ?_; (refine zW ?_; try with_reducible exact True.intro); refine irun_walk (id := 5) (n := 200) [none, none, some [0, 1, 3, 4, 5, 6, 7], none, none, none, none, none, some [0, 1], some [0, 1], some [], none, some []] mixed (by kernel_rfl) ?_)
   (try simp (maxSteps := 2000000) (disch := omega) only [go_sem, simprocAttr, zD, zE, eMs, hlt, hl2])
   refine ⟨i + 1, [4], by first | assumption | omega, ?_, ?_⟩
   ·(try simp only []); omega
   ·constructor <;> (try simp (maxSteps := 2000000) (disch := omega) only [go_sem, simprocAttr, zD, zE, ir_snoc, hS, hlt, hl2, eMs, List.map_cons, List.map_nil, List.append_assoc])
  ·obtain rfl : i = inn.length := by omega
   (try simp (maxSteps := 2000000) (disch := omega) only [go_sem, simprocAttr, zD, zE, List.take_length])
   refine walk_ownB 2 0 4 1 trivial rfl rfl rfl (.inr rfl) ?_
   simp only [List.set_cons_zero, List.set_cons_succ, Nat.reduceAdd]
   (refine walk_trim [1, 2, 3, 5, 43] trivial zL ?_; ((try refine zW ?_); (try with_reducible exact True.intro)))
   refine walk_floop 200 200 (fun j : Nat => j ≤ out.length)
    (fun j => ⟨52, [(1, .ptr 0 0 0 0), (2, .ptr 1 0 0 0), (3, .ptr 2 0 0 0), (5, sci .i64 j)], [], 5 + j,
     (4, .arr 1 j (refsR 5 (freshF (out.take j)))) :: (2, .arr 5 0 [[sci .i64 node, sci .i64 state, sci .i64 steps, lMs inn, .ref 4 j 0 j]]) :: (1, .arr 5 0 [[sci .i64 0, sci .i64 0, sci .i64 0, .p (.sc (.slice none 0 0)), .p (.sc (.slice none 0 0))]]) :: (0, .arr 5 0 [[sci .i64 node, sci .i64 state, sci .i64 steps, lMs inn, lLs out]]) :: enumB 5 (famB 1 eI (freshF (out.take j)))⟩) (fun j => out.length - j) 0 [3] ?_ ?_ ?_
   ·simp
   ·constructor <;> (try simp (maxSteps := 2000000) (disch := omega) only [go_sem, simprocAttr, zD, zE, Int.natCast_zero, List.take_zero, freshF, List.map_nil, refsR, famB, enumB])
   ·intro j h1
    have htl : (freshF (out.take j)).length = j := by rw [freshF_len, List.length_take]; omega
    have hrl : (refsR 5 (freshF (out.take j))).length = j := by rw [refsR_len, htl]
    have hrt : (refsR 5 (freshF (out.take j))).take j = refsR 5 (freshF (out.take j)) := List.take_of_length_le (by omega)
    ((try refine zW ?_); (try with_reducible exact True.intro))
    by_cases lj : j < out.length
    ·have hrl2 := b5 _ (List.getElem_mem lj)
     have e2 : freshF (out.take (j + 1)) = freshF (out.take j) ++ [(0, out[j])] := by rw [List.take_succ_eq_append_getElem lj, freshF_snoc]
     have e3 : refsR 5 (freshF (out.take (j + 1))) = refsR 5 (freshF (out.take j)) ++ [[.ref (5 + j) 0 0 out[j].length]] := by rw [e2, refsR_snoc, htl]
     (try simp (maxSteps := 2000000) (disch := omega) only [go_sem, simprocAttr, zD, zE, eLs])
     (refine walk_trim [1, 2, 3, 5] trivial zL ?_; (refine zW ?_; try with_reducible exact True.intro); refine irun_walk (id := 9) (n := 200) [none, none, some [0, 1, 3, 4, 5, 6, 7], none, none, none, none, none, some [0, 1], some [0, 1], some [], none, some []] mixed (by kernel_rfl) ?_)
     (try simp (maxSteps := 2000000) (disch := omega) only [go_sem, simprocAttr, zD, zE, eLs, look_famo, htl, hrl, hrt])
     refine ⟨⟨by omega, by omega⟩, j + 1, [], lj, by omega, ?_⟩
     rw [e3]
     constructor
     case blks =>
      (try simp (maxSteps := 2000000) (disch := omega) only [go_sem, simprocAttr, zD, zE, look_famo, htl])
      have hxl : (freshF (out.take (j + 1))).length = j + 1 := by rw [e2, List.length_append, htl]; rfl
      refine ⟨⟨by omega, rowsBel_refsR (by rw [htl]; omega)⟩, ⟨by omega, by omega⟩, by omega, by omega, fblksIn_famc (.inr (by rw [hxl]; omega)) fun i hi => ?_⟩
      have hx : (freshF (out.take (j + 1)))[i] = (0, out[i]'(by omega)) := by simp [freshF]
      rw [hx]
      have f2 : ¬ 2 = 5 + i := by omega
      have f4 : ¬ 4 = 5 + i := by omega
      have f1 : ¬ 1 = 5 + i := by omega
      have f0 : ¬ 0 = 5 + i := by omega
      by_cases hij : i = j
      ·subst hij
       have f5 : ¬ 5 + (i + 1) = 5 + i := by omega
       (try simp (maxSteps := 2000000) only [go_sem, simprocAttr, f0, f1, f2, f4, f5])
      ·have f5 : ¬ 5 + (j + 1) = 5 + i := by omega
       have f6 : ¬ 5 + j = 5 + i := by omega
       have hk : Idl.look (enumB 5 (famB 1 eI (freshF (out.take j)))) (5 + i) = some (.arr 1 0 (ir eI (out[i]'(by omega)))) := by
        have := look_fam (sz := 1) (e := eI) (k := 5) (r := []) (xs := freshF (out.take j)) (i := i) (by omega)
        rw [List.append_nil] at this
        rw [this]; simp [freshF]
       (try simp (maxSteps := 2000000) only [go_sem, simprocAttr, f0, f1, f2, f4, f5, f6, hk])
     all_goals ((try simp (maxSteps := 2000000) (disch := omega) only [go_sem, simprocAttr, zD, zE, look_famo, htl]); try omega)
    ·obtain rfl : j = out.length := by omega
     (try simp (maxSteps := 2000000) (disch := omega) only [go_sem, simprocAttr, zD, zE, List.take_length])
     refine EndG_shift 4 (.inr rfl) (Nat.zero_le _) (by ((try refine zW ?_); (try with_reducible exact True.intro))) (by ((try refine zW ?_); (try with_reducible exact True.intro)); omega) (ownF_low _ hc rfl) ?_ ?_
     ·(try simp (maxSteps := 2000000) (disch := omega) only [go_sem, simprocAttr, zD, zE, look_famo, freshF_len])
      refine allSeen_famc fun i hi => ?_
      have f2 : ¬ 2 = 5 + i := by omega
      have f4 : ¬ 4 = 5 + i := by omega
      have f1 : ¬ 1 = 5 + i := by omega
      have f0 : ¬ 0 = 5 + i := by omega
      have hk := look_fam (sz := 1) (e := eI) (k := 5) (r := []) hi
      rw [List.append_nil] at hk
      (try simp (maxSteps := 2000000) only [go_sem, simprocAttr, f0, f1, f2, f4, hk])
     ·((try refine zW ?_); (try with_reducible exact True.intro))
end Go.Proofs.HO
