/- Tables: what stays; which states may be; which tables may be. -/
import Derived.Test.YtnbhjoopcaaafaaGreatHV
set_option linter.unusedSimpArgs false
set_option linter.unusedVariables false
namespace Go.Proofs.HO
open Go Go.Idl Go.Proofs Go.GP
set_option maxHeartbeats 20000000
set_option maxRecDepth 100000
variable (s : St) (n st : Int) (ss : List St) (N : Int) (ls : List (Int × Int)) (hl : ls.length ≤ 1000000)
theorem stays_spec (hix : ∀ (j : Nat) (t : Int × Int × Int), s.takes[j]? = some t → StaP ss.length t.2.2) (ht : s.takes.length ≤ 1000000) (hw : s.waits.length ≤ 1000000) :
  Pure Tryz.prog 114 [.agg [sci .i64 s.mode, lI s.waits, .p (.imm 2 (pr ePk s.picks)), .p (.imm 3 (pr eIII s.takes)), sci .i64 n, sci .i64 st, .p (.imm 4 (pr eSt ss)), sci .i64 N, lII ls]] (scb (tB (StaysP ss s))) := by
 refine pcall0 200 (fn := Tryz.f114) Tryz.func114 rfl (by simp [Tryz.ntmps114]) zB zB fun hs => ?_
 ((try refine zW ?_); (try with_reducible exact True.intro))
 (refine walk_trim [1, 10, 11, 12] trivial zL ?_; ((try refine zW ?_); (try with_reducible exact True.intro)))
 refine walk_floop 200 200 (fun i : Nat => i ≤ s.takes.length ∧ ∀ (j : Nat) (t : Int × Int × Int), j < i → s.takes[j]? = some t → KeptP ss s t)
  (fun i => ⟨49, [(1, .ptr 0 0 0 0), (10, .p (.imm 3 (pr eIII s.takes))), (11, sci .i64 s.takes.length), (12, sci .i64 i)], [], 1, [(0, .arr 9 0 [[sci .i64 s.mode, lI s.waits, .p (.imm 2 (pr ePk s.picks)), .p (.imm 3 (pr eIII s.takes)), sci .i64 n, sci .i64 st, .p (.imm 4 (pr eSt ss)), sci .i64 N, lII ls]])]⟩) (fun i => s.takes.length - i) (0) [] ?_ ?_ ?_
 ·simp
 ·constructor <;> (try simp (maxSteps := 2000000) (disch := omega) only [go_sem, simprocAttr, zD, zE, Int.natCast_zero, List.take_of_length_le, List.append_assoc])
 ·rintro i hi
  obtain ⟨hi, hinvi⟩ := hi
  ((try refine zW ?_); (try with_reducible exact True.intro))
  by_cases li : i < s.takes.length
  ·have bad : ¬ KeptP ss s s.takes[i] → tB (StaysP ss s) = false := fun q => tB_neg fun h => q (h i _ (List.getElem?_eq_getElem li))
   have sn := all_snoc li hinvi
   obtain ⟨c0, c1⟩ := hix i _ (List.getElem?_eq_getElem li)
   generalize hp : s.takes[i] = t at *
   obtain ⟨a, b, c⟩ := t
   simp only at c0 c1
   obtain ⟨c, rfl⟩ := Int.eq_ofNat_of_zero_le c0
   have hc : c < ss.length := by omega
   have gc : (pr eSt ss)[c]? = some (eSt ss[c]) := pr_get hc
   have gs : ss[c]? = some ss[c] := List.getElem?_eq_getElem hc
   (try simp (maxSteps := 2000000) (disch := omega) only [go_sem, simprocAttr, zD, zE, eIII, hp])
   (refine walk_trim [1, 4, 10, 11, 12, 18, 19, 20] trivial zL ?_; ((try refine zW ?_); (try with_reducible exact True.intro)))
   refine walk_floop 200 200 (fun k : Nat => k ≤ s.waits.length ∧ ∀ (j : Nat) (w : Int), j < k → s.waits[j]? = some w → w ≠ a → ∀ to, ss[c]? = some to → to.mode = 2 ∧ w ∈ to.waits)
    (fun k => ⟨49, [(1, .ptr 0 0 0 0), (4, .ptr 1 0 0 0), (10, .p (.imm 3 (pr eIII s.takes))), (11, sci .i64 s.takes.length), (12, sci .i64 i), (18, lI s.waits), (19, sci .i64 s.waits.length), (20, sci .i64 k)], [], 2, [(1, .arr 3 0 [[sci .i64 a, sci .i64 b, sci .i64 c]]), (0, .arr 9 0 [[sci .i64 s.mode, lI s.waits, .p (.imm 2 (pr ePk s.picks)), .p (.imm 3 (pr eIII s.takes)), sci .i64 n, sci .i64 st, .p (.imm 4 (pr eSt ss)), sci .i64 N, lII ls]])]⟩) (fun k => s.waits.length - k) (0) [] ?_ ?_ ?_
   ·simp
   ·constructor <;> (try simp (maxSteps := 2000000) (disch := omega) only [go_sem, simprocAttr, zD, zE, Int.natCast_zero, List.take_of_length_le, List.append_assoc])
   ·rintro k hk
    obtain ⟨hk, hinvk⟩ := hk
    ((try refine zW ?_); (try with_reducible exact True.intro))
    by_cases lk : k < s.waits.length
    ·have bad2 : ¬ (s.waits[k] ≠ a → ss[c].mode = 2 ∧ s.waits[k] ∈ ss[c].waits) → tB (StaysP ss s) = false := fun q => bad fun h => q fun h2 => h k _ (List.getElem?_eq_getElem lk) h2 _ (by simp)
     have sn2 := all_snoc lk hinvk
     have kp : (s.waits[k] ≠ a → ss[c].mode = 2 ∧ s.waits[k] ∈ ss[c].waits) → ∀ to, s.waits[k] ≠ a → ss[c]? = some to → to.mode = 2 ∧ s.waits[k] ∈ to.waits := fun q to h2 e => by rw [gs] at e; cases e; exact q h2
     generalize hx : ss[c] = x at *
     obtain ⟨tm, tw, tp, tt⟩ := x
     simp only at bad2 kp
     (try simp (maxSteps := 2000000) (disch := omega) only [go_sem, simprocAttr, zD, zE, eI, gc, eSt])
     by_cases h1 : s.waits[k] = a
     ·(try simp (maxSteps := 2000000) (disch := omega) only [go_sem, simprocAttr, zD, zE, h1])
      refine ⟨k + 1, [], ⟨lk, sn2 fun h2 => absurd h1 h2⟩, by omega, ?_⟩
      constructor <;> ((try refine zO ?_); (try with_reducible exact True.intro))
     ·by_cases h2 : tm = 2
      ·(try simp (maxSteps := 2000000) (disch := omega) only [go_sem, simprocAttr, zD, zE, h1, h2])
       (refine at_call 200 ?_; (refine zW ?_; try with_reducible exact True.intro); refine callA_of (Contains_spec tw s.waits[k]) zB ?_; ((try refine zW ?_); (try with_reducible exact True.intro)))
       by_cases h3 : s.waits[k] ∈ tw
       ·(try simp (maxSteps := 2000000) (disch := omega) only [go_sem, simprocAttr, zD, zE, h3])
        refine ⟨k + 1, [], ⟨lk, sn2 fun q to e => kp (fun _ => ⟨h2, h3⟩) to q e⟩, by omega, ?_⟩
        constructor <;> ((try refine zO ?_); (try with_reducible exact True.intro))
       ·have e := bad2 fun q => h3 (q h1).2
        (try simp (maxSteps := 2000000) (disch := omega) only [go_sem, simprocAttr, zD, zE, h3, e])
      ·have e := bad2 fun q => h2 (q h1).1
       (try simp (maxSteps := 2000000) (disch := omega) only [go_sem, simprocAttr, zD, zE, h1, h2, e])
    ·obtain rfl : k = s.waits.length := by omega
     have hall := all_end hinvk
     ((try refine zO ?_); (try with_reducible exact True.intro))
     refine ⟨i + 1, [], ⟨li, sn hall⟩, by omega, ?_⟩
     constructor <;> ((try refine zO ?_); (try with_reducible exact True.intro))
  ·obtain rfl : i = s.takes.length := by omega
   have e : tB (StaysP ss s) = true := tB_pos (all_end hinvi)
   (try simp (maxSteps := 2000000) (disch := omega) only [go_sem, simprocAttr, zD, zE, e])
def SmallSt (s : St) : Prop := s.waits.length ≤ 1000000 ∧ s.picks.length ≤ 1000000 ∧ s.takes.length ≤ 1000000
include hl in
theorem may_spec (hs : SmallSt s) : Pure Tryz.prog 86 [.agg [sci .i64 s.mode, lI s.waits, .p (.imm 2 (pr ePk s.picks)), .p (.imm 3 (pr eIII s.takes)), sci .i64 n, sci .i64 st, .p (.imm 4 (pr eSt ss)), sci .i64 N, lII ls]] (scb (tB (MayP ls n ss s))) := by
 obtain ⟨hs1, hs2, hs3⟩ := hs
 refine pcall0 200 (fn := Tryz.f86) Tryz.func86 rfl (by simp [Tryz.ntmps86]) zB zB fun hs => ?_
 ((try refine zW ?_); (try with_reducible exact True.intro))
 (refine walk_trim [21, 22, 23] trivial zL ?_; ((try refine zW ?_); (try with_reducible exact True.intro)))
 refine walk_floop 200 200 (fun i : Nat => i ≤ 5 ∧ (1 ≤ i → ModeP s) ∧ (2 ≤ i → WaitsP ls n s) ∧ (3 ≤ i → PicksP ls n ss.length s) ∧ (4 ≤ i → TakesP ls n ss.length s) ∧ (5 ≤ i → StaysP ss s))
  (fun i => ⟨32, [(21, .ref 1 0 0 5), (22, sci .i64 5), (23, sci .i64 i)], [], 2, [(1, .arr 1 0 [[.clo (.func 110) [] [.ptr 0 0 0 0]], [.clo (.func 111) [.agg [sci .i64 s.mode, lI s.waits, .p (.imm 2 (pr ePk s.picks)), .p (.imm 3 (pr eIII s.takes)), sci .i64 n, sci .i64 st, .p (.imm 4 (pr eSt ss)), sci .i64 N, lII ls]] []], [.clo (.func 112) [.agg [sci .i64 s.mode, lI s.waits, .p (.imm 2 (pr ePk s.picks)), .p (.imm 3 (pr eIII s.takes)), sci .i64 n, sci .i64 st, .p (.imm 4 (pr eSt ss)), sci .i64 N, lII ls]] []], [.clo (.func 113) [.agg [sci .i64 s.mode, lI s.waits, .p (.imm 2 (pr ePk s.picks)), .p (.imm 3 (pr eIII s.takes)), sci .i64 n, sci .i64 st, .p (.imm 4 (pr eSt ss)), sci .i64 N, lII ls]] []], [.clo (.func 114) [.agg [sci .i64 s.mode, lI s.waits, .p (.imm 2 (pr ePk s.picks)), .p (.imm 3 (pr eIII s.takes)), sci .i64 n, sci .i64 st, .p (.imm 4 (pr eSt ss)), sci .i64 N, lII ls]] []]]), (0, .arr 9 0 [[sci .i64 s.mode, lI s.waits, .p (.imm 2 (pr ePk s.picks)), .p (.imm 3 (pr eIII s.takes)), sci .i64 n, sci .i64 st, .p (.imm 4 (pr eSt ss)), sci .i64 N, lII ls]])]⟩) (fun i => 5 - i) (0) [] ?_ ?_ ?_
 ·simp
 ·constructor <;> (try simp (maxSteps := 2000000) (disch := omega) only [go_sem, simprocAttr, zD, zE, Int.natCast_zero, List.take_of_length_le, List.append_assoc])
 ·rintro i hi
  obtain ⟨hi, hinvi⟩ := hi
  ((try refine zW ?_); (try with_reducible exact True.intro))
  by_cases li : i < 5
  ·obtain ⟨q1, q2, q3, q4, q5⟩ := hinvi
   obtain rfl | rfl | rfl | rfl | rfl : i = 0 ∨ i = 1 ∨ i = 2 ∨ i = 3 ∨ i = 4 := by omega
   ·((try refine zO ?_); (try with_reducible exact True.intro))
    (refine at_call 200 ?_; (refine zW ?_; try with_reducible exact True.intro); refine callA_view ?_; (refine zW ?_; try with_reducible exact True.intro); refine callV_of (mode_spec s n st ss N ls) (by first | rfl | (split <;> rfl)) ?_; ((try refine zW ?_); (try with_reducible exact True.intro)))
    by_cases h : ModeP s
    ·have e := tB_pos h
     (try simp (maxSteps := 2000000) (disch := omega) only [go_sem, simprocAttr, zD, zE, e])
     refine ⟨1, [], ⟨by omega, fun _ => h, fun q => by omega, fun q => by omega, fun q => by omega, fun q => by omega⟩, by omega, ?_⟩
     constructor <;> ((try refine zO ?_); (try with_reducible exact True.intro))
    ·have e := tB_neg h
     have e2 : tB (MayP ls n ss s) = false := tB_neg fun q => h q.1
     (try simp (maxSteps := 2000000) (disch := omega) only [go_sem, simprocAttr, zD, zE, e, e2])
   ·((try refine zO ?_); (try with_reducible exact True.intro))
    (refine at_call 200 ?_; (refine zW ?_; try with_reducible exact True.intro); refine callA_of (waits_spec s n st ss N ls hl hs1) zB ?_; ((try refine zW ?_); (try with_reducible exact True.intro)))
    by_cases h : WaitsP ls n s
    ·have e := tB_pos h
     (try simp (maxSteps := 2000000) (disch := omega) only [go_sem, simprocAttr, zD, zE, e])
     refine ⟨2, [], ⟨by omega, fun _ => q1 (by omega), fun _ => h, fun q => by omega, fun q => by omega, fun q => by omega⟩, by omega, ?_⟩
     constructor <;> ((try refine zO ?_); (try with_reducible exact True.intro))
    ·have e := tB_neg h
     have e2 : tB (MayP ls n ss s) = false := tB_neg fun q => h q.2.1
     (try simp (maxSteps := 2000000) (disch := omega) only [go_sem, simprocAttr, zD, zE, e, e2])
   ·((try refine zO ?_); (try with_reducible exact True.intro))
    (refine at_call 200 ?_; (refine zW ?_; try with_reducible exact True.intro); refine callA_of (picks_spec s n st ss N ls hl hs2) zB ?_; ((try refine zW ?_); (try with_reducible exact True.intro)))
    by_cases h : PicksP ls n ss.length s
    ·have e := tB_pos h
     (try simp (maxSteps := 2000000) (disch := omega) only [go_sem, simprocAttr, zD, zE, e])
     refine ⟨3, [], ⟨by omega, fun _ => q1 (by omega), fun _ => q2 (by omega), fun _ => h, fun q => by omega, fun q => by omega⟩, by omega, ?_⟩
     constructor <;> ((try refine zO ?_); (try with_reducible exact True.intro))
    ·have e := tB_neg h
     have e2 : tB (MayP ls n ss s) = false := tB_neg fun q => h q.2.2.1
     (try simp (maxSteps := 2000000) (disch := omega) only [go_sem, simprocAttr, zD, zE, e, e2])
   ·((try refine zO ?_); (try with_reducible exact True.intro))
    (refine at_call 200 ?_; (refine zW ?_; try with_reducible exact True.intro); refine callA_of (takes_spec s n st ss N ls hl hs3) zB ?_; ((try refine zW ?_); (try with_reducible exact True.intro)))
    by_cases h : TakesP ls n ss.length s
    ·have e := tB_pos h
     (try simp (maxSteps := 2000000) (disch := omega) only [go_sem, simprocAttr, zD, zE, e])
     refine ⟨4, [], ⟨by omega, fun _ => q1 (by omega), fun _ => q2 (by omega), fun _ => q3 (by omega), fun _ => h, fun q => by omega⟩, by omega, ?_⟩
     constructor <;> ((try refine zO ?_); (try with_reducible exact True.intro))
    ·have e := tB_neg h
     have e2 : tB (MayP ls n ss s) = false := tB_neg fun q => h q.2.2.2.1
     (try simp (maxSteps := 2000000) (disch := omega) only [go_sem, simprocAttr, zD, zE, e, e2])
   ·have hT := q4 (by omega)
    ((try refine zO ?_); (try with_reducible exact True.intro))
    (refine at_call 200 ?_; (refine zW ?_; try with_reducible exact True.intro); refine callA_of (stays_spec s n st ss N ls (fun j t e => (hT j t e).2.2.1) hs3 hs1) zB ?_; ((try refine zW ?_); (try with_reducible exact True.intro)))
    by_cases h : StaysP ss s
    ·have e := tB_pos h
     (try simp (maxSteps := 2000000) (disch := omega) only [go_sem, simprocAttr, zD, zE, e])
     refine ⟨5, [], ⟨by omega, fun _ => q1 (by omega), fun _ => q2 (by omega), fun _ => q3 (by omega), fun _ => hT, fun _ => h⟩, by omega, ?_⟩
     constructor <;> ((try refine zO ?_); (try with_reducible exact True.intro))
    ·have e := tB_neg h
     have e2 : tB (MayP ls n ss s) = false := tB_neg fun q => h q.2.2.2.2
     (try simp (maxSteps := 2000000) (disch := omega) only [go_sem, simprocAttr, zD, zE, e, e2])
  ·obtain rfl : i = 5 := by omega
   obtain ⟨q1, q2, q3, q4, q5⟩ := hinvi
   have e : tB (MayP ls n ss s) = true := tB_pos ⟨q1 (by omega), q2 (by omega), q3 (by omega), q4 (by omega), q5 (by omega)⟩
   (try simp (maxSteps := 2000000) (disch := omega) only [go_sem, simprocAttr, zD, zE, e])
end Go.Proofs.HO
