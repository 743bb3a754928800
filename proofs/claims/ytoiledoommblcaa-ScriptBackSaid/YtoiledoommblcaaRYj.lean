/- So many acts. -/
import Derived.Test.YtoiledoommblcaaRYi
set_option linter.unusedSimpArgs false
set_option linter.unusedVariables false
namespace Go.Proofs.TR
open Go Go.Idl Go.Proofs Go.GP
set_option maxHeartbeats 20000000
set_option maxRecDepth 100000
theorem ac_no (N : Int) (ls : List (Int × Int)) (ns : List Nd) (f : Bool) (r : Nat) (t : ByteArray) (a : Nat) (acc : List (Int × Int × Int)) (ht : t.size ≤ 1000000) (h : p3 (by8 t) a = none) :
    PX Try.prog 30 [.ptr 0 0 0 0, .ptr 1 0 0 0] [.arr 6 0 [[sci .i64 N, lII ls, .p (.imm 2 (pr eNd ns)), scb f, .p (.sc (.float .f64 r)), (.ref 3 acc.length 0 acc.length)]], cP 2, rd t a, .arr 3 acc.length (ir eIII acc)] sch (fun W => ∃ b : Nat, W = [(2, rd t b)]) := by
  
  unfold p3 at h
  cases h1 : nxt (by8 t) a with
  | none =>
    refine px_of 200 (fn := Try.f30) Try.func30 rfl (by simp [Try.ntmps30]) 4 rfl zC zC fun hs => ?_
    (refine walk_trim [0, 1] trivial zL ?_; (refine zW ?_; try with_reducible exact True.intro); refine irun_pan [none, none, none, some [0, 1, 4, 6], none, some [0, 1, 6], none, some [0, 1], none, some [0, 1], some [], none, some []] 3 [0, 0, 3, 2, 0, 1, 0, 1, 1, 1, 1, 1, 1] mixed (by kernel_rfl) (by kernel_rfl) ?_)
    ((try refine zO ?_); (try with_reducible exact True.intro))
    (refine panAt_of ?_; (refine zW ?_; try with_reducible exact True.intro); refine callXG_of [2] (next_no t a ht h1) zU ?_)
    rintro W rfl nx' hnx
    (refine endX_of [(2, rd t a)] ?_ ?_ ?_ ?_ ?_ <;> first | exact ⟨_, rfl⟩ | decide | omega | exact zU)
  | some x1 =>
    simp only [h1] at h
    cases h2 : nxt (by8 t) x1.2 with
    | none =>
      refine px_of 200 (fn := Try.f30) Try.func30 rfl (by simp [Try.ntmps30]) 4 rfl zC zC fun hs => ?_
      (refine walk_trim [0, 1] trivial zL ?_; (refine zW ?_; try with_reducible exact True.intro); refine irun_pan [none, none, none, some [0, 1, 4, 6], none, some [0, 1, 6], none, some [0, 1], none, some [0, 1], some [], none, some []] 5 [0, 0, 3, 3, 3, 2, 0, 1, 1, 1, 1, 1, 1] mixed (by kernel_rfl) (by kernel_rfl) ?_)
      ((try refine zO ?_); (try with_reducible exact True.intro))
      (refine at_dg ?_; (refine zW ?_; try with_reducible exact True.intro); refine callG_of [2] (next_ok t a x1 ht h1) zU ?_; ((try refine zW ?_); (try with_reducible exact True.intro)))
      ((try refine zO ?_); (try with_reducible exact True.intro))
      (refine panAt_of ?_; (refine zW ?_; try with_reducible exact True.intro); refine callXG_of [2] (next_no t x1.2 ht h2) zU ?_)
      rintro W rfl nx' hnx
      (refine endX_of [(2, rd t x1.2)] ?_ ?_ ?_ ?_ ?_ <;> first | exact ⟨_, rfl⟩ | decide | omega | exact zU)
    | some x2 =>
      simp only [h2] at h
      cases h3 : nxt (by8 t) x2.2 with
      | none =>
        refine px_of 200 (fn := Try.f30) Try.func30 rfl (by simp [Try.ntmps30]) 4 rfl zC zC fun hs => ?_
        (refine walk_trim [0, 1] trivial zL ?_; (refine zW ?_; try with_reducible exact True.intro); refine irun_pan [none, none, none, some [0, 1, 4, 6], none, some [0, 1, 6], none, some [0, 1], none, some [0, 1], some [], none, some []] 7 [0, 0, 3, 3, 3, 3, 3, 2, 1, 1, 1, 1, 1] mixed (by kernel_rfl) (by kernel_rfl) ?_)
        ((try refine zO ?_); (try with_reducible exact True.intro))
        (refine at_dg ?_; (refine zW ?_; try with_reducible exact True.intro); refine callG_of [2] (next_ok t a x1 ht h1) zU ?_; ((try refine zW ?_); (try with_reducible exact True.intro)))
        ((try refine zO ?_); (try with_reducible exact True.intro))
        (refine at_dg ?_; (refine zW ?_; try with_reducible exact True.intro); refine callG_of [2] (next_ok t x1.2 x2 ht h2) zU ?_; ((try refine zW ?_); (try with_reducible exact True.intro)))
        ((try refine zO ?_); (try with_reducible exact True.intro))
        (refine panAt_of ?_; (refine zW ?_; try with_reducible exact True.intro); refine callXG_of [2] (next_no t x2.2 ht h3) zU ?_)
        rintro W rfl nx' hnx
        (refine endX_of [(2, rd t x2.2)] ?_ ?_ ?_ ?_ ?_ <;> first | exact ⟨_, rfl⟩ | decide | omega | exact zU)
      | some x3 =>
        simp only [h3] at h
        cases h
theorem ac_ok (N : Int) (ls : List (Int × Int)) (ns : List Nd) (f : Bool) (r : Nat) (t : ByteArray) (a : Nat) (acc : List (Int × Int × Int)) (y : (Int × Int × Int) × Nat) (ht : t.size ≤ 1000000) (hb : acc.length ≤ 1000000) (h : p3 (by8 t) a = some y) :
    PG Try.prog 30 [.ptr 0 0 0 0, .ptr 1 0 0 0] [.arr 6 0 [[sci .i64 N, lII ls, .p (.imm 2 (pr eNd ns)), scb f, .p (.sc (.float .f64 r)), (.ref 3 acc.length 0 acc.length)]], cP 2, rd t a, .arr 3 acc.length (ir eIII acc)] 0 (.tup []) [(0, .arr 6 0 [[sci .i64 N, lII ls, .p (.imm 2 (pr eNd ns)), scb f, .p (.sc (.float .f64 r)), (.ref 3 (acc.length + 1) 0 (acc.length + 1))]]), (2, rd t y.2), (3, .arr 3 (acc.length + 1) (ir eIII (acc ++ [y.1])))] := by
  
  unfold p3 at h
  cases h1 : nxt (by8 t) a with
  | none => simp only [h1, reduceCtorEq] at h
  | some x1 =>
    simp only [h1] at h
    cases h2 : nxt (by8 t) x1.2 with
    | none => simp only [h2, reduceCtorEq] at h
    | some x2 =>
      simp only [h2] at h
      cases h3 : nxt (by8 t) x2.2 with
      | none => simp only [h3, reduceCtorEq] at h
      | some x3 =>
        simp only [h3] at h
        cases h
        refine pg_of 200 (fn := Try.f30) Try.func30 rfl (by simp [Try.ntmps30]) 4 rfl zC zC zC zC zC fun hs => ?_
        (refine walk_trim [0, 1] trivial zL ?_; (refine zW ?_; try with_reducible exact True.intro); refine irun_walk (id := 0) (n := 200) [none, none, none, some [0, 1, 4, 6], none, some [0, 1, 6], none, some [0, 1], none, some [0, 1], some [], none, some []] mixed (by kernel_rfl) ?_)
        ((try refine zO ?_); (try with_reducible exact True.intro))
        have q1 : (acc.length + 1) * 24 ≤ 140737488355328 := by omega
        have q2 : acc.length ≤ 9223372036854775806 := by omega
        (refine at_dg ?_; (refine zW ?_; try with_reducible exact True.intro); refine callG_of [2] (next_ok t a x1 ht h1) zU ?_; ((try refine zW ?_); (try with_reducible exact True.intro)))
        ((try refine zO ?_); (try with_reducible exact True.intro))
        (refine at_dg ?_; (refine zW ?_; try with_reducible exact True.intro); refine callG_of [2] (next_ok t x1.2 x2 ht h2) zU ?_; ((try refine zW ?_); (try with_reducible exact True.intro)))
        ((try refine zO ?_); (try with_reducible exact True.intro))
        (refine at_dg ?_; (refine zW ?_; try with_reducible exact True.intro); refine callG_of [2] (next_ok t x2.2 x3 ht h3) zU ?_; ((try refine zW ?_); (try with_reducible exact True.intro)))
        (try simp (maxSteps := 2000000) (disch := omega) only [go_sem, simprocAttr, if_pos, if_neg, w64, beqT, beqF, bneT, bneF, pr_get, ir_get, decide_eq_true, decide_eq_false, q1, q2])
theorem m9_spec (N : Int) (ls : List (Int × Int)) (ns : List Nd) (f : Bool) (r : Nat) (t : ByteArray) (a : Nat) (ht : t.size ≤ 1000000) :
    PB Try.prog 29 [.ptr 2 0 0 0, .clo (.func 30) [] [.ptr 0 0 0 0, .ptr 1 0 0 0]] [.arr 6 0 [[sci .i64 N, lII ls, .p (.imm 2 (pr eNd ns)), scb f, .p (.sc (.float .f64 r)), (.ref 3 ([] : List (Int × Int × Int)).length 0 ([] : List (Int × Int × Int)).length)]], cP 2, rd t a, .arr 3 ([] : List (Int × Int × Int)).length (ir eIII ([] : List (Int × Int × Int)))] sch (fun W => ∃ (a' : Nat) (acc : List (Int × Int × Int)), W = [(0, .arr 6 0 [[sci .i64 N, lII ls, .p (.imm 2 (pr eNd ns)), scb f, .p (.sc (.float .f64 r)), (.ref 3 acc.length 0 acc.length)]]), (2, rd t a'), (3, .arr 3 acc.length (ir eIII acc))])
      (mOc (pMany p3 (by8 t) a) fun p => .ok 0 (.tup []) [(0, .arr 6 0 [[sci .i64 N, lII ls, .p (.imm 2 (pr eNd ns)), scb f, .p (.sc (.float .f64 r)), (.ref 3 p.1.length 0 p.1.length)]]), (2, rd t p.2), (3, .arr 3 p.1.length (ir eIII p.1))]) := by
  
  cases h : nxt (by8 t) a with
  | none =>
    have e : pMany p3 (by8 t) a = none := by unfold pMany; rw [h]
    rw [e]
    refine pb_of 200 (fn := Try.f29) Try.func29 rfl (by simp [Try.ntmps29]) 4 rfl zC zC zC fun hs => ?_
    ((try refine zW ?_); (try with_reducible exact True.intro))
    (refine at_x ?_; (refine zW ?_; try with_reducible exact True.intro); refine callXG_of [2] (next_no t a ht h) zU ?_)
    rintro W rfl
    (refine endX_of [(0, .arr 6 0 [[sci .i64 N, lII ls, .p (.imm 2 (pr eNd ns)), scb f, .p (.sc (.float .f64 r)), (.ref 3 ([] : List (Int × Int × Int)).length 0 ([] : List (Int × Int × Int)).length)]]), (2, rd t a), (3, .arr 3 ([] : List (Int × Int × Int)).length (ir eIII ([] : List (Int × Int × Int))))] ?_ ?_ ?_ ?_ ?_ <;> first | exact ⟨_, _, rfl⟩ | decide | omega | exact zU)
  | some x =>
    obtain ⟨hx0, hx1, hx2, hx3, hx4⟩ := nxt_ok h
    obtain ⟨v, b⟩ := x
    simp only at hx0 hx1 hx2 hx3 hx4
    obtain ⟨n, rfl⟩ := Int.eq_ofNat_of_zero_le hx1
    have e : pMany p3 (by8 t) a = pRep (p3 (by8 t)) n [] b := by unfold pMany; rw [h]; rfl
    rw [e]
    generalize hres : pRep (p3 (by8 t)) n [] b = res
    refine pb_of 200 (fn := Try.f29) Try.func29 rfl (by simp [Try.ntmps29]) 4 rfl zC zC zC fun hs => ?_
    ((try refine zW ?_); (try with_reducible exact True.intro))
    (refine at_g 200 ?_; (refine zW ?_; try with_reducible exact True.intro); refine callG_of [2] (next_ok t a ((n : Int), b) ht h) zU ?_; ((try refine zW ?_); (try with_reducible exact True.intro)))
    (refine walk_trim [1, 5, 6] trivial zL ?_; ((try refine zW ?_); (try with_reducible exact True.intro)))
    refine walk_loop 200 200 (fun p : Nat × Nat × List (Int × Int × Int) => p.1 ≤ n ∧ p.2.2.length ≤ p.2.1 ∧ p.2.1 ≤ t.size ∧ pRep (p3 (by8 t)) (n - p.1) p.2.2 p.2.1 = res)
      (fun p => ⟨11, [(1, .clo (.func 30) [] [.ptr 0 0 0 0, .ptr 1 0 0 0]), (5, sci .i64 (n : Int)), (6, sci .i64 (p.1 : Int))], [], 4, [(0, .arr 6 0 [[sci .i64 N, lII ls, .p (.imm 2 (pr eNd ns)), scb f, .p (.sc (.float .f64 r)), (.ref 3 p.2.2.length 0 p.2.2.length)]]), (2, rd t p.2.1), (3, .arr 3 p.2.2.length (ir eIII p.2.2))]⟩) (fun p => n - p.1) (0, b, []) ?_ ?_ ?_
    · exact ⟨Nat.zero_le _, by simp, by rw [← by8_len]; exact hx4, hres⟩
    · constructor <;> (try simp (maxSteps := 2000000) (disch := omega) only [go_sem, simprocAttr, if_pos, if_neg, w64, beqT, beqF, bneT, bneF, pr_get, ir_get, decide_eq_true, decide_eq_false, Int.natCast_zero, List.length_nil, ir_nil])
    · rintro ⟨i, c, acc⟩ ⟨i1, i2, i3, i4⟩
      simp only at i1 i2 i3 i4
      ((try refine zW ?_); (try with_reducible exact True.intro))
      by_cases li : i < n
      · have li' : (i : Int) < (n : Int) := by omega
        rw [show n - i = (n - (i + 1)) + 1 by omega, pRep] at i4
        have hb : acc.length ≤ 1000000 := by omega
        (try simp (maxSteps := 2000000) (disch := omega) only [go_sem, simprocAttr, if_pos, if_neg, w64, beqT, beqF, bneT, bneF, pr_get, ir_get, decide_eq_true, decide_eq_false, li'])
        cases hf : p3 (by8 t) c with
        | none =>
          simp only [hf] at i4
          subst i4
          (refine at_x ?_; (refine zW ?_; try with_reducible exact True.intro); refine callXG_of [0, 1, 2, 3] (ac_no N ls ns f r t c acc ht hf) zU ?_)
          rintro W ⟨b', rfl⟩
          (refine endX_of [(0, .arr 6 0 [[sci .i64 N, lII ls, .p (.imm 2 (pr eNd ns)), scb f, .p (.sc (.float .f64 r)), (.ref 3 acc.length 0 acc.length)]]), (2, rd t b'), (3, .arr 3 acc.length (ir eIII acc))] ?_ ?_ ?_ ?_ ?_ <;> first | exact ⟨_, _, rfl⟩ | decide | omega | exact zU)
        | some y =>
          simp only [hf] at i4
          obtain ⟨p1, p2⟩ := p3_goes (by8 t) _ _ hf
          rw [by8_len] at p2
          (refine at_g 200 ?_; (refine zW ?_; try with_reducible exact True.intro); refine callG_of [0, 1, 2, 3] (ac_ok N ls ns f r t c acc y ht hb hf) zU ?_; ((try refine zW ?_); (try with_reducible exact True.intro)))
          refine ⟨(i + 1, y.2, acc ++ [y.1]), ⟨by simp only; omega, by simp only [List.length_append, List.length_cons, List.length_nil]; omega, by simp only; omega, i4⟩, by simp only; omega, ?_⟩
          constructor <;> (try simp (maxSteps := 2000000) (disch := omega) only [go_sem, simprocAttr, if_pos, if_neg, w64, beqT, beqF, bneT, bneF, pr_get, ir_get, decide_eq_true, decide_eq_false, List.length_append, List.length_cons, List.length_nil, Int.natCast_add, Int.natCast_one])
      · obtain rfl : i = n := by omega
        rw [Nat.sub_self, pRep] at i4
        subst i4
        ((try refine zO ?_); (try with_reducible exact True.intro))

end Go.Proofs.TR
