/- So many of a kind. -/
import Derived.Test.YtoiledoommblcaaRYa
set_option linter.unusedSimpArgs false
set_option linter.unusedVariables false
namespace Go.Proofs.TR
open Go Go.Idl Go.Proofs Go.GP
set_option maxHeartbeats 20000000
set_option maxRecDepth 100000
theorem m1_spec (m : Int) (t : ByteArray) (a : Nat) (ht : t.size ≤ 1000000) :
    PB Try.prog 29 [.ptr 2 0 0 0, .clo (.func 74) [] [.ptr 0 0 0 0, .ptr 1 0 0 0]] [sB (sci .i64 m) (.ref 3 ([] : List Int).length 0 ([] : List Int).length) nilS nilS, cP 2, rd t a, .arr 1 ([] : List Int).length (ir eI ([] : List Int))] sch (fun W => ∃ (a' : Nat) (acc : List Int), W = [(0, sB (sci .i64 m) (.ref 3 acc.length 0 acc.length) nilS nilS), (2, rd t a'), (3, .arr 1 acc.length (ir eI acc))])
      (mOc (pMany nxt (by8 t) a) fun p => .ok 0 (.tup []) [(0, sB (sci .i64 m) (.ref 3 p.1.length 0 p.1.length) nilS nilS), (2, rd t p.2), (3, .arr 1 p.1.length (ir eI p.1))]) := by
  
  cases h : nxt (by8 t) a with
  | none =>
    have e : pMany nxt (by8 t) a = none := by unfold pMany; rw [h]
    rw [e]
    refine pb_of 200 (fn := Try.f29) Try.func29 rfl (by simp [Try.ntmps29]) 4 rfl zC zC zC fun hs => ?_
    ((try refine zW ?_); (try with_reducible exact True.intro))
    (refine at_x ?_; (refine zW ?_; try with_reducible exact True.intro); refine callXG_of [2] (next_no t a ht h) zU ?_)
    rintro W rfl
    (refine endX_of [(0, sB (sci .i64 m) (.ref 3 ([] : List Int).length 0 ([] : List Int).length) nilS nilS), (2, rd t a), (3, .arr 1 ([] : List Int).length (ir eI ([] : List Int)))] ?_ ?_ ?_ ?_ ?_ <;> first | exact ⟨_, _, rfl⟩ | decide | omega | exact zU)
  | some x =>
    obtain ⟨hx0, hx1, hx2, hx3, hx4⟩ := nxt_ok h
    obtain ⟨v, b⟩ := x
    simp only at hx0 hx1 hx2 hx3 hx4
    obtain ⟨n, rfl⟩ := Int.eq_ofNat_of_zero_le hx1
    have e : pMany nxt (by8 t) a = pRep (nxt (by8 t)) n [] b := by unfold pMany; rw [h]; rfl
    rw [e]
    generalize hres : pRep (nxt (by8 t)) n [] b = res
    refine pb_of 200 (fn := Try.f29) Try.func29 rfl (by simp [Try.ntmps29]) 4 rfl zC zC zC fun hs => ?_
    ((try refine zW ?_); (try with_reducible exact True.intro))
    (refine at_g 200 ?_; (refine zW ?_; try with_reducible exact True.intro); refine callG_of [2] (next_ok t a ((n : Int), b) ht h) zU ?_; ((try refine zW ?_); (try with_reducible exact True.intro)))
    (refine walk_trim [1, 5, 6] trivial zL ?_; ((try refine zW ?_); (try with_reducible exact True.intro)))
    refine walk_loop 200 200 (fun p : Nat × Nat × List Int => p.1 ≤ n ∧ p.2.2.length ≤ p.2.1 ∧ p.2.1 ≤ t.size ∧ pRep (nxt (by8 t)) (n - p.1) p.2.2 p.2.1 = res)
      (fun p => ⟨11, [(1, .clo (.func 74) [] [.ptr 0 0 0 0, .ptr 1 0 0 0]), (5, sci .i64 (n : Int)), (6, sci .i64 (p.1 : Int))], [], 4, [(0, sB (sci .i64 m) (.ref 3 p.2.2.length 0 p.2.2.length) nilS nilS), (2, rd t p.2.1), (3, .arr 1 p.2.2.length (ir eI p.2.2))]⟩) (fun p => n - p.1) (0, b, []) ?_ ?_ ?_
    · exact ⟨Nat.zero_le _, by simp, by rw [← by8_len]; exact hx4, hres⟩
    · constructor <;> (try simp (maxSteps := 2000000) (disch := omega) only [go_sem, simprocAttr, if_pos, if_neg, w64, beqT, beqF, bneT, bneF, pr_get, ir_get, decide_eq_true, decide_eq_false, Int.natCast_zero, List.length_nil, ir_nil])
    · rintro ⟨i, c, acc⟩ ⟨i1, i2, i3, i4⟩
      simp only at i1 i2 i3 i4
      ((try refine zW ?_); (try with_reducible exact True.intro))
      by_cases li : i < n
      · have li' : (i : Int) < (n : Int) := by omega
        rw [show n - i = (n - (i + 1)) + 1 by omega, pRep] at i4
        have hb : acc.length ≤ 1000000 := by omega
        (try simp (maxSteps := 2000000) (disch := omega) only [go_sem, simprocAttr, if_pos, if_neg, w64, beqT, beqF, bneT, bneF, pr_get, ir_get, decide_eq_true, decide_eq_false, li'])
        cases hf : nxt (by8 t) c with
        | none =>
          simp only [hf] at i4
          subst i4
          (refine at_x ?_; (refine zW ?_; try with_reducible exact True.intro); refine callXG_of [0, 1, 2, 3] (st1_no t m c acc ht hf) zU ?_)
          rintro W rfl
          (refine endX_of [(0, sB (sci .i64 m) (.ref 3 acc.length 0 acc.length) nilS nilS), (2, rd t c), (3, .arr 1 acc.length (ir eI acc))] ?_ ?_ ?_ ?_ ?_ <;> first | exact ⟨_, _, rfl⟩ | decide | omega | exact zU)
        | some y =>
          simp only [hf] at i4
          obtain ⟨p1, p2⟩ := nxt_goes (by8 t) _ _ hf
          rw [by8_len] at p2
          (refine at_g 200 ?_; (refine zW ?_; try with_reducible exact True.intro); refine callG_of [0, 1, 2, 3] (st1_ok t m c acc y ht hb hf) zU ?_; ((try refine zW ?_); (try with_reducible exact True.intro)))
          refine ⟨(i + 1, y.2, acc ++ [y.1]), ⟨by simp only; omega, by simp only [List.length_append, List.length_cons, List.length_nil]; omega, by simp only; omega, i4⟩, by simp only; omega, ?_⟩
          constructor <;> (try simp (maxSteps := 2000000) (disch := omega) only [go_sem, simprocAttr, if_pos, if_neg, w64, beqT, beqF, bneT, bneF, pr_get, ir_get, decide_eq_true, decide_eq_false, List.length_append, List.length_cons, List.length_nil, Int.natCast_add, Int.natCast_one])
      · obtain rfl : i = n := by omega
        rw [Nat.sub_self, pRep] at i4
        subst i4
        ((try refine zO ?_); (try with_reducible exact True.intro))

end Go.Proofs.TR
