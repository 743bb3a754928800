/- So many nodes. -/
import Derived.Test.YtoiledoommblcaaRYg
set_option linter.unusedSimpArgs false
set_option linter.unusedVariables false
namespace Go.Proofs.TR
open Go Go.Idl Go.Proofs Go.GP
set_option maxHeartbeats 20000000
set_option maxRecDepth 100000
@[go_sem] theorem snocNd {l : List Nd} {m : Int} {ss : List St} : ir eNd l ++ [[.p (.sc (.int .i64 m)), .p (.imm 4 (pr eSt ss))]] = ir eNd (l ++ [⟨m, ss⟩]) := by simp [ir, eNd]
theorem nd_spec (N : Int) (ls : List (Int × Int)) (f : Bool) (t : ByteArray) (a : Nat) (acc : List Nd) (ht : t.size ≤ 1000000) (hb : acc.length ≤ 1000000) :
    PB Try.prog 52 [.ptr 0 0 0 0, .ptr 1 0 0 0] [cP 2, .arr 4 0 [[sci .i64 N, lII ls, (.ref 3 acc.length 0 acc.length), scb f]], rd t a, .arr 2 acc.length (ir eNd acc)] sch (fun W => ∃ b : Nat, W = [(2, rd t b)])
      (mOc (pNd (by8 t) a) fun p => .ok 0 (.tup []) [(1, .arr 4 0 [[sci .i64 N, lII ls, (.ref 3 (acc.length + 1) 0 (acc.length + 1)), scb f]]), (2, rd t p.2), (3, .arr 2 (acc.length + 1) (ir eNd (acc ++ [p.1])))]) := by
  
  have q1 : (acc.length + 1) * 32 ≤ 140737488355328 := by omega
  have q2 : acc.length ≤ 9223372036854775806 := by omega
  refine pb_of 200 (fn := Try.f52) Try.func52 rfl (by simp [Try.ntmps52]) 4 rfl zC zC zC fun hs => ?_
  ((try refine zW ?_); (try with_reducible exact True.intro))
  cases h1 : nxt (by8 t) a with
  | none =>
    have e : pNd (by8 t) a = none := by unfold pNd; rw [h1]
    rw [e]
    (refine at_x ?_; (refine zW ?_; try with_reducible exact True.intro); refine callXG_of [2] (next_no t a ht h1) zU ?_)
    rintro W rfl
    (refine endX_of [(2, rd t a)] ?_ ?_ ?_ ?_ ?_ <;> first | exact ⟨_, rfl⟩ | decide | omega | exact zU)
  | some x =>
    obtain ⟨v, b⟩ := x
    (refine at_g 200 ?_; (refine zW ?_; try with_reducible exact True.intro); refine callG_of [2] (next_ok t a (v, b) ht h1) zU ?_; ((try refine zW ?_); (try with_reducible exact True.intro)))
    refine walk_ownB 4 0 1 4 trivial rfl rfl rfl (.inr rfl) ?_
    ((try refine zW ?_); (try with_reducible exact True.intro))
    have hm := m7_spec v t b ht
    cases h2 : pMany pSt (by8 t) b with
    | none =>
      have e : pNd (by8 t) a = none := by unfold pNd; simp only [h1, h2]
      rw [h2] at hm
      rw [e]
      (refine at_x ?_; (refine zW ?_; try with_reducible exact True.intro); refine callXG_of [4, 0, 2, 5] (hm) zU ?_)
      rintro W ⟨b', acc', rfl⟩
      (refine endX_of [(2, rd t b')] ?_ ?_ ?_ ?_ ?_ <;> first | exact ⟨_, rfl⟩ | decide | omega | exact zU)
    | some y =>
      obtain ⟨ss, c⟩ := y
      have e : pNd (by8 t) a = some (⟨v, ss⟩, c) := by unfold pNd; simp only [h1, h2]
      rw [h2] at hm
      rw [e]
      (refine at_g 0 ?_; (refine zW ?_; try with_reducible exact True.intro); refine callG_of [4, 0, 2, 5] (hm) zU ?_; rw [vc_zero])
      clear hm
      refine walk_fcut 200 [5] ⟨15, [(1, .ptr 1 0 0 0), (2, .ptr 4 0 0 0)], [], 6, [(4, .arr 2 0 [[sci .i64 v, .p (.imm 4 (pr eSt ss))]]), (2, rd t c)]⟩ trivial ?_ ?_
      · constructor <;> (try simp (maxSteps := 2000000) (disch := omega) only [go_sem, simprocAttr, if_pos, if_neg, w64, beqT, beqF, bneT, bneF, pr_get, ir_get, decide_eq_true, decide_eq_false, List.take_length])
      (try simp (maxSteps := 2000000) (disch := omega) only [go_sem, simprocAttr, if_pos, if_neg, w64, beqT, beqF, bneT, bneF, pr_get, ir_get, decide_eq_true, decide_eq_false, q1, q2])
theorem nd_no (N : Int) (ls : List (Int × Int)) (f : Bool) (t : ByteArray) (a : Nat) (acc : List Nd) (ht : t.size ≤ 1000000) (hb : acc.length ≤ 1000000) (h : pNd (by8 t) a = none) :
    PX Try.prog 52 [.ptr 0 0 0 0, .ptr 1 0 0 0] [cP 2, .arr 4 0 [[sci .i64 N, lII ls, (.ref 3 acc.length 0 acc.length), scb f]], rd t a, .arr 2 acc.length (ir eNd acc)] sch (fun W => ∃ b : Nat, W = [(2, rd t b)]) := by
  have := nd_spec N ls f t a acc ht hb
  rw [h] at this; exact this
theorem nd_ok (N : Int) (ls : List (Int × Int)) (f : Bool) (t : ByteArray) (a : Nat) (acc : List Nd) (y : Nd × Nat) (ht : t.size ≤ 1000000) (hb : acc.length ≤ 1000000) (h : pNd (by8 t) a = some y) :
    PG Try.prog 52 [.ptr 0 0 0 0, .ptr 1 0 0 0] [cP 2, .arr 4 0 [[sci .i64 N, lII ls, (.ref 3 acc.length 0 acc.length), scb f]], rd t a, .arr 2 acc.length (ir eNd acc)] 0 (.tup []) [(1, .arr 4 0 [[sci .i64 N, lII ls, (.ref 3 (acc.length + 1) 0 (acc.length + 1)), scb f]]), (2, rd t y.2), (3, .arr 2 (acc.length + 1) (ir eNd (acc ++ [y.1])))] := by
  have := nd_spec N ls f t a acc ht hb
  rw [h] at this; exact this

theorem m8_spec (N : Int) (ls : List (Int × Int)) (f : Bool) (t : ByteArray) (a : Nat) (ht : t.size ≤ 1000000) :
    PB Try.prog 29 [.ptr 2 0 0 0, .clo (.func 52) [] [.ptr 0 0 0 0, .ptr 1 0 0 0]] [cP 2, .arr 4 0 [[sci .i64 N, lII ls, (.ref 3 ([] : List Nd).length 0 ([] : List Nd).length), scb f]], rd t a, .arr 2 ([] : List Nd).length (ir eNd ([] : List Nd))] sch (fun W => ∃ (a' : Nat) (acc : List Nd), W = [(1, .arr 4 0 [[sci .i64 N, lII ls, (.ref 3 acc.length 0 acc.length), scb f]]), (2, rd t a'), (3, .arr 2 acc.length (ir eNd acc))])
      (mOc (pMany pNd (by8 t) a) fun p => .ok 0 (.tup []) [(1, .arr 4 0 [[sci .i64 N, lII ls, (.ref 3 p.1.length 0 p.1.length), scb f]]), (2, rd t p.2), (3, .arr 2 p.1.length (ir eNd p.1))]) := by
  
  cases h : nxt (by8 t) a with
  | none =>
    have e : pMany pNd (by8 t) a = none := by unfold pMany; rw [h]
    rw [e]
    refine pb_of 200 (fn := Try.f29) Try.func29 rfl (by simp [Try.ntmps29]) 4 rfl zC zC zC fun hs => ?_
    ((try refine zW ?_); (try with_reducible exact True.intro))
    (refine at_x ?_; (refine zW ?_; try with_reducible exact True.intro); refine callXG_of [2] (next_no t a ht h) zU ?_)
    rintro W rfl
    (refine endX_of [(1, .arr 4 0 [[sci .i64 N, lII ls, (.ref 3 ([] : List Nd).length 0 ([] : List Nd).length), scb f]]), (2, rd t a), (3, .arr 2 ([] : List Nd).length (ir eNd ([] : List Nd)))] ?_ ?_ ?_ ?_ ?_ <;> first | exact ⟨_, _, rfl⟩ | decide | omega | exact zU)
  | some x =>
    obtain ⟨hx0, hx1, hx2, hx3, hx4⟩ := nxt_ok h
    obtain ⟨v, b⟩ := x
    simp only at hx0 hx1 hx2 hx3 hx4
    obtain ⟨n, rfl⟩ := Int.eq_ofNat_of_zero_le hx1
    have e : pMany pNd (by8 t) a = pRep (pNd (by8 t)) n [] b := by unfold pMany; rw [h]; rfl
    rw [e]
    generalize hres : pRep (pNd (by8 t)) n [] b = res
    refine pb_of 200 (fn := Try.f29) Try.func29 rfl (by simp [Try.ntmps29]) 4 rfl zC zC zC fun hs => ?_
    ((try refine zW ?_); (try with_reducible exact True.intro))
    (refine at_g 200 ?_; (refine zW ?_; try with_reducible exact True.intro); refine callG_of [2] (next_ok t a ((n : Int), b) ht h) zU ?_; ((try refine zW ?_); (try with_reducible exact True.intro)))
    (refine walk_trim [1, 5, 6] trivial zL ?_; ((try refine zW ?_); (try with_reducible exact True.intro)))
    refine walk_loop 200 200 (fun p : Nat × Nat × List Nd => p.1 ≤ n ∧ p.2.2.length ≤ p.2.1 ∧ p.2.1 ≤ t.size ∧ pRep (pNd (by8 t)) (n - p.1) p.2.2 p.2.1 = res)
      (fun p => ⟨11, [(1, .clo (.func 52) [] [.ptr 0 0 0 0, .ptr 1 0 0 0]), (5, sci .i64 (n : Int)), (6, sci .i64 (p.1 : Int))], [], 4, [(1, .arr 4 0 [[sci .i64 N, lII ls, (.ref 3 p.2.2.length 0 p.2.2.length), scb f]]), (2, rd t p.2.1), (3, .arr 2 p.2.2.length (ir eNd p.2.2))]⟩) (fun p => n - p.1) (0, b, []) ?_ ?_ ?_
    · exact ⟨Nat.zero_le _, by simp, by rw [← by8_len]; exact hx4, hres⟩
    · constructor <;> (try simp (maxSteps := 2000000) (disch := omega) only [go_sem, simprocAttr, if_pos, if_neg, w64, beqT, beqF, bneT, bneF, pr_get, ir_get, decide_eq_true, decide_eq_false, Int.natCast_zero, List.length_nil, ir_nil])
    · rintro ⟨i, c, acc⟩ ⟨i1, i2, i3, i4⟩
      simp only at i1 i2 i3 i4
      ((try refine zW ?_); (try with_reducible exact True.intro))
      by_cases li : i < n
      · have li' : (i : Int) < (n : Int) := by omega
        rw [show n - i = (n - (i + 1)) + 1 by omega, pRep] at i4
        have hb : acc.length ≤ 1000000 := by omega
        (try simp (maxSteps := 2000000) (disch := omega) only [go_sem, simprocAttr, if_pos, if_neg, w64, beqT, beqF, bneT, bneF, pr_get, ir_get, decide_eq_true, decide_eq_false, li'])
        cases hf : pNd (by8 t) c with
        | none =>
          simp only [hf] at i4
          subst i4
          (refine at_x ?_; (refine zW ?_; try with_reducible exact True.intro); refine callXG_of [0, 1, 2, 3] (nd_no N ls f t c acc ht hb hf) zU ?_)
          rintro W ⟨b', rfl⟩
          (refine endX_of [(1, .arr 4 0 [[sci .i64 N, lII ls, (.ref 3 acc.length 0 acc.length), scb f]]), (2, rd t b'), (3, .arr 2 acc.length (ir eNd acc))] ?_ ?_ ?_ ?_ ?_ <;> first | exact ⟨_, _, rfl⟩ | decide | omega | exact zU)
        | some y =>
          simp only [hf] at i4
          obtain ⟨p1, p2⟩ := pNd_goes (by8 t) _ _ hf
          rw [by8_len] at p2
          (refine at_g 200 ?_; (refine zW ?_; try with_reducible exact True.intro); refine callG_of [0, 1, 2, 3] (nd_ok N ls f t c acc y ht hb hf) zU ?_; ((try refine zW ?_); (try with_reducible exact True.intro)))
          refine ⟨(i + 1, y.2, acc ++ [y.1]), ⟨by simp only; omega, by simp only [List.length_append, List.length_cons, List.length_nil]; omega, by simp only; omega, i4⟩, by simp only; omega, ?_⟩
          constructor <;> (try simp (maxSteps := 2000000) (disch := omega) only [go_sem, simprocAttr, if_pos, if_neg, w64, beqT, beqF, bneT, bneF, pr_get, ir_get, decide_eq_true, decide_eq_false, List.length_append, List.length_cons, List.length_nil, Int.natCast_add, Int.natCast_one])
      · obtain rfl : i = n := by omega
        rw [Nat.sub_self, pRep] at i4
        subst i4
        ((try refine zO ?_); (try with_reducible exact True.intro))

end Go.Proofs.TR
