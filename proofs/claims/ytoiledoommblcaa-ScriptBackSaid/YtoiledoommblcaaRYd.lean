/- Picks. -/
import Derived.Test.YtoiledoommblcaaRYc
set_option linter.unusedSimpArgs false
set_option linter.unusedVariables false
namespace Go.Proofs.TR
open Go Go.Idl Go.Proofs Go.GP
set_option maxHeartbeats 20000000
set_option maxRecDepth 100000
@[go_sem] theorem snocPk {l : List (Int × List (Int × Int))} {a : Int} {b : List (Int × Int)} : ir ePk l ++ [[.p (.sc (.int .i64 a)), .p (.imm 2 (pr eII b))]] = ir ePk (l ++ [(a, b)]) := by simp [ir, ePk]
theorem pk_spec (m : Int) (ws : List Int) (t : ByteArray) (a : Nat) (acc : List (Int × List (Int × Int))) (ht : t.size ≤ 1000000) (hb : acc.length ≤ 1000000) :
    PB Try.prog 75 [.ptr 0 0 0 0, .ptr 1 0 0 0] [cP 2, sB (sci .i64 m) (lI ws) (.ref 3 acc.length 0 acc.length) nilS, rd t a, .arr 2 acc.length (ir ePk acc)] sch (fun W => ∃ b : Nat, W = [(2, rd t b)])
      (mOc (pPk (by8 t) a) fun p => .ok 0 (.tup []) [(1, sB (sci .i64 m) (lI ws) (.ref 3 (acc.length + 1) 0 (acc.length + 1)) nilS), (2, rd t p.2), (3, .arr 2 (acc.length + 1) (ir ePk (acc ++ [p.1])))]) := by
  
  cases h1 : nxt (by8 t) a with
  | none =>
    have e : pPk (by8 t) a = none := by unfold pPk; rw [h1]
    rw [e]
    refine pb_of 200 (fn := Try.f75) Try.func75 rfl (by simp [Try.ntmps75]) 4 rfl zC zC zC fun hs => ?_
    ((try refine zW ?_); (try with_reducible exact True.intro))
    (refine at_x ?_; (refine zW ?_; try with_reducible exact True.intro); refine callXG_of [2] (next_no t a ht h1) zU ?_)
    rintro W rfl
    (refine endX_of [(2, rd t a)] ?_ ?_ ?_ ?_ ?_ <;> first | exact ⟨_, rfl⟩ | decide | omega | exact zU)
  | some x =>
    obtain ⟨v, b⟩ := x
    have hm := m2_spec v t b ht
    cases h2 : pMany p2 (by8 t) b with
    | none =>
      have e : pPk (by8 t) a = none := by unfold pPk; simp only [h1, h2]
      rw [e]
      rw [h2] at hm
      refine pb_of 200 (fn := Try.f75) Try.func75 rfl (by simp [Try.ntmps75]) 4 rfl zC zC zC fun hs => ?_
      ((try refine zW ?_); (try with_reducible exact True.intro))
      (refine at_g 200 ?_; (refine zW ?_; try with_reducible exact True.intro); refine callG_of [2] (next_ok t a (v, b) ht h1) zU ?_; ((try refine zW ?_); (try with_reducible exact True.intro)))
      refine walk_ownB 4 0 1 2 trivial rfl rfl rfl (.inr rfl) ?_
      ((try refine zW ?_); (try with_reducible exact True.intro))
      (refine at_x ?_; (refine zW ?_; try with_reducible exact True.intro); refine callXG_of [4, 0, 2, 5] (hm) zU ?_)
      rintro W ⟨b', acc', rfl⟩
      (refine endX_of [(2, rd t b')] ?_ ?_ ?_ ?_ ?_ <;> first | exact ⟨_, rfl⟩ | decide | omega | exact zU)
    | some y =>
      obtain ⟨sl, c⟩ := y
      have e : pPk (by8 t) a = some ((v, sl), c) := by unfold pPk; simp only [h1, h2]
      have q1 : (acc.length + 1) * 32 ≤ 140737488355328 := by omega
      have q2 : acc.length ≤ 9223372036854775806 := by omega
      rw [e]
      rw [h2] at hm
      refine pb_of 200 (fn := Try.f75) Try.func75 rfl (by simp [Try.ntmps75]) 4 rfl zC zC zC fun hs => ?_
      ((try refine zW ?_); (try with_reducible exact True.intro))
      (refine at_g 200 ?_; (refine zW ?_; try with_reducible exact True.intro); refine callG_of [2] (next_ok t a (v, b) ht h1) zU ?_; ((try refine zW ?_); (try with_reducible exact True.intro)))
      refine walk_ownB 4 0 1 2 trivial rfl rfl rfl (.inr rfl) ?_
      ((try refine zW ?_); (try with_reducible exact True.intro))
      (refine at_g 0 ?_; (refine zW ?_; try with_reducible exact True.intro); refine callG_of [4, 0, 2, 5] (hm) zU ?_; rw [vc_zero])
      refine walk_fcut 200 [5] ⟨15, [(1, .ptr 1 0 0 0), (2, .ptr 4 0 0 0)], [], 6, [(4, .arr 2 0 [[sci .i64 v, lII sl]]), (2, rd t c)]⟩ trivial ?_ ?_
      · constructor <;> (try simp (maxSteps := 2000000) (disch := omega) only [go_sem, simprocAttr, if_pos, if_neg, w64, beqT, beqF, bneT, bneF, pr_get, ir_get, decide_eq_true, decide_eq_false, List.take_length])
      (try simp (maxSteps := 2000000) (disch := omega) only [go_sem, simprocAttr, if_pos, if_neg, w64, beqT, beqF, bneT, bneF, pr_get, ir_get, decide_eq_true, decide_eq_false, q1, q2])
end Go.Proofs.TR
