/- A state is read. -/
import Derived.Test.YtoiledoommblcaaRYe
set_option linter.unusedSimpArgs false
set_option linter.unusedVariables false
namespace Go.Proofs.TR
open Go Go.Idl Go.Proofs Go.GP
set_option maxHeartbeats 20000000
set_option maxRecDepth 100000
abbrev aSt (s : St) : IV := .agg [sci .i64 s.mode, lI s.waits, .p (.imm 2 (pr ePk s.picks)), .p (.imm 3 (pr eIII s.takes))]
theorem rstate_spec (t : ByteArray) (a : Nat) (ht : t.size ≤ 1000000) :
    PB Try.prog 54 [.ptr 0 0 0 0] [rd t a] sch (fun W => ∃ b : Nat, W = [(0, rd t b)]) (mOc (pSt (by8 t) a) fun p => .ok 0 (aSt p.1) [(0, rd t p.2)]) := by
  
  refine pb_of 200 (fn := Try.f54) Try.func54 rfl (by simp [Try.ntmps54]) 1 rfl zC zC zC fun hs => ?_
  ((try refine zW ?_); (try with_reducible exact True.intro))
  cases h1 : nxt (by8 t) a with
  | none =>
    have e : pSt (by8 t) a = none := by unfold pSt; rw [h1]
    rw [e]
    (refine at_x ?_; (refine zW ?_; try with_reducible exact True.intro); refine callXG_of [0] (next_no t a ht h1) zU ?_)
    rintro W rfl
    (refine endX_of [(0, rd t a)] ?_ ?_ ?_ ?_ ?_ <;> first | exact ⟨_, rfl⟩ | decide | omega | exact zU)
  | some x =>
    obtain ⟨v, b⟩ := x
    (refine at_g 200 ?_; (refine zW ?_; try with_reducible exact True.intro); refine callG_of [0] (next_ok t a (v, b) ht h1) zU ?_; ((try refine zW ?_); (try with_reducible exact True.intro)))
    refine walk_ownB 3 0 1 1 trivial rfl rfl rfl (.inr rfl) ?_
    ((try refine zW ?_); (try with_reducible exact True.intro))
    have hm := m1_spec v t b ht
    cases h2 : pMany nxt (by8 t) b with
    | none =>
      have e : pSt (by8 t) a = none := by unfold pSt; simp only [h1, h2]
      rw [h2] at hm
      rw [e]
      (refine at_x ?_; (refine zW ?_; try with_reducible exact True.intro); refine callXG_of [3, 1, 0, 4] (hm) zU ?_)
      rintro W ⟨b', acc', rfl⟩
      (refine endX_of [(0, rd t b')] ?_ ?_ ?_ ?_ ?_ <;> first | exact ⟨_, rfl⟩ | decide | omega | exact zU)
    | some y =>
      obtain ⟨ws, c⟩ := y
      rw [h2] at hm
      (refine at_g 0 ?_; (refine zW ?_; try with_reducible exact True.intro); refine callG_of [3, 1, 0, 4] (hm) zU ?_; rw [vc_zero])
      clear hm
      refine walk_fcut 200 [4] ⟨17, [(1, .ptr 1 0 0 0), (2, .ptr 2 0 0 0), (3, .ptr 3 0 0 0)], [], 5, [(3, sB (sci .i64 v) (lI ws) nilS nilS), (2, sB (sci .i64 0) nilS nilS nilS), (1, cP 0), (0, rd t c)]⟩ trivial ?_ ?_
      · constructor <;> (try simp (maxSteps := 2000000) (disch := omega) only [go_sem, simprocAttr, if_pos, if_neg, w64, beqT, beqF, bneT, bneF, pr_get, ir_get, decide_eq_true, decide_eq_false, List.take_length])
      ((try refine zW ?_); (try with_reducible exact True.intro))
      refine walk_ownB 3 0 2 2 trivial rfl rfl rfl (.inr rfl) ?_
      ((try refine zW ?_); (try with_reducible exact True.intro))
      have hm := m5_spec v ws t c ht
      cases h3 : pMany pPk (by8 t) c with
      | none =>
        have e : pSt (by8 t) a = none := by unfold pSt; simp only [h1, h2, h3]
        rw [h3] at hm
        rw [e]
        (refine at_x ?_; (refine zW ?_; try with_reducible exact True.intro); refine callXG_of [1, 3, 0, 5] (hm) zU ?_)
        rintro W ⟨b', acc', rfl⟩
        (refine endX_of [(0, rd t b')] ?_ ?_ ?_ ?_ ?_ <;> first | exact ⟨_, rfl⟩ | decide | omega | exact zU)
      | some z =>
        obtain ⟨ps, d⟩ := z
        rw [h3] at hm
        (refine at_g 0 ?_; (refine zW ?_; try with_reducible exact True.intro); refine callG_of [1, 3, 0, 5] (hm) zU ?_; rw [vc_zero])
        clear hm
        refine walk_fcut 200 [5] ⟨17, [(1, .ptr 1 0 0 0), (2, .ptr 2 0 0 0), (3, .ptr 3 0 0 0)], [], 6, [(3, sB (sci .i64 v) (lI ws) (.p (.imm 2 (pr ePk ps))) nilS), (2, sB (sci .i64 0) nilS nilS nilS), (1, cP 0), (0, rd t d)]⟩ trivial ?_ ?_
        · constructor <;> (try simp (maxSteps := 2000000) (disch := omega) only [go_sem, simprocAttr, if_pos, if_neg, w64, beqT, beqF, bneT, bneF, pr_get, ir_get, decide_eq_true, decide_eq_false, List.take_length])
        ((try refine zW ?_); (try with_reducible exact True.intro))
        refine walk_ownB 3 0 3 3 trivial rfl rfl rfl (.inr rfl) ?_
        ((try refine zW ?_); (try with_reducible exact True.intro))
        have hm := m3_spec v ws ps t d ht
        cases h4 : pMany p3 (by8 t) d with
        | none =>
          have e : pSt (by8 t) a = none := by unfold pSt; simp only [h1, h2, h3, h4]
          rw [h4] at hm
          rw [e]
          (refine at_x ?_; (refine zW ?_; try with_reducible exact True.intro); refine callXG_of [3, 1, 0, 6] (hm) zU ?_)
          rintro W ⟨b', acc', rfl⟩
          (refine endX_of [(0, rd t b')] ?_ ?_ ?_ ?_ ?_ <;> first | exact ⟨_, rfl⟩ | decide | omega | exact zU)
        | some u =>
          obtain ⟨ts, g⟩ := u
          have e : pSt (by8 t) a = some (⟨v, ws, ps, ts⟩, g) := by unfold pSt; simp only [h1, h2, h3, h4]
          rw [h4] at hm
          rw [e]
          (refine at_g 0 ?_; (refine zW ?_; try with_reducible exact True.intro); refine callG_of [3, 1, 0, 6] (hm) zU ?_; rw [vc_zero])
          clear hm
          refine walk_fcut 200 [6] ⟨17, [(1, .ptr 1 0 0 0), (2, .ptr 2 0 0 0), (3, .ptr 3 0 0 0)], [], 7, [(3, sB (sci .i64 v) (lI ws) (.p (.imm 2 (pr ePk ps))) (.p (.imm 3 (pr eIII ts)))), (2, sB (sci .i64 0) nilS nilS nilS), (1, cP 0), (0, rd t g)]⟩ trivial ?_ ?_
          · constructor <;> (try simp (maxSteps := 2000000) (disch := omega) only [go_sem, simprocAttr, if_pos, if_neg, w64, beqT, beqF, bneT, bneF, pr_get, ir_get, decide_eq_true, decide_eq_false, List.take_length])
          ((try refine zO ?_); (try with_reducible exact True.intro))
end Go.Proofs.TR
