/- An application is read. -/
import Derived.Test.YtoiledoommblcaaRYh
set_option linter.unusedSimpArgs false
set_option linter.unusedVariables false
namespace Go.Proofs.TR
open Go Go.Idl Go.Proofs Go.GP
set_option maxHeartbeats 20000000
set_option maxRecDepth 100000
abbrev aApp (p : Int × List (Int × Int) × Bool × List Nd) : IV := .agg [sci .i64 p.1, lII p.2.1, .p (.imm 2 (pr eNd p.2.2.2)), scb p.2.2.1]
theorem rapp_spec (t : ByteArray) (a : Nat) (ht : t.size ≤ 1000000) :
    PB Try.prog 27 [.ptr 0 0 0 0] [rd t a] sch (fun W => ∃ b : Nat, W = [(0, rd t b)]) (mOc (pApp (by8 t) a) fun p => .ok 0 (aApp p.1) [(0, rd t p.2)]) := by
  
  refine pb_of 200 (fn := Try.f27) Try.func27 rfl (by simp [Try.ntmps27]) 1 rfl zC zC zC fun hs => ?_
  ((try refine zW ?_); (try with_reducible exact True.intro))
  cases h1 : nxt (by8 t) a with
  | none =>
    have e : pApp (by8 t) a = none := by unfold pApp; rw [h1]
    rw [e]
    (refine at_x ?_; (refine zW ?_; try with_reducible exact True.intro); refine callXG_of [0] (next_no t a ht h1) zU ?_)
    rintro W rfl
    (refine endX_of [(0, rd t a)] ?_ ?_ ?_ ?_ ?_ <;> first | exact ⟨_, rfl⟩ | decide | omega | exact zU)
  | some x =>
    obtain ⟨v, b⟩ := x
    (refine at_g 200 ?_; (refine zW ?_; try with_reducible exact True.intro); refine callG_of [0] (next_ok t a (v, b) ht h1) zU ?_; ((try refine zW ?_); (try with_reducible exact True.intro)))
    refine walk_ownB 3 0 1 2 trivial rfl rfl rfl (.inr rfl) ?_
    ((try refine zW ?_); (try with_reducible exact True.intro))
    have hm := m4_spec v t b ht
    cases h2 : pMany p2 (by8 t) b with
    | none =>
      have e : pApp (by8 t) a = none := by unfold pApp; simp only [h1, h2]
      rw [h2] at hm
      rw [e]
      (refine at_x ?_; (refine zW ?_; try with_reducible exact True.intro); refine callXG_of [3, 1, 0, 4] (hm) zU ?_)
      rintro W ⟨b', acc', rfl⟩
      (refine endX_of [(0, rd t b')] ?_ ?_ ?_ ?_ ?_ <;> first | exact ⟨_, rfl⟩ | decide | omega | exact zU)
    | some y =>
      obtain ⟨ls, c⟩ := y
      rw [h2] at hm
      (refine at_g 0 ?_; (refine zW ?_; try with_reducible exact True.intro); refine callG_of [3, 1, 0, 4] (hm) zU ?_; rw [vc_zero])
      clear hm
      refine walk_fcut 200 [4] ⟨24, [(1, .ptr 1 0 0 0), (2, .ptr 2 0 0 0), (3, .ptr 3 0 0 0)], [], 5, [(3, sB (sci .i64 v) (lII ls) nilS (scb false)), (2, sB (sci .i64 0) nilS nilS (scb false)), (1, cP 0), (0, rd t c)]⟩ trivial ?_ ?_
      · constructor <;> (try simp (maxSteps := 2000000) (disch := omega) only [go_sem, simprocAttr, if_pos, if_neg, w64, beqT, beqF, bneT, bneF, pr_get, ir_get, decide_eq_true, decide_eq_false, List.take_length])
      ((try refine zW ?_); (try with_reducible exact True.intro))
      cases h3 : nxt (by8 t) c with
      | none =>
        have e : pApp (by8 t) a = none := by unfold pApp; simp only [h1, h2, h3]
        rw [e]
        (refine at_x ?_; (refine zW ?_; try with_reducible exact True.intro); refine callXG_of [0] (next_no t c ht h3) zU ?_)
        rintro W rfl
        (refine endX_of [(0, rd t c)] ?_ ?_ ?_ ?_ ?_ <;> first | exact ⟨_, rfl⟩ | decide | omega | exact zU)
      | some z =>
        obtain ⟨fv, d⟩ := z
        obtain ⟨_, z0, _, _, _⟩ := nxt_ok h3
        simp only at z0
        (refine at_g 200 ?_; (refine zW ?_; try with_reducible exact True.intro); refine callG_of [0] (next_ok t c (fv, d) ht h3) zU ?_; ((try refine zW ?_); (try with_reducible exact True.intro)))
        by_cases hf : 1 < fv
        · have e : pApp (by8 t) a = none := by unfold pApp; simp only [h1, h2, h3, if_pos hf]
          have hf' : ¬ fv ≤ 1 := by omega
          rw [e]
          (try simp (maxSteps := 2000000) (disch := omega) only [go_sem, simprocAttr, if_pos, if_neg, w64, beqT, beqF, bneT, bneF, pr_get, ir_get, decide_eq_true, decide_eq_false, hf'])
          (refine at_x ?_; (refine zW ?_; try with_reducible exact True.intro); refine callXG_of [] (smust_px) zU ?_)
          rintro W rfl
          (refine endX_of [(0, rd t d)] ?_ ?_ ?_ ?_ ?_ <;> first | exact ⟨_, rfl⟩ | decide | omega | exact zU)
        · have hf' : fv ≤ 1 := by omega
          have hd : (fv == 1) = decide (fv = 1) := by by_cases h : fv = 1 <;> simp [h]
          (try simp (maxSteps := 2000000) (disch := omega) only [go_sem, simprocAttr, if_pos, if_neg, w64, beqT, beqF, bneT, bneF, pr_get, ir_get, decide_eq_true, decide_eq_false, hf'])
          (refine at_call 200 ?_; (refine zW ?_; try with_reducible exact True.intro); refine callA_of (smust_spec) zB ?_; ((try refine zW ?_); (try with_reducible exact True.intro)))
          (try simp (maxSteps := 2000000) (disch := omega) only [go_sem, simprocAttr, if_pos, if_neg, w64, beqT, beqF, bneT, bneF, pr_get, ir_get, decide_eq_true, decide_eq_false, hd])
          refine walk_ownB 3 0 2 2 trivial rfl rfl rfl (.inr rfl) ?_
          ((try refine zW ?_); (try with_reducible exact True.intro))
          have hm := m8_spec v ls (decide (fv = 1)) t d ht
          cases h4 : pMany pNd (by8 t) d with
          | none =>
            have e : pApp (by8 t) a = none := by unfold pApp; simp only [h1, h2, h3, if_neg hf, h4]
            rw [h4] at hm
            rw [e]
            (refine at_x ?_; (refine zW ?_; try with_reducible exact True.intro); refine callXG_of [1, 3, 0, 5] (hm) zU ?_)
            rintro W ⟨b', acc', rfl⟩
            (refine endX_of [(0, rd t b')] ?_ ?_ ?_ ?_ ?_ <;> first | exact ⟨_, rfl⟩ | decide | omega | exact zU)
          | some u =>
            obtain ⟨ns, g⟩ := u
            have e : pApp (by8 t) a = some ((v, ls, decide (fv = 1), ns), g) := by unfold pApp; simp only [h1, h2, h3, if_neg hf, h4]
            rw [h4] at hm
            rw [e]
            (refine at_g 0 ?_; (refine zW ?_; try with_reducible exact True.intro); refine callG_of [1, 3, 0, 5] (hm) zU ?_; rw [vc_zero])
            clear hm
            refine walk_fcut 200 [5] ⟨24, [(1, .ptr 1 0 0 0), (2, .ptr 2 0 0 0), (3, .ptr 3 0 0 0)], [], 6, [(3, sB (sci .i64 v) (lII ls) (.p (.imm 2 (pr eNd ns))) (scb (decide (fv = 1)))), (2, sB (sci .i64 0) nilS nilS (scb false)), (1, cP 0), (0, rd t g)]⟩ trivial ?_ ?_
            · constructor <;> (try simp (maxSteps := 2000000) (disch := omega) only [go_sem, simprocAttr, if_pos, if_neg, w64, beqT, beqF, bneT, bneF, pr_get, ir_get, decide_eq_true, decide_eq_false, List.take_length])
            ((try refine zO ?_); (try with_reducible exact True.intro))
end Go.Proofs.TR
