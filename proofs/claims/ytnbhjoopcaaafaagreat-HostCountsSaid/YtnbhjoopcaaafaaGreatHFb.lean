/- A host with lists of its own, each row that it sent held. -/
import Derived.Test.YtnbhjoopcaaafaaGreatHFa
import Derived.Test.YtnbhjoopcaaafaaGreatHCq
set_option linter.unusedSimpArgs false
set_option linter.unusedVariables false
namespace Go.Proofs.HO
open Go Go.Idl Go.Proofs
set_option maxHeartbeats 20000000
set_option maxRecDepth 100000
theorem fam_ne {k b0 c : Nat} {L : List IBlk} {x : IBlk} (hk : c < k) (hb : ¬ b0 = c) : ∀ b ∈ List.map (fun x : Nat × IBlk => x.fst) ((enumB k L).reverse ++ [(b0, x)]), ¬ b = c := by
  intro b h
  simp only [List.map_append, List.map_reverse, List.mem_append, List.mem_reverse, List.map_cons, List.map_nil, List.mem_singleton] at h
  rcases h with h | rfl
  · obtain ⟨p, hp, rfl⟩ := List.mem_map.1 h
    obtain ⟨i, _, e, _⟩ := enumB_mem hp
    omega
  · exact hb
theorem OwnF_blk (p : Hs) (h : gHs p) {c : Nat} (hc : c = 1 + p.out.length) : PG Tryz.prog 77 [toldHs p] [] c
    (.agg [sci .i64 p.node, sci .i64 p.state, sci .i64 p.steps, nil0, lMs p.inn, .ref 0 p.out.length 0 p.out.length])
    ((0, .arr 1 p.out.length (refsR 1 (freshF p.out))) :: enumB 1 (famB 1 eI (freshF p.out))) := by
  obtain ⟨h2, h3, h4, h5⟩ := h
  
  refine pg_of 200 (fn := Tryz.f77) Tryz.func77 rfl (by simp [Tryz.ntmps77]) 0 rfl (by ((try refine zW ?_); (try with_reducible exact True.intro))) (by ((try refine zW ?_); (try with_reducible exact True.intro))) (ownF_low _ hc rfl) (ownF_has _ hc) (by ((try refine zW ?_); (try with_reducible exact True.intro)); omega) fun hs => ?_
  ((try refine zW ?_); (try with_reducible exact True.intro))
  (refine walk_trim [1, 2, 71] trivial zL ?_; (refine zW ?_; try with_reducible exact True.intro); refine irun_walk (id := 1) (n := 200) [none, none, none, none, none, none, none, none, some [0, 1, 2, 3, 4, 5, 9, 10, 12, 13], none, none, some [0, 1, 2, 3, 4, 5, 12, 13], none, none, some [0, 1, 2, 3, 4, 5], none, some []] mixed (by kernel_rfl) ?_)
  ((try refine zW ?_); (try with_reducible exact True.intro))
  (refine at_dcall0 ?_; (refine zW ?_; try with_reducible exact True.intro); refine callA_of (CloneI0_spec) zB ?_; ((try refine zW ?_); (try with_reducible exact True.intro)))
  ((try refine zW ?_); (try with_reducible exact True.intro))
  (refine at_dcall ?_; (refine zW ?_; try with_reducible exact True.intro); refine callA_of (ownM_spec _ h4 h2) zB ?_; ((try refine zW ?_); (try with_reducible exact True.intro)))
  ((try refine zW ?_); (try with_reducible exact True.intro))
  (refine at_dg ?_; (refine zW ?_; try with_reducible exact True.intro); refine callG_of [] (ownF_blk p.out h5 h3 hc) zU ?_; ((try refine zW ?_); (try with_reducible exact True.intro)))
  (try simp (maxSteps := 2000000) (disch := omega) only [go_sem, simprocAttr, if_pos, if_neg, w64, beqT, beqF, bneT, bneF, pr_get, ir_get, decide_eq_true, decide_eq_false, look_famo])
  refine ⟨?_, ?_⟩
  · have hw : ∀ b ∈ List.map (fun x : Nat × IBlk => x.fst) ((enumB 3 (famB 1 eI (freshF p.out))).reverse ++ [(2, IBlk.arr 1 p.out.length (refsR 3 (freshF p.out)))]), ¬ b = 0 := fam_ne (by decide) (by decide)
    generalize List.map (fun x : Nat × IBlk => x.fst) ((enumB 3 (famB 1 eI (freshF p.out))).reverse ++ [(2, IBlk.arr 1 p.out.length (refsR 3 (freshF p.out)))]) = w at hw ⊢
    cases w with
    | nil => trivial
    | cons b w => exact ⟨hw b (by simp), fun a ha => hw a (by simp [ha])⟩
  · refine EndG_shift 2 (.inr rfl) (Nat.zero_le _) (by ((try refine zW ?_); (try with_reducible exact True.intro))) (by ((try refine zW ?_); (try with_reducible exact True.intro)); omega) (ownF_low _ hc rfl) ?_ ?_
    · ((try refine zO ?_); (try with_reducible exact True.intro))
      refine allSeen_famc fun i hi => ?_
      (try simp (maxSteps := 2000000) (disch := omega) only [go_sem, simprocAttr, if_pos, if_neg, w64, beqT, beqF, bneT, bneF, pr_get, ir_get, decide_eq_true, decide_eq_false, look_fam])
    · ((try refine zW ?_); (try with_reducible exact True.intro))
theorem hownF_blk (h : Hs) (hg : gHs h) {c : Nat} (hc : c = 1 + h.out.length) : PG Tryz.prog 62 [lHs h] [] c
    (.agg [sci .i64 h.node, sci .i64 h.state, sci .i64 h.steps, lMs h.inn, .ref 0 h.out.length 0 h.out.length])
    ((0, .arr 1 h.out.length (refsR 1 (freshF h.out))) :: enumB 1 (famB 1 eI (freshF h.out))) := by
  
  refine pg_of 200 (fn := Tryz.f62) Tryz.func62 rfl (by simp [Tryz.ntmps62]) 0 rfl (by ((try refine zW ?_); (try with_reducible exact True.intro))) (by ((try refine zW ?_); (try with_reducible exact True.intro))) (ownF_low _ hc rfl) (ownF_has _ hc) (by ((try refine zW ?_); (try with_reducible exact True.intro)); omega) fun hs => ?_
  ((try refine zW ?_); (try with_reducible exact True.intro))
  (refine at_call 200 ?_; (refine zW ?_; try with_reducible exact True.intro); refine callA_of (told_spec h) zB ?_; ((try refine zW ?_); (try with_reducible exact True.intro)))
  ((try refine zW ?_); (try with_reducible exact True.intro))
  (refine at_gr 200 ?_; (refine zW ?_; try with_reducible exact True.intro); refine callG_of [] (OwnF_blk h hg hc) zU ?_; ((try refine zW ?_); (try with_reducible exact True.intro)))
  (try simp (maxSteps := 2000000) (disch := omega) only [go_sem, simprocAttr, if_pos, if_neg, w64, beqT, beqF, bneT, bneF, pr_get, ir_get, decide_eq_true, decide_eq_false, look_famo])
  refine EndG_shift 2 (.inr rfl) (Nat.zero_le _) (by ((try refine zW ?_); (try with_reducible exact True.intro))) (by ((try refine zW ?_); (try with_reducible exact True.intro)); omega) (ownF_low _ hc rfl) ?_ ?_
  · (try simp (maxSteps := 2000000) (disch := omega) only [go_sem, simprocAttr, if_pos, if_neg, w64, beqT, beqF, bneT, bneF, pr_get, ir_get, decide_eq_true, decide_eq_false, look_famo])
    refine allSeen_famc fun i hi => ?_
    have hi' := hi
    rw [freshF_len] at hi'
    (try simp (maxSteps := 2000000) (disch := omega) only [go_sem, simprocAttr, if_pos, if_neg, w64, beqT, beqF, bneT, bneF, pr_get, ir_get, decide_eq_true, decide_eq_false, look_fam])
  · ((try refine zW ?_); (try with_reducible exact True.intro))
end Go.Proofs.HO
