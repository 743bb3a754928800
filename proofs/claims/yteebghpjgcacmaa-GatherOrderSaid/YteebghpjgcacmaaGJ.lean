/- The stable sort of pieces. -/
import Derived.Test.YteebghpjgcacmaaGI
set_option linter.unusedSimpArgs false
set_option linter.unusedVariables false
namespace Go.Proofs.GR
open Go Go.Idl Go.Proofs Go.GN
set_option maxHeartbeats 20000000
set_option maxRecDepth 100000
theorem sinkA_mid {α : Type} (lt : α → α → Bool) (P S : List α) : ∀ (d : Nat) (Q : List α), d < Q.length → sinkA lt P.length d (P ++ Q ++ S) = P ++ sink lt d Q ++ S
  | 0, Q, _ => rfl
  | d + 1, Q, h => by
    have g1 : (P ++ Q ++ S)[P.length + d + 1]? = some Q[d + 1] := by
      rw [List.append_assoc, List.getElem?_append_right (by omega), show P.length + d + 1 - P.length = d + 1 by omega, List.getElem?_append_left h, List.getElem?_eq_getElem h]
    have g0 : (P ++ Q ++ S)[P.length + d]? = some Q[d] := by
      rw [List.append_assoc, List.getElem?_append_right (by omega), show P.length + d - P.length = d by omega, List.getElem?_append_left (by omega), List.getElem?_eq_getElem (by omega)]
    have e : ∀ x y, swp (P ++ Q ++ S) (P.length + d) x y = P ++ swp Q d x y ++ S := by
      intro x y
      unfold swp
      rw [List.append_assoc, List.set_append_right _ _ (by omega), show P.length + d + 1 - P.length = d + 1 by omega, List.set_append_left _ _ h,
        List.set_append_right _ _ (by omega), show P.length + d - P.length = d by omega, List.set_append_left _ _ (by rw [List.length_set]; omega), ← List.append_assoc]
    rw [sinkA, g1, g0, sink, List.getElem?_eq_getElem h, List.getElem?_eq_getElem (show d < Q.length by omega)]
    simp only
    split
    · rw [e, sinkA_mid lt P S d _ (by rw [swp_len]; omega)]
    · rfl
theorem insA_mid {α : Type} (lt : α → α → Bool) (P S : List α) : ∀ (f d : Nat) (Q : List α), d + f ≤ Q.length → insA lt P.length f d (P ++ Q ++ S) = P ++ ins lt f d Q ++ S
  | 0, d, Q, _ => rfl
  | f + 1, d, Q, h => by
    rw [insA, sinkA_mid lt P S d Q (by omega), insA_mid lt P S f (d + 1) _ (by rw [sink_len]; omega), ins]
theorem insA_sort (P Q S : List Pc) (b : Nat) (hb : P.length + Q.length = b) : insA ltP P.length (b - (P.length + 1)) 1 (P ++ Q ++ S) = P ++ sortL ltP Q ++ S := by
  rcases Nat.eq_zero_or_pos Q.length with h0 | h0
  · have : Q = [] := List.eq_nil_of_length_eq_zero h0
    subst this
    rw [show b - (P.length + 1) = 0 by omega]; rfl
  · rw [show b - (P.length + 1) = Q.length - 1 by omega, insA_mid ltP P S (Q.length - 1) 1 Q (by omega)]; rfl
def stableL (l : List Pc) : List Pc := if l.length ≤ 20 then sortL ltP l else List.merge (sortL ltP (l.take 20)) (sortL ltP (l.drop 20)) leP
theorem sort_up (l : List Pc) : Up (sortL ltP l) := sortL_up Pc.node l
theorem sort_perm (l : List Pc) : (sortL ltP l).Perm l := sortL_perm Pc.node l
theorem stableL_perm (l : List Pc) : (stableL l).Perm l := by
  unfold stableL
  split
  · exact sort_perm l
  · refine (List.merge_perm_append (le := leP)).trans ?_
    have := (sort_perm (l.take 20)).append (sort_perm (l.drop 20))
    rwa [List.take_append_drop] at this
theorem stableL_up (l : List Pc) : Up (stableL l) := by
  unfold stableL
  split
  · exact sort_up l
  · have key : ∀ {m : List Pc}, Up m ↔ m.Pairwise (fun x y => leP x y = true) := by
      intro m
      unfold Up leP
      simp only [decide_eq_true_eq]
    rw [key]
    refine List.pairwise_merge (fun a b c h1 h2 => ?_) (fun a b => ?_) _ _ (key.1 (sort_up _)) (key.1 (sort_up _))
    · unfold leP at *; simp only [decide_eq_true_eq] at *; omega
    · unfold leP; simp only [Bool.or_eq_true, decide_eq_true_eq]; omega
theorem insertion0_spec (g a : Nat) (l : List Pc) (hb : a ≤ l.length) (hn : l.length < 1000) :
    PG Try.prog 50 [.ref 0 g 0 l.length, sci .i64 (a : Int), sci .i64 (a : Int), cmpF] [pB g l] 0 (.tup []) [(0, pB g l)] := by
  have := insertion_spec g a a l (Nat.le_refl _) hb hn
  rw [show a - (a + 1) = 0 by omega] at this
  exact this
theorem stable_spec (g : Nat) (l : List Pc) (hn : l.length < 40) :
    PG Try.prog 30 [.ref 0 g 0 l.length, sci .i64 (l.length : Int), cmpF] [pB g l] 0 (.tup []) [(0, pB g (stableL l))] := by
  generalize hres : stableL l = res
  rcases Nat.lt_or_ge l.length 20 with h20 | h20
  · have sp := insertion_spec g 0 l.length l (by omega) (Nat.le_refl _) (by omega)
    have e := insA_sort [] l [] l.length (by simp)
    simp only [List.nil_append, List.append_nil, List.length_nil] at e
    unfold stableL at hres
    rw [if_pos (by omega), ← e] at hres
    rw [hres] at sp
    
    refine pg_of 200 (fn := Try.f30) Try.func30 rfl (by simp [Try.ntmps30]) 1 rfl zC zC zC zC zC fun hs => ?_
    ((try refine zW ?_); (try with_reducible exact True.intro))
    refine walk_loop 200 200 (fun i : Nat => i = 0) (fun i => ⟨63, [(0, .ref 0 g 0 l.length), (1, sci .i64 (l.length : Int)), (2, cmpF), (6, sci .i64 20), (7, sci .i64 0), (8, sci .i64 20)], [], 1, [(0, pB g l)]⟩) (fun i => i) 0 rfl ?_ ?_
    · constructor <;> ((try refine zO ?_); (try with_reducible exact True.intro))
    · rintro i rfl
      have c1 : ¬ (20 : Int) ≤ (l.length : Int) := by omega
      (try simp (maxSteps := 2000000) (disch := omega) only [go_sem, simprocAttr, if_pos, if_neg, w64, beqT, beqF, bneT, bneF, pr_get, ir_get, decide_eq_true, decide_eq_false, c1])
      (refine at_g 200 ?_; (refine zW ?_; try with_reducible exact True.intro); refine callG_of [0] (sp) (by simp (maxSteps := 2000000) (disch := omega) only [go_sem, simprocAttr, if_pos, if_neg, w64, beqT, beqF, bneT, bneF, pr_get, ir_get, decide_eq_true, decide_eq_false, cmpF, Int.natCast_zero]) ?_; ((try refine zW ?_); (try with_reducible exact True.intro)))
      ((try refine zW ?_); (try with_reducible exact True.intro))
      refine walk_loop 200 200 (fun i : Nat => i = 0) (fun i => ⟨63, [(0, .ref 0 g 0 l.length), (1, sci .i64 (l.length : Int)), (2, cmpF), (6, sci .i64 20)], [], 1, [(0, pB g res)]⟩) (fun i => i) 0 rfl ?_ ?_
      · constructor <;> ((try refine zO ?_); (try with_reducible exact True.intro))
      · rintro i rfl
        have c2 : ¬ (20 : Int) < (l.length : Int) := by omega
        (try simp (maxSteps := 2000000) (disch := omega) only [go_sem, simprocAttr, if_pos, if_neg, w64, beqT, beqF, bneT, bneF, pr_get, ir_get, decide_eq_true, decide_eq_false, c2])
  · obtain ⟨Q, S, rfl, hQ⟩ : ∃ Q S, l = Q ++ S ∧ Q.length = 20 := ⟨l.take 20, l.drop 20, (List.take_append_drop ..).symm, by rw [List.length_take]; omega⟩
    have hnl : (Q ++ S).length = 20 + S.length := by rw [List.length_append, hQ]
    have sp1 := insertion_spec g 0 20 (Q ++ S) (by omega) (by omega) (by omega)
    have e1 := insA_sort [] Q S 20 (by simpa using hQ)
    simp only [List.nil_append, List.length_nil] at e1
    rw [e1] at sp1
    have hl1 : (sortL ltP Q ++ S).length = (Q ++ S).length := by rw [List.length_append, sortL_len, List.length_append]
    have hl2 : (sortL ltP Q ++ sortL ltP S).length = (Q ++ S).length := by rw [List.length_append, sortL_len, sortL_len, List.length_append]
    have sp2 := insertion_spec g 20 (20 + S.length) (sortL ltP Q ++ S) (by omega) (by omega) (by omega)
    have e2 := insA_sort (sortL ltP Q) S [] (20 + S.length) (by rw [sortL_len, hQ])
    rw [sortL_len, hQ, List.append_nil, List.append_nil] at e2
    rw [e2, hl1] at sp2
    have sp3 : 1 ≤ S.length → PG Try.prog 51 [.ref 0 g 0 (Q ++ S).length, sci .i64 0, sci .i64 20, sci .i64 ((20 + S.length : Nat) : Int), cmpF] [pB g (sortL ltP Q ++ sortL ltP S)] 0 (.tup []) [(0, pB g res)] := by
      intro h1
      have sp := sym_spec g 1000 [] (sortL ltP Q) (sortL ltP S) [] (by rw [sortL_len, sortL_len]; omega) (by rw [sortL_len]; omega) (by rw [sortL_len]; omega) (sort_up _) (sort_up _) (by simp only [List.nil_append, List.append_nil]; omega)
      unfold symPG at sp
      simp only [List.nil_append, List.append_nil, List.length_nil, Nat.zero_add] at sp
      rw [hl2, sortL_len, sortL_len, hQ] at sp
      have : List.merge (sortL ltP Q) (sortL ltP S) leP = res := by
        rw [← hres]
        unfold stableL
        rw [if_neg (by omega), List.take_left' hQ, List.drop_left' hQ]
      rw [this] at sp
      exact sp
    have z0 : S.length = 0 → sortL ltP Q ++ sortL ltP S = res := by
      intro h0
      have : S = [] := List.eq_nil_of_length_eq_zero h0
      subst this
      rw [← hres]
      unfold stableL
      rw [if_pos (by simp [hQ])]
      simp [sortL, ins]
    generalize hl : Q ++ S = l at *
    generalize sortL ltP Q ++ S = l1 at *
    generalize sortL ltP Q ++ sortL ltP S = l2 at *
    generalize hk : S.length = k at *
    have hnl' : (l.length : Int) = ((20 + k : Nat) : Int) := by omega
    have hk40 : k < 20 := by omega
    clear hres e1 e2 hl hQ
    
    refine pg_of 200 (fn := Try.f30) Try.func30 rfl (by simp [Try.ntmps30]) 1 rfl zC zC zC zC zC fun hs => ?_
    ((try refine zW ?_); (try with_reducible exact True.intro))
    refine walk_loop 200 200 (fun i : Nat => i ≤ 1) (fun i => ⟨63, [(0, .ref 0 g 0 l.length), (1, sci .i64 (l.length : Int)), (2, cmpF), (6, sci .i64 20), (7, sci .i64 (if i = 0 then 0 else 20)), (8, sci .i64 (if i = 0 then 20 else 40))], [], 1, [(0, pB g (if i = 0 then l else l1))]⟩) (fun i => 1 - i) 0 (by omega) ?_ ?_
    · constructor <;> ((try refine zO ?_); (try with_reducible exact True.intro))
    · intro i hi
      have : i = 0 ∨ i = 1 := by omega
      rcases this with rfl | rfl
      · have c1 : (20 : Int) ≤ (l.length : Int) := by omega
        (try simp (maxSteps := 2000000) (disch := omega) only [go_sem, simprocAttr, if_pos, if_neg, w64, beqT, beqF, bneT, bneF, pr_get, ir_get, decide_eq_true, decide_eq_false, c1])
        (refine at_g 200 ?_; (refine zW ?_; try with_reducible exact True.intro); refine callG_of [0] (sp1) (by simp (maxSteps := 2000000) (disch := omega) only [go_sem, simprocAttr, if_pos, if_neg, w64, beqT, beqF, bneT, bneF, pr_get, ir_get, decide_eq_true, decide_eq_false, cmpF, Int.natCast_zero]) ?_; ((try refine zW ?_); (try with_reducible exact True.intro)))
        ((try refine zO ?_); (try with_reducible exact True.intro))
        refine ⟨1, by omega, by omega, ?_⟩
        constructor <;> ((try refine zO ?_); (try with_reducible exact True.intro))
      · have c1 : ¬ (40 : Int) ≤ (l.length : Int) := by omega
        (try simp (maxSteps := 2000000) (disch := omega) only [go_sem, simprocAttr, if_pos, if_neg, w64, beqT, beqF, bneT, bneF, pr_get, ir_get, decide_eq_true, decide_eq_false, c1])
        (refine at_g 200 ?_; (refine zW ?_; try with_reducible exact True.intro); refine callG_of [0] (sp2) (by simp (maxSteps := 2000000) (disch := omega) only [go_sem, simprocAttr, if_pos, if_neg, w64, beqT, beqF, bneT, bneF, pr_get, ir_get, decide_eq_true, decide_eq_false, cmpF, hnl']) ?_; ((try refine zW ?_); (try with_reducible exact True.intro)))
        ((try refine zO ?_); (try with_reducible exact True.intro))
        refine walk_loop 200 200 (fun i : Nat => i ≤ 1) (fun i => ⟨63, [(0, .ref 0 g 0 l.length), (1, sci .i64 (l.length : Int)), (2, cmpF), (6, sci .i64 (if i = 0 then 20 else 40))], [], 1, [(0, pB g (if i = 0 then l2 else res))]⟩) (fun i => 1 - i) 0 (by omega) ?_ ?_
        · constructor <;> ((try refine zO ?_); (try with_reducible exact True.intro))
        · intro i hi1
          have : i = 0 ∨ i = 1 := by omega
          rcases this with rfl | rfl
          · rcases Nat.eq_zero_or_pos k with h0 | h0
            · have c2 : ¬ (20 : Int) < (l.length : Int) := by omega
              have e2 := z0 h0
              subst e2
              (try simp (maxSteps := 2000000) (disch := omega) only [go_sem, simprocAttr, if_pos, if_neg, w64, beqT, beqF, bneT, bneF, pr_get, ir_get, decide_eq_true, decide_eq_false, c2])
            · have c2 : (20 : Int) < (l.length : Int) := by omega
              have sp := sp3 h0
              (try simp (maxSteps := 2000000) (disch := omega) only [go_sem, simprocAttr, if_pos, if_neg, w64, beqT, beqF, bneT, bneF, pr_get, ir_get, decide_eq_true, decide_eq_false, c2])
              refine walk_loop 200 200 (fun i : Nat => i = 0) (fun i => ⟨63, [(0, .ref 0 g 0 l.length), (1, sci .i64 (l.length : Int)), (2, cmpF), (6, sci .i64 20), (7, sci .i64 0), (8, sci .i64 40)], [], 1, [(0, pB g l2)]⟩) (fun i => i) 0 rfl ?_ ?_
              · constructor <;> ((try refine zO ?_); (try with_reducible exact True.intro))
              · rintro i rfl
                (try simp (maxSteps := 2000000) (disch := omega) only [go_sem, simprocAttr, if_pos, if_neg, w64, beqT, beqF, bneT, bneF, pr_get, ir_get, decide_eq_true, decide_eq_false, c1])
                (try simp (maxSteps := 2000000) (disch := omega) only [go_sem, simprocAttr, if_pos, if_neg, w64, beqT, beqF, bneT, bneF, pr_get, ir_get, decide_eq_true, decide_eq_false, c2])
                (refine at_g 200 ?_; (refine zW ?_; try with_reducible exact True.intro); refine callG_of [0] (sp) (by simp (maxSteps := 2000000) (disch := omega) only [go_sem, simprocAttr, if_pos, if_neg, w64, beqT, beqF, bneT, bneF, pr_get, ir_get, decide_eq_true, decide_eq_false, cmpF, hnl']) ?_; ((try refine zW ?_); (try with_reducible exact True.intro)))
                ((try refine zO ?_); (try with_reducible exact True.intro))
                refine ⟨1, by omega, by omega, ?_⟩
                constructor <;> ((try refine zO ?_); (try with_reducible exact True.intro))
          · have c2 : ¬ (40 : Int) < (l.length : Int) := by omega
            (try simp (maxSteps := 2000000) (disch := omega) only [go_sem, simprocAttr, if_pos, if_neg, w64, beqT, beqF, bneT, bneF, pr_get, ir_get, decide_eq_true, decide_eq_false, c2])
theorem sort_spec (g : Nat) (l : List Pc) (hn : l.length < 40) :
    PG Try.prog 14 [.ref 0 g 0 l.length, cmpF] [pB g l] 0 (.tup []) [(0, pB g (stableL l))] := by
  refine pg_of 200 (fn := Try.f14) Try.func14 rfl (by simp [Try.ntmps14]) 1 rfl zC zC zC zC zC fun hs => ?_
  ((try refine zW ?_); (try with_reducible exact True.intro))
  (refine at_g 200 ?_; (refine zW ?_; try with_reducible exact True.intro); refine callG_of [0] (stable_spec g l hn) (by simp (disch := omega) only [go_sem, simprocAttr, if_pos, if_neg, w64, beqT, beqF, bneT, bneF, pr_get, ir_get, decide_eq_true, decide_eq_false, cmpF]) ?_; ((try refine zW ?_); (try with_reducible exact True.intro)))
end Go.Proofs.GR
