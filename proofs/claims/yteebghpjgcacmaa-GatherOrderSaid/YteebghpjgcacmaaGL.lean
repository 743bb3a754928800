/- Pieces merged. -/
import Derived.Test.YteebghpjgcacmaaGK
set_option linter.unusedSimpArgs false
set_option linter.unusedVariables false
namespace Go.Proofs.GR
open Go Go.Idl Go.Proofs Go.GN
set_option maxHeartbeats 20000000
set_option maxRecDepth 100000
/-- What merging answers: the pieces, what is wrong. -/
def mrg (a b : List Pc) : List Pc × Int := match merge Pc.node a b with
  | some s => (s, 0)
  | none => ([], 4)
theorem mrg_same {a b s : List Pc} (hs : s = stableL (a ++ b)) {k : Nat} (h : k + 1 < s.length) (e : s[k].node = s[k + 1].node) : mrg a b = ([], 4) := by
  unfold mrg
  cases hm : merge Pc.node a b with
  | none => rfl
  | some t =>
    exfalso
    obtain ⟨p, r⟩ := (merge_some Pc.node).1 hm
    have nd : (t.map Pc.node).Nodup := by
      rw [List.nodup_iff_pairwise_ne, List.pairwise_map]
      exact r.imp fun h => by omega
    have ps : s.Perm (a ++ b) := by rw [hs]; exact stableL_perm _
    have nd2 : (s.map Pc.node).Nodup := ((p.trans ps.symm).map Pc.node).nodup_iff.1 nd
    rw [List.nodup_iff_pairwise_ne, List.pairwise_map] at nd2
    exact List.pairwise_iff_getElem.1 nd2 k (k + 1) (by omega) h (by omega) e
theorem untwin : ∀ {s : List Pc}, (∀ k (h : k + 1 < s.length), s[k].node ≠ s[k + 1].node) → twins Pc.node s = false
  | [], _ => rfl
  | [_], _ => rfl
  | x :: y :: r, h => by
    unfold twins
    rw [Bool.or_eq_false_iff, decide_eq_false_iff_not]
    exact ⟨h 0 (by simp), untwin fun k hk => h (k + 1) (by simpa using hk)⟩
theorem mrg_unlike {a b s : List Pc} (hs : s = stableL (a ++ b)) (h : ∀ k (h : k + 1 < s.length), s[k].node ≠ s[k + 1].node) : mrg a b = (s, 0) := by
  have : merge Pc.node a b = some s := by
    refine (merge_some Pc.node).2 ⟨by rw [hs]; exact stableL_perm _, ?_⟩
    exact rising_of_up Pc.node (by rw [hs]; exact stableL_up _) (untwin h)
  unfold mrg
  rw [this]
theorem Merge_spec (a b : List Pc) (ha : ∀ p ∈ a, gPc p) (hb : ∀ p ∈ b, gPc p) (hn : a.length + b.length < 40) :
    Pure Try.prog 6 [lPs a, lPs b] (.tup [lPs (mrg a b).1, sci .i64 (mrg a b).2]) := by
  obtain ⟨s, hs⟩ : ∃ s, s = stableL (a ++ b) := ⟨_, rfl⟩
  have same := @mrg_same a b s hs
  have unl := @mrg_unlike a b s hs
  have hl : s.length = (a ++ b).length := by rw [hs]; exact (stableL_perm _).length_eq
  have hab : (a ++ b).length = a.length + b.length := List.length_append
  have sp := fun g => sort_spec g (a ++ b) (by omega)
  rw [← hs] at sp
  clear hs
  generalize hr : mrg a b = res at *
  
  refine pcall0 200 (fn := Try.f6) Try.func6 rfl (by simp [Try.ntmps6]) zB zB fun hs => ?_
  ((try refine zW ?_); (try with_reducible exact True.intro))
  (refine at_call 200 ?_; (refine zW ?_; try with_reducible exact True.intro); refine callA_of (told_spec a ha (by omega)) zB ?_; ((try refine zW ?_); (try with_reducible exact True.intro)))
  ((try refine zW ?_); (try with_reducible exact True.intro))
  (refine at_call 200 ?_; (refine zW ?_; try with_reducible exact True.intro); refine callA_of (told_spec b hb (by omega)) zB ?_; ((try refine zW ?_); (try with_reducible exact True.intro)))
  ((try refine zW ?_); (try with_reducible exact True.intro))
  rcases Nat.eq_zero_or_pos (a.length + b.length) with h0 | h0
  · have ea : a = [] := List.eq_nil_of_length_eq_zero (by omega)
    have eb : b = [] := List.eq_nil_of_length_eq_zero (by omega)
    subst ea eb
    have es : s = [] := List.eq_nil_of_length_eq_zero (by rw [hl]; rfl)
    subst es
    have er : res = ([], 0) := unl (fun k h => by simp at h)
    subst er
    have sp0 := sp 1
    simp only [List.append_nil, List.length_nil] at sp0
    (refine at_g 200 ?_; (refine zW ?_; try with_reducible exact True.intro); refine callG_of [] (Concat0_spec) zU ?_; ((try refine zW ?_); (try with_reducible exact True.intro)))
    ((try refine zO ?_); (try with_reducible exact True.intro))
    (refine at_g 200 ?_; (refine zW ?_; try with_reducible exact True.intro); refine callG_of [0] (sp0) (by simp (maxSteps := 2000000) (disch := omega) only [go_sem, simprocAttr, if_pos, if_neg, w64, beqT, beqF, bneT, bneF, pr_get, ir_get, decide_eq_true, decide_eq_false, cmpF]) ?_; ((try refine zW ?_); (try with_reducible exact True.intro)))
    ((try refine zO ?_); (try with_reducible exact True.intro))
    (refine walk_trim [6, 17, 18, 19] trivial zL ?_; ((try refine zW ?_); (try with_reducible exact True.intro)))
    refine walk_floop 200 200 (fun i : Nat => i = 0) (fun i => ⟨39, [(6, .ref 0 1 0 0), (17, .ref 0 1 0 0), (18, sci .i64 0), (19, sci .i64 0)], [], 1, [(0, pB 1 [])]⟩) (fun i => i) 0 [] rfl ?_ ?_
    · constructor <;> ((try refine zO ?_); (try with_reducible exact True.intro))
    · rintro i rfl
      ((try refine zO ?_); (try with_reducible exact True.intro))
  · (refine at_g 200 ?_; (refine zW ?_; try with_reducible exact True.intro); refine callG_of [] (Concat_spec a b (by omega) (by omega)) zU ?_; ((try refine zW ?_); (try with_reducible exact True.intro)))
    ((try refine zO ?_); (try with_reducible exact True.intro))
    (refine at_g 200 ?_; (refine zW ?_; try with_reducible exact True.intro); refine callG_of [0] (sp 2) (by simp (maxSteps := 2000000) (disch := omega) only [go_sem, simprocAttr, if_pos, if_neg, w64, beqT, beqF, bneT, bneF, pr_get, ir_get, decide_eq_true, decide_eq_false, cmpF]) ?_; ((try refine zW ?_); (try with_reducible exact True.intro)))
    ((try refine zO ?_); (try with_reducible exact True.intro))
    (refine walk_trim [6, 17, 18, 19] trivial zL ?_; ((try refine zW ?_); (try with_reducible exact True.intro)))
    refine walk_floop 200 200 (fun i : Nat => i ≤ s.length ∧ ∀ k (h : k + 1 < s.length), k + 1 < i → s[k].node ≠ s[k + 1].node)
      (fun i => ⟨39, [(6, .ref 0 2 0 s.length), (17, .ref 0 2 0 s.length), (18, sci .i64 (s.length : Int)), (19, sci .i64 (i : Int))], [], 1, [(0, pB 2 s)]⟩) (fun i => s.length - i) 0 [] ⟨Nat.zero_le _, fun k h h2 => by omega⟩ ?_ ?_
    · constructor <;> (try simp (maxSteps := 2000000) (disch := omega) only [go_sem, simprocAttr, if_pos, if_neg, w64, beqT, beqF, bneT, bneF, pr_get, ir_get, decide_eq_true, decide_eq_false, Int.natCast_zero, hl, hab, Int.natCast_add])
    · rintro i ⟨hi, hk⟩
      ((try refine zW ?_); (try with_reducible exact True.intro))
      by_cases li : i < s.length
      · have gi : (ir ePc s)[i]? = some ((ePc s[i]).map .p) := ir_get' (List.getElem?_eq_getElem li)
        cases i with
        | zero =>
          (try simp (maxSteps := 2000000) (disch := omega) only [go_sem, simprocAttr, if_pos, if_neg, w64, beqT, beqF, bneT, bneF, pr_get, ir_get, decide_eq_true, decide_eq_false, gi, ePc, Int.natCast_zero])
          (refine walk_trim [6, 7, 8, 17, 18, 19] trivial zL ?_; (refine zW ?_; try with_reducible exact True.intro); refine irun_walk (id := 6) (n := 200) [none, none, none, none, none, none, none, none, none, none, none, none, none] mixed (by kernel_rfl) ?_)
          (try simp (maxSteps := 2000000) (disch := omega) only [go_sem, simprocAttr, if_pos, if_neg, w64, beqT, beqF, bneT, bneF, pr_get, ir_get, decide_eq_true, decide_eq_false, ePc, Int.natCast_zero])
          refine ⟨1, [1], ⟨by omega, fun k h h2 => by omega⟩, by omega, ?_⟩
          constructor <;> (try simp (maxSteps := 2000000) (disch := omega) only [go_sem, simprocAttr, if_pos, if_neg, w64, beqT, beqF, bneT, bneF, pr_get, ir_get, decide_eq_true, decide_eq_false, Int.natCast_one])
        | succ i =>
          have li2 : i < s.length := by omega
          have gi2 : (ir ePc s)[i]? = some ((ePc s[i]).map .p) := ir_get' (List.getElem?_eq_getElem li2)
          have tn : ((i : Int) + 1).toNat = i + 1 := rfl
          (try simp (maxSteps := 2000000) (disch := omega) only [go_sem, simprocAttr, if_pos, if_neg, w64, beqT, beqF, bneT, bneF, pr_get, ir_get, decide_eq_true, decide_eq_false, gi, ePc, tn])
          (refine walk_trim [6, 7, 8, 17, 18, 19] trivial zL ?_; (refine zW ?_; try with_reducible exact True.intro); refine irun_walk (id := 6) (n := 200) [none, none, none, none, none, none, none, none, none, none, none, none, none] mixed (by kernel_rfl) ?_)
          (try simp (maxSteps := 2000000) (disch := omega) only [go_sem, simprocAttr, if_pos, if_neg, w64, beqT, beqF, bneT, bneF, pr_get, ir_get, decide_eq_true, decide_eq_false, gi2, ePc, Int.add_sub_cancel, tn])
          by_cases hc : s[i + 1].node = s[i].node
          · have er := same (k := i) li hc.symm
            subst er
            (try simp (maxSteps := 2000000) (disch := omega) only [go_sem, simprocAttr, if_pos, if_neg, w64, beqT, beqF, bneT, bneF, pr_get, ir_get, decide_eq_true, decide_eq_false, hc])
          · have hc2 : (s[i + 1].node == s[i].node) = false := by rw [beq_eq_false_iff_ne]; exact hc
            (try simp (maxSteps := 2000000) (disch := omega) only [go_sem, simprocAttr, if_pos, if_neg, w64, beqT, beqF, bneT, bneF, pr_get, ir_get, decide_eq_true, decide_eq_false, hc2])
            refine ⟨i + 1 + 1, [1], ⟨by omega, fun k h h2 => ?_⟩, by omega, ?_⟩
            · by_cases e : k = i
              · subst e; exact fun q => hc q.symm
              · exact hk k h (by omega)
            · constructor <;> (try simp (maxSteps := 2000000) (disch := omega) only [go_sem, simprocAttr, if_pos, if_neg, w64, beqT, beqF, bneT, bneF, pr_get, ir_get, decide_eq_true, decide_eq_false, Int.natCast_add, Int.natCast_one])
              all_goals omega
      · have er := unl fun k h => hk k h (by omega)
        subst er
        ((try refine zO ?_); (try with_reducible exact True.intro))
end Go.Proofs.GR
