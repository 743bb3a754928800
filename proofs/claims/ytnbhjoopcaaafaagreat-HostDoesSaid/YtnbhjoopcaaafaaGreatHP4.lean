/- What a host tells without logs. -/
import Derived.Test.YtnbhjoopcaaafaaGreatHP2
set_option linter.unusedSimpArgs false
set_option linter.unusedVariables false
namespace Go.Proofs.HO
open Go Go.Idl Go.Proofs
set_option maxHeartbeats 20000000
set_option maxRecDepth 100000
theorem pvs2_rep0 : ∀ n : Nat, pvs2 (List.replicate n [nil0]) = some (List.replicate n [.sc (.slice none 0 0)])
 | 0 => rfl
 | n + 1 => by simp only [List.replicate_succ, pvs2, pvs, pvs2_rep0 n]; rfl
theorem pvs2_rep (n : Nat) : pvs2 (List.take n (List.replicate n [nil0])) = some (List.replicate n [.sc (.slice none 0 0)]) := by
 rw [List.take_of_length_le (by simp), pvs2_rep0]
theorem PieceF_spec (h : Hs) (hg : gHs h) : Pure Tryz.prog 31 [lHs h, scb false] (.agg [sci .i64 h.node, sci .i64 h.state, sci .i64 h.steps, lI (h.out.map fun l => (l.length : Int)), .p (.imm 1 (List.replicate h.inn.length [.sc (.slice none 0 0)])), nil0]) := by
 have hg2 := hg
 obtain ⟨node, state, steps, inn, out⟩ := h
 obtain ⟨h2, h3, h4, h5⟩ := hg
 simp only at h2 h3 h4 h5
 refine pcall0 200 (fn := Tryz.f31) Tryz.func31 rfl (by simp [Tryz.ntmps31]) zB zB fun hs => ?_
 ((try refine zW ?_); (try with_reducible exact True.intro))
 (refine at_call 200 ?_; (refine zW ?_; try with_reducible exact True.intro); refine callA_of (told_spec ⟨node, state, steps, inn, out⟩) zB ?_; ((try refine zW ?_); (try with_reducible exact True.intro)))
 ((try refine zW ?_); (try with_reducible exact True.intro))
 (refine at_call0 200 ?_; (refine zW ?_; try with_reducible exact True.intro); refine callA_of (Own0_spec ⟨node, state, steps, inn, out⟩ hg2) zB ?_; ((try refine zW ?_); (try with_reducible exact True.intro)))
 ((try refine zO ?_); (try with_reducible exact True.intro))
 refine walk_ownB 2 0 3 1 trivial rfl rfl rfl (.inr rfl) ?_
 simp only [List.set_cons_zero, List.set_cons_succ, Nat.reduceAdd]
 obtain ⟨X, hX⟩ : ∃ X : List Int, X = out.map fun l => (l.length : Int) := ⟨_, rfl⟩
 have hXl : X.length = out.length := by rw [hX, List.length_map]
 have hXs : ∀ (i : Nat) (li : i < out.length), X.take (i + 1) = X.take i ++ [(out[i].length : Int)] := fun i li => by
  rw [hX, List.take_succ_eq_append_getElem (by rw [List.length_map]; exact li), List.getElem_map]
 rw [← hX]
 clear hX
 (refine walk_trim [4, 5, 20, 21, 22, 71] trivial zL ?_; ((try refine zW ?_); (try with_reducible exact True.intro)))
 refine walk_floop 200 200 (fun i : Nat × Nat => i.1 ≤ out.length)
  (fun i => ⟨35, [(4, .ptr 1 0 0 0), (5, .ptr 2 0 0 0), (20, lLs out), (21, sci .i64 out.length), (22, sci .i64 i.1)], [], 5, [(4, .arr 1 i.2 (ir eI (X.take i.1))), (3, .arr 1 0 (List.replicate inn.length [nil0])), (2, .arr 6 0 [[sci .i64 node, sci .i64 state, sci .i64 steps, .ref 4 i.2 0 i.1, .ref 3 0 0 inn.length, nil0]]), (1, .arr 6 0 [[sci .i64 0, sci .i64 0, sci .i64 0, nil0, nil0, nil0]]), (0, .arr 5 0 [[sci .i64 node, sci .i64 state, sci .i64 steps, lMs inn, lLs out]])]⟩) (fun i => out.length - i.1) (0, 0) [] ?_ ?_ ?_
 ·simp
 ·constructor <;> (try simp (maxSteps := 2000000) (disch := omega) only [go_sem, simprocAttr, zD, zE, Int.natCast_zero, List.take_of_length_le, List.append_assoc, List.take_zero])
 ·rintro ⟨i, g⟩ hi
  simp only at hi
  ((try refine zW ?_); (try with_reducible exact True.intro))
  by_cases li : i < out.length
  ·have hl5 := h5 out[i] (List.getElem_mem li)
   have hpt : X.take (i + 1) = X.take i ++ [(out[i].length : Int)] := hXs i li
   have htt : (X.take i).length = i := by rw [List.length_take]; omega
   have hti : (X.take i).take i = X.take i := by rw [List.take_take, Nat.min_self]
   (try simp (maxSteps := 2000000) (disch := omega) only [go_sem, simprocAttr, zD, zE, eLs, htt])
   refine ⟨(i + 1, g + 1), [], by first | assumption | omega, ?_, ?_⟩
   ·(try simp only []); omega
   ·constructor <;> (try simp (maxSteps := 2000000) (disch := omega) only [go_sem, simprocAttr, zD, zE, hpt, hti, ir_snoc, List.map_cons, List.map_nil, List.append_assoc])
  ·obtain rfl : i = out.length := by omega
   have e : X.take out.length = X := List.take_of_length_le (by omega)
   (try simp (maxSteps := 2000000) (disch := omega) only [go_sem, simprocAttr, zD, zE, e, pvs2_rep])
end Go.Proofs.HO
