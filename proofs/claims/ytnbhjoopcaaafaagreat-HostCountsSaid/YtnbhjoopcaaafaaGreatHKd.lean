/- Facts that the proofs of this claim lean on. -/
import Derived.Test.YtnbhjoopcaaafaaGreatHPl
import Derived.Test.YtnbhjoopcaaafaaGreatHTl
import Derived.Test.YtnbhjoopcaaafaaGreatHOw
set_option linter.unusedSimpArgs false
set_option linter.unusedVariables false
/- What a pick and a take count: the plain law. -/
namespace Go.Proofs.HO
open Go Go.Idl Go.Proofs Go.GP
/-- How many of the sends go on link l. -/
def cnt (l : Int) (S : List (Int × Int × Int)) : Nat := S.countP (fun e => e.1 == l)
theorem cnt_snoc (l : Int) (S : List (Int × Int × Int)) (e : Int × Int × Int) : cnt l (S ++ [e]) = cnt l S + if e.1 = l then 1 else 0 := by
  simp [cnt, List.countP_append, List.countP_cons]
theorem cnt_cons (l : Int) (S : List (Int × Int × Int)) (e : Int × Int × Int) : cnt l (e :: S) = cnt l S + if e.1 = l then 1 else 0 := by
  simp [cnt, List.countP_cons]
theorem cnt_le (l : Int) (S : List (Int × Int × Int)) : cnt l S ≤ S.length := List.countP_le_length
/-- The counts of n links. -/
def cnts (n : Nat) (S : List (Int × Int × Int)) : List Int := (List.range n).map fun l : Nat => (cnt l S : Int)
theorem cnts_len (n : Nat) (S : List (Int × Int × Int)) : (cnts n S).length = n := by simp [cnts]
theorem cnts_get {n l : Nat} (h : l < n) (S : List (Int × Int × Int)) : (cnts n S)[l]? = some (cnt l S : Int) := by simp [cnts, h]
theorem cnts_nil (n : Nat) : cnts n [] = List.replicate n 0 := by
  apply List.ext_getElem?
  intro i
  by_cases h : i < n
  · rw [cnts_get h, List.getElem?_replicate, if_pos h]; rfl
  · rw [List.getElem?_eq_none (by rw [cnts_len]; omega), List.getElem?_eq_none (by simp; omega)]
theorem cnts_set {n l : Nat} (h : l < n) (S : List (Int × Int × Int)) (e : Int × Int × Int) (he : e.1 = l) : (cnts n S).set l ((cnt l S : Int) + 1) = cnts n (S ++ [e]) := by
  apply List.ext_getElem?
  intro i
  rw [List.getElem?_set]
  by_cases h2 : l = i
  · subst h2
    rw [if_pos rfl, cnts_len, if_pos h, cnts_get h, cnt_snoc, if_pos he]
    simp
  · rw [if_neg h2]
    by_cases h3 : i < n
    · rw [cnts_get h3, cnts_get h3, cnt_snoc, if_neg (by omega)]; simp
    · rw [List.getElem?_eq_none (by rw [cnts_len]; omega), List.getElem?_eq_none (by rw [cnts_len]; omega)]
theorem indexL_eq {a b : Int} {l : List Int} {q : Nat} (ha : indexL a 0 l = q) (hb : indexL b 0 l = q) : a = b := by
  rcases indexL_at a l with e | ⟨j, e, hj, h⟩
  · omega
  · rcases indexL_at b l with e2 | ⟨j2, e2, hj2, h2⟩
    · omega
    · obtain rfl : j = q := by omega
      obtain rfl : j2 = j := by omega
      rw [h] at h2
      exact Option.some.inj h2
theorem lenAt_set {α : Type} {out : List (List α)} {q : Nat} (hq : q < out.length) {v : List α} {os : List Int} {a l : Int} (ha : indexL a 0 os = q) :
    lenAt (out.set q v) (indexL l 0 os) = lenAt out (indexL l 0 os) + if a = l then (v.length : Int) - out[q].length else 0 := by
  rcases indexL_at l os with e | ⟨j, e, hj, h⟩
  · rw [e, lenAt_neg, lenAt_neg, if_neg]
    · rfl
    · rintro rfl; omega
  · rw [e]
    by_cases h2 : a = l
    · subst h2
      obtain rfl : j = q := by omega
      rw [if_pos rfl, lenAt_pos (by rw [List.length_set]; exact hq), lenAt_pos hq, List.getElem_set_self]
      omega
    · have hne : q ≠ j := fun c => h2 (indexL_eq (q := j) (by omega) e)
      rw [if_neg h2]
      unfold lenAt
      rw [if_neg (by omega), if_neg (by omega), Int.toNat_natCast, List.getElem?_set_ne hne]
      omega
/-- What is sent goes on, and is all that is sent. -/
theorem pkGo_cnt {ls : List (Int × Int)} {n : Int} : ∀ {sends : List (Int × Int)} {out : List (List Int)} {sent : List (Int × Int × Int)} {r : List (List Int) × List (Int × Int × Int)},
    (∀ y ∈ sends, (n, y.1) ∈ ls) → out.length = (outs n 0 ls).length → pkGo ls n sends out sent = some r →
    ∃ S, r.2 = sent ++ S ∧ S.length = sends.length ∧ r.1.length = out.length ∧ (∀ l : Int, lenAt r.1 (indexL l 0 (outs n 0 ls)) = lenAt out (indexL l 0 (outs n 0 ls)) + cnt l S) ∧
      ∀ (i : Nat) (h : i < S.length), (∃ l : Nat, S[i].1 = l ∧ l < ls.length) ∧ S[i].2.1 = lenAt out (indexL S[i].1 0 (outs n 0 ls)) + cnt S[i].1 (S.take i) + 1
  | [], out, sent, r, _, _, h => by
    unfold pkGo at h
    cases h
    exact ⟨[], by simp, rfl, rfl, fun l => by simp [cnt], fun i h => by simp at h⟩
  | s :: sends, out, sent, r, hm, ho, h => by
    unfold pkGo at h
    have h1 := hm s (by simp)
    obtain ⟨q, e, hq⟩ := findOut h1
    obtain ⟨f, hf, e3, e4⟩ := findL_some (findL_mem (s := 0).2 h1)
    rw [e, Int.toNat_natCast] at h
    have lq : q < out.length := by omega
    rw [List.getElem?_eq_getElem lq, Option.getD_some] at h
    split at h
    · cases h
    generalize hl0 : findL n s.1 0 ls = l0 at *
    have ih := pkGo_cnt (fun y hy => hm y (by simp [hy])) (by rw [List.length_set]; exact ho) h
    obtain ⟨S, i1, i2, i3, i4, i5⟩ := ih
    have hst := fun l : Int => lenAt_set lq (v := out[q] ++ [s.2]) (l := l) e
    have hv : ((out[q] ++ [s.2]).length : Int) - out[q].length = 1 := by rw [List.length_append, List.length_singleton]; omega
    refine ⟨(l0, (out[q].length : Int) + 1, s.2) :: S, by rw [i1]; simp, by simp [i2], by rw [i3, List.length_set], fun l => ?_, fun i hi => ?_⟩
    · rw [i4, hst, hv, cnt_cons]
      simp only
      split <;> simp <;> omega
    · cases i with
      | zero =>
        simp only [List.getElem_cons_zero, List.take_zero]
        refine ⟨⟨f, by simpa using e3, hf⟩, ?_⟩
        rw [e, lenAt_pos lq]
        simp [cnt]
      | succ i =>
        simp only [List.getElem_cons_succ, List.take_succ_cons]
        have hi' : i < S.length := by simpa using hi
        obtain ⟨j1, j2⟩ := i5 i hi'
        refine ⟨j1, ?_⟩
        rw [j2, hst, hv, cnt_cons]
        simp only
        split <;> simp <;> omega
theorem pickH_cases {ls : List (Int × Int)} {st : St} {h : Hs} {k : Int} : (∃ e : Int, e ≠ 0 ∧ pickH ls st h k = (zHs, [], e)) ∨
    ∃ p out sent, p ∈ st.picks ∧ pkGo ls h.node p.2 h.out [] = some (out, sent) ∧ pickH ls st h k = (⟨h.node, p.1, h.steps + 1, h.inn, out⟩, sent, 0) := by
  unfold pickH
  split
  · exact .inl ⟨8, by decide, rfl⟩
  split
  · exact .inl ⟨3, by decide, rfl⟩
  cases h3 : st.picks[k.toNat]? with
  | none => exact .inl ⟨3, by decide, rfl⟩
  | some p =>
    simp only
    cases h4 : pkGo ls h.node p.2 h.out [] with
    | none => exact .inl ⟨2, by decide, rfl⟩
    | some r => exact .inr ⟨p, r.1, r.2, List.mem_of_getElem? h3, h4, rfl⟩
theorem takeH_cases {ls : List (Int × Int)} {st : St} {h : Hs} {x : Int} {m : Int × Int} : takeH ls st h x m = (zH, 1) ∨
    ∃ (g : Int) (inn : List (List (Int × Int))), inn.length = h.inn.length ∧ (∀ l : Int, lenAt inn (indexL l 0 (ins h.node 0 ls)) = lenAt h.inn (indexL l 0 (ins h.node 0 ls)) + if l = x then 1 else 0) ∧
      takeH ls st h x m = (⟨h.node, g, h.steps + 1, inn, h.out⟩, 0) := by
  unfold takeH
  split
  · exact .inl rfl
  rename_i c
  rcases indexL_at x (ins h.node 0 ls) with e | ⟨q, e, hq, _⟩
  · exact absurd (.inl (by omega)) c
  rw [e, Int.toNat_natCast]
  cases h1 : h.inn[q]? with
  | none => exact .inl rfl
  | some l =>
    cases h2 : ls[x.toNat]? with
    | none => exact .inl rfl
    | some lk =>
      simp only
      split
      · exact .inl rfl
      · obtain ⟨lq, hl⟩ := List.getElem?_eq_some_iff.1 h1
        refine .inr ⟨_, _, by rw [List.length_set], fun y => ?_, rfl⟩
        rw [lenAt_set lq e]
        have hv : ((l.take (posL m.1 l) ++ m :: l.drop (posL m.1 l)).length : Int) - h.inn[q].length = 1 := by
          rw [hl, sIns_eq, sIns_len]; omega
        rw [hv]
        by_cases h3 : x = y
        · rw [if_pos h3, if_pos h3.symm]
        · rw [if_neg h3, if_neg fun c => h3 c.symm]
end Go.Proofs.HO

/- What a pick and a take count: the law's walk. -/
namespace Go.Proofs.HO
open Go Go.Idl Go.Proofs Go.GP
set_option maxHeartbeats 20000000
set_option maxRecDepth 100000
theorem lenAt_le {α : Type} {l : List (List α)} {b : Nat} (h : ∀ x ∈ l, x.length ≤ b) (z : Int) : 0 ≤ lenAt l z ∧ lenAt l z ≤ b := by
  unfold lenAt
  split
  · omega
  · cases hz : l[z.toNat]? with
    | none => simp
    | some x =>
      have := h x (List.mem_of_getElem? hz)
      simp only [Option.getD_some]
      omega
theorem HostCounts_pure (s0 : Sc) (h0 : Hs) (k x : Int) (m : Int × Int) :
    Pure Tryz.prog 7 [lApp s0, lHs h0, .agg [sci .i64 k, sci .i64 x, sci .i64 m.1, sci .i64 m.2]] (scb true) := by
  obtain ⟨k8, kl, ko⟩ := ok_cut s0
  have hg := gHs_cut h0
  obtain ⟨m1, m2⟩ := m
  simp only
  
  refine pcall0 200 (fn := Tryz.f7) Tryz.func7 rfl (by simp [Tryz.ntmps7]) zB zB fun hs => ?_
  ((try refine zW ?_); (try with_reducible exact True.intro))
  (refine at_call 200 ?_; (refine zW ?_; try with_reducible exact True.intro); refine callA_of (L5Cut_spec s0) zB ?_; ((try refine zW ?_); (try with_reducible exact True.intro)))
  ((try refine zW ?_); (try with_reducible exact True.intro))
  (refine at_call 200 ?_; (refine zW ?_; try with_reducible exact True.intro); refine callA_of (L9cut_spec h0) zB ?_; ((try refine zW ?_); (try with_reducible exact True.intro)))
  have h20 : ∀ l ∈ (cutHs h0).inn, l.length ≤ 20 := fun l hl => by
    obtain ⟨y, _, rfl⟩ := List.mem_map.1 hl
    simp only [List.length_take]; omega
  generalize cutSc s0 = s at *
  generalize cutHs h0 = h at *
  have hT := small_ok k8 ko
  obtain ⟨N, ls, T, ff, room, acts⟩ := s
  obtain ⟨node, state, steps, inn, out⟩ := h
  obtain ⟨b2, b3, b4, b5⟩ := id hg
  simp only at k8 kl ko hT b2 b3 b4 b5 h20
  ((try refine zW ?_); (try with_reducible exact True.intro))
  (refine walk_trim [3, 4, 5] trivial zL ?_; (refine zW ?_; try with_reducible exact True.intro); refine irun_walk (id := 3) (n := 200) [none, some [2], none, some [], some [], none] mixed (by kernel_rfl) ?_)
  ((try refine zW ?_); (try with_reducible exact True.intro))
  (refine at_dcall ?_; (refine zW ?_; try with_reducible exact True.intro); refine callA_of (L5App_spec ⟨N, ls, T, ff, room, acts⟩ k8 ko) zB ?_; ((try refine zW ?_); (try with_reducible exact True.intro)))
  ((try refine zW ?_); (try with_reducible exact True.intro))
  (refine at_dcall ?_; (refine zW ?_; try with_reducible exact True.intro); refine callA_of (L9Ref_spec ⟨node, state, steps, inn, out⟩) zB ?_; ((try refine zW ?_); (try with_reducible exact True.intro)))
  ((try refine zW ?_); (try with_reducible exact True.intro))
  (refine at_dcall ?_; (refine zW ?_; try with_reducible exact True.intro); refine callA_of (R9Right_spec ⟨N, ls, T, ff, room, acts⟩ ⟨node, state, steps, inn, out⟩ kl hT hg) zB ?_; ((try refine zW ?_); (try with_reducible exact True.intro)))
  by_cases hH : HostP N ls T ⟨node, state, steps, inn, out⟩
  · have eH := tB_pos hH
    (try simp (maxSteps := 2000000) (disch := omega) only [go_sem, simprocAttr, if_pos, if_neg, w64, beqT, beqF, bneT, bneF, pr_get, ir_get, decide_eq_true, decide_eq_false, eH])
    obtain ⟨hTab, hn0, hnN, hs0, hsl, hil, hol, hst1, hst2, hil5, hol5, hris, hout⟩ := hH
    obtain ⟨n, rfl⟩ : ∃ n : Nat, node = n := ⟨node.toNat, by simp only at hn0; omega⟩
    obtain ⟨j, rfl⟩ : ∃ j : Nat, state = j := ⟨state.toNat, by simp only at hs0; omega⟩
    have hnl : n < T.length := by have := hTab.2.1; simp only at hnN; omega
    have hnd := List.getElem?_eq_getElem hnl
    generalize T[n] = nd at hnd
    have hjl : j < nd.states.length := by have := hsl nd (by simpa using hnd); simp only at this; omega
    have hst := List.getElem?_eq_getElem hjl
    generalize nd.states[j] = st at hst
    have hmay := (hTab.2.2 n nd hnd).2.2.2 j st hst
    simp only at hil hol hst1 hst2 hil5 hris
    have hrow : ∀ l ∈ inn, Up l ∧ l.length ≤ 1000 := fun l hl => by
      obtain ⟨q, hq⟩ := List.mem_iff_getElem?.1 hl
      exact ⟨up_pw.2 (ris_pw (hris q l (List.getElem?_eq_some_iff.1 hq).1 hq)).1, by have := h20 l hl; omega⟩
    have hLo : ∀ z, 0 ≤ lenAt out z ∧ lenAt out z ≤ 1000000 := fun z => lenAt_le b5 z
    have hLi : ∀ z, 0 ≤ lenAt inn z ∧ lenAt inn z ≤ 20 := fun z => lenAt_le h20 z
    have hpk : ∀ p ∈ st.picks, p.2.length ≤ 4 ∧ ∀ y ∈ p.2, ((n : Int), y.1) ∈ ls := fun p hp => by
      obtain ⟨q, hq⟩ := List.mem_iff_getElem?.1 hp
      obtain ⟨-, h1, h2⟩ := hmay.2.2.1.2.2 q p hq
      exact ⟨h1, fun y hy => by
        obtain ⟨q2, hq2⟩ := List.mem_iff_getElem?.1 hy
        exact (h2 q2 y hq2).1⟩
    have hPick := Pick_spec ⟨N, ls, T, ff, room, acts⟩ ⟨n, j, steps, inn, out⟩ k n j nd st rfl rfl hnd hst hg kl (fun p hp => ⟨by have := (hpk p hp).1; omega, (hpk p hp).2⟩) hol ⟨hst1, hst2⟩
    have hTake := Take_spec ⟨N, ls, T, ff, room, acts⟩ ⟨n, j, steps, inn, out⟩ x (m1, m2) n j nd st rfl rfl hnd hst hg kl ((hT.2 n nd hnd).2 j st hst).2.2 hil hrow ⟨hst1, hst2⟩
    have hGave := fun l : Nat => Gave_spec ⟨N, ls, T, ff, room, acts⟩ ⟨n, j, steps, inn, out⟩ l kl hol
    have hGot := fun l : Nat => Got_spec ⟨N, ls, T, ff, room, acts⟩ ⟨n, j, steps, inn, out⟩ l kl hil
    rcases pickH_cases (ls := ls) (st := st) (h := ⟨n, j, steps, inn, out⟩) (k := k) with ⟨e, he, eP⟩ | ⟨p, out', S, hp, hgo, eP⟩
    · rw [eP] at hPick
      (refine at_call 200 ?_; (refine zW ?_; try with_reducible exact True.intro); refine callA_of (hPick) zB ?_; ((try refine zW ?_); (try with_reducible exact True.intro)))
      (try simp (maxSteps := 2000000) (disch := omega) only [go_sem, simprocAttr, if_pos, if_neg, w64, beqT, beqF, bneT, bneF, pr_get, ir_get, decide_eq_true, decide_eq_false, he, zHs])
      refine walk_fcut 200 [] ⟨199, [(3, .ptr 0 0 0 0), (4, .ptr 1 0 0 0), (5, .ptr 2 0 0 0), (139, lApp ⟨N, ls, T, ff, room, acts⟩), (140, lHs ⟨n, j, steps, inn, out⟩), (142, sci .i64 x), (144, .agg [sci .i64 m1, sci .i64 m2])], [], 4, [(1, .arr 5 0 [[sci .i64 n, sci .i64 j, sci .i64 steps, lMs inn, lLs out]]), (0, .arr 4 0 [[sci .i64 N, .p (.imm 2 (pr eII ls)), .p (.imm 2 (pr eNd T)), scb ff]]), (2, .arr 4 0 [[sci .i64 k, sci .i64 x, sci .i64 m1, sci .i64 m2]])]⟩ trivial ?_ ?_
      · constructor <;> ((try refine zO ?_); (try with_reducible exact True.intro))
      (refine at_call 200 ?_; (refine zW ?_; try with_reducible exact True.intro); refine callA_of (hTake) zB ?_; ((try refine zW ?_); (try with_reducible exact True.intro)))
      rcases takeH_cases (ls := ls) (st := st) (h := ⟨n, j, steps, inn, out⟩) (x := x) (m := (m1, m2)) with eT | ⟨g, inn', t1, t2, eT⟩
      · rw [eT]
        (try simp (maxSteps := 2000000) (disch := omega) only [go_sem, simprocAttr, if_pos, if_neg, w64, beqT, beqF, bneT, bneF, pr_get, ir_get, decide_eq_true, decide_eq_false, zH])
        (refine at_call 200 ?_; (refine zW ?_; try with_reducible exact True.intro); refine callA_of (fixed_spec) zB ?_; ((try refine zW ?_); (try with_reducible exact True.intro)))
        ((try refine zO ?_); (try with_reducible exact True.intro))
      · rw [eT]
        simp only at t1 t2
        have hGave2 := fun l : Nat => Gave_spec ⟨N, ls, T, ff, room, acts⟩ ⟨n, g, steps + 1, inn', out⟩ l kl hol
        have hGot2 := fun l : Nat => Got_spec ⟨N, ls, T, ff, room, acts⟩ ⟨n, g, steps + 1, inn', out⟩ l kl (by simp only; rw [t1]; exact hil)
        simp only [t2] at hGot2
        ((try refine zO ?_); (try with_reducible exact True.intro))
        (refine walk_trim [3, 4, 5, 14, 16] trivial zL ?_; ((try refine zW ?_); (try with_reducible exact True.intro)))
        refine walk_floop 200 200 (fun l : Nat => l ≤ ls.length)
          (fun l => ⟨199, [(3, .ptr 0 0 0 0), (4, .ptr 1 0 0 0), (5, .ptr 2 0 0 0), (14, .ptr 4 0 0 0), (16, sci .i64 l)], [], 5, [(4, .arr 5 0 [[sci .i64 n, sci .i64 g, sci .i64 (steps + 1), lMs inn', lLs out]]), (1, .arr 5 0 [[sci .i64 n, sci .i64 j, sci .i64 steps, lMs inn, lLs out]]), (0, .arr 4 0 [[sci .i64 N, .p (.imm 2 (pr eII ls)), .p (.imm 2 (pr eNd T)), scb ff]]), (2, .arr 4 0 [[sci .i64 k, sci .i64 x, sci .i64 m1, sci .i64 m2]])]⟩) (fun l => ls.length - l) (0) [] ?_ ?_ ?_
        · simp
        · constructor <;> (try simp (maxSteps := 2000000) (disch := omega) only [go_sem, simprocAttr, if_pos, if_neg, w64, beqT, beqF, bneT, bneF, pr_get, ir_get, decide_eq_true, decide_eq_false, Int.natCast_zero, List.take_of_length_le, List.append_assoc])
        · rintro l hl
          ((try refine zW ?_); (try with_reducible exact True.intro))
          by_cases ll : l < ls.length
          · have hlb := hLi (indexL l 0 (ins n 0 ls))
            have hG1 := hGot l
            have hG2 := hGot2 l
            have hV1 := hGave l
            have hV2 := hGave2 l
            simp only at hV1 hV2
            generalize lenAt inn (indexL l 0 (ins n 0 ls)) = Ll at *
            generalize lenAt out (indexL l 0 (outs n 0 ls)) = Lo at *
            ((try refine zO ?_); (try with_reducible exact True.intro))
            (refine at_call 200 ?_; (refine zW ?_; try with_reducible exact True.intro); refine callA_of (hG1) zB ?_; ((try refine zW ?_); (try with_reducible exact True.intro)))
            by_cases hx : (l : Int) = x
            · rw [if_pos hx] at hG2
              subst hx
              have hd := beq_self_eq_true (l : Int)
              (try simp (maxSteps := 2000000) (disch := omega) only [go_sem, simprocAttr, if_pos, if_neg, w64, beqT, beqF, bneT, bneF, pr_get, ir_get, decide_eq_true, decide_eq_false, hd])
              (refine walk_trim [3, 4, 5, 14, 16, 17] trivial zL ?_; (refine zW ?_; try with_reducible exact True.intro); refine irun_walk (id := 32) (n := 200) [none, none, none, some [4], none, none, none, none, none, none, some [11, 12, 13], none, none, none, some [], none, none] mixed (by kernel_rfl) ?_)
              ((try refine zO ?_); (try with_reducible exact True.intro))
              (refine at_dcall ?_; (refine zW ?_; try with_reducible exact True.intro); refine callA_of (hG2) zB ?_; ((try refine zW ?_); (try with_reducible exact True.intro)))
              ((try refine zO ?_); (try with_reducible exact True.intro))
              (refine at_dcall ?_; (refine zW ?_; try with_reducible exact True.intro); refine callA_of (hV2) zB ?_; ((try refine zW ?_); (try with_reducible exact True.intro)))
              (refine at_dcall ?_; (refine zW ?_; try with_reducible exact True.intro); refine callA_of (hV1) zB ?_; ((try refine zW ?_); (try with_reducible exact True.intro)))
              ((try refine zO ?_); (try with_reducible exact True.intro))
              refine ⟨l + 1, [], ll, by omega, ?_⟩
              constructor <;> ((try refine zO ?_); (try with_reducible exact True.intro))
            · rw [if_neg hx, Int.add_zero] at hG2
              have hd := beq_eq_false_iff_ne.2 hx
              (try simp (maxSteps := 2000000) (disch := omega) only [go_sem, simprocAttr, if_pos, if_neg, w64, beqT, beqF, bneT, bneF, pr_get, ir_get, decide_eq_true, decide_eq_false, hd])
              (refine walk_trim [3, 4, 5, 14, 16, 17] trivial zL ?_; (refine zW ?_; try with_reducible exact True.intro); refine irun_walk (id := 32) (n := 200) [none, none, none, some [4], none, none, none, none, none, none, some [11, 12, 13], none, none, none, some [], none, none] mixed (by kernel_rfl) ?_)
              ((try refine zO ?_); (try with_reducible exact True.intro))
              (refine at_dcall ?_; (refine zW ?_; try with_reducible exact True.intro); refine callA_of (hG2) zB ?_; ((try refine zW ?_); (try with_reducible exact True.intro)))
              ((try refine zO ?_); (try with_reducible exact True.intro))
              (refine at_dcall ?_; (refine zW ?_; try with_reducible exact True.intro); refine callA_of (hV2) zB ?_; ((try refine zW ?_); (try with_reducible exact True.intro)))
              (refine at_dcall ?_; (refine zW ?_; try with_reducible exact True.intro); refine callA_of (hV1) zB ?_; ((try refine zW ?_); (try with_reducible exact True.intro)))
              ((try refine zO ?_); (try with_reducible exact True.intro))
              refine ⟨l + 1, [], ll, by omega, ?_⟩
              constructor <;> ((try refine zO ?_); (try with_reducible exact True.intro))
          · obtain rfl : l = ls.length := by omega
            ((try refine zO ?_); (try with_reducible exact True.intro))
            (refine at_call 200 ?_; (refine zW ?_; try with_reducible exact True.intro); refine callA_of (fixed_spec) zB ?_; ((try refine zW ?_); (try with_reducible exact True.intro)))
            ((try refine zO ?_); (try with_reducible exact True.intro))
    · rw [eP] at hPick
      obtain ⟨hp4, hpm⟩ := hpk p hp
      obtain ⟨S', q1, q2, q3, q4, q5⟩ := pkGo_cnt hpm hol hgo
      simp only [List.nil_append] at q1 q3 q4 q5
      subst q1
      (refine at_call 200 ?_; (refine zW ?_; try with_reducible exact True.intro); refine callA_of (hPick) zB ?_; ((try refine zW ?_); (try with_reducible exact True.intro)))
      ((try refine zO ?_); (try with_reducible exact True.intro))
      have hr0 : ir eI (cnts ls.length []) = List.replicate ls.length [IV.p (.sc (.int .i64 0))] := by rw [cnts_nil, ir, List.map_replicate]; rfl
      refine walk_floop 200 200 (fun i : Nat => i ≤ S.length)
        (fun i => ⟨199, [(3, .ptr 0 0 0 0), (4, .ptr 1 0 0 0), (5, .ptr 2 0 0 0), (7, .ptr 3 0 0 0), (8, lSt3 S), (10, .ref 4 0 0 ls.length), (11, sci .i64 i)], [], 5, [(4, .arr 1 0 (ir eI (cnts ls.length (S.take i)))), (3, .arr 5 0 [[sci .i64 n, sci .i64 p.fst, sci .i64 (steps + 1), lMs inn, lLs out']]), (1, .arr 5 0 [[sci .i64 n, sci .i64 j, sci .i64 steps, lMs inn, lLs out]]), (0, .arr 4 0 [[sci .i64 N, .p (.imm 2 (pr eII ls)), .p (.imm 2 (pr eNd T)), scb ff]]), (2, .arr 4 0 [[sci .i64 k, sci .i64 x, sci .i64 m1, sci .i64 m2]])]⟩) (fun i => S.length - i) (0) [] ?_ ?_ ?_
      · simp
      · constructor <;> (try simp (maxSteps := 2000000) (disch := omega) only [go_sem, simprocAttr, if_pos, if_neg, w64, beqT, beqF, bneT, bneF, pr_get, ir_get, decide_eq_true, decide_eq_false, Int.natCast_zero, List.take_of_length_le, List.append_assoc, hr0, List.take_zero])
      · rintro i hi
        ((try refine zW ?_); (try with_reducible exact True.intro))
        by_cases li : i < S.length
        · obtain ⟨⟨l, hl1, hl2⟩, hl3⟩ := q5 i li
          have hS : S.take (i + 1) = S.take i ++ [S[i]] := List.take_succ_eq_append_getElem li
          have hset := cnts_set hl2 (S.take i) S[i] hl1
          have hget := cnts_get hl2 (S.take i)
          have hcl := cnts_len ls.length (S.take i)
          obtain ⟨lt, hz⟩ : ∃ lt, S[i] = ((l : Int), lenAt out (indexL l 0 (outs n 0 ls)) + cnt l (S.take i) + 1, lt) := ⟨S[i].2.2, by rw [hl1] at hl3; rw [← hl3, ← hl1]⟩
          have hgir : (ir eI (cnts ls.length (S.take i)))[l]? = some [IV.p (.sc (.int .i64 (cnt l (S.take i))))] := by rw [ir, List.getElem?_map, hget]; rfl
          have hsir : (ir eI (cnts ls.length (S.take i))).set l [IV.p (.sc (.int .i64 ((cnt l (S.take i) : Int) + 1)))] = ir eI (cnts ls.length (S.take (i + 1))) := by
            rw [hS, ← hset, ir, ir, List.map_set]; rfl
          have hcb := cnt_le l (S.take i)
          rw [List.length_take] at hcb
          have hgir2 : (ir eI (cnts ls.length (S.take (i + 1))))[l]? = some [IV.p (.sc (.int .i64 ((cnt l (S.take i) : Int) + 1)))] := by
            rw [hS, ← hset, ir, List.map_set, List.getElem?_set_self (by rw [List.length_map, cnts_len]; exact hl2)]; rfl
          have hlb := hLo (indexL l 0 (outs n 0 ls))
          generalize hLl : lenAt out (indexL l 0 (outs n 0 ls)) = Ll at *
          generalize cnt l (S.take i) = cl at *
          clear hl3 hset hS
          (try simp (maxSteps := 2000000) (disch := omega) only [go_sem, simprocAttr, if_pos, if_neg, w64, beqT, beqF, bneT, bneF, pr_get, ir_get, decide_eq_true, decide_eq_false, eIII, hz, hgir, hsir])
          (refine walk_trim [3, 4, 5, 7, 8, 10, 11, 12] trivial zL ?_; (refine zW ?_; try with_reducible exact True.intro); refine irun_walk (id := 15) (n := 200) [none, none, none, none, none, none, none, none, none, some [0, 1, 2, 3, 4, 5, 10, 11, 12, 13], none, none, none, none, none, none] mixed (by kernel_rfl) ?_)
          (try simp (maxSteps := 2000000) (disch := omega) only [go_sem, simprocAttr, if_pos, if_neg, w64, beqT, beqF, bneT, bneF, pr_get, ir_get, decide_eq_true, decide_eq_false, eIII, hz])
          (refine at_dcall ?_; (refine zW ?_; try with_reducible exact True.intro); refine callA_of (hGave l) zB ?_; ((try refine zW ?_); (try with_reducible exact True.intro)))
          (try simp (maxSteps := 2000000) (disch := omega) only [go_sem, simprocAttr, if_pos, if_neg, w64, beqT, beqF, bneT, bneF, pr_get, ir_get, decide_eq_true, decide_eq_false, hLl, hgir2])
          refine ⟨i + 1, [], li, by omega, ?_⟩
          constructor <;> ((try refine zO ?_); (try with_reducible exact True.intro))
        · obtain rfl : i = S.length := by omega
          (try simp (maxSteps := 2000000) (disch := omega) only [go_sem, simprocAttr, if_pos, if_neg, w64, beqT, beqF, bneT, bneF, pr_get, ir_get, decide_eq_true, decide_eq_false, List.take_length])
          (refine walk_trim [3, 4, 5, 7, 10, 13] trivial zL ?_; ((try refine zW ?_); (try with_reducible exact True.intro)))
          have hGave' := fun l : Nat => Gave_spec ⟨N, ls, T, ff, room, acts⟩ ⟨n, p.1, steps + 1, inn, out'⟩ l kl (by rw [q3]; exact hol)
          have hGot' := fun l : Nat => Got_spec ⟨N, ls, T, ff, room, acts⟩ ⟨n, p.1, steps + 1, inn, out'⟩ l kl hil
          simp only [q4] at hGave'
          refine walk_floop 200 200 (fun l : Nat => l ≤ ls.length)
            (fun l => ⟨199, [(3, .ptr 0 0 0 0), (4, .ptr 1 0 0 0), (5, .ptr 2 0 0 0), (7, .ptr 3 0 0 0), (10, .ref 4 0 0 ls.length), (13, sci .i64 l)], [], 5, [(4, .arr 1 0 (ir eI (cnts ls.length S))), (3, .arr 5 0 [[sci .i64 n, sci .i64 p.fst, sci .i64 (steps + 1), lMs inn, lLs out']]), (1, .arr 5 0 [[sci .i64 n, sci .i64 j, sci .i64 steps, lMs inn, lLs out]]), (0, .arr 4 0 [[sci .i64 N, .p (.imm 2 (pr eII ls)), .p (.imm 2 (pr eNd T)), scb ff]]), (2, .arr 4 0 [[sci .i64 k, sci .i64 x, sci .i64 m1, sci .i64 m2]])]⟩) (fun l => ls.length - l) (0) [] ?_ ?_ ?_
          · simp
          · constructor <;> (try simp (maxSteps := 2000000) (disch := omega) only [go_sem, simprocAttr, if_pos, if_neg, w64, beqT, beqF, bneT, bneF, pr_get, ir_get, decide_eq_true, decide_eq_false, Int.natCast_zero, List.take_of_length_le, List.append_assoc])
          · rintro l hl
            ((try refine zW ?_); (try with_reducible exact True.intro))
            by_cases ll : l < ls.length
            · have hgir : (ir eI (cnts ls.length S))[l]? = some [IV.p (.sc (.int .i64 (cnt l S)))] := by rw [ir, List.getElem?_map, cnts_get ll]; rfl
              have hcb := cnt_le l S
              have hlb := hLo (indexL l 0 (outs n 0 ls))
              have hG1 := hGave l
              have hG2 := hGave' l
              generalize lenAt out (indexL l 0 (outs n 0 ls)) = Ll at *
              generalize cnt l S = cl at *
              ((try refine zO ?_); (try with_reducible exact True.intro))
              (refine walk_trim [3, 4, 5, 7, 10, 13] trivial zL ?_; (refine zW ?_; try with_reducible exact True.intro); refine irun_walk (id := 20) (n := 200) [none, none, none, some [4, 5, 6, 8, 9, 10, 11], none, none, none, some [8, 9, 10, 11], none, none, none, none, none, none, none, none, none, none, some [19, 20, 21], none, none, none, some [], none, none] mixed (by kernel_rfl) ?_)
              ((try refine zO ?_); (try with_reducible exact True.intro))
              (refine at_dcall ?_; (refine zW ?_; try with_reducible exact True.intro); refine callA_of (hG2) zB ?_; ((try refine zW ?_); (try with_reducible exact True.intro)))
              (refine at_dcall ?_; (refine zW ?_; try with_reducible exact True.intro); refine callA_of (hG1) zB ?_; ((try refine zW ?_); (try with_reducible exact True.intro)))
              (try simp (maxSteps := 2000000) (disch := omega) only [go_sem, simprocAttr, if_pos, if_neg, w64, beqT, beqF, bneT, bneF, pr_get, ir_get, decide_eq_true, decide_eq_false, hgir])
              (refine at_dcall ?_; (refine zW ?_; try with_reducible exact True.intro); refine callA_of (hGot' l) zB ?_; ((try refine zW ?_); (try with_reducible exact True.intro)))
              (refine at_dcall ?_; (refine zW ?_; try with_reducible exact True.intro); refine callA_of (hGot l) zB ?_; ((try refine zW ?_); (try with_reducible exact True.intro)))
              ((try refine zO ?_); (try with_reducible exact True.intro))
              refine ⟨l + 1, [], ll, by omega, ?_⟩
              constructor <;> ((try refine zO ?_); (try with_reducible exact True.intro))
            · obtain rfl : l = ls.length := by omega
              ((try refine zO ?_); (try with_reducible exact True.intro))
              refine walk_fcut 200 [] ⟨199, [(3, .ptr 0 0 0 0), (4, .ptr 1 0 0 0), (5, .ptr 2 0 0 0), (139, lApp ⟨N, ls, T, ff, room, acts⟩), (140, lHs ⟨n, j, steps, inn, out⟩), (142, sci .i64 x), (144, .agg [sci .i64 m1, sci .i64 m2])], [], 5, [(1, .arr 5 0 [[sci .i64 n, sci .i64 j, sci .i64 steps, lMs inn, lLs out]]), (0, .arr 4 0 [[sci .i64 N, .p (.imm 2 (pr eII ls)), .p (.imm 2 (pr eNd T)), scb ff]]), (2, .arr 4 0 [[sci .i64 k, sci .i64 x, sci .i64 m1, sci .i64 m2]])]⟩ trivial ?_ ?_
              · constructor <;> ((try refine zO ?_); (try with_reducible exact True.intro))
              (refine at_call 200 ?_; (refine zW ?_; try with_reducible exact True.intro); refine callA_of (hTake) zB ?_; ((try refine zW ?_); (try with_reducible exact True.intro)))
              rcases takeH_cases (ls := ls) (st := st) (h := ⟨n, j, steps, inn, out⟩) (x := x) (m := (m1, m2)) with eT | ⟨g, inn', t1, t2, eT⟩
              · rw [eT]
                (try simp (maxSteps := 2000000) (disch := omega) only [go_sem, simprocAttr, if_pos, if_neg, w64, beqT, beqF, bneT, bneF, pr_get, ir_get, decide_eq_true, decide_eq_false, zH])
                (refine at_call 200 ?_; (refine zW ?_; try with_reducible exact True.intro); refine callA_of (fixed_spec) zB ?_; ((try refine zW ?_); (try with_reducible exact True.intro)))
                ((try refine zO ?_); (try with_reducible exact True.intro))
              · rw [eT]
                simp only at t1 t2
                have hGave2 := fun l : Nat => Gave_spec ⟨N, ls, T, ff, room, acts⟩ ⟨n, g, steps + 1, inn', out⟩ l kl hol
                have hGot2 := fun l : Nat => Got_spec ⟨N, ls, T, ff, room, acts⟩ ⟨n, g, steps + 1, inn', out⟩ l kl (by simp only; rw [t1]; exact hil)
                simp only [t2] at hGot2
                ((try refine zO ?_); (try with_reducible exact True.intro))
                (refine walk_trim [3, 4, 5, 14, 16] trivial zL ?_; ((try refine zW ?_); (try with_reducible exact True.intro)))
                refine walk_floop 200 200 (fun l : Nat => l ≤ ls.length)
                  (fun l => ⟨199, [(3, .ptr 0 0 0 0), (4, .ptr 1 0 0 0), (5, .ptr 2 0 0 0), (14, .ptr 5 0 0 0), (16, sci .i64 l)], [], 6, [(5, .arr 5 0 [[sci .i64 n, sci .i64 g, sci .i64 (steps + 1), lMs inn', lLs out]]), (1, .arr 5 0 [[sci .i64 n, sci .i64 j, sci .i64 steps, lMs inn, lLs out]]), (0, .arr 4 0 [[sci .i64 N, .p (.imm 2 (pr eII ls)), .p (.imm 2 (pr eNd T)), scb ff]]), (2, .arr 4 0 [[sci .i64 k, sci .i64 x, sci .i64 m1, sci .i64 m2]])]⟩) (fun l => ls.length - l) (0) [] ?_ ?_ ?_
                · simp
                · constructor <;> (try simp (maxSteps := 2000000) (disch := omega) only [go_sem, simprocAttr, if_pos, if_neg, w64, beqT, beqF, bneT, bneF, pr_get, ir_get, decide_eq_true, decide_eq_false, Int.natCast_zero, List.take_of_length_le, List.append_assoc])
                · rintro l hl
                  ((try refine zW ?_); (try with_reducible exact True.intro))
                  by_cases ll : l < ls.length
                  · have hlb := hLi (indexL l 0 (ins n 0 ls))
                    have hG1 := hGot l
                    have hG2 := hGot2 l
                    have hV1 := hGave l
                    have hV2 := hGave2 l
                    simp only at hV1 hV2
                    generalize lenAt inn (indexL l 0 (ins n 0 ls)) = Ll at *
                    generalize lenAt out (indexL l 0 (outs n 0 ls)) = Lo at *
                    ((try refine zO ?_); (try with_reducible exact True.intro))
                    (refine at_call 200 ?_; (refine zW ?_; try with_reducible exact True.intro); refine callA_of (hG1) zB ?_; ((try refine zW ?_); (try with_reducible exact True.intro)))
                    by_cases hx : (l : Int) = x
                    · rw [if_pos hx] at hG2
                      subst hx
                      have hd := beq_self_eq_true (l : Int)
                      (try simp (maxSteps := 2000000) (disch := omega) only [go_sem, simprocAttr, if_pos, if_neg, w64, beqT, beqF, bneT, bneF, pr_get, ir_get, decide_eq_true, decide_eq_false, hd])
                      (refine walk_trim [3, 4, 5, 14, 16, 17] trivial zL ?_; (refine zW ?_; try with_reducible exact True.intro); refine irun_walk (id := 32) (n := 200) [none, none, none, some [4], none, none, none, none, none, none, some [11, 12, 13], none, none, none, some [], none, none] mixed (by kernel_rfl) ?_)
                      ((try refine zO ?_); (try with_reducible exact True.intro))
                      (refine at_dcall ?_; (refine zW ?_; try with_reducible exact True.intro); refine callA_of (hG2) zB ?_; ((try refine zW ?_); (try with_reducible exact True.intro)))
                      ((try refine zO ?_); (try with_reducible exact True.intro))
                      (refine at_dcall ?_; (refine zW ?_; try with_reducible exact True.intro); refine callA_of (hV2) zB ?_; ((try refine zW ?_); (try with_reducible exact True.intro)))
                      (refine at_dcall ?_; (refine zW ?_; try with_reducible exact True.intro); refine callA_of (hV1) zB ?_; ((try refine zW ?_); (try with_reducible exact True.intro)))
                      ((try refine zO ?_); (try with_reducible exact True.intro))
                      refine ⟨l + 1, [], ll, by omega, ?_⟩
                      constructor <;> ((try refine zO ?_); (try with_reducible exact True.intro))
                    · rw [if_neg hx, Int.add_zero] at hG2
                      have hd := beq_eq_false_iff_ne.2 hx
                      (try simp (maxSteps := 2000000) (disch := omega) only [go_sem, simprocAttr, if_pos, if_neg, w64, beqT, beqF, bneT, bneF, pr_get, ir_get, decide_eq_true, decide_eq_false, hd])
                      (refine walk_trim [3, 4, 5, 14, 16, 17] trivial zL ?_; (refine zW ?_; try with_reducible exact True.intro); refine irun_walk (id := 32) (n := 200) [none, none, none, some [4], none, none, none, none, none, none, some [11, 12, 13], none, none, none, some [], none, none] mixed (by kernel_rfl) ?_)
                      ((try refine zO ?_); (try with_reducible exact True.intro))
                      (refine at_dcall ?_; (refine zW ?_; try with_reducible exact True.intro); refine callA_of (hG2) zB ?_; ((try refine zW ?_); (try with_reducible exact True.intro)))
                      ((try refine zO ?_); (try with_reducible exact True.intro))
                      (refine at_dcall ?_; (refine zW ?_; try with_reducible exact True.intro); refine callA_of (hV2) zB ?_; ((try refine zW ?_); (try with_reducible exact True.intro)))
                      (refine at_dcall ?_; (refine zW ?_; try with_reducible exact True.intro); refine callA_of (hV1) zB ?_; ((try refine zW ?_); (try with_reducible exact True.intro)))
                      ((try refine zO ?_); (try with_reducible exact True.intro))
                      refine ⟨l + 1, [], ll, by omega, ?_⟩
                      constructor <;> ((try refine zO ?_); (try with_reducible exact True.intro))
                  · obtain rfl : l = ls.length := by omega
                    ((try refine zO ?_); (try with_reducible exact True.intro))
                    (refine at_call 200 ?_; (refine zW ?_; try with_reducible exact True.intro); refine callA_of (fixed_spec) zB ?_; ((try refine zW ?_); (try with_reducible exact True.intro)))
                    ((try refine zO ?_); (try with_reducible exact True.intro))
  · have eH := tB_neg hH
    (try simp (maxSteps := 2000000) (disch := omega) only [go_sem, simprocAttr, if_pos, if_neg, w64, beqT, beqF, bneT, bneF, pr_get, ir_get, decide_eq_true, decide_eq_false, eH])
    (refine at_call 200 ?_; (refine zW ?_; try with_reducible exact True.intro); refine callA_of (hRight_spec ⟨N, ls, T, ff, room, acts⟩ ⟨node, state, steps, inn, out⟩ kl hT hg) zB ?_; ((try refine zW ?_); (try with_reducible exact True.intro)))
    (try simp (maxSteps := 2000000) (disch := omega) only [go_sem, simprocAttr, if_pos, if_neg, w64, beqT, beqF, bneT, bneF, pr_get, ir_get, decide_eq_true, decide_eq_false, eH])
    (refine at_call 200 ?_; (refine zW ?_; try with_reducible exact True.intro); refine callA_of (fixed_spec) zB ?_; ((try refine zW ?_); (try with_reducible exact True.intro)))
    ((try refine zO ?_); (try with_reducible exact True.intro))
end Go.Proofs.HO
