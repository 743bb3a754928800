/- Facts that the proofs of this claim lean on. -/
import Derived.Test.YtnbhjoopcaaafaaGreatHKc
import Derived.Test.YtnbhjoopcaaafaaGreatHOw
import Derived.Test.YtnbhjoopcaaafaaGreatHDb
import Derived.Test.YtnbhjoopcaaafaaGreatHP4
import Derived.Test.YtnbhjoopcaaafaaGreatHP10
import Derived.Test.YtnbhjoopcaaafaaGreatHDc
import Derived.Test.YtnbhjoopcaaafaaGreatHDd
set_option linter.unusedSimpArgs false
set_option linter.unusedVariables false
/- Hosts that may be: what is known of them, and what stays so. Plain law. -/
namespace Go.Proofs.HO
open Go Go.Idl Go.Proofs Go.GP
theorem ris_len : ∀ {last : Int} {l : List (Int × Int)}, RisP last l → last ≤ 500 → (l.length : Int) ≤ 500 - last
 | _, [], _, h => by simp; omega
 | last, x :: r, h, h2 => by
   have h3 := ris_len h.2 h.1.2.1
   have := h.1.1
   simp only [List.length_cons]; omega
theorem ris_all : ∀ {last : Int} {l : List (Int × Int)}, RisP last l → ∀ x ∈ l, x.1 ≤ 500 ∧ 0 ≤ x.2 ∧ x.2 ≤ 3
 | _, [], _, x, hx => by simp at hx
 | last, y :: r, h, x, hx => by
   rcases List.mem_cons.1 hx with rfl | hx
   ·exact h.1.2
   ·exact ris_all h.2 x hx
theorem ris_of {last : Int} : ∀ {l : List (Int × Int)}, l.Pairwise (fun a b : Int × Int => a.1 < b.1) → (∀ x ∈ l, last < x.1) → (∀ x ∈ l, x.1 ≤ 500 ∧ 0 ≤ x.2 ∧ x.2 ≤ 3) → RisP last l
 | [], _, _, _ => trivial
 | x :: r, hp, h1, h2 => by
   rw [List.pairwise_cons] at hp
   exact ⟨⟨h1 x (by simp), h2 x (by simp)⟩, ris_of hp.2 hp.1 fun y hy => h2 y (by simp [hy])⟩
theorem ris_ins {l : List (Int × Int)} {m : Int × Int} (h : RisP 0 l) (hn : ∀ y ∈ l, y.1 ≠ m.1) (h1 : 1 ≤ m.1 ∧ m.1 ≤ 500) (h2 : 0 ≤ m.2 ∧ m.2 < 4) : RisP 0 (sIns l m) := by
 obtain ⟨hp, hl⟩ := ris_pw h
 refine ris_of (sIns_up hp hn) (fun x hx => ?_) fun x hx => ?_
 ·rcases sIns_mem.1 hx with rfl | hx
  ·omega
  ·exact hl x hx
 ·rcases sIns_mem.1 hx with rfl | hx
  ·omega
  ·exact ris_all h x hx
structure HF (N : Int) (ls : List (Int × Int)) (T : List Nd) (h : Hs) (n j : Nat) (nd : Nd) (st : St) : Prop where
 tab : TabP N ls T
 hn : h.node = n
 hj : h.state = j
 nN : (n : Int) < N
 hx : T[n]? = some nd
 hq : nd.states[j]? = some st
 may : MayP ls n nd.states st
 inl : h.inn.length = (ins h.node 0 ls).length
 outl : h.out.length = (outs h.node 0 ls).length
 st0 : 0 ≤ h.steps ∧ h.steps ≤ 2147483647
 in5 : h.inn.length ≤ 5
 out5 : h.out.length ≤ 5
 ris : ∀ l ∈ h.inn, RisP 0 l
 lets : ∀ l ∈ h.out, l.length ≤ 500 ∧ LetsP l
theorem HF.of {N : Int} {ls : List (Int × Int)} {T : List Nd} {h : Hs} (hH : HostP N ls T h) : ∃ n j nd st, HF N ls T h n j nd st := by
 obtain ⟨hTab, hn0, hnN, hs0, hsl, hil, hol, hst1, hst2, hil5, hol5, hris, hout⟩ := hH
 have hnl : h.node.toNat < T.length := by have := hTab.2.1; omega
 have hnd := List.getElem?_eq_getElem hnl
 have hjl : h.state.toNat < T[h.node.toNat].states.length := by have := hsl _ hnd; omega
 have hst := List.getElem?_eq_getElem hjl
 exact ⟨h.node.toNat, h.state.toNat, _, _, hTab, by omega, by omega, by omega, hnd, hst, (hTab.2.2 _ _ hnd).2.2.2 _ _ hst, hil, hol, ⟨hst1, hst2⟩, hil5, hol5,
  fun l hl => by
   obtain ⟨q, hq⟩ := List.mem_iff_getElem?.1 hl
   exact hris q l (List.getElem?_eq_some_iff.1 hq).1 hq,
  fun l hl => by
   obtain ⟨q, hq⟩ := List.mem_iff_getElem?.1 hl
   exact hout q l (List.getElem?_eq_some_iff.1 hq).1 hq⟩
section
variable {N : Int} {ls : List (Int × Int)} {T : List Nd} {h : Hs} {n j : Nat} {nd : Nd} {st : St} (f : HF N ls T h n j nd st)
include f
theorem HF.may' : HostP N ls T h :=
 ⟨f.tab, by rw [f.hn]; omega, by rw [f.hn]; exact f.nN, by rw [f.hj]; omega, fun x hx => by
  rw [f.hn, Int.toNat_natCast, f.hx] at hx
  cases hx
  rw [f.hj]
  exact_mod_cast (List.getElem?_eq_some_iff.1 f.hq).1, f.inl, f.outl, f.st0.1, f.st0.2, f.in5, f.out5,
  fun q l hq hl => f.ris l (List.mem_of_getElem? hl), fun q l hq hl => f.lets l (List.mem_of_getElem? hl)⟩
theorem HF.rows : ∀ l ∈ h.inn, Up l ∧ l.length ≤ 1000 := fun l hl => by
 have h1 := f.ris l hl
 exact ⟨up_pw.2 (ris_pw h1).1, by have := ris_len h1 (by omega); omega⟩
theorem HF.gHs : gHs h :=
 ⟨by have := f.in5; omega, by have := f.out5; omega, fun l hl => by have := (f.rows l hl).2; omega, fun l hl => by have := (f.lets l hl).1; omega⟩
theorem HF.picks : ∀ p ∈ st.picks, StaP nd.states.length p.1 ∧ p.2.length ≤ 4 ∧ ∀ y ∈ p.2, (h.node, y.1) ∈ ls ∧ LetP y.2 := fun p hp => by
 obtain ⟨q, hq⟩ := List.mem_iff_getElem?.1 hp
 obtain ⟨h0, h1, h2⟩ := f.may.2.2.1.2.2 q p hq
 exact ⟨h0, h1, fun y hy => by
  obtain ⟨q2, hq2⟩ := List.mem_iff_getElem?.1 hy
  rw [f.hn]
  exact h2 q2 y hq2⟩
theorem HF.takes : ∀ t ∈ st.takes, StaP nd.states.length t.2.2 := fun t ht => by
 obtain ⟨q, hq⟩ := List.mem_iff_getElem?.1 ht
 exact (f.may.2.2.2.1 q t hq).2.2.1
end
theorem lets_snoc {l : List Int} {x : Int} (h : LetsP l) (hx : LetP x) : LetsP (l ++ [x]) := fun j y hj hy => by
 have := List.mem_of_getElem? hy
 rcases List.mem_append.1 this with h1 | h1
 ·obtain ⟨q, hq⟩ := List.mem_iff_getElem?.1 h1
  exact h q y (List.getElem?_eq_some_iff.1 hq).1 hq
 ·obtain rfl := List.mem_singleton.1 h1
  have h1 := hx.1
  have h2 := hx.2
  omega
theorem pkGo_lets {ls : List (Int × Int)} {n : Int} : ∀ {sends : List (Int × Int)} {out : List (List Int)} {sent : List (Int × Int × Int)} {r : List (List Int) × List (Int × Int × Int)},
  (∀ y ∈ sends, LetP y.2) → (∀ l ∈ out, l.length ≤ 500 ∧ LetsP l) → pkGo ls n sends out sent = some r → (∀ l ∈ r.1, l.length ≤ 500 ∧ LetsP l) ∧ r.1.length = out.length ∧ r.2.length = sent.length + sends.length
 | [], out, sent, r, _, ho, h => by
   unfold pkGo at h
   cases h
   exact ⟨ho, rfl, rfl⟩
 | s :: sends, out, sent, r, hm, ho, h => by
   unfold pkGo at h
   split at h
   ·cases h
   rename_i c
   have ih := pkGo_lets (fun y hy => hm y (by simp [hy])) (fun l hl => ?_) h
   ·obtain ⟨i1, i2, i3⟩ := ih
    exact ⟨i1, by rw [i2, List.length_set], by rw [i3]; simp; omega⟩
   ·rcases List.mem_or_eq_of_mem_set hl with hl | rfl
    ·exact ho l hl
    ·generalize hz : out[(indexL (findL n s.1 0 ls) 0 (outs n 0 ls)).toNat]? = z at *
     cases z with
     | none => exact ⟨by simp, lets_snoc (fun j x hj => by simp at hj) (hm s (by simp))⟩
     | some l0 =>
       simp only [Option.getD_some] at c ⊢
       have := ho l0 (List.mem_of_getElem? hz)
       exact ⟨by simp; omega, lets_snoc this.2 (hm s (by simp))⟩
section
variable {N : Int} {ls : List (Int × Int)} {T : List Nd} {h : Hs} {n j : Nat} {nd : Nd} {st : St} (f : HF N ls T h n j nd st)
include f
theorem HF.pick (h2 : h.steps < 2147483647) (k : Int) : (∃ e : Int, e ≠ 0 ∧ pickH ls st h k = (zHs, [], e)) ∨ ∃ h' S, h'.steps = h.steps + 1 ∧ S.length ≤ 4 ∧ HostP N ls T h' ∧ pickH ls st h k = (h', S, 0) := by
 rcases pickH_cases (ls := ls) (st := st) (h := h) (k := k) with h1 | ⟨p, out, sent, hp, hgo, e⟩
 ·exact .inl h1
 ·right
  obtain ⟨p1, p2, p3⟩ := f.picks p hp
  obtain ⟨l1, l2, l3⟩ := pkGo_lets (fun y hy => (p3 y hy).2) f.lets hgo
  refine ⟨_, _, rfl, by simp at l3; omega, ?_, e⟩
  have hq : nd.states[p.1.toNat]? = some (nd.states[p.1.toNat]'(by have := p1.1; have := p1.2; omega)) := List.getElem?_eq_getElem _
  have f' : HF N ls T ⟨h.node, p.1, h.steps + 1, h.inn, out⟩ n p.1.toNat nd _ :=
   ⟨f.tab, f.hn, by have := p1.1; simp only; omega, f.nN, f.hx, hq, (f.tab.2.2 _ _ f.hx).2.2.2 _ _ hq, f.inl, by rw [← f.outl]; exact l2, ⟨by have := f.st0.1; simp only; omega, by simp only; omega⟩, f.in5, by have := f.out5; have e : out.length = h.out.length := l2; simp only; omega, f.ris, l1⟩
  exact f'.may'
theorem HF.take (h2 : h.steps < 2147483647) (x : Int) (m : Int × Int) : takeH ls st h x m = (zH, 1) ∨ ∃ h', h'.steps = h.steps + 1 ∧ HostP N ls T h' ∧ takeH ls st h x m = (h', 0) := by
 unfold takeH
 split
 ·exact .inl rfl
 rename_i c
 have c1 : ¬ indexL x 0 (ins h.node 0 ls) < 0 := fun q => c (.inl q)
 have c2 : 1 ≤ m.1 ∧ m.1 ≤ 500 := ⟨by have : ¬ m.1 < 1 := fun q => c (.inr (.inl q)); omega, by have : ¬ 500 < m.1 := fun q => c (.inr (.inr (.inl q))); omega⟩
 have c3 : 0 ≤ m.2 ∧ m.2 < 4 := ⟨by have : ¬ m.2 < 0 := fun q => c (.inr (.inr (.inr (.inl q)))); omega, by have : ¬ 4 ≤ m.2 := fun q => c (.inr (.inr (.inr (.inr q)))); omega⟩
 cases h1 : h.inn[(indexL x 0 (ins h.node 0 ls)).toNat]? with
 | none => exact .inl rfl
 | some l =>
   cases h3 : ls[x.toNat]? with
   | none => exact .inl rfl
   | some lk =>
     simp only
     have hl := List.mem_of_getElem? h1
     split
     ·exact .inl rfl
     ·rename_i c4
      right
      have hs := takenL_in (f := lk.1) (a := m.2) (d := h.state) (m := nd.states.length) (l := st.takes) f.takes ⟨by rw [f.hj]; omega, by rw [f.hj]; exact_mod_cast (List.getElem?_eq_some_iff.1 f.hq).1⟩
      have hq : nd.states[(takenL lk.1 m.2 h.state st.takes).toNat]? = some (nd.states[(takenL lk.1 m.2 h.state st.takes).toNat]'(by have := hs.1; have := hs.2; omega)) := List.getElem?_eq_getElem _
      have hr := f.ris l hl
      have hnn : ∀ y ∈ l, y.1 ≠ m.1 := fun y hy e => c4 (tB_pos ((posL_has (ris_pw hr).1).2 ⟨y, hy, e⟩))
      rw [sIns_eq]
      refine ⟨_, rfl, ?_, rfl⟩
      have f' : HF N ls T ⟨h.node, takenL lk.1 m.2 h.state st.takes, h.steps + 1, h.inn.set (indexL x 0 (ins h.node 0 ls)).toNat (sIns l m), h.out⟩ n (takenL lk.1 m.2 h.state st.takes).toNat nd _ :=
       ⟨f.tab, f.hn, by have := hs.1; simp only; omega, f.nN, f.hx, hq, (f.tab.2.2 _ _ f.hx).2.2.2 _ _ hq, by rw [List.length_set]; exact f.inl, f.outl, ⟨by have := f.st0.1; simp only; omega, by simp only; omega⟩, by simp only [List.length_set]; exact f.in5, f.out5,
        fun l' hl' => by
         rcases List.mem_or_eq_of_mem_set hl' with hl' | rfl
         ·exact f.ris l' hl'
         ·exact ris_ins hr hnn c2 c3, f.lets⟩
      exact f'.may'
end
end Go.Proofs.HO
/- What the document's host tells; the first host. -/
namespace Go.Proofs.HO
open Go Go.Idl Go.Proofs Go.GP
set_option maxHeartbeats 20000000
set_option maxRecDepth 100000
theorem R9PieceU_spec (h : Hs) (hg : gHs h) {X : List Int} (hX : X = h.out.map fun l => (l.length : Int)) : Pure Tryz.prog 32 [lHs h, scb true] (lPc ⟨h.node, h.state, h.steps, X, h.inn, h.out⟩) := by
 have hg2 := hg
 obtain ⟨node, state, steps, inn, out⟩ := h
 obtain ⟨h2, h3, h4, h5⟩ := hg
 simp only at h2 h3 h4 h5 hX
 refine pcall0 200 (fn := Tryz.f32) Tryz.func32 rfl (by simp [Tryz.ntmps32]) zB zB fun hs => ?_
 ((try refine zW ?_); (try with_reducible exact True.intro))
 (refine at_call 200 ?_; (refine zW ?_; try with_reducible exact True.intro); refine callA_of (R9own_spec ⟨node, state, steps, inn, out⟩ hg2) zB ?_; ((try refine zW ?_); (try with_reducible exact True.intro)))
 ((try refine zO ?_); (try with_reducible exact True.intro))
 refine walk_ownB 3 0 3 1 trivial rfl rfl rfl (.inr rfl) ?_
 simp only [List.set_cons_zero, List.set_cons_succ, Nat.reduceAdd]
 have hXl : X.length = out.length := by rw [hX, List.length_map]
 have hXs : ∀ (i : Nat) (li : i < out.length), X.take (i + 1) = X.take i ++ [(out[i].length : Int)] := fun i li => by
  rw [hX, List.take_succ_eq_append_getElem (by rw [List.length_map]; exact li), List.getElem_map]
 clear hX
 (refine walk_trim [1, 2, 4, 6, 7, 69] trivial zL ?_; ((try refine zW ?_); (try with_reducible exact True.intro)))
 refine walk_floop 200 200 (fun i : Nat => i ≤ out.length)
  (fun i => ⟨57, [(1, scb true), (2, .ptr 0 0 0 0), (4, .ptr 1 0 0 0), (6, .ptr 3 0 0 0), (7, sci .i64 i)], [], 5, [(4, .arr 1 i (ir eI (X.take i))), (3, .arr 6 0 [[sci .i64 node, sci .i64 state, sci .i64 steps, .ref 4 i 0 i, lMs inn, lLs out]]), (1, .arr 6 0 [[sci .i64 0, sci .i64 0, sci .i64 0, nil0, nil0, nil0]]), (0, .arr 5 0 [[sci .i64 node, sci .i64 state, sci .i64 steps, lMs inn, lLs out]])]⟩) (fun i => out.length - i) (0) [] ?_ ?_ ?_
 ·simp
 ·constructor <;> (try simp (maxSteps := 2000000) (disch := omega) only [go_sem, simprocAttr, zD, zE, Int.natCast_zero, List.take_of_length_le, List.append_assoc, List.take_zero])
 ·rintro i hi
  ((try refine zW ?_); (try with_reducible exact True.intro))
  by_cases li : i < out.length
  ·have hl5 := h5 out[i] (List.getElem_mem li)
   have hpt : X.take (i + 1) = X.take i ++ [(out[i].length : Int)] := hXs i li
   have htt : (X.take i).length = i := by rw [List.length_take]; omega
   have hti : (X.take i).take i = X.take i := by rw [List.take_take, Nat.min_self]
   ((try refine zO ?_); (try with_reducible exact True.intro))
   (refine walk_trim [1, 2, 4, 6, 7, 69] trivial zL ?_; (refine zW ?_; try with_reducible exact True.intro); refine irun_walk (id := 6) (n := 200) [none, none, none, none, none, none, none, none, some [0, 1], some [], none, some []] mixed (by kernel_rfl) ?_)
   (try simp (maxSteps := 2000000) (disch := omega) only [go_sem, simprocAttr, zD, zE, eLs, htt])
   refine ⟨i + 1, [], by first | assumption | omega, ?_, ?_⟩
   ·(try simp only []); omega
   ·constructor <;> (try simp (maxSteps := 2000000) (disch := omega) only [go_sem, simprocAttr, zD, zE, hpt, hti, htt, ir_snoc, List.map_cons, List.map_nil, List.append_assoc])
  ·obtain rfl : i = out.length := by omega
   have e : X.take out.length = X := List.take_of_length_le (by omega)
   (try simp (maxSteps := 2000000) (disch := omega) only [go_sem, simprocAttr, zD, zE, e])
theorem R9PieceG_spec (h : Hs) (hg : gHs h) {X : List Int} {Z : List Unit} (hX : X = h.out.map fun l => (l.length : Int)) (hZ : Z = List.replicate h.inn.length ()) :
  Pure Tryz.prog 32 [lHs h, scb false] (.agg [sci .i64 h.node, sci .i64 h.state, sci .i64 h.steps, lI X, .p (.imm 1 (pr eZ Z)), nil0]) := by
 have hg2 := hg
 obtain ⟨node, state, steps, inn, out⟩ := h
 obtain ⟨h2, h3, h4, h5⟩ := hg
 simp only at h2 h3 h4 h5 hX hZ
 refine pcall0 200 (fn := Tryz.f32) Tryz.func32 rfl (by simp [Tryz.ntmps32]) zB zB fun hs => ?_
 ((try refine zW ?_); (try with_reducible exact True.intro))
 (refine at_call 200 ?_; (refine zW ?_; try with_reducible exact True.intro); refine callA_of (R9own_spec ⟨node, state, steps, inn, out⟩ hg2) zB ?_; ((try refine zW ?_); (try with_reducible exact True.intro)))
 ((try refine zO ?_); (try with_reducible exact True.intro))
 refine walk_ownB 3 0 3 1 trivial rfl rfl rfl (.inr rfl) ?_
 simp only [List.set_cons_zero, List.set_cons_succ, Nat.reduceAdd]
 have hXl : X.length = out.length := by rw [hX, List.length_map]
 have hXs : ∀ (i : Nat) (li : i < out.length), X.take (i + 1) = X.take i ++ [(out[i].length : Int)] := fun i li => by
  rw [hX, List.take_succ_eq_append_getElem (by rw [List.length_map]; exact li), List.getElem_map]
 clear hX
 (refine walk_trim [1, 2, 4, 6, 7, 69] trivial zL ?_; ((try refine zW ?_); (try with_reducible exact True.intro)))
 refine walk_floop 200 200 (fun i : Nat => i ≤ out.length)
  (fun i => ⟨57, [(1, scb false), (2, .ptr 0 0 0 0), (4, .ptr 1 0 0 0), (6, .ptr 3 0 0 0), (7, sci .i64 i)], [], 5, [(4, .arr 1 i (ir eI (X.take i))), (3, .arr 6 0 [[sci .i64 node, sci .i64 state, sci .i64 steps, .ref 4 i 0 i, lMs inn, lLs out]]), (1, .arr 6 0 [[sci .i64 0, sci .i64 0, sci .i64 0, nil0, nil0, nil0]]), (0, .arr 5 0 [[sci .i64 node, sci .i64 state, sci .i64 steps, lMs inn, lLs out]])]⟩) (fun i => out.length - i) (0) [] ?_ ?_ ?_
 ·simp
 ·constructor <;> (try simp (maxSteps := 2000000) (disch := omega) only [go_sem, simprocAttr, zD, zE, Int.natCast_zero, List.take_of_length_le, List.append_assoc, List.take_zero])
 ·rintro i hi
  ((try refine zW ?_); (try with_reducible exact True.intro))
  by_cases li : i < out.length
  ·have hl5 := h5 out[i] (List.getElem_mem li)
   have hpt : X.take (i + 1) = X.take i ++ [(out[i].length : Int)] := hXs i li
   have htt : (X.take i).length = i := by rw [List.length_take]; omega
   have hti : (X.take i).take i = X.take i := by rw [List.take_take, Nat.min_self]
   ((try refine zO ?_); (try with_reducible exact True.intro))
   (refine walk_trim [1, 2, 4, 6, 7, 69] trivial zL ?_; (refine zW ?_; try with_reducible exact True.intro); refine irun_walk (id := 6) (n := 200) [none, none, none, none, none, none, none, none, some [0, 1], some [], none, some []] mixed (by kernel_rfl) ?_)
   (try simp (maxSteps := 2000000) (disch := omega) only [go_sem, simprocAttr, zD, zE, eLs, htt])
   refine ⟨i + 1, [], by first | assumption | omega, ?_, ?_⟩
   ·(try simp only []); omega
   ·constructor <;> (try simp (maxSteps := 2000000) (disch := omega) only [go_sem, simprocAttr, zD, zE, hpt, hti, htt, ir_snoc, List.map_cons, List.map_nil, List.append_assoc])
  ·obtain rfl : i = out.length := by omega
   have e : X.take out.length = X := List.take_of_length_le (by omega)
   (try simp (maxSteps := 2000000) (disch := omega) only [go_sem, simprocAttr, zD, zE, e])
   refine walk_ownB 3 0 4 1 trivial rfl rfl rfl (.inr rfl) ?_
   simp only [List.set_cons_zero, List.set_cons_succ, Nat.reduceAdd]
   have hZl : Z.length = inn.length := by rw [hZ, List.length_replicate]
   clear hZ
   (refine walk_trim [2, 4, 6, 8, 69] trivial zL ?_; ((try refine zW ?_); (try with_reducible exact True.intro)))
   refine walk_floop 200 200 (fun j : Nat => j ≤ inn.length)
    (fun j => ⟨57, [(2, .ptr 0 0 0 0), (4, .ptr 1 0 0 0), (6, .ptr 3 0 0 0), (8, sci .i64 j)], [], 6, [(5, .arr 1 j (ir eZ (Z.take j))), (4, .arr 1 out.length (ir eI X)), (3, .arr 6 0 [[sci .i64 node, sci .i64 state, sci .i64 steps, .ref 4 out.length 0 out.length, .ref 5 j 0 j, nil0]]), (1, .arr 6 0 [[sci .i64 0, sci .i64 0, sci .i64 0, nil0, nil0, nil0]]), (0, .arr 5 0 [[sci .i64 node, sci .i64 state, sci .i64 steps, lMs inn, lLs out]])]⟩) (fun j => inn.length - j) (0) [] ?_ ?_ ?_
   ·simp
   ·constructor <;> (try simp (maxSteps := 2000000) (disch := omega) only [go_sem, simprocAttr, zD, zE, Int.natCast_zero, List.take_of_length_le, List.append_assoc, List.take_zero])
   ·rintro j hj
    ((try refine zW ?_); (try with_reducible exact True.intro))
    by_cases lj : j < inn.length
    ·have hpt : Z.take (j + 1) = Z.take j ++ [()] := by rw [List.take_succ_eq_append_getElem (by omega)]
     have htt : (Z.take j).length = j := by rw [List.length_take]; omega
     have hti : (Z.take j).take j = Z.take j := by rw [List.take_take, Nat.min_self]
     (try simp (maxSteps := 2000000) (disch := omega) only [go_sem, simprocAttr, zD, zE, htt])
     refine ⟨j + 1, [], by first | assumption | omega, ?_, ?_⟩
     ·(try simp only []); omega
     ·constructor <;> (try simp (maxSteps := 2000000) (disch := omega) only [go_sem, simprocAttr, zD, zE, hpt, hti, htt, ir_snoc, eZ, List.map_cons, List.map_nil, List.append_assoc])
    ·obtain rfl : j = inn.length := by omega
     have e3 : X.take out.length = X := List.take_of_length_le (by omega)
     have e2 : Z.take inn.length = Z := List.take_of_length_le (by omega)
     (try simp (maxSteps := 2000000) (disch := omega) only [go_sem, simprocAttr, zD, zE, e2, e3])
theorem R6SameZ_spec (node state steps : Int) (X : List Int) (Z : List Unit) (h1 : X.length ≤ 1000000) (h2 : Z.length ≤ 1000000) : Pure Tryz.prog 29 [.agg [sci .i64 node, sci .i64 state, sci .i64 steps, lI X, .p (.imm 1 (pr eZ Z)), lLs []], .agg [sci .i64 node, sci .i64 state, sci .i64 steps, lI X, .p (.imm 1 (pr eZ Z)), lLs []]] (scb true) := by
 refine pcall0 200 (fn := Tryz.f29) Tryz.func29 rfl (by simp [Tryz.ntmps29]) zB zB fun hs => ?_
 have a1 := beq_self_eq_true node
 have a2 := beq_self_eq_true state
 have a3 := beq_self_eq_true steps
 ((try refine zW ?_); (try with_reducible exact True.intro))
 ((try refine zO ?_); (try with_reducible exact True.intro))
 (refine at_call 200 ?_; (refine zW ?_; try with_reducible exact True.intro); refine callA_of (RIntsR_spec X h1) zB ?_; ((try refine zW ?_); (try with_reducible exact True.intro)))
 ((try refine zO ?_); (try with_reducible exact True.intro))
 refine walk_floop 200 200 (fun i : Nat => i ≤ Z.length)
  (fun i => ⟨90, [(2, .ptr 0 0 0 0), (3, .ptr 1 0 0 0), (5, sci .i64 i)], [], 2, [(1, .arr 6 0 [[sci .i64 node, sci .i64 state, sci .i64 steps, lI X, .p (.imm 1 (pr eZ Z)), lLs []]]), (0, .arr 6 0 [[sci .i64 node, sci .i64 state, sci .i64 steps, lI X, .p (.imm 1 (pr eZ Z)), lLs []]])]⟩) (fun i => Z.length - i) (0) [] ?_ ?_ ?_
 ·simp
 ·constructor <;> (try simp (maxSteps := 2000000) (disch := omega) only [go_sem, simprocAttr, zD, zE, Int.natCast_zero, List.take_of_length_le, List.append_assoc])
 ·rintro i hi
  ((try refine zW ?_); (try with_reducible exact True.intro))
  by_cases li : i < Z.length
  ·(try simp (maxSteps := 2000000) (disch := omega) only [go_sem, simprocAttr, zD, zE, eZ])
   (refine walk_trim [2, 3, 5] trivial zL ?_; (refine zW ?_; try with_reducible exact True.intro); refine irun_walk (id := 6) (n := 200) [none, none, none, none, none, none, none, none, none, none, some [], none] mixed (by kernel_rfl) ?_)
   (try simp (maxSteps := 2000000) (disch := omega) only [go_sem, simprocAttr, zD, zE, eZ])
   (refine at_dcall ?_; (refine zW ?_; try with_reducible exact True.intro); refine callA_of (Msgs_spec [] []) zB ?_; ((try refine zW ?_); (try with_reducible exact True.intro)))
   ((try refine zO ?_); (try with_reducible exact True.intro))
   refine ⟨i + 1, [], li, by omega, ?_⟩
   constructor <;> ((try refine zO ?_); (try with_reducible exact True.intro))
  ·obtain rfl : i = Z.length := by omega
   ((try refine zO ?_); (try with_reducible exact True.intro))
   (refine walk_trim [2, 3, 6] trivial zL ?_; ((try refine zW ?_); (try with_reducible exact True.intro)))
   refine walk_floop 200 200 (fun j : Nat => j ≤ 0)
    (fun j => ⟨90, [(2, .ptr 0 0 0 0), (3, .ptr 1 0 0 0), (6, sci .i64 j)], [], 2, [(1, .arr 6 0 [[sci .i64 node, sci .i64 state, sci .i64 steps, lI X, .p (.imm 1 (pr eZ Z)), lLs []]]), (0, .arr 6 0 [[sci .i64 node, sci .i64 state, sci .i64 steps, lI X, .p (.imm 1 (pr eZ Z)), lLs []]])]⟩) (fun j => 0 - j) (0) [] ?_ ?_ ?_
   ·simp
   ·constructor <;> (try simp (maxSteps := 2000000) (disch := omega) only [go_sem, simprocAttr, zD, zE, Int.natCast_zero, List.take_of_length_le, List.append_assoc])
   ·rintro j hj
    ((try refine zW ?_); (try with_reducible exact True.intro))
    by_cases lj : j < 0
    ·omega
    ·obtain rfl : j = 0 := by omega
     ((try refine zO ?_); (try with_reducible exact True.intro))
end Go.Proofs.HO
/- A host once: the law's walk. -/
namespace Go.Proofs.HO
open Go Go.Idl Go.Proofs Go.GP
set_option maxHeartbeats 20000000
set_option maxRecDepth 100000
theorem gHs_zHs : gHs zHs := gHs_zero
theorem gHs_zH : gHs zH := gHs_zero
theorem gHs_pick {N : Int} {ls : List (Int × Int)} {T : List Nd} {h : Hs} {n j : Nat} {nd : Nd} {st : St} (f : HF N ls T h n j nd st) (k : Int) : gHs (pickH ls st h k).1 ∧ (pickH ls st h k).2.1.length ≤ 4 := by
 rcases pickH_cases (ls := ls) (st := st) (h := h) (k := k) with ⟨e, _, h1⟩ | ⟨p, out, sent, hp, hgo, e⟩
 ·rw [h1]; exact ⟨gHs_zHs, by simp⟩
 ·rw [e]
  obtain ⟨p1, p2, p3⟩ := f.picks p hp
  obtain ⟨l1, l2, l3⟩ := pkGo_lets (fun y hy => (p3 y hy).2) f.lets hgo
  obtain ⟨g1, g2, g3, g4⟩ := f.gHs
  exact ⟨⟨g1, by simp only; simp only at l2; omega, g3, fun l hl => by have := (l1 l hl).1; omega⟩, by simp at l3; simp only; omega⟩
theorem gHs_take {N : Int} {ls : List (Int × Int)} {T : List Nd} {h : Hs} {n j : Nat} {nd : Nd} {st : St} (f : HF N ls T h n j nd st) (x : Int) (m : Int × Int) : gHs (takeH ls st h x m).1 := by
 unfold takeH
 split
 ·exact gHs_zH
 split
 ·rename_i l lk h1 h2
  split
  ·exact gHs_zH
  ·obtain ⟨g1, g2, g3, g4⟩ := f.gHs
   refine ⟨by simp only [List.length_set]; exact g1, g2, fun l' hl' => ?_, g4⟩
   rcases List.mem_or_eq_of_mem_set hl' with hl' | rfl
   ·exact g3 l' hl'
   ·have := (f.rows l (List.mem_of_getElem? h1)).2
    rw [sIns_eq, sIns_len]; omega
 ·exact gHs_zH
end Go.Proofs.HO
/- The first host of a node, the program's and the document's. -/
namespace Go.Proofs.HO
open Go Go.Idl Go.Proofs Go.GP
set_option maxHeartbeats 20000000
set_option maxRecDepth 100000
theorem pcall_weak {P : Program} {f : FuncId} {args : List IV} {R : List (Nat × IBlk)} {x y : IV} (h : ∀ M v, VRel M x v → VRel M y v) (p : PCall P f args R x) : PCall P f args R y := by
 intro hh hR M vs hM hl hr
 refine Calls.mono (p hh hR M vs hM hl hr) fun e w' ⟨M', nx', l', r, h1, h2, h3, h4, h5, h6, h7⟩ => ⟨M', nx', l', .ret y, h1, h2, h3, ?_, rfl, h6, h7⟩
 subst h5
 obtain ⟨v, e1, e2⟩ := h4
 exact ⟨v, e1, h _ _ e2⟩
theorem prel_nils {w : World} {own : Nat → Prop} {Z : List Unit} {sz : Nat} {v : Value} (h : PRel w own (.imm 1 (pr eZ Z)) v) : PRel w own (.imm 1 (List.replicate Z.length [.imm sz []])) v := by
 generalize hr : pr eZ Z = rows at h
 have hg : ∀ i, i < Z.length → rows[i]? = some [.sc (.slice none 0 0)] := fun i hi => by rw [← hr]; simp [pr, eZ, hi]
 have hl : rows.length = Z.length := by rw [← hr]; simp [pr]
 cases h with
 | imm sz rows a cap c o f h1 h2 h3 h4 h5 h6 =>
   have e : rows.length = (List.replicate Z.length [PV.imm sz []]).length := by simp [hl]
   have key : ∀ (i : Nat) (row : List PV), (List.replicate Z.length [PV.imm sz []])[i]? = some row → i < Z.length ∧ row = [PV.imm sz []] := fun i row hi => by
    obtain ⟨h7, h8⟩ := List.getElem?_eq_some_iff.1 hi
    exact ⟨by simpa using h7, by simpa using h8.symm⟩
   rw [e]
   refine .imm 1 _ a cap c o f (by simp; omega) h2 (fun q => h3 (by rw [e]; exact q)) (fun i row hi => by rw [(key i row hi).2]; rfl) (fun i row j x hi hj => ?_) fun i row j x hi hj => ?_
   ·obtain ⟨k1, rfl⟩ := key i row hi
    cases j with
    | zero => exact h5 i _ 0 _ (hg i k1) rfl
    | succ j => simp at hj
   ·obtain ⟨k1, rfl⟩ := key i row hi
    cases j with
    | zero =>
      simp at hj
      subst hj
      have := h6 i _ 0 _ (hg i k1) rfl
      generalize f i 0 = u at this
      cases this
      exact .imm _ [] none 0 0 0 (fun _ _ => .slice none 0 0) (Nat.le_refl _) (Nat.zero_le _) (fun q => by simp at q) (fun i row q => by simp at q) (fun i row j x q => by simp at q) fun i row j x q => by simp at q
    | succ j => simp at hj
theorem vrel_newH {M : Mem} {v : Value} {a b c : Int} {Z1 Z2 : List Unit} (h : VRel M (.agg [sci .i64 a, sci .i64 b, sci .i64 c, .p (.imm 1 (pr eZ Z1)), .p (.imm 1 (pr eZ Z2))]) v) :
  VRel M (lHs ⟨a, b, c, List.replicate Z1.length [], List.replicate Z2.length []⟩) v := by
 have e1 : pr eMs (List.replicate Z1.length []) = List.replicate Z1.length [.imm 2 []] := by simp [pr, eMs]
 have e2 : pr eLs (List.replicate Z2.length []) = List.replicate Z2.length [.imm 1 []] := by simp [pr, eLs]
 cases h with
 | agg cs vs hl h1 r =>
   show VRel M (.agg [sci .i64 a, sci .i64 b, sci .i64 c, .p (.imm 1 (pr eMs (List.replicate Z1.length []))), .p (.imm 1 (pr eLs (List.replicate Z2.length [])))]) _
   rw [e1, e2]
   refine .agg _ vs (by simpa using hl) h1 fun i x w hx hw => ?_
   match i, hx with
   | 0, hx => exact r 0 x w hx hw
   | 1, hx => exact r 1 x w hx hw
   | 2, hx => exact r 2 x w hx hw
   | 3, hx =>
     simp at hx
     subst hx
     have := r 3 _ w rfl hw
     cases this with
     | p _ _ h => exact .p _ _ (prel_nils h)
   | 4, hx =>
     simp at hx
     subst hx
     have := r 4 _ w rfl hw
     cases this with
     | p _ _ h => exact .p _ _ (prel_nils h)
   | i + 5, hx => simp at hx
theorem ins_len1 (n : Int) : ∀ (ls : List (Int × Int)) (i : Nat), (ins n i ls).length ≤ ls.length
 | [], i => by simp [ins]
 | x :: r, i => by
   have := ins_len1 n r (i + 1)
   unfold ins
   split <;> simp <;> omega
theorem outs_len1 (n : Int) : ∀ (ls : List (Int × Int)) (i : Nat), (outs n i ls).length ≤ ls.length
 | [], i => by simp [outs]
 | x :: r, i => by
   have := outs_len1 n r (i + 1)
   unfold outs
   split <;> simp <;> omega
theorem pr_rep (n : Nat) : pr eZ (List.replicate n ()) = List.replicate n [.sc (.slice none 0 0)] := by simp [pr, eZ]
theorem hNew_spec (N : Int) (ls : List (Int × Int)) (T : List Nd) (ff : Bool) (room : Nat) (acts : List (Int × Int × Int)) (n : Int) (m : Nat) (x : Nd) (hl : ls.length ≤ 1000000) (hm : (m : Int) = if n < 0 ∨ N ≤ n then 0 else n) (hx : T[m]? = some x) :
  Pure Tryz.prog 15 [lApp ⟨N, ls, T, ff, room, acts⟩, sci .i64 n] (lHs ⟨m, x.start, 0, List.replicate (ins m 0 ls).length [], List.replicate (outs m 0 ls).length []⟩) := by
 obtain ⟨ln, ex⟩ := List.getElem?_eq_some_iff.1 hx
 obtain ⟨st, ss⟩ := x
 have hz : Pure Tryz.prog 15 [lApp ⟨N, ls, T, ff, room, acts⟩, sci .i64 n] (.agg [sci .i64 m, sci .i64 st, sci .i64 0, .p (.imm 1 (pr eZ (List.replicate (ins m 0 ls).length ()))), .p (.imm 1 (pr eZ (List.replicate (outs m 0 ls).length ())))]) := by
  rw [pr_rep, pr_rep]
  have hi1 := ins_len1 m ls 0
  have ho1 := outs_len1 m ls 0
  refine pcall0 200 (fn := Tryz.f15) Tryz.func15 rfl (by simp [Tryz.ntmps15]) zB zB fun hs => ?_
  by_cases c1 : n < 0
  ·rw [if_pos (.inl c1)] at hm
   obtain rfl : m = 0 := by omega
   rw [Int.natCast_zero] at hi1 ho1
   (try simp (maxSteps := 2000000) (disch := omega) only [go_sem, simprocAttr, zD, zE, c1])
   (refine walk_trim [1, 2, 4, 40] trivial zL ?_; (refine zW ?_; try with_reducible exact True.intro); refine irun_walk (id := 3) (n := 200) [none, none, none, none, none, none, none, none, none, none, some [0, 1, 2, 3, 4, 5, 6, 13, 14, 15], none, some [0, 1, 2, 3, 4, 5, 6, 13, 14, 15, 16, 17, 18], none, none, none, some [0, 1, 2, 3, 4, 5, 6, 11, 12], none, some [0, 1, 2, 3, 4, 5, 6, 11, 12], none, some []] mixed (by kernel_rfl) ?_)
   (try simp (maxSteps := 2000000) (disch := omega) only [go_sem, simprocAttr, zD, zE, ex, eNd])
   (refine at_dcall ?_; (refine zW ?_; try with_reducible exact True.intro); refine callA_of (In_spec N 0 ls hl) zB ?_; ((try refine zW ?_); (try with_reducible exact True.intro)))
   (try simp (maxSteps := 2000000) (disch := omega) only [go_sem, simprocAttr, zD, zE, Int.natCast_zero])
   (refine at_dcall ?_; (refine zW ?_; try with_reducible exact True.intro); refine callA_of (Out_spec N 0 ls hl) zB ?_; ((try refine zW ?_); (try with_reducible exact True.intro)))
   (try simp (maxSteps := 2000000) (disch := omega) only [go_sem, simprocAttr, zD, zE, pvs2_rep])
  ·by_cases c2 : N ≤ n
   ·rw [if_pos (.inr c2)] at hm
    obtain rfl : m = 0 := by omega
    rw [Int.natCast_zero] at hi1 ho1
    (try simp (maxSteps := 2000000) (disch := omega) only [go_sem, simprocAttr, zD, zE, c1, c2])
    (refine walk_trim [1, 2, 4, 40] trivial zL ?_; (refine zW ?_; try with_reducible exact True.intro); refine irun_walk (id := 3) (n := 200) [none, none, none, none, none, none, none, none, none, none, some [0, 1, 2, 3, 4, 5, 6, 13, 14, 15], none, some [0, 1, 2, 3, 4, 5, 6, 13, 14, 15, 16, 17, 18], none, none, none, some [0, 1, 2, 3, 4, 5, 6, 11, 12], none, some [0, 1, 2, 3, 4, 5, 6, 11, 12], none, some []] mixed (by kernel_rfl) ?_)
    (try simp (maxSteps := 2000000) (disch := omega) only [go_sem, simprocAttr, zD, zE, ex, eNd])
    (refine at_dcall ?_; (refine zW ?_; try with_reducible exact True.intro); refine callA_of (In_spec N 0 ls hl) zB ?_; ((try refine zW ?_); (try with_reducible exact True.intro)))
    (try simp (maxSteps := 2000000) (disch := omega) only [go_sem, simprocAttr, zD, zE, Int.natCast_zero])
    (refine at_dcall ?_; (refine zW ?_; try with_reducible exact True.intro); refine callA_of (Out_spec N 0 ls hl) zB ?_; ((try refine zW ?_); (try with_reducible exact True.intro)))
    (try simp (maxSteps := 2000000) (disch := omega) only [go_sem, simprocAttr, zD, zE, pvs2_rep])
   ·rw [if_neg (by omega)] at hm
    subst hm
    (try simp (maxSteps := 2000000) (disch := omega) only [go_sem, simprocAttr, zD, zE, c1, c2])
    (refine walk_trim [1, 2, 4, 40] trivial zL ?_; (refine zW ?_; try with_reducible exact True.intro); refine irun_walk (id := 3) (n := 200) [none, none, none, none, none, none, none, none, none, none, some [0, 1, 2, 3, 4, 5, 6, 13, 14, 15], none, some [0, 1, 2, 3, 4, 5, 6, 13, 14, 15, 16, 17, 18], none, none, none, some [0, 1, 2, 3, 4, 5, 6, 11, 12], none, some [0, 1, 2, 3, 4, 5, 6, 11, 12], none, some []] mixed (by kernel_rfl) ?_)
    (try simp (maxSteps := 2000000) (disch := omega) only [go_sem, simprocAttr, zD, zE, ex, eNd])
    (refine at_dcall ?_; (refine zW ?_; try with_reducible exact True.intro); refine callA_of (In_spec N m ls hl) zB ?_; ((try refine zW ?_); (try with_reducible exact True.intro)))
    ((try refine zO ?_); (try with_reducible exact True.intro))
    (refine at_dcall ?_; (refine zW ?_; try with_reducible exact True.intro); refine callA_of (Out_spec N m ls hl) zB ?_; ((try refine zW ?_); (try with_reducible exact True.intro)))
    (try simp (maxSteps := 2000000) (disch := omega) only [go_sem, simprocAttr, zD, zE, pvs2_rep])
 have := pcall_weak (fun M v => vrel_newH) hz
 simpa using this
theorem R9New_spec (N : Int) (ls : List (Int × Int)) (T : List Nd) (ff : Bool) (room : Nat) (acts : List (Int × Int × Int)) (n : Int) (m : Nat) (x : Nd) (hl : ls.length ≤ 1000000) (hm : (m : Int) = if n < 0 ∨ N ≤ n then 0 else n) (hx : T[m]? = some x) :
  Pure Tryz.prog 16 [lApp ⟨N, ls, T, ff, room, acts⟩, sci .i64 n] (lHs ⟨m, x.start, 0, List.replicate (ins m 0 ls).length [], List.replicate (outs m 0 ls).length []⟩) := by
 obtain ⟨ln, ex⟩ := List.getElem?_eq_some_iff.1 hx
 obtain ⟨st, ss⟩ := x
 have hz : Pure Tryz.prog 16 [lApp ⟨N, ls, T, ff, room, acts⟩, sci .i64 n] (.agg [sci .i64 m, sci .i64 st, sci .i64 0, .p (.imm 1 (pr eZ (List.replicate (ins m 0 ls).length ()))), .p (.imm 1 (pr eZ (List.replicate (outs m 0 ls).length ())))]) := by
  have hi1 := ins_len1 m ls 0
  have ho1 := outs_len1 m ls 0
  refine pcall0 200 (fn := Tryz.f16) Tryz.func16 rfl (by simp [Tryz.ntmps16]) zB zB fun hs => ?_
  by_cases c1 : n < 0
  ·rw [if_pos (.inl c1)] at hm
   obtain rfl : m = 0 := by omega
   rw [Int.natCast_zero] at hi1 ho1
   (try simp (maxSteps := 2000000) (disch := omega) only [go_sem, simprocAttr, zD, zE, c1])
   (try simp (maxSteps := 2000000) (disch := omega) only [go_sem, simprocAttr, zD, zE, ex, eNd])
   refine walk_ownB 2 0 3 1 trivial rfl rfl rfl (.inr rfl) ?_
   simp only [List.set_cons_zero, List.set_cons_succ, Nat.reduceAdd]
   (refine walk_trim [1, 2, 4, 5, 6] trivial zL ?_; ((try refine zW ?_); (try with_reducible exact True.intro)))
   refine walk_floop 200 200 (fun i : Nat => i ≤ (ins 0 0 ls).length)
    (fun i => ⟨54, [(1, sci .i64 0), (2, .ptr 0 0 0 0), (4, .ptr 1 0 0 0), (5, .ptr 2 0 0 0), (6, sci .i64 i)], [], 4, [(3, .arr 1 i (ir eZ (List.replicate i ()))), (2, .arr 5 0 [[sci .i64 0, sci .i64 st, sci .i64 0, .ref 3 i 0 i, nil0]]), (1, .arr 5 0 [[sci .i64 0, sci .i64 0, sci .i64 0, nil0, nil0]]), (0, .arr 4 0 [[sci .i64 N, lII ls, .p (.imm 2 (pr eNd T)), scb ff]])]⟩) (fun i => (ins 0 0 ls).length - i) (0) [] ?_ ?_ ?_
   ·simp
   ·constructor <;> (try simp (maxSteps := 2000000) (disch := omega) only [go_sem, simprocAttr, zD, zE, Int.natCast_zero, List.take_of_length_le, List.append_assoc, List.replicate_zero])
   ·rintro i hi
    ((try refine zW ?_); (try with_reducible exact True.intro))
    by_cases li : i < (ins 0 0 ls).length
    ·(refine at_call 200 ?_; (refine zW ?_; try with_reducible exact True.intro); refine callA_of (R3In_spec N 0 ls hl) zB ?_; ((try refine zW ?_); (try with_reducible exact True.intro)))
     have hti : (List.replicate i ()).take i = List.replicate i () := List.take_of_length_le (by simp)
     (try simp (maxSteps := 2000000) (disch := omega) only [go_sem, simprocAttr, zD, zE, List.length_replicate])
     refine ⟨i + 1, [], by first | assumption | omega, ?_, ?_⟩
     ·(try simp only []); omega
     ·constructor <;> (try simp (maxSteps := 2000000) (disch := omega) only [go_sem, simprocAttr, zD, zE, List.replicate_succ', List.length_replicate, hti, ir_snoc, eZ, List.map_cons, List.map_nil, List.append_assoc])
    ·obtain rfl : i = (ins 0 0 ls).length := by omega
     (refine at_call 200 ?_; (refine zW ?_; try with_reducible exact True.intro); refine callA_of (R3In_spec N 0 ls hl) zB ?_; ((try refine zW ?_); (try with_reducible exact True.intro)))
     ((try refine zO ?_); (try with_reducible exact True.intro))
     refine walk_ownB 2 0 4 1 trivial rfl rfl rfl (.inr rfl) ?_
     simp only [List.set_cons_zero, List.set_cons_succ, Nat.reduceAdd]
     (refine walk_trim [1, 2, 4, 5, 7] trivial zL ?_; ((try refine zW ?_); (try with_reducible exact True.intro)))
     refine walk_floop 200 200 (fun j : Nat => j ≤ (outs 0 0 ls).length)
      (fun j => ⟨54, [(1, sci .i64 0), (2, .ptr 0 0 0 0), (4, .ptr 1 0 0 0), (5, .ptr 2 0 0 0), (7, sci .i64 j)], [], 5, [(4, .arr 1 j (ir eZ (List.replicate j ()))), (3, .arr 1 (ins 0 0 ls).length (ir eZ (List.replicate (ins 0 0 ls).length ()))), (2, .arr 5 0 [[sci .i64 0, sci .i64 st, sci .i64 0, .ref 3 (ins 0 0 ls).length 0 (ins 0 0 ls).length, .ref 4 j 0 j]]), (1, .arr 5 0 [[sci .i64 0, sci .i64 0, sci .i64 0, nil0, nil0]]), (0, .arr 4 0 [[sci .i64 N, lII ls, .p (.imm 2 (pr eNd T)), scb ff]])]⟩) (fun j => (outs 0 0 ls).length - j) (0) [] ?_ ?_ ?_
     ·simp
     ·constructor <;> (try simp (maxSteps := 2000000) (disch := omega) only [go_sem, simprocAttr, zD, zE, Int.natCast_zero, List.take_of_length_le, List.append_assoc, List.replicate_zero])
     ·rintro j hj
      ((try refine zW ?_); (try with_reducible exact True.intro))
      by_cases lj : j < (outs 0 0 ls).length
      ·(refine at_call 200 ?_; (refine zW ?_; try with_reducible exact True.intro); refine callA_of (R3Out_spec N 0 ls hl) zB ?_; ((try refine zW ?_); (try with_reducible exact True.intro)))
       have hti : (List.replicate j ()).take j = List.replicate j () := List.take_of_length_le (by simp)
       (try simp (maxSteps := 2000000) (disch := omega) only [go_sem, simprocAttr, zD, zE, List.length_replicate])
       refine ⟨j + 1, [], by first | assumption | omega, ?_, ?_⟩
       ·(try simp only []); omega
       ·constructor <;> (try simp (maxSteps := 2000000) (disch := omega) only [go_sem, simprocAttr, zD, zE, List.replicate_succ', List.length_replicate, hti, ir_snoc, eZ, List.map_cons, List.map_nil, List.append_assoc])
      ·obtain rfl : j = (outs 0 0 ls).length := by omega
       (refine at_call 200 ?_; (refine zW ?_; try with_reducible exact True.intro); refine callA_of (R3Out_spec N 0 ls hl) zB ?_; ((try refine zW ?_); (try with_reducible exact True.intro)))
       have h1 : (List.replicate (ins 0 0 ls).length ()).take (ins 0 0 ls).length = List.replicate (ins 0 0 ls).length () := List.take_of_length_le (by simp)
       have h2 : (List.replicate (outs 0 0 ls).length ()).take (outs 0 0 ls).length = List.replicate (outs 0 0 ls).length () := List.take_of_length_le (by simp)
       (try simp (maxSteps := 2000000) (disch := omega) only [go_sem, simprocAttr, zD, zE, h1, h2, Int.natCast_zero])
  ·by_cases c2 : N ≤ n
   ·rw [if_pos (.inr c2)] at hm
    obtain rfl : m = 0 := by omega
    rw [Int.natCast_zero] at hi1 ho1
    (try simp (maxSteps := 2000000) (disch := omega) only [go_sem, simprocAttr, zD, zE, c1, c2])
    (try simp (maxSteps := 2000000) (disch := omega) only [go_sem, simprocAttr, zD, zE, ex, eNd])
    refine walk_ownB 2 0 3 1 trivial rfl rfl rfl (.inr rfl) ?_
    simp only [List.set_cons_zero, List.set_cons_succ, Nat.reduceAdd]
    (refine walk_trim [1, 2, 4, 5, 6] trivial zL ?_; ((try refine zW ?_); (try with_reducible exact True.intro)))
    refine walk_floop 200 200 (fun i : Nat => i ≤ (ins 0 0 ls).length)
     (fun i => ⟨54, [(1, sci .i64 0), (2, .ptr 0 0 0 0), (4, .ptr 1 0 0 0), (5, .ptr 2 0 0 0), (6, sci .i64 i)], [], 4, [(3, .arr 1 i (ir eZ (List.replicate i ()))), (2, .arr 5 0 [[sci .i64 0, sci .i64 st, sci .i64 0, .ref 3 i 0 i, nil0]]), (1, .arr 5 0 [[sci .i64 0, sci .i64 0, sci .i64 0, nil0, nil0]]), (0, .arr 4 0 [[sci .i64 N, lII ls, .p (.imm 2 (pr eNd T)), scb ff]])]⟩) (fun i => (ins 0 0 ls).length - i) (0) [] ?_ ?_ ?_
    ·simp
    ·constructor <;> (try simp (maxSteps := 2000000) (disch := omega) only [go_sem, simprocAttr, zD, zE, Int.natCast_zero, List.take_of_length_le, List.append_assoc, List.replicate_zero])
    ·rintro i hi
     ((try refine zW ?_); (try with_reducible exact True.intro))
     by_cases li : i < (ins 0 0 ls).length
     ·(refine at_call 200 ?_; (refine zW ?_; try with_reducible exact True.intro); refine callA_of (R3In_spec N 0 ls hl) zB ?_; ((try refine zW ?_); (try with_reducible exact True.intro)))
      have hti : (List.replicate i ()).take i = List.replicate i () := List.take_of_length_le (by simp)
      (try simp (maxSteps := 2000000) (disch := omega) only [go_sem, simprocAttr, zD, zE, List.length_replicate])
      refine ⟨i + 1, [], by first | assumption | omega, ?_, ?_⟩
      ·(try simp only []); omega
      ·constructor <;> (try simp (maxSteps := 2000000) (disch := omega) only [go_sem, simprocAttr, zD, zE, List.replicate_succ', List.length_replicate, hti, ir_snoc, eZ, List.map_cons, List.map_nil, List.append_assoc])
     ·obtain rfl : i = (ins 0 0 ls).length := by omega
      (refine at_call 200 ?_; (refine zW ?_; try with_reducible exact True.intro); refine callA_of (R3In_spec N 0 ls hl) zB ?_; ((try refine zW ?_); (try with_reducible exact True.intro)))
      ((try refine zO ?_); (try with_reducible exact True.intro))
      refine walk_ownB 2 0 4 1 trivial rfl rfl rfl (.inr rfl) ?_
      simp only [List.set_cons_zero, List.set_cons_succ, Nat.reduceAdd]
      (refine walk_trim [1, 2, 4, 5, 7] trivial zL ?_; ((try refine zW ?_); (try with_reducible exact True.intro)))
      refine walk_floop 200 200 (fun j : Nat => j ≤ (outs 0 0 ls).length)
       (fun j => ⟨54, [(1, sci .i64 0), (2, .ptr 0 0 0 0), (4, .ptr 1 0 0 0), (5, .ptr 2 0 0 0), (7, sci .i64 j)], [], 5, [(4, .arr 1 j (ir eZ (List.replicate j ()))), (3, .arr 1 (ins 0 0 ls).length (ir eZ (List.replicate (ins 0 0 ls).length ()))), (2, .arr 5 0 [[sci .i64 0, sci .i64 st, sci .i64 0, .ref 3 (ins 0 0 ls).length 0 (ins 0 0 ls).length, .ref 4 j 0 j]]), (1, .arr 5 0 [[sci .i64 0, sci .i64 0, sci .i64 0, nil0, nil0]]), (0, .arr 4 0 [[sci .i64 N, lII ls, .p (.imm 2 (pr eNd T)), scb ff]])]⟩) (fun j => (outs 0 0 ls).length - j) (0) [] ?_ ?_ ?_
      ·simp
      ·constructor <;> (try simp (maxSteps := 2000000) (disch := omega) only [go_sem, simprocAttr, zD, zE, Int.natCast_zero, List.take_of_length_le, List.append_assoc, List.replicate_zero])
      ·rintro j hj
       ((try refine zW ?_); (try with_reducible exact True.intro))
       by_cases lj : j < (outs 0 0 ls).length
       ·(refine at_call 200 ?_; (refine zW ?_; try with_reducible exact True.intro); refine callA_of (R3Out_spec N 0 ls hl) zB ?_; ((try refine zW ?_); (try with_reducible exact True.intro)))
        have hti : (List.replicate j ()).take j = List.replicate j () := List.take_of_length_le (by simp)
        (try simp (maxSteps := 2000000) (disch := omega) only [go_sem, simprocAttr, zD, zE, List.length_replicate])
        refine ⟨j + 1, [], by first | assumption | omega, ?_, ?_⟩
        ·(try simp only []); omega
        ·constructor <;> (try simp (maxSteps := 2000000) (disch := omega) only [go_sem, simprocAttr, zD, zE, List.replicate_succ', List.length_replicate, hti, ir_snoc, eZ, List.map_cons, List.map_nil, List.append_assoc])
       ·obtain rfl : j = (outs 0 0 ls).length := by omega
        (refine at_call 200 ?_; (refine zW ?_; try with_reducible exact True.intro); refine callA_of (R3Out_spec N 0 ls hl) zB ?_; ((try refine zW ?_); (try with_reducible exact True.intro)))
        have h1 : (List.replicate (ins 0 0 ls).length ()).take (ins 0 0 ls).length = List.replicate (ins 0 0 ls).length () := List.take_of_length_le (by simp)
        have h2 : (List.replicate (outs 0 0 ls).length ()).take (outs 0 0 ls).length = List.replicate (outs 0 0 ls).length () := List.take_of_length_le (by simp)
        (try simp (maxSteps := 2000000) (disch := omega) only [go_sem, simprocAttr, zD, zE, h1, h2, Int.natCast_zero])
   ·rw [if_neg (by omega)] at hm
    subst hm
    (try simp (maxSteps := 2000000) (disch := omega) only [go_sem, simprocAttr, zD, zE, c1, c2])
    (try simp (maxSteps := 2000000) (disch := omega) only [go_sem, simprocAttr, zD, zE, ex, eNd])
    refine walk_ownB 2 0 3 1 trivial rfl rfl rfl (.inr rfl) ?_
    simp only [List.set_cons_zero, List.set_cons_succ, Nat.reduceAdd]
    (refine walk_trim [1, 2, 4, 5, 6] trivial zL ?_; ((try refine zW ?_); (try with_reducible exact True.intro)))
    refine walk_floop 200 200 (fun i : Nat => i ≤ (ins m 0 ls).length)
     (fun i => ⟨54, [(1, sci .i64 m), (2, .ptr 0 0 0 0), (4, .ptr 1 0 0 0), (5, .ptr 2 0 0 0), (6, sci .i64 i)], [], 4, [(3, .arr 1 i (ir eZ (List.replicate i ()))), (2, .arr 5 0 [[sci .i64 m, sci .i64 st, sci .i64 0, .ref 3 i 0 i, nil0]]), (1, .arr 5 0 [[sci .i64 0, sci .i64 0, sci .i64 0, nil0, nil0]]), (0, .arr 4 0 [[sci .i64 N, lII ls, .p (.imm 2 (pr eNd T)), scb ff]])]⟩) (fun i => (ins m 0 ls).length - i) (0) [] ?_ ?_ ?_
    ·simp
    ·constructor <;> (try simp (maxSteps := 2000000) (disch := omega) only [go_sem, simprocAttr, zD, zE, Int.natCast_zero, List.take_of_length_le, List.append_assoc, List.replicate_zero])
    ·rintro i hi
     ((try refine zW ?_); (try with_reducible exact True.intro))
     by_cases li : i < (ins m 0 ls).length
     ·(refine at_call 200 ?_; (refine zW ?_; try with_reducible exact True.intro); refine callA_of (R3In_spec N m ls hl) zB ?_; ((try refine zW ?_); (try with_reducible exact True.intro)))
      have hti : (List.replicate i ()).take i = List.replicate i () := List.take_of_length_le (by simp)
      (try simp (maxSteps := 2000000) (disch := omega) only [go_sem, simprocAttr, zD, zE, List.length_replicate])
      refine ⟨i + 1, [], by first | assumption | omega, ?_, ?_⟩
      ·(try simp only []); omega
      ·constructor <;> (try simp (maxSteps := 2000000) (disch := omega) only [go_sem, simprocAttr, zD, zE, List.replicate_succ', List.length_replicate, hti, ir_snoc, eZ, List.map_cons, List.map_nil, List.append_assoc])
     ·obtain rfl : i = (ins m 0 ls).length := by omega
      (refine at_call 200 ?_; (refine zW ?_; try with_reducible exact True.intro); refine callA_of (R3In_spec N m ls hl) zB ?_; ((try refine zW ?_); (try with_reducible exact True.intro)))
      ((try refine zO ?_); (try with_reducible exact True.intro))
      refine walk_ownB 2 0 4 1 trivial rfl rfl rfl (.inr rfl) ?_
      simp only [List.set_cons_zero, List.set_cons_succ, Nat.reduceAdd]
      (refine walk_trim [1, 2, 4, 5, 7] trivial zL ?_; ((try refine zW ?_); (try with_reducible exact True.intro)))
      refine walk_floop 200 200 (fun j : Nat => j ≤ (outs m 0 ls).length)
       (fun j => ⟨54, [(1, sci .i64 m), (2, .ptr 0 0 0 0), (4, .ptr 1 0 0 0), (5, .ptr 2 0 0 0), (7, sci .i64 j)], [], 5, [(4, .arr 1 j (ir eZ (List.replicate j ()))), (3, .arr 1 (ins m 0 ls).length (ir eZ (List.replicate (ins m 0 ls).length ()))), (2, .arr 5 0 [[sci .i64 m, sci .i64 st, sci .i64 0, .ref 3 (ins m 0 ls).length 0 (ins m 0 ls).length, .ref 4 j 0 j]]), (1, .arr 5 0 [[sci .i64 0, sci .i64 0, sci .i64 0, nil0, nil0]]), (0, .arr 4 0 [[sci .i64 N, lII ls, .p (.imm 2 (pr eNd T)), scb ff]])]⟩) (fun j => (outs m 0 ls).length - j) (0) [] ?_ ?_ ?_
      ·simp
      ·constructor <;> (try simp (maxSteps := 2000000) (disch := omega) only [go_sem, simprocAttr, zD, zE, Int.natCast_zero, List.take_of_length_le, List.append_assoc, List.replicate_zero])
      ·rintro j hj
       ((try refine zW ?_); (try with_reducible exact True.intro))
       by_cases lj : j < (outs m 0 ls).length
       ·(refine at_call 200 ?_; (refine zW ?_; try with_reducible exact True.intro); refine callA_of (R3Out_spec N m ls hl) zB ?_; ((try refine zW ?_); (try with_reducible exact True.intro)))
        have hti : (List.replicate j ()).take j = List.replicate j () := List.take_of_length_le (by simp)
        (try simp (maxSteps := 2000000) (disch := omega) only [go_sem, simprocAttr, zD, zE, List.length_replicate])
        refine ⟨j + 1, [], by first | assumption | omega, ?_, ?_⟩
        ·(try simp only []); omega
        ·constructor <;> (try simp (maxSteps := 2000000) (disch := omega) only [go_sem, simprocAttr, zD, zE, List.replicate_succ', List.length_replicate, hti, ir_snoc, eZ, List.map_cons, List.map_nil, List.append_assoc])
       ·obtain rfl : j = (outs m 0 ls).length := by omega
        (refine at_call 200 ?_; (refine zW ?_; try with_reducible exact True.intro); refine callA_of (R3Out_spec N m ls hl) zB ?_; ((try refine zW ?_); (try with_reducible exact True.intro)))
        have h1 : (List.replicate (ins m 0 ls).length ()).take (ins m 0 ls).length = List.replicate (ins m 0 ls).length () := List.take_of_length_le (by simp)
        have h2 : (List.replicate (outs m 0 ls).length ()).take (outs m 0 ls).length = List.replicate (outs m 0 ls).length () := List.take_of_length_le (by simp)
        (try simp (maxSteps := 2000000) (disch := omega) only [go_sem, simprocAttr, zD, zE, h1, h2, Int.natCast_zero])
 have := pcall_weak (fun M v => vrel_newH) hz
 simpa using this
end Go.Proofs.HO
/- The first host of a node may be: no node of a graph has more than five links either way. Plain law. -/
namespace Go.Proofs.HO
open Go Go.Idl Go.Proofs Go.GP
theorem pigeon : ∀ (N : Nat) (l : List Nat), l.Nodup → (∀ n ∈ l, n < N) → l.length ≤ N
 | 0, l, _, h => by
   cases l with
   | nil => simp
   | cons a l => exact absurd (h a (by simp)) (by omega)
 | N + 1, l, hd, h => by
   have h2 := pigeon N (l.filter (· != N)) (hd.filter _) fun n hn => by
    obtain ⟨h1, h2⟩ := List.mem_filter.1 hn
    have := h n h1
    have h3 : n ≠ N := by simpa using h2
    omega
   have h3 : l.length ≤ (l.filter (· != N)).length + 1 := by
    clear h h2
    induction l with
    | nil => simp
    | cons a l ih =>
      obtain ⟨h1, h2⟩ := List.nodup_cons.1 hd
      have := ih h2
      by_cases e : a = N
      ·subst e
       have h4 : l.filter (· != a) = l := List.filter_eq_self.2 fun x hx => by
        have : x ≠ a := fun q => h1 (q ▸ hx)
        simpa using this
       simp [h4]
      ·rw [List.filter_cons_of_pos (by simpa using e)]
       simp only [List.length_cons]; omega
   omega
theorem links_nodup {N : Int} {ls : List (Int × Int)} (h : ∀ (i : Nat) (x : Int × Int), ls[i]? = some x → LinkOk N ls i x) : ls.Nodup := by
 rw [List.nodup_iff_pairwise_ne, List.pairwise_iff_getElem]
 intro i j hi hj hij e
 have h1 := (h i _ (List.getElem?_eq_getElem hi)).2.2.2.1
 have h2 := (h j _ (List.getElem?_eq_getElem hj)).2.2.2.1
 rw [e, h2] at h1
 omega
theorem ins_count (n : Int) : ∀ (ls : List (Int × Int)) (i : Nat), (ins n i ls).length = (ls.filter (fun x => x.2 == n)).length
 | [], i => by simp [ins]
 | x :: r, i => by
   have := ins_count n r (i + 1)
   unfold ins
   by_cases e : x.2 = n
   ·rw [if_pos e, List.filter_cons_of_pos (by simpa using e)]; simp [this]
   ·rw [if_neg e, List.filter_cons_of_neg (by simpa using e)]; exact this
theorem outs_count (n : Int) : ∀ (ls : List (Int × Int)) (i : Nat), (outs n i ls).length = (ls.filter (fun x => x.1 == n)).length
 | [], i => by simp [outs]
 | x :: r, i => by
   have := outs_count n r (i + 1)
   unfold outs
   by_cases e : x.1 = n
   ·rw [if_pos e, List.filter_cons_of_pos (by simpa using e)]; simp [this]
   ·rw [if_neg e, List.filter_cons_of_neg (by simpa using e)]; exact this
theorem few {N n : Int} {l : List Int} (hn : 0 ≤ n ∧ n < N) (h6 : N ≤ 6) (hd : l.Nodup) (h : ∀ x ∈ l, 0 ≤ x ∧ x < N ∧ x ≠ n) : l.length ≤ 5 := by
 have h1 : ((n :: l).map Int.toNat).Nodup := by
  rw [List.nodup_iff_pairwise_ne, List.pairwise_map]
  have h2 : (n :: l).Nodup := List.nodup_cons.2 ⟨fun q => (h n q).2.2 rfl, hd⟩
  have h3 : ∀ x ∈ n :: l, 0 ≤ x := fun x hx => by
   rcases List.mem_cons.1 hx with rfl | hx
   ·exact hn.1
   ·exact (h x hx).1
  rw [List.nodup_iff_pairwise_ne] at h2
  refine List.Pairwise.imp_of_mem (fun {a b} ha hb hab e => hab ?_) h2
  have := h3 a ha
  have := h3 b hb
  omega
 have h2 := pigeon N.toNat _ h1 fun x hx => by
  obtain ⟨y, hy, rfl⟩ := List.mem_map.1 hx
  rcases List.mem_cons.1 hy with rfl | hy
  ·omega
  ·have := h y hy; omega
 simp only [List.length_map, List.length_cons] at h2
 omega
theorem ins_five {N : Int} {ls : List (Int × Int)} (h : RightP N ls) {n : Int} (hn : 0 ≤ n ∧ n < N) : (ins n 0 ls).length ≤ 5 := by
 obtain ⟨_, h6, _, hl, _⟩ := h
 have hd := links_nodup hl
 rw [ins_count, ← List.length_map (f := Prod.fst)]
 have hm : ∀ x ∈ ls.filter (fun x => x.2 == n), x.2 = n ∧ x ∈ ls := fun x hx => by
  obtain ⟨h1, h2⟩ := List.mem_filter.1 hx
  exact ⟨by simpa using h2, h1⟩
 refine few hn h6 ?_ fun x hx => ?_
 ·rw [List.nodup_iff_pairwise_ne, List.pairwise_map]
  have h2 := hd.filter (fun x => x.2 == n)
  refine List.Pairwise.imp_of_mem (fun {a b} ha hb hab e => hab (Prod.ext e ?_)) h2
  rw [(hm a ha).1, (hm b hb).1]
 ·obtain ⟨y, hy, rfl⟩ := List.mem_map.1 hx
  obtain ⟨e, hy2⟩ := hm y hy
  obtain ⟨q, hq⟩ := List.mem_iff_getElem?.1 hy2
  have := hl q y hq
  exact ⟨this.1.1, this.1.2, fun c => this.2.2.1 (by rw [c, e])⟩
theorem outs_five {N : Int} {ls : List (Int × Int)} (h : RightP N ls) {n : Int} (hn : 0 ≤ n ∧ n < N) : (outs n 0 ls).length ≤ 5 := by
 obtain ⟨_, h6, _, hl, _⟩ := h
 have hd := links_nodup hl
 rw [outs_count, ← List.length_map (f := Prod.snd)]
 have hm : ∀ x ∈ ls.filter (fun x => x.1 == n), x.1 = n ∧ x ∈ ls := fun x hx => by
  obtain ⟨h1, h2⟩ := List.mem_filter.1 hx
  exact ⟨by simpa using h2, h1⟩
 refine few hn h6 ?_ fun x hx => ?_
 ·rw [List.nodup_iff_pairwise_ne, List.pairwise_map]
  have h2 := hd.filter (fun x => x.1 == n)
  refine List.Pairwise.imp_of_mem (fun {a b} ha hb hab e => hab (Prod.ext ?_ e)) h2
  rw [(hm a ha).1, (hm b hb).1]
 ·obtain ⟨y, hy, rfl⟩ := List.mem_map.1 hx
  obtain ⟨e, hy2⟩ := hm y hy
  obtain ⟨q, hq⟩ := List.mem_iff_getElem?.1 hy2
  have := hl q y hq
  exact ⟨this.2.1.1, this.2.1.2, fun c => this.2.2.1 (by rw [c, e])⟩
theorem new_may {N : Int} {ls : List (Int × Int)} {T : List Nd} {m : Nat} {x : Nd} (h : TabP N ls T) (hx : T[m]? = some x) : HostP N ls T ⟨m, x.start, 0, List.replicate (ins m 0 ls).length [], List.replicate (outs m 0 ls).length []⟩ := by
 have hm := (List.getElem?_eq_some_iff.1 hx).1
 have hT := h.2.1
 have hN : 0 ≤ (m : Int) ∧ (m : Int) < N := by omega
 have hs := (h.2.2 m x hx).2.2.1
 refine ⟨h, hN.1, hN.2, hs.1, fun y hy => ?_, by simp, by simp, Int.le_refl _, by simp only; omega, by simp only [List.length_replicate]; exact ins_five h.1 hN, by simp only [List.length_replicate]; exact outs_five h.1 hN, fun j l hj hl => ?_, fun j l hj hl => ?_⟩
 ·rw [Int.toNat_natCast, hx] at hy
  cases hy
  exact hs.2
 ·rw [(List.mem_replicate.1 (List.mem_of_getElem? hl)).2]; trivial
 ·rw [(List.mem_replicate.1 (List.mem_of_getElem? hl)).2]
  exact ⟨by simp, fun j x hj => by simp at hj⟩
end Go.Proofs.HO
/- What a host does: the law's walk. -/
namespace Go.Proofs.HO
open Go Go.Idl Go.Proofs Go.GP
set_option maxHeartbeats 20000000
set_option maxRecDepth 100000
def eOp (x : Int × Int × Int × Int) : List PV := [.sc (.int .i64 x.1), .sc (.int .i64 x.2.1), .sc (.int .i64 x.2.2.1), .sc (.int .i64 x.2.2.2)]
theorem L6RefZ_spec (a b c : Int) (X : List Int) (Z : List Unit) : Pure Tryz.prog 30 [.agg [sci .i64 a, sci .i64 b, sci .i64 c, lI X, .p (.imm 1 (pr eZ Z)), lLs []]] (.agg [sci .i64 a, sci .i64 b, sci .i64 c, lI X, .p (.imm 1 (pr eZ Z)), lLs []]) := by
 refine pcall0 200 (fn := Tryz.f30) Tryz.func30 rfl (by simp [Tryz.ntmps30]) zB zB fun hs => ?_
 (repeat (first | ((refine zW ?_; try with_reducible exact True.intro))))
theorem HostDoes_pure (s0 : Sc) (n0 : Int) (L : List (Int × Int × Int × Int)) :
  Pure Tryz.prog 3 [lApp s0, sci .i64 n0, .p (.imm 4 (pr eOp L))] (scb true) := by
 obtain ⟨k8, kl, ko⟩ := ok_cut s0
 refine pcall0 200 (fn := Tryz.f3) Tryz.func3 rfl (by simp [Tryz.ntmps3]) zB zB fun hs => ?_
 ((try refine zW ?_); (try with_reducible exact True.intro))
 (refine at_call 200 ?_; (refine zW ?_; try with_reducible exact True.intro); refine callA_of (L5Cut_spec s0) zB ?_; ((try refine zW ?_); (try with_reducible exact True.intro)))
 generalize cutSc s0 = s at *
 have hT := small_ok k8 ko
 ((try refine zW ?_); (try with_reducible exact True.intro))
 (refine at_call 200 ?_; (refine zW ?_; try with_reducible exact True.intro); refine callA_of (L5App_spec s k8 ko) zB ?_; ((try refine zW ?_); (try with_reducible exact True.intro)))
 obtain ⟨N, ls, T, ff, room, acts⟩ := s
 simp only at k8 kl ko hT
 (refine at_call 200 ?_; (refine zW ?_; try with_reducible exact True.intro); refine callA_of (R4Right_spec N ls T hT) zB ?_; ((try refine zW ?_); (try with_reducible exact True.intro)))
 by_cases hH : TabP N ls T
 ·have eH := tB_pos hH
  (try simp (maxSteps := 2000000) (disch := omega) only [go_sem, simprocAttr, zD, zE, eH])
  have hN := hH.1.1
  obtain ⟨m, hm⟩ : ∃ m : Nat, (m : Int) = if n0 < 0 ∨ N ≤ n0 then 0 else n0 := by
   split
   ·exact ⟨0, rfl⟩
   ·exact ⟨n0.toNat, by omega⟩
  have hmN : (m : Int) < N := by rw [hm]; split <;> omega
  have hmT : m < T.length := by have := hH.2.1; omega
  have hx := List.getElem?_eq_getElem hmT
  generalize T[m] = nd at hx
  have hnew := new_may hH hx
  (refine walk_trim [1, 2, 3, 7] trivial zL ?_; (refine zW ?_; try with_reducible exact True.intro); refine irun_walk (id := 5) (n := 200) [none, none, some [3, 4, 6, 7], none, none, some [6, 7], some [0, 1, 2, 3, 4, 5, 7], some [0, 1, 2, 3, 4, 5, 6], some [], some []] mixed (by kernel_rfl) ?_)
  ((try refine zW ?_); (try with_reducible exact True.intro))
  (refine at_dcall ?_; (refine zW ?_; try with_reducible exact True.intro); refine callA_of (hNew_spec N ls T ff room acts n0 m nd kl hm hx) zB ?_; ((try refine zW ?_); (try with_reducible exact True.intro)))
  ((try refine zW ?_); (try with_reducible exact True.intro))
  (refine at_dcall ?_; (refine zW ?_; try with_reducible exact True.intro); refine callA_of (R9New_spec N ls T ff room acts n0 m nd kl hm hx) zB ?_; ((try refine zW ?_); (try with_reducible exact True.intro)))
  ((try refine zW ?_); (try with_reducible exact True.intro))
  (refine walk_trim [2, 3, 7, 8, 9, 10] trivial zL ?_; ((try refine zW ?_); (try with_reducible exact True.intro)))
  refine walk_floop 200 200 (fun i : Nat × Hs => i.1 ≤ L.length ∧ i.1 ≤ 40 ∧ HostP N ls T i.2 ∧ i.2.steps ≤ i.1)
   (fun i => ⟨213, [(2, .p (.imm 4 (pr eOp L))), (3, .ptr 0 0 0 0), (7, .ptr 1 0 0 0), (8, .ptr 2 0 0 0), (9, .ptr 3 0 0 0), (10, sci .i64 i.1)], [], 4, [(3, .arr 5 0 [[sci .i64 i.2.node, sci .i64 i.2.state, sci .i64 i.2.steps, lMs i.2.inn, lLs i.2.out]]), (2, .arr 5 0 [[sci .i64 i.2.node, sci .i64 i.2.state, sci .i64 i.2.steps, lMs i.2.inn, lLs i.2.out]]), (1, .arr 4 0 [[sci .i64 N, .p (.imm 2 (pr eII ls)), .p (.imm 2 (pr eNd T)), scb ff]]), (0, .arr 4 0 [[sci .i64 N, .p (.imm 2 (pr eII ls)), .p (.imm 2 (pr eNd T)), scb ff]])]⟩) (fun i => 40 - i.1) (0, ⟨m, nd.start, 0, List.replicate (ins m 0 ls).length [], List.replicate (outs m 0 ls).length []⟩) [] ?_ ?_ ?_
  ·exact ⟨Nat.zero_le _, Nat.zero_le _, hnew, Int.le_refl _⟩
  ·constructor <;> (try simp (maxSteps := 2000000) (disch := omega) only [go_sem, simprocAttr, zD, zE, Int.natCast_zero])
  ·clear hnew hm hmN hmT hx
   rintro ⟨i, h⟩ ⟨i1, i2, i3, i4⟩
   simp only at i1 i2 i3 i4
   ((try refine zW ?_); (try with_reducible exact True.intro))
   by_cases hlt : i < L.length ∧ i < 40
   ·obtain ⟨hl1, hl2⟩ := hlt
    obtain ⟨k, x, m1, m2, hz⟩ : ∃ k x m1 m2, L[i] = (k, x, m1, m2) := ⟨_, _, _, _, rfl⟩
    obtain ⟨n, j, nd, st, f⟩ := HF.of i3
    have hg := f.gHs
    have eH2 := tB_pos i3
    have hkt := ((hT.2 n nd f.hx).2 j st f.hq).2.2
    have hP := Pick_spec ⟨N, ls, T, ff, room, acts⟩ h k n j nd st f.hn f.hj f.hx f.hq hg kl (fun p hp => ⟨by have := (f.picks p hp).2.1; omega, fun y hy => ((f.picks p hp).2.2 y hy).1⟩) f.outl f.st0
    have hP' := R9Pick_spec ⟨N, ls, T, ff, room, acts⟩ h k n j nd st f.hn f.hj f.hx f.hq hg kl (fun p hp => ⟨by have := (f.picks p hp).2.1; omega, fun y hy => ((f.picks p hp).2.2 y hy).1⟩) f.outl (fun l hl => (f.lets l hl).1) f.st0
    have hK := Take_spec ⟨N, ls, T, ff, room, acts⟩ h x (m1, m2) n j nd st f.hn f.hj f.hx f.hq hg kl hkt f.inl f.rows f.st0
    have hK' := R9Take_spec ⟨N, ls, T, ff, room, acts⟩ h x (m1, m2) n j nd st f.hn f.hj f.hx f.hq hg kl hkt f.inl f.rows f.st0
    obtain ⟨gP, gS⟩ := gHs_pick f k
    have gK := gHs_take f x (m1, m2)
    have cP := f.pick (by omega) k
    have cK := f.take (by omega) x (m1, m2)
    simp only at hP hP' hK hK'
    generalize pickH ls st h k = P at *
    generalize takeH ls st h x (m1, m2) = U at *
    obtain ⟨p, S, e⟩ := P
    obtain ⟨u, g⟩ := U
    simp only at gP gS gK hP hP' hK hK'
    ((try refine zO ?_); (try with_reducible exact True.intro))
    (refine walk_trim [2, 3, 7, 8, 9, 10] trivial zL ?_; (refine zW ?_; try with_reducible exact True.intro); refine irun_walk (id := 9) (n := 200) [none, some [2], none, some [], none, none, none, none, some [], none, none] mixed (by kernel_rfl) ?_)
    ((try refine zW ?_); (try with_reducible exact True.intro))
    (refine at_dcall ?_; (refine zW ?_; try with_reducible exact True.intro); refine callA_of (L9Ref_spec h) zB ?_; ((try refine zW ?_); (try with_reducible exact True.intro)))
    ((try refine zW ?_); (try with_reducible exact True.intro))
    (refine at_dcall ?_; (refine zW ?_; try with_reducible exact True.intro); refine callA_of (R9SameR_spec h hg) zB ?_; ((try refine zW ?_); (try with_reducible exact True.intro)))
    ((try refine zW ?_); (try with_reducible exact True.intro))
    (refine at_dcall ?_; (refine zW ?_; try with_reducible exact True.intro); refine callA_of (hRight_spec ⟨N, ls, T, ff, room, acts⟩ h kl hT hg) zB ?_; ((try refine zW ?_); (try with_reducible exact True.intro)))
    (try simp (maxSteps := 2000000) (disch := omega) only [go_sem, simprocAttr, zD, zE, eH2])
    (refine walk_trim [2, 3, 7, 8, 9, 10] trivial zL ?_; (refine zW ?_; try with_reducible exact True.intro); refine irun_walk (id := 11) (n := 200) [none, none, none, none, none, none, none, some [12], none, none, none, none, some [0, 1, 2, 3, 4, 5, 6, 7, 8, 9, 10, 11], some [10, 11], none, none] mixed (by kernel_rfl) ?_)
    (try simp (maxSteps := 2000000) (disch := omega) only [go_sem, simprocAttr, zD, zE, eOp, hz])
    (refine at_dcall ?_; (refine zW ?_; try with_reducible exact True.intro); refine callA_of (hP) zB ?_; ((try refine zW ?_); (try with_reducible exact True.intro)))
    ((try refine zW ?_); (try with_reducible exact True.intro))
    (refine walk_trim [2, 3, 7, 8, 9, 10, 11, 12, 13] trivial zL ?_; (refine zW ?_; try with_reducible exact True.intro); refine irun_walk (id := 12) (n := 200) [none, none, none, none, none, none, none, some [12], none, none, none, none, some [0, 1, 2, 3, 4, 5, 6, 7, 8, 9, 10, 11], some [10, 11], none, none] mixed (by kernel_rfl) ?_)
    (try simp (maxSteps := 2000000) (disch := omega) only [go_sem, simprocAttr, zD, zE, eOp, hz])
    (refine at_dcall ?_; (refine zW ?_; try with_reducible exact True.intro); refine callA_of (hP') zB ?_; ((try refine zW ?_); (try with_reducible exact True.intro)))
    by_cases cx : x < 0
    ·(try simp (maxSteps := 2000000) (disch := omega) only [go_sem, simprocAttr, zD, zE, eOp, hz, cx])
     (refine walk_trim [2, 3, 7, 8, 9, 10, 11, 12, 13, 14, 15, 16] trivial zL ?_; (refine zW ?_; try with_reducible exact True.intro); refine irun_walk (id := 16) (n := 200) [none, none, none, none, none, some [6], none, some [], none, none, none, none, none, none, none, none, none, none, none, some [20], none, some [], none, none, none] mixed (by kernel_rfl) ?_)
     ((try refine zW ?_); (try with_reducible exact True.intro))
     (refine at_dcall ?_; (refine zW ?_; try with_reducible exact True.intro); refine callA_of (L9Ref_spec p) zB ?_; ((try refine zW ?_); (try with_reducible exact True.intro)))
     ((try refine zW ?_); (try with_reducible exact True.intro))
     (refine at_dcall ?_; (refine zW ?_; try with_reducible exact True.intro); refine callA_of (R9SameR_spec p gP) zB ?_; ((try refine zW ?_); (try with_reducible exact True.intro)))
     (try simp (maxSteps := 2000000) (disch := omega) only [go_sem, simprocAttr, zD, zE, eOp, hz, cx])
     (refine at_dcall ?_; (refine zW ?_; try with_reducible exact True.intro); refine callA_of (L9Sents_spec S (by omega)) zB ?_; ((try refine zW ?_); (try with_reducible exact True.intro)))
     ((try refine zW ?_); (try with_reducible exact True.intro))
     (refine at_dcall ?_; (refine zW ?_; try with_reducible exact True.intro); refine callA_of (R9SentsR_spec S (by omega)) zB ?_; ((try refine zW ?_); (try with_reducible exact True.intro)))
     rcases cP with ⟨e', he, eq⟩ | ⟨h', S', hst, hS, hM, eq⟩
     ·cases eq
      (try simp (maxSteps := 2000000) (disch := omega) only [go_sem, simprocAttr, zD, zE, he])
      obtain ⟨X, hX⟩ : ∃ X : List Int, X = h.out.map fun l => (l.length : Int) := ⟨_, rfl⟩
      have hXl : X.length ≤ 1000000 := by rw [hX, List.length_map]; exact f.gHs.out
      obtain ⟨Z, hZ⟩ : ∃ Z : List Unit, Z = List.replicate h.inn.length () := ⟨_, rfl⟩
      have hZl : Z.length ≤ 1000000 := by rw [hZ, List.length_replicate]; exact f.gHs.inn
      (refine walk_trim [2, 3, 7, 8, 9, 10] trivial zL ?_; (refine zW ?_; try with_reducible exact True.intro); refine irun_walk (id := 21) (n := 200) (none :: none :: none :: none :: none :: none :: none :: some [8, 9, 10, 11, 12, 13, 14] :: none :: none :: none :: none :: none :: none :: none :: some [] :: none :: none :: none :: none :: none :: none :: none :: none :: none :: some [26, 27, 28, 29, 30, 31, 32] :: none :: none :: none :: none :: none :: none :: none :: some [] :: none :: none :: none :: none :: some [40] :: some [40] :: none :: some [] :: some [] :: none :: none :: none :: none :: some [49] :: some [49] :: none :: some [] :: some [] :: none :: none :: []) mixed (by kernel_rfl) ?_)
      (try simp (maxSteps := 2000000) (disch := omega) only [go_sem, simprocAttr, zD, zE, eOp, hz])
      (refine at_dcall ?_; (refine zW ?_; try with_reducible exact True.intro); refine callA_of (Got_spec ⟨N, ls, T, ff, room, acts⟩ h x kl f.inl) zB ?_; ((try refine zW ?_); (try with_reducible exact True.intro)))
      (try simp (maxSteps := 2000000) (disch := omega) only [go_sem, simprocAttr, zD, zE, eOp, hz])
      (refine at_dcall ?_; (refine zW ?_; try with_reducible exact True.intro); refine callA_of (R9Got_spec ⟨N, ls, T, ff, room, acts⟩ h x kl f.inl) zB ?_; ((try refine zW ?_); (try with_reducible exact True.intro)))
      (try simp (maxSteps := 2000000) (disch := omega) only [go_sem, simprocAttr, zD, zE, eOp, hz])
      (refine at_dcall ?_; (refine zW ?_; try with_reducible exact True.intro); refine callA_of (Gave_spec ⟨N, ls, T, ff, room, acts⟩ h x kl f.outl) zB ?_; ((try refine zW ?_); (try with_reducible exact True.intro)))
      (try simp (maxSteps := 2000000) (disch := omega) only [go_sem, simprocAttr, zD, zE, eOp, hz])
      (refine at_dcall ?_; (refine zW ?_; try with_reducible exact True.intro); refine callA_of (R9Gave_spec ⟨N, ls, T, ff, room, acts⟩ h x kl f.outl) zB ?_; ((try refine zW ?_); (try with_reducible exact True.intro)))
      ((try refine zO ?_); (try with_reducible exact True.intro))
      (refine at_dcall ?_; (refine zW ?_; try with_reducible exact True.intro); refine callA_of (PieceU_spec h f.gHs hX) zB ?_; ((try refine zW ?_); (try with_reducible exact True.intro)))
      (refine at_dcall ?_; (refine zW ?_; try with_reducible exact True.intro); refine callA_of (L6Ref_spec ⟨h.node, h.state, h.steps, X, h.inn, h.out⟩) zB ?_; ((try refine zW ?_); (try with_reducible exact True.intro)))
      ((try refine zW ?_); (try with_reducible exact True.intro))
      (refine at_dcall ?_; (refine zW ?_; try with_reducible exact True.intro); refine callA_of (R9PieceU_spec h f.gHs hX) zB ?_; ((try refine zW ?_); (try with_reducible exact True.intro)))
      (refine at_dcall ?_; (refine zW ?_; try with_reducible exact True.intro); refine callA_of (R6SameR_spec ⟨h.node, h.state, h.steps, X, h.inn, h.out⟩ f.gHs.inn f.gHs.out hXl f.gHs.outs) zB ?_; ((try refine zW ?_); (try with_reducible exact True.intro)))
      ((try refine zW ?_); (try with_reducible exact True.intro))
      (refine at_dcall ?_; (refine zW ?_; try with_reducible exact True.intro); refine callA_of (PieceG_spec h f.gHs hX hZ) zB ?_; ((try refine zW ?_); (try with_reducible exact True.intro)))
      (refine at_dcall ?_; (refine zW ?_; try with_reducible exact True.intro); refine callA_of (L6RefZ_spec h.node h.state h.steps X Z) zB ?_; ((try refine zW ?_); (try with_reducible exact True.intro)))
      ((try refine zW ?_); (try with_reducible exact True.intro))
      (refine at_dcall ?_; (refine zW ?_; try with_reducible exact True.intro); refine callA_of (R9PieceG_spec h f.gHs hX hZ) zB ?_; ((try refine zW ?_); (try with_reducible exact True.intro)))
      (refine at_dcall ?_; (refine zW ?_; try with_reducible exact True.intro); refine callA_of (R6SameZ_spec h.node h.state h.steps X Z hXl hZl) zB ?_; ((try refine zW ?_); (try with_reducible exact True.intro)))
      ((try refine zW ?_); (try with_reducible exact True.intro))
      refine ⟨(i + 1, h), [], ⟨hl1, hl2, i3, by simp only; omega⟩, by simp only; omega, ?_⟩
      constructor <;> ((try refine zO ?_); (try with_reducible exact True.intro))
     ·cases eq
      obtain ⟨n', j', nd', st', f'⟩ := HF.of hM
      ((try refine zO ?_); (try with_reducible exact True.intro))
      obtain ⟨X, hX⟩ : ∃ X : List Int, X = p.out.map fun l => (l.length : Int) := ⟨_, rfl⟩
      have hXl : X.length ≤ 1000000 := by rw [hX, List.length_map]; exact f'.gHs.out
      obtain ⟨Z, hZ⟩ : ∃ Z : List Unit, Z = List.replicate p.inn.length () := ⟨_, rfl⟩
      have hZl : Z.length ≤ 1000000 := by rw [hZ, List.length_replicate]; exact f'.gHs.inn
      (refine walk_trim [2, 3, 7, 8, 9, 10] trivial zL ?_; (refine zW ?_; try with_reducible exact True.intro); refine irun_walk (id := 21) (n := 200) (none :: none :: none :: none :: none :: none :: none :: some [8, 9, 10, 11, 12, 13, 14] :: none :: none :: none :: none :: none :: none :: none :: some [] :: none :: none :: none :: none :: none :: none :: none :: none :: none :: some [26, 27, 28, 29, 30, 31, 32] :: none :: none :: none :: none :: none :: none :: none :: some [] :: none :: none :: none :: none :: some [40] :: some [40] :: none :: some [] :: some [] :: none :: none :: none :: none :: some [49] :: some [49] :: none :: some [] :: some [] :: none :: none :: []) mixed (by kernel_rfl) ?_)
      (try simp (maxSteps := 2000000) (disch := omega) only [go_sem, simprocAttr, zD, zE, eOp, hz])
      (refine at_dcall ?_; (refine zW ?_; try with_reducible exact True.intro); refine callA_of (Got_spec ⟨N, ls, T, ff, room, acts⟩ p x kl f'.inl) zB ?_; ((try refine zW ?_); (try with_reducible exact True.intro)))
      (try simp (maxSteps := 2000000) (disch := omega) only [go_sem, simprocAttr, zD, zE, eOp, hz])
      (refine at_dcall ?_; (refine zW ?_; try with_reducible exact True.intro); refine callA_of (R9Got_spec ⟨N, ls, T, ff, room, acts⟩ p x kl f'.inl) zB ?_; ((try refine zW ?_); (try with_reducible exact True.intro)))
      (try simp (maxSteps := 2000000) (disch := omega) only [go_sem, simprocAttr, zD, zE, eOp, hz])
      (refine at_dcall ?_; (refine zW ?_; try with_reducible exact True.intro); refine callA_of (Gave_spec ⟨N, ls, T, ff, room, acts⟩ p x kl f'.outl) zB ?_; ((try refine zW ?_); (try with_reducible exact True.intro)))
      (try simp (maxSteps := 2000000) (disch := omega) only [go_sem, simprocAttr, zD, zE, eOp, hz])
      (refine at_dcall ?_; (refine zW ?_; try with_reducible exact True.intro); refine callA_of (R9Gave_spec ⟨N, ls, T, ff, room, acts⟩ p x kl f'.outl) zB ?_; ((try refine zW ?_); (try with_reducible exact True.intro)))
      ((try refine zO ?_); (try with_reducible exact True.intro))
      (refine at_dcall ?_; (refine zW ?_; try with_reducible exact True.intro); refine callA_of (PieceU_spec p f'.gHs hX) zB ?_; ((try refine zW ?_); (try with_reducible exact True.intro)))
      (refine at_dcall ?_; (refine zW ?_; try with_reducible exact True.intro); refine callA_of (L6Ref_spec ⟨p.node, p.state, p.steps, X, p.inn, p.out⟩) zB ?_; ((try refine zW ?_); (try with_reducible exact True.intro)))
      ((try refine zW ?_); (try with_reducible exact True.intro))
      (refine at_dcall ?_; (refine zW ?_; try with_reducible exact True.intro); refine callA_of (R9PieceU_spec p f'.gHs hX) zB ?_; ((try refine zW ?_); (try with_reducible exact True.intro)))
      (refine at_dcall ?_; (refine zW ?_; try with_reducible exact True.intro); refine callA_of (R6SameR_spec ⟨p.node, p.state, p.steps, X, p.inn, p.out⟩ f'.gHs.inn f'.gHs.out hXl f'.gHs.outs) zB ?_; ((try refine zW ?_); (try with_reducible exact True.intro)))
      ((try refine zW ?_); (try with_reducible exact True.intro))
      (refine at_dcall ?_; (refine zW ?_; try with_reducible exact True.intro); refine callA_of (PieceG_spec p f'.gHs hX hZ) zB ?_; ((try refine zW ?_); (try with_reducible exact True.intro)))
      (refine at_dcall ?_; (refine zW ?_; try with_reducible exact True.intro); refine callA_of (L6RefZ_spec p.node p.state p.steps X Z) zB ?_; ((try refine zW ?_); (try with_reducible exact True.intro)))
      ((try refine zW ?_); (try with_reducible exact True.intro))
      (refine at_dcall ?_; (refine zW ?_; try with_reducible exact True.intro); refine callA_of (R9PieceG_spec p f'.gHs hX hZ) zB ?_; ((try refine zW ?_); (try with_reducible exact True.intro)))
      (refine at_dcall ?_; (refine zW ?_; try with_reducible exact True.intro); refine callA_of (R6SameZ_spec p.node p.state p.steps X Z hXl hZl) zB ?_; ((try refine zW ?_); (try with_reducible exact True.intro)))
      ((try refine zW ?_); (try with_reducible exact True.intro))
      refine ⟨(i + 1, p), [], ⟨hl1, hl2, hM, by simp only; omega⟩, by simp only; omega, ?_⟩
      constructor <;> ((try refine zO ?_); (try with_reducible exact True.intro))
    ·(try simp (maxSteps := 2000000) (disch := omega) only [go_sem, simprocAttr, zD, zE, eOp, hz, cx])
     (refine walk_trim [2, 3, 7, 8, 9, 10, 11, 12, 14, 15] trivial zL ?_; (refine zW ?_; try with_reducible exact True.intro); refine irun_walk (id := 14) (n := 200) [none, none, none, none, none, none, none, none, none, none, none, none, some [], none, none, none, some [15], none] mixed (by kernel_rfl) ?_)
     (try simp (maxSteps := 2000000) (disch := omega) only [go_sem, simprocAttr, zD, zE, eOp, hz])
     (refine at_dcall ?_; (refine zW ?_; try with_reducible exact True.intro); refine callA_of (hK) zB ?_; ((try refine zW ?_); (try with_reducible exact True.intro)))
     ((try refine zW ?_); (try with_reducible exact True.intro))
     (refine walk_trim [2, 3, 7, 8, 9, 10, 11, 12, 13, 14, 15] trivial zL ?_; (refine zW ?_; try with_reducible exact True.intro); refine irun_walk (id := 15) (n := 200) [none, none, none, none, none, none, none, none, none, none, none, none, some [], none, none, none, some [15], none] mixed (by kernel_rfl) ?_)
     (try simp (maxSteps := 2000000) (disch := omega) only [go_sem, simprocAttr, zD, zE, eOp, hz])
     (refine at_dcall ?_; (refine zW ?_; try with_reducible exact True.intro); refine callA_of (hK') zB ?_; ((try refine zW ?_); (try with_reducible exact True.intro)))
     ((try refine zW ?_); (try with_reducible exact True.intro))
     (refine walk_trim [2, 3, 7, 8, 9, 10, 11, 12, 13, 14, 15, 16] trivial zL ?_; (refine zW ?_; try with_reducible exact True.intro); refine irun_walk (id := 16) (n := 200) [none, none, none, none, none, some [6], none, some [], none, none, none, none, none, none, none, none, none, none, none, some [20], none, some [], none, none, none] mixed (by kernel_rfl) ?_)
     ((try refine zW ?_); (try with_reducible exact True.intro))
     (refine at_dcall ?_; (refine zW ?_; try with_reducible exact True.intro); refine callA_of (L9Ref_spec u) zB ?_; ((try refine zW ?_); (try with_reducible exact True.intro)))
     ((try refine zW ?_); (try with_reducible exact True.intro))
     (refine at_dcall ?_; (refine zW ?_; try with_reducible exact True.intro); refine callA_of (R9SameR_spec u gK) zB ?_; ((try refine zW ?_); (try with_reducible exact True.intro)))
     (try simp (maxSteps := 2000000) (disch := omega) only [go_sem, simprocAttr, zD, zE, eOp, hz, cx])
     rcases cK with eq | ⟨h', hst, hM, eq⟩
     ·cases eq
      ((try refine zO ?_); (try with_reducible exact True.intro))
      obtain ⟨X, hX⟩ : ∃ X : List Int, X = h.out.map fun l => (l.length : Int) := ⟨_, rfl⟩
      have hXl : X.length ≤ 1000000 := by rw [hX, List.length_map]; exact f.gHs.out
      obtain ⟨Z, hZ⟩ : ∃ Z : List Unit, Z = List.replicate h.inn.length () := ⟨_, rfl⟩
      have hZl : Z.length ≤ 1000000 := by rw [hZ, List.length_replicate]; exact f.gHs.inn
      (refine walk_trim [2, 3, 7, 8, 9, 10] trivial zL ?_; (refine zW ?_; try with_reducible exact True.intro); refine irun_walk (id := 21) (n := 200) (none :: none :: none :: none :: none :: none :: none :: some [8, 9, 10, 11, 12, 13, 14] :: none :: none :: none :: none :: none :: none :: none :: some [] :: none :: none :: none :: none :: none :: none :: none :: none :: none :: some [26, 27, 28, 29, 30, 31, 32] :: none :: none :: none :: none :: none :: none :: none :: some [] :: none :: none :: none :: none :: some [40] :: some [40] :: none :: some [] :: some [] :: none :: none :: none :: none :: some [49] :: some [49] :: none :: some [] :: some [] :: none :: none :: []) mixed (by kernel_rfl) ?_)
      (try simp (maxSteps := 2000000) (disch := omega) only [go_sem, simprocAttr, zD, zE, eOp, hz])
      (refine at_dcall ?_; (refine zW ?_; try with_reducible exact True.intro); refine callA_of (Got_spec ⟨N, ls, T, ff, room, acts⟩ h x kl f.inl) zB ?_; ((try refine zW ?_); (try with_reducible exact True.intro)))
      (try simp (maxSteps := 2000000) (disch := omega) only [go_sem, simprocAttr, zD, zE, eOp, hz])
      (refine at_dcall ?_; (refine zW ?_; try with_reducible exact True.intro); refine callA_of (R9Got_spec ⟨N, ls, T, ff, room, acts⟩ h x kl f.inl) zB ?_; ((try refine zW ?_); (try with_reducible exact True.intro)))
      (try simp (maxSteps := 2000000) (disch := omega) only [go_sem, simprocAttr, zD, zE, eOp, hz])
      (refine at_dcall ?_; (refine zW ?_; try with_reducible exact True.intro); refine callA_of (Gave_spec ⟨N, ls, T, ff, room, acts⟩ h x kl f.outl) zB ?_; ((try refine zW ?_); (try with_reducible exact True.intro)))
      (try simp (maxSteps := 2000000) (disch := omega) only [go_sem, simprocAttr, zD, zE, eOp, hz])
      (refine at_dcall ?_; (refine zW ?_; try with_reducible exact True.intro); refine callA_of (R9Gave_spec ⟨N, ls, T, ff, room, acts⟩ h x kl f.outl) zB ?_; ((try refine zW ?_); (try with_reducible exact True.intro)))
      ((try refine zO ?_); (try with_reducible exact True.intro))
      (refine at_dcall ?_; (refine zW ?_; try with_reducible exact True.intro); refine callA_of (PieceU_spec h f.gHs hX) zB ?_; ((try refine zW ?_); (try with_reducible exact True.intro)))
      (refine at_dcall ?_; (refine zW ?_; try with_reducible exact True.intro); refine callA_of (L6Ref_spec ⟨h.node, h.state, h.steps, X, h.inn, h.out⟩) zB ?_; ((try refine zW ?_); (try with_reducible exact True.intro)))
      ((try refine zW ?_); (try with_reducible exact True.intro))
      (refine at_dcall ?_; (refine zW ?_; try with_reducible exact True.intro); refine callA_of (R9PieceU_spec h f.gHs hX) zB ?_; ((try refine zW ?_); (try with_reducible exact True.intro)))
      (refine at_dcall ?_; (refine zW ?_; try with_reducible exact True.intro); refine callA_of (R6SameR_spec ⟨h.node, h.state, h.steps, X, h.inn, h.out⟩ f.gHs.inn f.gHs.out hXl f.gHs.outs) zB ?_; ((try refine zW ?_); (try with_reducible exact True.intro)))
      ((try refine zW ?_); (try with_reducible exact True.intro))
      (refine at_dcall ?_; (refine zW ?_; try with_reducible exact True.intro); refine callA_of (PieceG_spec h f.gHs hX hZ) zB ?_; ((try refine zW ?_); (try with_reducible exact True.intro)))
      (refine at_dcall ?_; (refine zW ?_; try with_reducible exact True.intro); refine callA_of (L6RefZ_spec h.node h.state h.steps X Z) zB ?_; ((try refine zW ?_); (try with_reducible exact True.intro)))
      ((try refine zW ?_); (try with_reducible exact True.intro))
      (refine at_dcall ?_; (refine zW ?_; try with_reducible exact True.intro); refine callA_of (R9PieceG_spec h f.gHs hX hZ) zB ?_; ((try refine zW ?_); (try with_reducible exact True.intro)))
      (refine at_dcall ?_; (refine zW ?_; try with_reducible exact True.intro); refine callA_of (R6SameZ_spec h.node h.state h.steps X Z hXl hZl) zB ?_; ((try refine zW ?_); (try with_reducible exact True.intro)))
      ((try refine zW ?_); (try with_reducible exact True.intro))
      refine ⟨(i + 1, h), [], ⟨hl1, hl2, i3, by simp only; omega⟩, by simp only; omega, ?_⟩
      constructor <;> ((try refine zO ?_); (try with_reducible exact True.intro))
     ·cases eq
      obtain ⟨n', j', nd', st', f'⟩ := HF.of hM
      ((try refine zO ?_); (try with_reducible exact True.intro))
      obtain ⟨X, hX⟩ : ∃ X : List Int, X = u.out.map fun l => (l.length : Int) := ⟨_, rfl⟩
      have hXl : X.length ≤ 1000000 := by rw [hX, List.length_map]; exact f'.gHs.out
      obtain ⟨Z, hZ⟩ : ∃ Z : List Unit, Z = List.replicate u.inn.length () := ⟨_, rfl⟩
      have hZl : Z.length ≤ 1000000 := by rw [hZ, List.length_replicate]; exact f'.gHs.inn
      (refine walk_trim [2, 3, 7, 8, 9, 10] trivial zL ?_; (refine zW ?_; try with_reducible exact True.intro); refine irun_walk (id := 21) (n := 200) (none :: none :: none :: none :: none :: none :: none :: some [8, 9, 10, 11, 12, 13, 14] :: none :: none :: none :: none :: none :: none :: none :: some [] :: none :: none :: none :: none :: none :: none :: none :: none :: none :: some [26, 27, 28, 29, 30, 31, 32] :: none :: none :: none :: none :: none :: none :: none :: some [] :: none :: none :: none :: none :: some [40] :: some [40] :: none :: some [] :: some [] :: none :: none :: none :: none :: some [49] :: some [49] :: none :: some [] :: some [] :: none :: none :: []) mixed (by kernel_rfl) ?_)
      (try simp (maxSteps := 2000000) (disch := omega) only [go_sem, simprocAttr, zD, zE, eOp, hz])
      (refine at_dcall ?_; (refine zW ?_; try with_reducible exact True.intro); refine callA_of (Got_spec ⟨N, ls, T, ff, room, acts⟩ u x kl f'.inl) zB ?_; ((try refine zW ?_); (try with_reducible exact True.intro)))
      (try simp (maxSteps := 2000000) (disch := omega) only [go_sem, simprocAttr, zD, zE, eOp, hz])
      (refine at_dcall ?_; (refine zW ?_; try with_reducible exact True.intro); refine callA_of (R9Got_spec ⟨N, ls, T, ff, room, acts⟩ u x kl f'.inl) zB ?_; ((try refine zW ?_); (try with_reducible exact True.intro)))
      (try simp (maxSteps := 2000000) (disch := omega) only [go_sem, simprocAttr, zD, zE, eOp, hz])
      (refine at_dcall ?_; (refine zW ?_; try with_reducible exact True.intro); refine callA_of (Gave_spec ⟨N, ls, T, ff, room, acts⟩ u x kl f'.outl) zB ?_; ((try refine zW ?_); (try with_reducible exact True.intro)))
      (try simp (maxSteps := 2000000) (disch := omega) only [go_sem, simprocAttr, zD, zE, eOp, hz])
      (refine at_dcall ?_; (refine zW ?_; try with_reducible exact True.intro); refine callA_of (R9Gave_spec ⟨N, ls, T, ff, room, acts⟩ u x kl f'.outl) zB ?_; ((try refine zW ?_); (try with_reducible exact True.intro)))
      ((try refine zO ?_); (try with_reducible exact True.intro))
      (refine at_dcall ?_; (refine zW ?_; try with_reducible exact True.intro); refine callA_of (PieceU_spec u f'.gHs hX) zB ?_; ((try refine zW ?_); (try with_reducible exact True.intro)))
      (refine at_dcall ?_; (refine zW ?_; try with_reducible exact True.intro); refine callA_of (L6Ref_spec ⟨u.node, u.state, u.steps, X, u.inn, u.out⟩) zB ?_; ((try refine zW ?_); (try with_reducible exact True.intro)))
      ((try refine zW ?_); (try with_reducible exact True.intro))
      (refine at_dcall ?_; (refine zW ?_; try with_reducible exact True.intro); refine callA_of (R9PieceU_spec u f'.gHs hX) zB ?_; ((try refine zW ?_); (try with_reducible exact True.intro)))
      (refine at_dcall ?_; (refine zW ?_; try with_reducible exact True.intro); refine callA_of (R6SameR_spec ⟨u.node, u.state, u.steps, X, u.inn, u.out⟩ f'.gHs.inn f'.gHs.out hXl f'.gHs.outs) zB ?_; ((try refine zW ?_); (try with_reducible exact True.intro)))
      ((try refine zW ?_); (try with_reducible exact True.intro))
      (refine at_dcall ?_; (refine zW ?_; try with_reducible exact True.intro); refine callA_of (PieceG_spec u f'.gHs hX hZ) zB ?_; ((try refine zW ?_); (try with_reducible exact True.intro)))
      (refine at_dcall ?_; (refine zW ?_; try with_reducible exact True.intro); refine callA_of (L6RefZ_spec u.node u.state u.steps X Z) zB ?_; ((try refine zW ?_); (try with_reducible exact True.intro)))
      ((try refine zW ?_); (try with_reducible exact True.intro))
      (refine at_dcall ?_; (refine zW ?_; try with_reducible exact True.intro); refine callA_of (R9PieceG_spec u f'.gHs hX hZ) zB ?_; ((try refine zW ?_); (try with_reducible exact True.intro)))
      (refine at_dcall ?_; (refine zW ?_; try with_reducible exact True.intro); refine callA_of (R6SameZ_spec u.node u.state u.steps X Z hXl hZl) zB ?_; ((try refine zW ?_); (try with_reducible exact True.intro)))
      ((try refine zW ?_); (try with_reducible exact True.intro))
      refine ⟨(i + 1, u), [], ⟨hl1, hl2, hM, by simp only; omega⟩, by simp only; omega, ?_⟩
      constructor <;> ((try refine zO ?_); (try with_reducible exact True.intro))
   ·have hg := (HF.of i3).choose_spec.choose_spec.choose_spec.choose_spec.gHs
    rcases Nat.lt_or_ge i L.length with hl | hl
    all_goals
     ((try refine zO ?_); (try with_reducible exact True.intro))
     (refine walk_trim [8, 9] trivial zL ?_; (refine zW ?_; try with_reducible exact True.intro); refine irun_walk (id := 23) (n := 200) [none, some [2], none, some [], none, some [], none, none] mixed (by kernel_rfl) ?_)
     ((try refine zW ?_); (try with_reducible exact True.intro))
     (refine at_dcall ?_; (refine zW ?_; try with_reducible exact True.intro); refine callA_of (L9Ref_spec h) zB ?_; ((try refine zW ?_); (try with_reducible exact True.intro)))
     ((try refine zW ?_); (try with_reducible exact True.intro))
     (refine at_dcall ?_; (refine zW ?_; try with_reducible exact True.intro); refine callA_of (R9SameR_spec h hg) zB ?_; ((try refine zW ?_); (try with_reducible exact True.intro)))
     ((try refine zW ?_); (try with_reducible exact True.intro))
     (refine at_dcall ?_; (refine zW ?_; try with_reducible exact True.intro); refine callA_of (fixed_spec) zB ?_; ((try refine zW ?_); (try with_reducible exact True.intro)))
     ((try refine zW ?_); (try with_reducible exact True.intro))
 ·have eH := tB_neg hH
  (try simp (maxSteps := 2000000) (disch := omega) only [go_sem, simprocAttr, zD, zE, eH])
  (refine at_call 200 ?_; (refine zW ?_; try with_reducible exact True.intro); refine callA_of (hRight_spec ⟨N, ls, T, ff, room, acts⟩ ⟨0, 0, 0, [], []⟩ kl hT gHs_zero) zB ?_; ((try refine zW ?_); (try with_reducible exact True.intro)))
  have eH2 : tB (HostP N ls T ⟨0, 0, 0, [], []⟩) = false := tB_neg fun h => hH h.1
  (try simp (maxSteps := 2000000) (disch := omega) only [go_sem, simprocAttr, zD, zE, eH2])
  (refine at_call 200 ?_; (refine zW ?_; try with_reducible exact True.intro); refine callA_of (fixed_spec) zB ?_; ((try refine zW ?_); (try with_reducible exact True.intro)))
  ((try refine zO ?_); (try with_reducible exact True.intro))
end Go.Proofs.HO
