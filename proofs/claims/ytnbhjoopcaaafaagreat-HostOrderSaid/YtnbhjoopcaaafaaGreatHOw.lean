/- In whichever order messages are taken: the law's walk. -/
import Derived.Test.YtnbhjoopcaaafaaGreatHTl
import Derived.Test.YtnbhjoopcaaafaaGreatHP10
set_option linter.unusedSimpArgs false
set_option linter.unusedVariables false
namespace Go.Proofs.HO
open Go Go.Idl Go.Proofs Go.GP
set_option maxHeartbeats 20000000
set_option maxRecDepth 100000
def eU8 (n : Int) : List PV := [.sc (.int .u8 n)]
theorem and3 (x : Int) : 0 ≤ bits .and .i64 x 3 ∧ bits .and .i64 x 3 < 4 := by
  have h : (BitVec.ofInt 64 x &&& BitVec.ofInt 64 3).toNat ≤ 3 := by
    rw [BitVec.toNat_and]
    exact Nat.and_le_right
  show 0 ≤ IntKind.i64.wrap ((BitVec.ofInt 64 x &&& BitVec.ofInt 64 3).toNat : Int) ∧ IntKind.i64.wrap ((BitVec.ofInt 64 x &&& BitVec.ofInt 64 3).toNat : Int) < 4
  rw [w64 (by omega)]
  omega
theorem takenL_in {f a d : Int} {m : Nat} : ∀ {l : List (Int × Int × Int)}, (∀ t ∈ l, StaP m t.2.2) → StaP m d → StaP m (takenL f a d l)
  | [], _, h => h
  | t :: r, h, hd => by
    unfold takenL
    split
    · exact h t (by simp)
    · exact takenL_in (fun x hx => h x (by simp [hx])) hd
theorem ris_pw : ∀ {last : Int} {l : List (Int × Int)}, RisP last l → l.Pairwise (fun a b => a.1 < b.1) ∧ ∀ x ∈ l, last < x.1
  | _, [], _ => by simp
  | last, x :: r, h => by
    obtain ⟨h1, h2⟩ := ris_pw h.2
    have h0 := h.1.1
    exact ⟨List.pairwise_cons.2 ⟨h2, h1⟩, fun y hy => by
      rcases List.mem_cons.1 hy with rfl | hy
      · exact h0
      · have := h2 y hy; omega⟩
/-- The letter's message. -/
def msg (L : List Int) (i : Nat) : Int × Int := (100 + i, bits .and .i64 ((L[i]?).getD 0) 3)
def newM (k : Int) (inn : List (List (Int × Int))) (ls : List (Int × Int)) (x : Int) (i : Nat) : Prop := ∃ (z : Nat) (l : List (Int × Int)) (lk : Int × Int), k = z ∧ inn[z]? = some l ∧ ls[x.toNat]? = some lk ∧ ∀ y ∈ l, y.1 ≠ 100 + (i : Int)
def rng (a : Nat) : List Int := (List.range a).map fun q : Nat => (q : Int)
theorem rng_len (a : Nat) : (rng a).length = a := by simp [rng]
theorem rng_succ (a : Nat) : rng (a + 1) = rng a ++ [(a : Int)] := by simp [rng, List.range_succ]
theorem rng_take (a : Nat) : (rng a).take a = rng a := List.take_of_length_le (by rw [rng_len]; exact Nat.le_refl _)

theorem L6Ref_spec (p : Pc) : Pure Tryz.prog 30 [lPc p] (lPc p) := by
  refine pcall0 200 (fn := Tryz.f30) Tryz.func30 rfl (by simp [Tryz.ntmps30]) zB zB fun hs => ?_
  (repeat (first | ((refine zW ?_; try with_reducible exact True.intro))))
theorem gHs_zero : gHs ⟨0, 0, 0, [], []⟩ := ⟨by simp, by simp, by simp, by simp⟩
theorem bel_Hs (h : Hs) : bel 0 (lHs h) := by
  obtain ⟨a, b, c, d, e⟩ := h
  trivial
theorem HostOrder_pure (s0 : Sc) (h0 : Hs) (x : Int) (L : List Int) (tu : List Int) (htu : ∀ t ∈ tu, 0 ≤ t ∧ t < 256) :
    Pure Tryz.prog 6 [lApp s0, .agg [sci .i64 h0.node, sci .i64 h0.state, sci .i64 h0.steps, lMs h0.inn, lLs h0.out, sci .i64 x, lI L], .p (.imm 1 (pr eU8 tu))] (scb true) := by
  obtain ⟨k8, kl, ko⟩ := ok_cut s0
  have hg := gHs_cut h0
  
  refine pcall0 200 (fn := Tryz.f6) Tryz.func6 rfl (by simp [Tryz.ntmps6]) zB zB fun hs => ?_
  ((try refine zW ?_); (try with_reducible exact True.intro))
  (refine at_call 200 ?_; (refine zW ?_; try with_reducible exact True.intro); refine callA_of (L5Cut_spec s0) zB ?_; ((try refine zW ?_); (try with_reducible exact True.intro)))
  generalize cutSc s0 = s at *
  have hT := small_ok k8 ko
  ((try refine zW ?_); (try with_reducible exact True.intro))
  (refine at_call 200 ?_; (refine zW ?_; try with_reducible exact True.intro); refine callA_of (L5App_spec s k8 ko) zB ?_; ((try refine zW ?_); (try with_reducible exact True.intro)))
  obtain ⟨N, ls, T, ff, room, acts⟩ := s
  simp only at k8 kl ko hT
  by_cases c : 0 < T.length
  · by_cases c2 : 0 < N
    · (try simp (maxSteps := 2000000) (disch := omega) only [go_sem, simprocAttr, if_pos, if_neg, w64, beqT, beqF, bneT, bneF, pr_get, ir_get, decide_eq_true, decide_eq_false, c, c2])
      (refine at_call 200 ?_; (refine zW ?_; try with_reducible exact True.intro); refine callA_of (L9cut_spec h0) zB ?_; ((try refine zW ?_); (try with_reducible exact True.intro)))
      have h20 : ∀ l ∈ (cutHs h0).inn, l.length ≤ 20 := fun l hl => by
        obtain ⟨y, _, rfl⟩ := List.mem_map.1 hl
        simp only [List.length_take]; omega
      generalize cutHs h0 = h at *
      obtain ⟨node, state, steps, inn, out⟩ := h
      ((try refine zW ?_); (try with_reducible exact True.intro))
      (refine walk_trim [2, 3, 4, 7, 8] trivial zL ?_; (refine zW ?_; try with_reducible exact True.intro); refine irun_walk (id := 6) (n := 200) [none, none, some [0], some [], none, none, none, none, none, none] mixed (by kernel_rfl) ?_)
      ((try refine zW ?_); (try with_reducible exact True.intro))
      (refine at_dcall ?_; (refine zW ?_; try with_reducible exact True.intro); refine callA_of (L9Ref_spec ⟨node, state, steps, inn, out⟩) zB ?_; ((try refine zW ?_); (try with_reducible exact True.intro)))
      ((try refine zW ?_); (try with_reducible exact True.intro))
      (refine at_dcall ?_; (refine zW ?_; try with_reducible exact True.intro); refine callA_of (R9Right_spec ⟨N, ls, T, ff, room, acts⟩ ⟨node, state, steps, inn, out⟩ kl hT hg) zB ?_; ((try refine zW ?_); (try with_reducible exact True.intro)))
      by_cases hH : HostP N ls T ⟨node, state, steps, inn, out⟩
      · have eH := tB_pos hH
        by_cases c3 : steps > 1000000
        · (try simp (maxSteps := 2000000) (disch := omega) only [go_sem, simprocAttr, if_pos, if_neg, w64, beqT, beqF, bneT, bneF, pr_get, ir_get, decide_eq_true, decide_eq_false, eH, c3])
          (refine at_call 200 ?_; (refine zW ?_; try with_reducible exact True.intro); refine callA_of (fixed_spec) zB ?_; ((try refine zW ?_); (try with_reducible exact True.intro)))
          ((try refine zO ?_); (try with_reducible exact True.intro))
        · (try simp (maxSteps := 2000000) (disch := omega) only [go_sem, simprocAttr, if_pos, if_neg, w64, beqT, beqF, bneT, bneF, pr_get, ir_get, decide_eq_true, decide_eq_false, eH, c3])
          (refine walk_trim [2, 3, 4, 8] trivial zL ?_; (refine zW ?_; try with_reducible exact True.intro); refine irun_walk (id := 8) (n := 200) [none, none, none, none, none, none, some [0, 1, 2, 3, 4, 5, 7], some [0, 1, 2, 3, 4, 5, 6], some [1, 2, 3, 4, 5], some [2, 3, 4, 5], none] mixed (by kernel_rfl) ?_)
          obtain ⟨hTab, hn0, hnN, hs0, hsl, hil, hol, hst1, hst2, hil5, hol5, hris, hout⟩ := hH
          obtain ⟨n, rfl⟩ : ∃ n : Nat, node = n := ⟨node.toNat, by simp only at hn0; omega⟩
          obtain ⟨j, rfl⟩ : ∃ j : Nat, state = j := ⟨state.toNat, by simp only at hs0; omega⟩
          have hnl : n < T.length := by have := hTab.2.1; simp only at hnN; omega
          have hnd := List.getElem?_eq_getElem hnl
          generalize T[n] = nd at hnd
          have hjl : j < nd.states.length := by have := hsl nd (by simpa using hnd); simp only at this; omega
          have hnode := hTab.2.2 n nd hnd
          simp only at hil hst1 hst2 hil5 hris
          generalize hk : indexL x 0 (ins n 0 ls) = k
          (try simp (maxSteps := 2000000) only [go_sem, simprocAttr, mn20])
          have hmm : min L.length 20 ≤ L.length ∧ min L.length 20 ≤ 20 := by omega
          generalize min L.length 20 = mm at *
          (refine at_call 200 ?_; (refine zW ?_; try with_reducible exact True.intro); refine callA_of (Got_spec ⟨N, ls, T, ff, room, acts⟩ ⟨n, j, steps, inn, out⟩ x kl hil) zB ?_; ((try refine zW ?_); (try with_reducible exact True.intro)))
          (try simp (maxSteps := 2000000) only [go_sem, simprocAttr, hk])
          generalize hG : lenAt inn k = G
          have hini : inn = putAll k inn ((List.range 0).map (msg L)) := (putAll_nil _ _).symm
          have hrow : ∀ l ∈ inn, l.Pairwise (fun a b : Int × Int => a.1 < b.1) := fun l hl => by
            obtain ⟨q, hq⟩ := List.mem_iff_getElem?.1 hl
            exact (ris_pw (hris q l (List.getElem?_eq_some_iff.1 hq).1 hq)).1
          obtain ⟨b2, b3, b4, b5⟩ := id hg
          have hputD : ∀ D : List Nat, D.Nodup → (∀ q ∈ D, newM k inn ls x q) → D.length ≤ 20 → gHs ⟨n, 0, 0, putAll k inn (D.map (msg L)), out⟩ ∧ (putAll k inn (D.map (msg L))).length = (ins n 0 ls).length ∧ (∀ l ∈ putAll k inn (D.map (msg L)), Up l) ∧ (∀ l ∈ putAll k inn (D.map (msg L)), l.length ≤ 1000) ∧ True := fun D hD hi hi20 => by
            have hr := putAll_row (k := k) (D := D.map (msg L)) h20
            have hr2 : ∀ l ∈ putAll k inn (D.map (msg L)), l.length ≤ 40 := fun l hl => by have := hr l hl; simp at this; omega
            refine ⟨⟨by simp only [putAll_len]; omega, b3, fun l hl => by have := hr2 l hl; omega, b5⟩, by rw [putAll_len]; exact hil, putAll_up hrow ?_ ?_, fun l hl => by have := hr2 l hl; omega, trivial⟩
            · rw [List.pairwise_map]
              exact hD.imp fun h e => h (by simp only [msg] at e; omega)
            · intro z l hz hl m hm y hy
              obtain ⟨q, hq, rfl⟩ := List.mem_map.1 hm
              obtain ⟨z', l', lk, e1, e2, _, e3⟩ := hi q hq
              obtain rfl : z = z' := by omega
              rw [hl] at e2
              cases e2
              exact e3 y hy
          have hput := fun (i : Nat) (hi : ∀ q : Nat, q < i → newM k inn ls x q) (hi20 : i ≤ 20) => hputD (List.range i) List.nodup_range (fun q hq => hi q (List.mem_range.1 hq)) (by simpa using hi20)
          (refine walk_trim [2, 3, 4, 8, 9, 10, 11, 12, 13] trivial zL ?_; ((try refine zW ?_); (try with_reducible exact True.intro)))
          refine walk_floop 200 200 (fun i : Nat × Nat => i.1 ≤ mm ∧ (i.1 = 0 → i.2 = j) ∧ (0 < i.1 → i.2 < nd.states.length) ∧ ∀ q : Nat, q < i.1 → newM k inn ls x q)
            (fun i => ⟨225, [(2, .p (.imm 1 (pr eU8 tu))), (3, .ptr 0 0 0 0), (4, .ptr 1 0 0 0), (8, .ptr 3 0 0 0), (9, .ptr 4 0 0 0), (10, .ptr 5 0 0 0), (11, sci .i64 mm), (12, sci .i64 G), (13, sci .i64 i.1)], [], 6, [(4, .arr 5 0 [[sci .i64 n, sci .i64 i.2, sci .i64 (steps + i.1), lMs (putAll k inn ((List.range i.1).map (msg L))), lLs out]]), (5, .arr 5 0 [[sci .i64 n, sci .i64 j, sci .i64 steps, lMs inn, lLs out]]), (3, .arr 5 0 [[sci .i64 n, sci .i64 j, sci .i64 steps, lMs inn, lLs out]]), (1, .arr 7 0 [[sci .i64 h0.node, sci .i64 h0.state, sci .i64 h0.steps, lMs h0.inn, lLs h0.out, sci .i64 x, lI L]]), (0, .arr 4 0 [[sci .i64 N, .p (.imm 2 (pr eII ls)), .p (.imm 2 (pr eNd T)), scb ff]])]⟩) (fun i => mm - i.1) (0, j) [] ?_ ?_ ?_
          · simp
          · constructor <;> (try simp (maxSteps := 2000000) (disch := omega) only [go_sem, simprocAttr, if_pos, if_neg, w64, beqT, beqF, bneT, bneF, pr_get, ir_get, decide_eq_true, decide_eq_false, Int.natCast_zero, List.take_of_length_le, List.append_assoc, hjl, List.range_zero, List.map_nil, putAll_nil, Int.add_zero, Int.natCast_zero])
          · rintro ⟨i, g⟩ hi
            simp only at hi
            obtain ⟨hi, hinvi⟩ := hi
            ((try refine zW ?_); (try with_reducible exact True.intro))
            by_cases li : i < mm
            · have hgl : g < nd.states.length := by
                rcases Nat.eq_zero_or_pos i with e | e
                · rw [hinvi.1 e]; exact hjl
                · exact hinvi.2.1 e
              obtain ⟨p1, p2, p3, p4, p5⟩ := hput i hinvi.2.2 (by omega)
              have lL : i < L.length := by omega
              have hst : nd.states[g]? = some nd.states[g] := List.getElem?_eq_getElem hgl
              generalize nd.states[g] = st at hst
              have hTk := Take_spec ⟨N, ls, T, ff, room, acts⟩ ⟨n, g, steps + i, putAll k inn ((List.range i).map (msg L)), out⟩ x (100 + i, bits .and .i64 L[i] 3) n g nd st rfl rfl hnd hst ⟨p1.1, p1.2, p1.3, p1.4⟩ kl ((hT.2 n nd hnd).2 g st hst).2.2 p2 (fun l hl => ⟨p3 l hl, p4 l hl⟩) ⟨by simp only; omega, by simp only; omega⟩
              have hmsg : msg L i = (100 + (i : Int), bits .and .i64 L[i] 3) := by simp [msg, lL]
              rcases takeH_put (ls := ls) (st := st) (state := g) (steps := steps + i) (out := out) (m := (100 + (i : Int), bits .and .i64 L[i] 3)) (D := (List.range i).map (msg L)) hk hil p3 (by simp only; omega) (and3 _) with ⟨e, -⟩ | ⟨z, l, lk, e1, e2, e3, e4, e⟩
              · rw [e] at hTk
                ((try refine zO ?_); (try with_reducible exact True.intro))
                (refine walk_trim [2, 3, 4, 8, 9, 10, 11, 12, 13] trivial zL ?_; (refine zW ?_; try with_reducible exact True.intro); refine irun_walk (id := 13) (n := 200) [none, none, none, none, none, none, none, none, none, none, none, none, none, some [17], none, none, none, some [0, 1, 2, 3, 4, 5, 6, 7, 8, 9, 10, 11, 12, 13, 14, 15, 16], some [16], none] mixed (by kernel_rfl) ?_)
                (try simp (maxSteps := 2000000) (disch := omega) only [go_sem, simprocAttr, if_pos, if_neg, w64, beqT, beqF, bneT, bneF, pr_get, ir_get, decide_eq_true, decide_eq_false, eI])
                (refine at_dcall ?_; (refine zW ?_; try with_reducible exact True.intro); refine callA_of (hTk) zB ?_; ((try refine zW ?_); (try with_reducible exact True.intro)))
                ((try refine zO ?_); (try with_reducible exact True.intro))
                (refine at_call 200 ?_; (refine zW ?_; try with_reducible exact True.intro); refine callA_of (fixed_spec) zB ?_; ((try refine zW ?_); (try with_reducible exact True.intro)))
                ((try refine zO ?_); (try with_reducible exact True.intro))
              · rw [e] at hTk
                obtain ⟨g', hg'⟩ : ∃ g' : Nat, takenL lk.1 (bits .and .i64 L[i] 3) g st.takes = g' ∧ g' < nd.states.length := by
                  have hs := takenL_in (f := lk.1) (a := bits .and .i64 L[i] 3) (d := g) (m := nd.states.length) (l := st.takes) (fun t ht => by
                    obtain ⟨q, hq⟩ := List.mem_iff_getElem?.1 ht
                    exact ((hnode.2.2.2 g st hst).2.2.2.1 q t hq).2.2.1) ⟨by omega, by omega⟩
                  exact ⟨(takenL lk.1 (bits .and .i64 L[i] 3) g st.takes).toNat, by have := hs.1; omega, by have := hs.1; have := hs.2; omega⟩
                simp only [hg'.1, ← hmsg] at hTk
                have hsn : (List.range i).map (msg L) ++ [msg L i] = (List.range (i + 1)).map (msg L) := by rw [List.range_succ, List.map_append]; rfl
                rw [hsn] at hTk
                have hst3 : steps + (i : Int) + 1 = steps + ((i + 1 : Nat) : Int) := by omega
                rw [hst3] at hTk
                ((try refine zO ?_); (try with_reducible exact True.intro))
                (refine walk_trim [2, 3, 4, 8, 9, 10, 11, 12, 13] trivial zL ?_; (refine zW ?_; try with_reducible exact True.intro); refine irun_walk (id := 13) (n := 200) [none, none, none, none, none, none, none, none, none, none, none, none, none, some [17], none, none, none, some [0, 1, 2, 3, 4, 5, 6, 7, 8, 9, 10, 11, 12, 13, 14, 15, 16], some [16], none] mixed (by kernel_rfl) ?_)
                (try simp (maxSteps := 2000000) (disch := omega) only [go_sem, simprocAttr, if_pos, if_neg, w64, beqT, beqF, bneT, bneF, pr_get, ir_get, decide_eq_true, decide_eq_false, eI])
                (refine at_dcall ?_; (refine zW ?_; try with_reducible exact True.intro); refine callA_of (hTk) zB ?_; ((try refine zW ?_); (try with_reducible exact True.intro)))
                ((try refine zO ?_); (try with_reducible exact True.intro))
                refine ⟨(i + 1, g'), [], ⟨by first | assumption | omega, ⟨fun q => by omega, fun _ => hg'.2, fun q hq => by
                  rcases Nat.lt_or_ge q i with c | c
                  · exact hinvi.2.2 q c
                  · obtain rfl : q = i := by omega
                    exact ⟨z, l, lk, e1, e2, e3, fun y hy => e4 y ((sAll_mem _ _ _).2 (.inl hy))⟩⟩⟩, ?_, ?_⟩
                · (try simp only []); omega
                · constructor <;> (try simp (maxSteps := 2000000) (disch := omega) only [go_sem, simprocAttr, if_pos, if_neg, w64, beqT, beqF, bneT, bneF, pr_get, ir_get, decide_eq_true, decide_eq_false, List.append_assoc])
            · obtain rfl : i = mm := by omega
              obtain ⟨p1, p2, p3, p4, -⟩ := hput i hinvi.2.2 (by omega)
              have hnew := hinvi.2.2
              have hgl : g < nd.states.length := by
                rcases Nat.eq_zero_or_pos i with e | e
                · rw [hinvi.1 e]; exact hjl
                · exact hinvi.2.1 e
              ((try refine zO ?_); (try with_reducible exact True.intro))
              refine walk_own 16 1 trivial rfl (.inl rfl) ?_
              (refine walk_trim [2, 3, 4, 8, 9, 10, 11, 12, 16, 17] trivial zL ?_; ((try refine zW ?_); (try with_reducible exact True.intro)))
              refine walk_floop 200 200 (fun a : Nat × Nat => a.1 ≤ i)
                (fun a => ⟨225, [(2, .p (.imm 1 (pr eU8 tu))), (3, .ptr 0 0 0 0), (4, .ptr 1 0 0 0), (8, .ptr 3 0 0 0), (9, .ptr 4 0 0 0), (10, .ptr 5 0 0 0), (11, sci .i64 i), (12, sci .i64 G), (16, .ref 6 a.2 0 a.1), (17, sci .i64 a.1)], [], 7, [(6, .arr 1 a.2 (ir eI (rng a.1))), (4, .arr 5 0 [[sci .i64 n, sci .i64 g, sci .i64 (steps + i), lMs (putAll k inn ((List.range i).map (msg L))), lLs out]]), (5, .arr 5 0 [[sci .i64 n, sci .i64 j, sci .i64 steps, lMs inn, lLs out]]), (3, .arr 5 0 [[sci .i64 n, sci .i64 j, sci .i64 steps, lMs inn, lLs out]]), (1, .arr 7 0 [[sci .i64 h0.node, sci .i64 h0.state, sci .i64 h0.steps, lMs h0.inn, lLs h0.out, sci .i64 x, lI L]]), (0, .arr 4 0 [[sci .i64 N, .p (.imm 2 (pr eII ls)), .p (.imm 2 (pr eNd T)), scb ff]])]⟩) (fun a => i - a.1) (0, 0) [] ?_ ?_ ?_
              · simp
              · constructor <;> (try simp (maxSteps := 2000000) (disch := omega) only [go_sem, simprocAttr, if_pos, if_neg, w64, beqT, beqF, bneT, bneF, pr_get, ir_get, decide_eq_true, decide_eq_false, Int.natCast_zero, List.take_of_length_le, List.append_assoc, rng, List.range_zero, List.map_nil])
              · rintro ⟨a, b⟩ ha
                simp only at ha
                ((try refine zW ?_); (try with_reducible exact True.intro))
                by_cases la : a < i
                · ((try refine zO ?_); (try with_reducible exact True.intro))
                  refine ⟨(a + 1, b + 1), [], by first | assumption | omega, ?_, ?_⟩
                  · (try simp only []); omega
                  · constructor <;> (try simp (maxSteps := 2000000) (disch := omega) only [go_sem, simprocAttr, if_pos, if_neg, w64, beqT, beqF, bneT, bneF, pr_get, ir_get, decide_eq_true, decide_eq_false, rng_succ, rng_len, Nat.min_self, rng_take, List.append_assoc])
                · obtain rfl : a = i := by omega
                  ((try refine zO ?_); (try with_reducible exact True.intro))
                  (refine walk_trim [2, 3, 4, 8, 9, 10, 11, 12, 16, 18] trivial zL ?_; ((try refine zW ?_); (try with_reducible exact True.intro)))
                  refine walk_floop 200 200 (fun i : Nat × Nat × List Nat × List Nat => i.1 ≤ a ∧ i.2.2.1.length = i.1 ∧ (i.2.2.1 ++ i.2.2.2).Perm (List.range a) ∧ i.2.1 < nd.states.length)
                    (fun i => ⟨225, [(2, .p (.imm 1 (pr eU8 tu))), (3, .ptr 0 0 0 0), (4, .ptr 1 0 0 0), (8, .ptr 3 0 0 0), (9, .ptr 4 0 0 0), (10, .ptr 5 0 0 0), (11, sci .i64 a), (12, sci .i64 G), (16, lI (i.2.2.2.map fun q : Nat => (q : Int))), (18, sci .i64 i.1)], [], 7, [(4, .arr 5 0 [[sci .i64 n, sci .i64 g, sci .i64 (steps + a), lMs (putAll k inn ((List.range a).map (msg L))), lLs out]]), (5, .arr 5 0 [[sci .i64 n, sci .i64 i.2.1, sci .i64 (steps + i.1), lMs (putAll k inn (i.2.2.1.map (msg L))), lLs out]]), (3, .arr 5 0 [[sci .i64 n, sci .i64 j, sci .i64 steps, lMs inn, lLs out]]), (1, .arr 7 0 [[sci .i64 h0.node, sci .i64 h0.state, sci .i64 h0.steps, lMs h0.inn, lLs h0.out, sci .i64 x, lI L]]), (0, .arr 4 0 [[sci .i64 N, .p (.imm 2 (pr eII ls)), .p (.imm 2 (pr eNd T)), scb ff]])]⟩) (fun i => a - i.1) (0, j, [], List.range a) [6] ?_ ?_ ?_
                  · exact ⟨Nat.zero_le _, rfl, List.Perm.refl _, hjl⟩
                  · constructor <;> (try simp (maxSteps := 2000000) (disch := omega) only [go_sem, simprocAttr, if_pos, if_neg, w64, beqT, beqF, bneT, bneF, pr_get, ir_get, decide_eq_true, decide_eq_false, Int.natCast_zero, List.map_nil, putAll_nil, Int.add_zero, rng])
                    rw [List.take_of_length_le (by simp)]
                  · rintro ⟨r, g2, D, left⟩ ⟨i1, i2, i3, i4⟩
                    simp only at i1 i2 i3 i4
                    ((try refine zW ?_); (try with_reducible exact True.intro))
                    have hll : left.length = a - r := by have := i3.length_eq; simp at this; omega
                    by_cases hr : r < a
                    · (try simp (maxSteps := 2000000) (disch := omega) only [go_sem, simprocAttr, if_pos, if_neg, w64, beqT, beqF, bneT, bneF, pr_get, ir_get, decide_eq_true, decide_eq_false, hr])
                      have hpos : (0 : Int) < left.length := by omega
                      obtain ⟨κ, hκl, hcase⟩ : ∃ κ : Nat, κ < left.length ∧ ((∃ hrt : r < tu.length, tu[r].tmod left.length = (κ : Int)) ∨ ¬ r < tu.length ∧ κ = 0) := by
                        by_cases hrt : r < tu.length
                        · have hu8 := htu _ (List.getElem_mem hrt)
                          have h1 := Int.tmod_nonneg (left.length : Int) hu8.1
                          have h2 := Int.tmod_lt_of_pos tu[r] hpos
                          exact ⟨(tu[r].tmod left.length).toNat, by omega, .inl ⟨hrt, by omega⟩⟩
                        · exact ⟨0, by omega, .inr ⟨hrt, rfl⟩⟩
                      obtain ⟨c0, hc0⟩ : ∃ c0, left[κ]'hκl = c0 := ⟨_, rfl⟩
                      have hcm : c0 ∈ left := by rw [← hc0]; exact List.getElem_mem hκl
                      have hca : c0 < a := by
                        have h1 : c0 ∈ D ++ left := List.mem_append.2 (.inr hcm)
                        simpa using i3.mem_iff.1 h1
                      have hlc : c0 < L.length := by omega
                      have hnod : (D ++ left).Nodup := i3.nodup_iff.2 List.nodup_range
                      have hDn : D.Nodup := (List.nodup_append.1 hnod).1
                      have hDw : ∀ q ∈ D, newM k inn ls x q := fun q hq => hnew q (by
                        have h1 : q ∈ D ++ left := List.mem_append.2 (.inl hq)
                        simpa using i3.mem_iff.1 h1)
                      obtain ⟨q1, q2, q3, q4, -⟩ := hputD D hDn hDw (by omega)
                      have hst : nd.states[g2]? = some nd.states[g2] := List.getElem?_eq_getElem i4
                      generalize nd.states[g2] = st at hst
                      have hTk := Take_spec ⟨N, ls, T, ff, room, acts⟩ ⟨n, g2, steps + r, putAll k inn (D.map (msg L)), out⟩ x (100 + c0, bits .and .i64 L[c0] 3) n g2 nd st rfl rfl hnd hst ⟨q1.1, q1.2, q1.3, q1.4⟩ kl ((hT.2 n nd hnd).2 g2 st hst).2.2 q2 (fun l hl => ⟨q3 l hl, q4 l hl⟩) ⟨by simp only; omega, by simp only; omega⟩
                      have hmsg : msg L c0 = (100 + (c0 : Int), bits .and .i64 L[c0] 3) := by simp [msg, hlc]
                      rcases takeH_put (ls := ls) (st := st) (state := g2) (steps := steps + r) (out := out) (m := (100 + (c0 : Int), bits .and .i64 L[c0] 3)) (D := D.map (msg L)) hk hil q3 (by simp only; omega) (and3 _) with ⟨-, e⟩ | ⟨z, l, lk, e1, e2, e3, e4, e⟩
                      · exfalso
                        obtain ⟨z, l, lk, f1, f2, f3, f4⟩ := hnew c0 hca
                        rcases e with e | ⟨z', l', g1, g2, y, hy, hy2⟩
                        · omega
                        · obtain rfl : z = z' := by omega
                          rw [f2] at g2
                          cases g2
                          rcases (sAll_mem _ _ _).1 hy with hy | hy
                          · exact f4 y hy hy2
                          · obtain ⟨q, hq, rfl⟩ := List.mem_map.1 hy
                            obtain rfl : q = c0 := by simp only [msg] at hy2; omega
                            exact (List.nodup_append.1 hnod).2.2 q hq q hcm rfl
                      · rw [e] at hTk
                        obtain ⟨g', hg', hgl'⟩ : ∃ g' : Nat, takenL lk.1 (bits .and .i64 L[c0] 3) g2 st.takes = g' ∧ g' < nd.states.length := by
                          have hs := takenL_in (f := lk.1) (a := bits .and .i64 L[c0] 3) (d := g2) (m := nd.states.length) (l := st.takes) (fun t ht => by
                            obtain ⟨q, hq⟩ := List.mem_iff_getElem?.1 ht
                            exact ((hnode.2.2.2 g2 st hst).2.2.2.1 q t hq).2.2.1) ⟨by omega, by omega⟩
                          exact ⟨(takenL lk.1 (bits .and .i64 L[c0] 3) g2 st.takes).toNat, by have := hs.1; omega, by have := hs.1; have := hs.2; omega⟩
                        simp only [hg', ← hmsg] at hTk
                        have hsn : D.map (msg L) ++ [msg L c0] = (D ++ [c0]).map (msg L) := by rw [List.map_append]; rfl
                        have hst3 : steps + (r : Int) + 1 = steps + ((r + 1 : Nat) : Int) := by omega
                        rw [hsn, hst3] at hTk
                        have hperm : (D ++ [c0] ++ (left.take κ ++ left.drop (κ + 1))).Perm (List.range a) := by
                          refine List.Perm.trans ?_ i3
                          rw [List.append_assoc]
                          refine List.Perm.append_left D ?_
                          rw [← hc0]
                          have e5 : left = left.take κ ++ left[κ] :: left.drop (κ + 1) := by
                            rw [← List.drop_eq_getElem_cons hκl, List.take_append_drop]
                          refine List.Perm.trans ?_ (List.Perm.of_eq e5.symm)
                          exact (List.perm_middle (a := left[κ]) (l₁ := left.take κ) (l₂ := left.drop (κ + 1))).symm
                        obtain ⟨lm, hlm⟩ : ∃ lm, left.map (fun q : Nat => (q : Int)) = lm := ⟨_, rfl⟩
                        have hrw : (pr eI lm)[κ]? = some (eI (c0 : Int)) := by
                          rw [← hlm]; simp [pr, hκl, hc0]
                        have hlml : lm.length = left.length := by rw [← hlm, List.length_map]
                        have hmin : min κ left.length = κ := by omega
                        have hN : ((κ : Int) + 1).toNat = κ + 1 := by omega
                        have hκ1 : κ ≤ left.length := by omega
                        have hκ2 : 0 ≤ (κ : Int) + 1 ∧ (κ : Int) + 1 ≤ left.length := by omega
                        have hdr : List.take (left.length - (κ + 1)) (List.drop (κ + 1) lm) = List.drop (κ + 1) lm := List.take_of_length_le (by simp [hlml])
                        have hlt1 : (lm.take κ).length = κ := by rw [List.length_take, hlml]; exact hmin
                        have hlt2 : (lm.take κ).take κ = lm.take κ := by rw [List.take_take, Nat.min_self]
                        have hlt3 : (lm.drop (κ + 1)).length = left.length - (κ + 1) := by rw [List.length_drop, hlml]
                        have hlm2 : (left.take κ ++ left.drop (κ + 1)).map (fun q : Nat => (q : Int)) = lm.take κ ++ lm.drop (κ + 1) := by rw [List.map_append, List.map_take, List.map_drop, hlm]
                        rw [hlm]
                        rcases hcase with ⟨hrt, hκ⟩ | ⟨hrt, hκ⟩
                        case' inl =>
                          have hu8 := htu _ (List.getElem_mem hrt)
                          (try simp (maxSteps := 2000000) (disch := omega) only [go_sem, simprocAttr, if_pos, if_neg, w64, beqT, beqF, bneT, bneF, pr_get, ir_get, decide_eq_true, decide_eq_false, hrt, eU8, rng_len, List.length_map])
                          rw [hlml, hκ]
                          (refine walk_trim [2, 3, 4, 8, 9, 10, 11, 12, 16, 18, 19] trivial zL ?_; ((try refine zW ?_); (try with_reducible exact True.intro)))
                        case' inr =>
                          (try simp (maxSteps := 2000000) (disch := omega) only [go_sem, simprocAttr, if_pos, if_neg, w64, beqT, beqF, bneT, bneF, pr_get, ir_get, decide_eq_true, decide_eq_false, hrt])
                          rw [show (IV.p (.sc (.int .i64 0)) : IV) = .p (.sc (.int .i64 (κ : Int))) by rw [hκ]; rfl]
                          (refine walk_trim [2, 3, 4, 8, 9, 10, 11, 12, 16, 18, 19] trivial zL ?_; ((try refine zW ?_); (try with_reducible exact True.intro)))
                        all_goals
                          (refine walk_trim [2, 3, 4, 8, 9, 10, 11, 12, 16, 18, 19] trivial zL ?_; (refine zW ?_; try with_reducible exact True.intro); refine irun_walk (id := 28) (n := 200) [none, none, none, none, none, none, none, none, none, none, none, none, none, none, none, none, none, none, none, some [23], none, none, none, some [0, 1, 2, 3, 4, 5, 6, 7, 8, 9, 10, 11, 12, 13, 14, 15, 16, 17, 18, 19, 20, 21, 22], some [22], none] mixed (by kernel_rfl) ?_)
                          (try simp (maxSteps := 2000000) (disch := omega) only [go_sem, simprocAttr, if_pos, if_neg, w64, beqT, beqF, bneT, bneF, pr_get, ir_get, decide_eq_true, decide_eq_false, hrw, hlml, hκl, eI])
                          (refine at_dcall ?_; (refine zW ?_; try with_reducible exact True.intro); refine callA_of (hTk) zB ?_; ((try refine zW ?_); (try with_reducible exact True.intro)))
                          (try simp (maxSteps := 2000000) (disch := omega) only [go_sem, simprocAttr, if_pos, if_neg, w64, beqT, beqF, bneT, bneF, pr_get, ir_get, decide_eq_true, decide_eq_false, hlml, hκl, hmin, hN, hdr, hκ1, hκ2, hlt1, hlt2, hlt3])
                          refine ⟨(r + 1, g', D ++ [c0], left.take κ ++ left.drop (κ + 1)), [8], ⟨by simp only; omega, by simp only [List.length_append, i2]; rfl, hperm, hgl'⟩, by simp only; omega, ?_⟩
                          constructor <;> (try simp (maxSteps := 2000000) only [go_sem, simprocAttr, hlm2, hlt1, hlt2, hlt3, hlml, hmin])
                          rw [List.take_of_length_le (by simp [hlt1, hlt3])]
                    · (try simp (maxSteps := 2000000) (disch := omega) only [go_sem, simprocAttr, if_pos, if_neg, w64, beqT, beqF, bneT, bneF, pr_get, ir_get, decide_eq_true, decide_eq_false, hr])
                      obtain rfl : a = r := by omega
                      have hl0 : left = [] := List.eq_nil_of_length_eq_zero (by omega)
                      subst hl0
                      rw [List.append_nil] at i3
                      have hJ : putAll k inn (D.map (msg L)) = putAll k inn ((List.range a).map (msg L)) := putAll_perm (i3.map _) (by
                        intro m1 h1 m2 h2 e
                        obtain ⟨c1, _, rfl⟩ := List.mem_map.1 h1
                        obtain ⟨c2, _, rfl⟩ := List.mem_map.1 h2
                        obtain rfl : c1 = c2 := by simp only [msg] at e; omega
                        rfl)
                      rw [hJ]
                      have hGl : 0 < a → lenAt (putAll k inn ((List.range a).map (msg L))) k = G + a := fun h0a => by
                        obtain ⟨z, l, lk, f1, f2, f3, f4⟩ := hnew 0 h0a
                        subst f1
                        have h1 := putAll_get (D := (List.range a).map (msg L)) f2
                        have h2 := sAll_len ((List.range a).map (msg L)) l
                        simp only [List.length_map, List.length_range] at h2
                        rw [← hG]
                        simp only [lenAt]
                        rw [if_neg (by omega), if_neg (by omega), Int.toNat_natCast, h1, f2, Option.getD_some, Option.getD_some, h2]
                        omega
                      have hIl : (putAll k inn ((List.range a).map (msg L))).length = inn.length := putAll_len _ _ _
                      clear hJ
                      (refine walk_trim [3, 4, 8, 9, 10, 11, 12] trivial zL ?_; ((try refine zW ?_); (try with_reducible exact True.intro)))
                      (refine walk_trim [3, 4, 8, 9, 10, 11, 12] trivial zL ?_; (refine zW ?_; try with_reducible exact True.intro); refine irun_walk (id := 35) (n := 200) [none, some [3, 6, 7], some [3, 6, 7], none, some [6, 7], some [6, 7], some [0, 1, 2, 3, 4, 5, 7], some [0, 1, 2, 3, 4, 5, 6], some [], some []] mixed (by kernel_rfl) ?_)
                      obtain ⟨X, hX⟩ : ∃ X : List Int, X = out.map fun l => (l.length : Int) := ⟨_, rfl⟩
                      generalize putAll k inn ((List.range a).map (msg L)) = I at *
                      ((try refine zW ?_); (try with_reducible exact True.intro))
                      (refine at_dcall ?_; (refine zW ?_; try with_reducible exact True.intro); refine callA_of (PieceU_spec ⟨n, g, steps + a, I, out⟩ ⟨p1.1, p1.2, p1.3, p1.4⟩ hX) zB ?_; ((try refine zW ?_); (try with_reducible exact True.intro)))
                      (refine at_dcall ?_; (refine zW ?_; try with_reducible exact True.intro); refine callA_of (L6Ref_spec ⟨n, g, steps + a, X, I, out⟩) zB ?_; ((try refine zW ?_); (try with_reducible exact True.intro)))
                      ((try refine zW ?_); (try with_reducible exact True.intro))
                      (refine at_dcall ?_; (refine zW ?_; try with_reducible exact True.intro); refine callA_of (PieceU_spec ⟨n, g2, steps + a, I, out⟩ ⟨p1.1, p1.2, p1.3, p1.4⟩ hX) zB ?_; ((try refine zW ?_); (try with_reducible exact True.intro)))
                      (refine at_dcall ?_; (refine zW ?_; try with_reducible exact True.intro); refine callA_of (L6Ref_spec ⟨n, g2, steps + a, X, I, out⟩) zB ?_; ((try refine zW ?_); (try with_reducible exact True.intro)))
                      clear hX
                      ((try refine zO ?_); (try with_reducible exact True.intro))
                      have hGb : 0 ≤ G ∧ G ≤ 20 := by
                        rw [← hG]
                        unfold lenAt
                        split
                        · omega
                        · cases hz : inn[k.toNat]? with
                          | none => simp
                          | some l =>
                            have := h20 l (List.mem_of_getElem? hz)
                            simp only [Option.getD_some]
                            omega
                      rcases Nat.eq_zero_or_pos a with h0a | h0a
                      · (try simp (maxSteps := 2000000) (disch := omega) only [go_sem, simprocAttr, if_pos, if_neg, w64, beqT, beqF, bneT, bneF, pr_get, ir_get, decide_eq_true, decide_eq_false, h0a])
                        refine walk_floop 200 200 (fun i : Nat => i ≤ I.length)
                          (fun i => ⟨225, [(23, .ptr 7 0 0 0), (24, .ptr 8 0 0 0), (25, sci .i64 i)], [], 9, [(8, .arr 6 0 [[sci .i64 n, sci .i64 g2, sci .i64 steps, .p (.imm 1 (pr eI X)), lMs I, lLs out]]), (7, .arr 6 0 [[sci .i64 n, sci .i64 g, sci .i64 steps, .p (.imm 1 (pr eI X)), lMs I, lLs out]])]⟩) (fun i => I.length - i) (0) [] ?_ ?_ ?_
                        · simp
                        · constructor <;> (try simp (maxSteps := 2000000) (disch := omega) only [go_sem, simprocAttr, if_pos, if_neg, w64, beqT, beqF, bneT, bneF, pr_get, ir_get, decide_eq_true, decide_eq_false, Int.natCast_zero, List.take_of_length_le, List.append_assoc])
                        · rintro i hi
                          ((try refine zW ?_); (try with_reducible exact True.intro))
                          by_cases li : i < I.length
                          · (try simp (maxSteps := 2000000) (disch := omega) only [go_sem, simprocAttr, if_pos, if_neg, w64, beqT, beqF, bneT, bneF, pr_get, ir_get, decide_eq_true, decide_eq_false, eMs])
                            (refine walk_trim [23, 24, 25] trivial zL ?_; (refine zW ?_; try with_reducible exact True.intro); refine irun_walk (id := 41) (n := 200) [none, none, none, none, none, none, none, none, none, none, some [], none] mixed (by kernel_rfl) ?_)
                            (try simp (maxSteps := 2000000) (disch := omega) only [go_sem, simprocAttr, if_pos, if_neg, w64, beqT, beqF, bneT, bneF, pr_get, ir_get, decide_eq_true, decide_eq_false, eMs])
                            (refine at_dcall ?_; (refine zW ?_; try with_reducible exact True.intro); refine callA_of (Msgs_spec I[i] I[i]) zB ?_; ((try refine zW ?_); (try with_reducible exact True.intro)))
                            have e := beq_self_eq_true I[i]
                            (try simp (maxSteps := 2000000) (disch := omega) only [go_sem, simprocAttr, if_pos, if_neg, w64, beqT, beqF, bneT, bneF, pr_get, ir_get, decide_eq_true, decide_eq_false, e])
                            refine ⟨i + 1, [], li, by omega, ?_⟩
                            constructor <;> ((try refine zO ?_); (try with_reducible exact True.intro))
                          · obtain rfl : i = I.length := by omega
                            ((try refine zO ?_); (try with_reducible exact True.intro))
                            (refine at_call 200 ?_; (refine zW ?_; try with_reducible exact True.intro); refine callA_of (fixed_spec) zB ?_; ((try refine zW ?_); (try with_reducible exact True.intro)))
                            ((try refine zO ?_); (try with_reducible exact True.intro))
                      · (try simp (maxSteps := 2000000) (disch := omega) only [go_sem, simprocAttr, if_pos, if_neg, w64, beqT, beqF, bneT, bneF, pr_get, ir_get, decide_eq_true, decide_eq_false, h0a])
                        (refine at_call 200 ?_; (refine zW ?_; try with_reducible exact True.intro); refine callA_of (Got_spec ⟨N, ls, T, ff, room, acts⟩ ⟨n, g, steps + a, I, out⟩ x kl p2) zB ?_; ((try refine zW ?_); (try with_reducible exact True.intro)))
                        (try simp (maxSteps := 2000000) (disch := omega) only [go_sem, simprocAttr, if_pos, if_neg, w64, beqT, beqF, bneT, bneF, pr_get, ir_get, decide_eq_true, decide_eq_false, hk, hGl h0a])
                        refine walk_floop 200 200 (fun i : Nat => i ≤ I.length)
                          (fun i => ⟨225, [(23, .ptr 7 0 0 0), (24, .ptr 8 0 0 0), (25, sci .i64 i)], [], 9, [(8, .arr 6 0 [[sci .i64 n, sci .i64 g2, sci .i64 (steps + a), .p (.imm 1 (pr eI X)), lMs I, lLs out]]), (7, .arr 6 0 [[sci .i64 n, sci .i64 g, sci .i64 (steps + a), .p (.imm 1 (pr eI X)), lMs I, lLs out]])]⟩) (fun i => I.length - i) (0) [] ?_ ?_ ?_
                        · simp
                        · constructor <;> (try simp (maxSteps := 2000000) (disch := omega) only [go_sem, simprocAttr, if_pos, if_neg, w64, beqT, beqF, bneT, bneF, pr_get, ir_get, decide_eq_true, decide_eq_false, Int.natCast_zero, List.take_of_length_le, List.append_assoc])
                        · rintro i hi
                          ((try refine zW ?_); (try with_reducible exact True.intro))
                          by_cases li : i < I.length
                          · (try simp (maxSteps := 2000000) (disch := omega) only [go_sem, simprocAttr, if_pos, if_neg, w64, beqT, beqF, bneT, bneF, pr_get, ir_get, decide_eq_true, decide_eq_false, eMs])
                            (refine walk_trim [23, 24, 25] trivial zL ?_; (refine zW ?_; try with_reducible exact True.intro); refine irun_walk (id := 41) (n := 200) [none, none, none, none, none, none, none, none, none, none, some [], none] mixed (by kernel_rfl) ?_)
                            (try simp (maxSteps := 2000000) (disch := omega) only [go_sem, simprocAttr, if_pos, if_neg, w64, beqT, beqF, bneT, bneF, pr_get, ir_get, decide_eq_true, decide_eq_false, eMs])
                            (refine at_dcall ?_; (refine zW ?_; try with_reducible exact True.intro); refine callA_of (Msgs_spec I[i] I[i]) zB ?_; ((try refine zW ?_); (try with_reducible exact True.intro)))
                            have e := beq_self_eq_true I[i]
                            (try simp (maxSteps := 2000000) (disch := omega) only [go_sem, simprocAttr, if_pos, if_neg, w64, beqT, beqF, bneT, bneF, pr_get, ir_get, decide_eq_true, decide_eq_false, e])
                            refine ⟨i + 1, [], li, by omega, ?_⟩
                            constructor <;> ((try refine zO ?_); (try with_reducible exact True.intro))
                          · obtain rfl : i = I.length := by omega
                            ((try refine zO ?_); (try with_reducible exact True.intro))
                            (refine at_call 200 ?_; (refine zW ?_; try with_reducible exact True.intro); refine callA_of (fixed_spec) zB ?_; ((try refine zW ?_); (try with_reducible exact True.intro)))
                            ((try refine zO ?_); (try with_reducible exact True.intro))
      · have eH := tB_neg hH
        (try simp (maxSteps := 2000000) (disch := omega) only [go_sem, simprocAttr, if_pos, if_neg, w64, beqT, beqF, bneT, bneF, pr_get, ir_get, decide_eq_true, decide_eq_false, eH])
        (refine at_call 200 ?_; (refine zW ?_; try with_reducible exact True.intro); refine callA_of (fixed_spec) zB ?_; ((try refine zW ?_); (try with_reducible exact True.intro)))
        ((try refine zO ?_); (try with_reducible exact True.intro))
    · (try simp (maxSteps := 2000000) (disch := omega) only [go_sem, simprocAttr, if_pos, if_neg, w64, beqT, beqF, bneT, bneF, pr_get, ir_get, decide_eq_true, decide_eq_false, c, c2])
      (refine walk_trim [2, 3, 4, 7, 8] trivial zL ?_; (refine zW ?_; try with_reducible exact True.intro); refine irun_walk (id := 6) (n := 200) [none, none, some [0], some [], none, none, none, none, none, none] mixed (by kernel_rfl) ?_)
      ((try refine zW ?_); (try with_reducible exact True.intro))
      refine at_dcall ?_
      ((try refine zW ?_); (try with_reducible exact True.intro))
      refine callA_of (L9Ref_spec ⟨0, 0, 0, [], []⟩) (bel_Hs _) ?_
      ((try refine zW ?_); (try with_reducible exact True.intro))
      (refine at_dcall ?_; (refine zW ?_; try with_reducible exact True.intro); refine callA_of (R9Right_spec ⟨N, ls, T, ff, room, acts⟩ ⟨0, 0, 0, [], []⟩ kl hT gHs_zero) zB ?_; ((try refine zW ?_); (try with_reducible exact True.intro)))
      have hH : ¬ HostP N ls T ⟨0, 0, 0, [], []⟩ := by
        rintro ⟨hTab, hn0, hnN, -⟩
        have := hTab.2.1
        simp only at hn0 hnN
        omega
      have eH := tB_neg hH
      (try simp (maxSteps := 2000000) (disch := omega) only [go_sem, simprocAttr, if_pos, if_neg, w64, beqT, beqF, bneT, bneF, pr_get, ir_get, decide_eq_true, decide_eq_false, eH])
      (refine at_call 200 ?_; (refine zW ?_; try with_reducible exact True.intro); refine callA_of (fixed_spec) zB ?_; ((try refine zW ?_); (try with_reducible exact True.intro)))
      ((try refine zO ?_); (try with_reducible exact True.intro))
  · (try simp (maxSteps := 2000000) (disch := omega) only [go_sem, simprocAttr, if_pos, if_neg, w64, beqT, beqF, bneT, bneF, pr_get, ir_get, decide_eq_true, decide_eq_false, c])
    (refine walk_trim [2, 3, 4, 7, 8] trivial zL ?_; (refine zW ?_; try with_reducible exact True.intro); refine irun_walk (id := 6) (n := 200) [none, none, some [0], some [], none, none, none, none, none, none] mixed (by kernel_rfl) ?_)
    ((try refine zW ?_); (try with_reducible exact True.intro))
    refine at_dcall ?_
    ((try refine zW ?_); (try with_reducible exact True.intro))
    refine callA_of (L9Ref_spec ⟨0, 0, 0, [], []⟩) (bel_Hs _) ?_
    ((try refine zW ?_); (try with_reducible exact True.intro))
    (refine at_dcall ?_; (refine zW ?_; try with_reducible exact True.intro); refine callA_of (R9Right_spec ⟨N, ls, T, ff, room, acts⟩ ⟨0, 0, 0, [], []⟩ kl hT gHs_zero) zB ?_; ((try refine zW ?_); (try with_reducible exact True.intro)))
    have hH : ¬ HostP N ls T ⟨0, 0, 0, [], []⟩ := by
      rintro ⟨hTab, hn0, hnN, -⟩
      have := hTab.2.1
      simp only at hn0 hnN
      omega
    have eH := tB_neg hH
    (try simp (maxSteps := 2000000) (disch := omega) only [go_sem, simprocAttr, if_pos, if_neg, w64, beqT, beqF, bneT, bneF, pr_get, ir_get, decide_eq_true, decide_eq_false, eH])
    (refine at_call 200 ?_; (refine zW ?_; try with_reducible exact True.intro); refine callA_of (fixed_spec) zB ?_; ((try refine zW ?_); (try with_reducible exact True.intro)))
    ((try refine zO ?_); (try with_reducible exact True.intro))
end Go.Proofs.HO
