/- Pieces merged in place. -/
import Derived.Test.YteebghpjgcacmaaGF
set_option linter.unusedSimpArgs false
set_option linter.unusedVariables false
namespace Go.Proofs.GR
open Go Go.Idl Go.Proofs Go.GN
set_option maxHeartbeats 20000000
set_option maxRecDepth 100000
def leP (x y : Pc) : Bool := decide (x.node ≤ y.node)
def Up (l : List Pc) : Prop := l.Pairwise fun x y => x.node ≤ y.node
theorem merge_one {x : Pc} {B1 B2 : List Pc} (h1 : ∀ y ∈ B1, y.node < x.node) (h2 : ∀ y ∈ B2, x.node ≤ y.node) : List.merge [x] (B1 ++ B2) leP = B1 ++ x :: B2 := by
  have e1 := merge_split (le := leP) [] B1 [x] B2 (fun _ h => by cases h) (fun z hz y hy => by simp at hz; subst hz; have := h1 y hy; unfold leP; simp; omega)
  have e2 := merge_split (le := leP) [x] [] [] B2 (fun z hz y hy => by simp at hz; subst hz; have := h2 y hy; unfold leP; simpa using this) (fun _ h => by cases h)
  simp only [List.nil_append, List.append_nil, List.nil_merge, List.merge_right] at e1 e2
  rw [e1, e2]; rfl
theorem merge_last {y : Pc} {A1 A2 : List Pc} (h1 : ∀ x ∈ A1, x.node ≤ y.node) (h2 : ∀ x ∈ A2, y.node < x.node) : List.merge (A1 ++ A2) [y] leP = A1 ++ y :: A2 := by
  have e1 := merge_split (le := leP) A1 [] A2 [y] (fun x hx z hz => by simp at hz; subst hz; have := h1 x hx; unfold leP; simpa using this) (fun _ _ _ h => by cases h)
  have e2 := merge_split (le := leP) [] [y] A2 [] (fun _ h => by cases h) (fun x hx z hz => by simp at hz; subst hz; have := h2 x hx; unfold leP; simp; omega)
  simp only [List.nil_append, List.append_nil, List.nil_merge, List.merge_right] at e1 e2
  rw [e1, e2]; rfl
theorem up_get {l : List Pc} (h : Up l) {i j : Nat} (hi : i ≤ j) (hj : j < l.length) : (l[i]'(by omega)).node ≤ l[j].node := by
  rcases Nat.lt_or_ge i j with hlt | hge
  · exact List.pairwise_iff_getElem.1 h i j (by omega) hj hlt
  · have : i = j := by omega
    subst this; exact Int.le_refl _
theorem mid_of {i j : Nat} (h : i + j < 100000) : IntKind.i64.wrap ((IntKind.u64.wrap ((i : Int) + (j : Int))).fdiv (2 ^ min 1 64)) = (((i + j) / 2 : Nat) : Int) := by
  have e1 : IntKind.u64.wrap ((i : Int) + (j : Int)) = ((i + j : Nat) : Int) := by rw [IntKind.wrap_u64]; omega
  have e2 : (2 : Int) ^ min 1 64 = 2 := by decide
  rw [e1, e2, Int.fdiv_eq_ediv_of_nonneg _ (by decide), IntKind.wrap_i64]; omega
theorem swap_at (P S : List Pc) (x y : Pc) : ((P ++ x :: y :: S).set P.length y).set (P.length + 1) x = P ++ y :: x :: S := by
  rw [List.set_append_right _ _ (Nat.le_refl _), Nat.sub_self, List.set_append_right _ _ (by omega)]
  simp
theorem at_0 (P S : List Pc) (x : Pc) : (P ++ x :: S)[P.length]? = some x := by simp
theorem at_1 (P S : List Pc) (x y : Pc) : (P ++ x :: y :: S)[P.length + 1]? = some y := by
  rw [List.getElem?_append_right (by omega)]; simp
theorem sym_one (g : Nat) (L : List Pc) (x : Pc) (B R : List Pc) (hB : 1 ≤ B.length) (hu : Up B) (hn : (L ++ x :: (B ++ R)).length < 1000) :
    PG Try.prog 51 [.ref 0 g 0 (L ++ x :: (B ++ R)).length, sci .i64 (L.length : Int), sci .i64 ((L.length + 1 : Nat) : Int), sci .i64 ((L.length + 1 + B.length : Nat) : Int), cmpF]
      [pB g (L ++ x :: (B ++ R))] 0 (.tup []) [(0, pB g (L ++ List.merge [x] B leP ++ R))] := by
  generalize hl : L ++ x :: (B ++ R) = l at *
  generalize ha : L.length = a at *
  generalize hm : a + 1 = m at *
  generalize hb : m + B.length = b at *
  have hlen : b ≤ l.length := by rw [← hl]; simp; omega
  have hgx : l[a]? = some x := by rw [← hl, List.getElem?_append_right (by omega)]; simp [ha]
  have hgB : ∀ k (hk : k < B.length), l[m + k]? = some B[k] := fun k hk => by
    rw [← hl, List.getElem?_append_right (by omega), show m + k - L.length = k + 1 by omega]
    simp only [List.getElem?_cons_succ]
    rw [List.getElem?_append_left hk, List.getElem?_eq_getElem hk]
  
  refine pg_of 200 (fn := Try.f51) Try.func51 rfl (by simp [Try.ntmps51]) 1 rfl zC zC zC zC zC fun hs => ?_
  ((try refine zW ?_); (try with_reducible exact True.intro))
  have s1 : ((m : Int) - (a : Int) == 1) = true := by rw [beq_iff_eq]; omega
  (try simp (maxSteps := 2000000) (disch := omega) only [go_sem, simprocAttr, if_pos, if_neg, w64, beqT, beqF, bneT, bneF, pr_get, ir_get, decide_eq_true, decide_eq_false, s1])
  refine walk_loop 200 200 (fun p : Nat × Nat => (m ≤ p.1 ∧ p.1 ≤ p.2 ∧ p.2 ≤ b) ∧ (∀ k (hk : k < B.length), m + k < p.1 → B[k].node < x.node) ∧ (∀ k (hk : k < B.length), p.2 ≤ m + k → x.node ≤ B[k].node))
    (fun p => ⟨220, [(0, .ref 0 g 0 l.length), (1, sci .i64 (a : Int)), (4, cmpF), (10, sci .i64 (p.1 : Int)), (11, sci .i64 (p.2 : Int))], [], 1, [(0, pB g l)]⟩) (fun p => p.2 - p.1) (m, b) ?_ ?_ ?_
  · exact ⟨⟨Nat.le_refl _, by simp only; omega, Nat.le_refl _⟩, fun k _ h => by simp only at h; omega, fun k hk h => by simp only at h; omega⟩
  · constructor <;> ((try refine zO ?_); (try with_reducible exact True.intro))
  · rintro ⟨i, j⟩ ⟨⟨i1, i2, i3⟩, i4, i5⟩
    simp only at i1 i2 i3 i4 i5
    ((try refine zW ?_); (try with_reducible exact True.intro))
    by_cases hij : i < j
    · have hij' : (i : Int) < (j : Int) := by omega
      (try simp (maxSteps := 2000000) (disch := omega) only [go_sem, simprocAttr, if_pos, if_neg, w64, beqT, beqF, bneT, bneF, pr_get, ir_get, decide_eq_true, decide_eq_false, hij'])
      obtain ⟨h, hmid, h1, h2⟩ : ∃ h : Nat, IntKind.i64.wrap ((IntKind.u64.wrap ((i : Int) + (j : Int))).fdiv (2 ^ min 1 64)) = (h : Int) ∧ i ≤ h ∧ h < j := ⟨(i + j) / 2, mid_of (by omega), by omega, by omega⟩
      obtain ⟨k, rfl⟩ : ∃ k, h = m + k := ⟨h - m, by omega⟩
      have hk : k < B.length := by omega
      have gh : (ir ePc l)[m + k]? = some ((ePc B[k]).map .p) := ir_get' (hgB k hk)
      have ga : (ir ePc l)[a]? = some ((ePc x).map .p) := ir_get' hgx
      generalize hh : m + k = h at *
      (try simp (maxSteps := 2000000) (disch := omega) only [go_sem, simprocAttr, if_pos, if_neg, w64, beqT, beqF, bneT, bneF, pr_get, ir_get, decide_eq_true, decide_eq_false, hmid])
      (refine walk_trim [0, 1, 4, 10, 11, 12] trivial zL ?_; (refine zW ?_; try with_reducible exact True.intro); refine irun_walk (id := 5) (n := 200) [none, none, none, none, none, none, none, none, none, some [], none] mixed (by kernel_rfl) ?_)
      (try simp (maxSteps := 2000000) (disch := omega) only [go_sem, simprocAttr, if_pos, if_neg, w64, beqT, beqF, bneT, bneF, pr_get, ir_get, decide_eq_true, decide_eq_false, gh, ga, ePc])
      (refine at_dcall ?_; (refine zW ?_; try with_reducible exact True.intro); refine callA_of (cmpP_spec B[k] x) zB ?_; ((try refine zW ?_); (try with_reducible exact True.intro)))
      ((try refine zO ?_); (try with_reducible exact True.intro))
      by_cases hc : B[k].node < x.node
      · have hc3 : decide (cmpI B[k].node x.node < 0) = true := by rw [cmp_lt]; unfold ltP; simpa using hc
        (try simp (maxSteps := 2000000) (disch := omega) only [go_sem, simprocAttr, if_pos, if_neg, w64, beqT, beqF, bneT, bneF, pr_get, ir_get, decide_eq_true, decide_eq_false, hc3])
        refine ⟨(h + 1, j), ⟨⟨by simp only; omega, by simp only; omega, i3⟩, fun q hq hlt => ?_, i5⟩, by simp only; omega, ?_⟩
        · simp only at hlt
          have := up_get hu (show q ≤ k by omega) hk
          omega
        · constructor <;> ((try refine zO ?_); (try with_reducible exact True.intro))
      · have hc3 : decide (cmpI B[k].node x.node < 0) = false := by rw [cmp_lt]; unfold ltP; simpa using hc
        (try simp (maxSteps := 2000000) (disch := omega) only [go_sem, simprocAttr, if_pos, if_neg, w64, beqT, beqF, bneT, bneF, pr_get, ir_get, decide_eq_true, decide_eq_false, hc3])
        refine ⟨(i, h), ⟨⟨i1, h1, by simp only; omega⟩, i4, fun q hq hlt => ?_⟩, by simp only; omega, ?_⟩
        · simp only at hlt
          have := up_get hu (show k ≤ q by omega) hq
          omega
        · constructor <;> ((try refine zO ?_); (try with_reducible exact True.intro))
    · have hij2 : i = j := by omega
      subst hij2
      obtain ⟨c0, rfl⟩ : ∃ c0, i = m + c0 := ⟨i - m, by omega⟩
      have hB1 : (B.take c0).length = c0 := by rw [List.length_take]; omega
      have hm1 : List.merge [x] B leP = B.take c0 ++ x :: B.drop c0 := by
        rw [← merge_one (x := x) (B1 := B.take c0) (B2 := B.drop c0), List.take_append_drop]
        · intro y hy
          obtain ⟨q, hq, rfl⟩ := List.getElem_of_mem hy
          rw [List.getElem_take]
          exact i4 q (by omega) (by omega)
        · intro y hy
          obtain ⟨q, hq, rfl⟩ := List.getElem_of_mem hy
          rw [List.getElem_drop]
          rw [List.length_drop] at hq
          exact i5 (c0 + q) (by omega) (by omega)
      rw [hm1]
      have eB : l = L ++ x :: (B.take c0 ++ (B.drop c0 ++ R)) := by rw [← hl, ← List.append_assoc (B.take c0), List.take_append_drop]
      have eF : L ++ (B.take c0 ++ x :: B.drop c0) ++ R = L ++ (B.take c0 ++ x :: (B.drop c0 ++ R)) := by simp
      rw [eF]
      clear i4 i5 hm1 hgB eF
      generalize B.take c0 = B1 at *
      generalize B.drop c0 ++ R = R2 at *
      have hlen2 : l.length = a + 1 + B1.length + R2.length := by rw [eB]; simp; omega
      ((try refine zO ?_); (try with_reducible exact True.intro))
      (refine walk_trim [0, 10, 13] trivial zL ?_; ((try refine zW ?_); (try with_reducible exact True.intro)))
      refine walk_loop 200 200 (fun p : Nat × List Pc => a ≤ p.1 ∧ p.1 ≤ a + c0 ∧ p.2 = L ++ (B1.take (p.1 - a) ++ x :: (B1.drop (p.1 - a) ++ R2)))
        (fun p => ⟨220, [(0, .ref 0 g 0 l.length), (10, sci .i64 ((m + c0 : Nat) : Int)), (13, sci .i64 (p.1 : Int))], [], 1, [(0, pB g p.2)]⟩) (fun p => a + c0 - p.1) (a, l) ?_ ?_ ?_
      · refine ⟨Nat.le_refl _, by simp only; omega, ?_⟩
        simp only [Nat.sub_self, List.take_zero, List.drop_zero, List.nil_append]
        exact eB
      · constructor <;> ((try refine zO ?_); (try with_reducible exact True.intro))
      · rintro ⟨k, M⟩ ⟨k1, k2, k3⟩
        simp only at k1 k2 k3
        obtain ⟨c, hk⟩ : ∃ c, a + c = k := ⟨k - a, by omega⟩
        rw [show k - a = c by omega] at k3
        ((try refine zW ?_); (try with_reducible exact True.intro))
        have hml : M.length = l.length := by
          rw [k3, hlen2]
          simp only [List.length_append, List.length_cons, List.length_take, List.length_drop]
          omega
        by_cases hc : c < c0
        · have hc' : (k : Int) < (m : Int) + (c0 : Int) - 1 := by omega
          obtain ⟨y, hy⟩ : ∃ y, B1.drop c = y :: B1.drop (c + 1) := ⟨B1[c]'(by omega), List.drop_eq_getElem_cons (by omega)⟩
          have hty : B1.take (c + 1) = B1.take c ++ [y] := by
            have e : B1[c]'(by omega) = y := by
              have := List.drop_eq_getElem_cons (l := B1) (i := c) (by omega)
              rw [this] at hy
              exact (List.cons.inj hy).1
            rw [List.take_succ_eq_append_getElem (by omega), e]
          have hP : (L ++ B1.take c).length = k := by rw [List.length_append, List.length_take, ha]; omega
          have eM : M = (L ++ B1.take c) ++ x :: y :: (B1.drop (c + 1) ++ R2) := by rw [k3, hy]; simp
          generalize hPP : L ++ B1.take c = P at *
          generalize hSS : B1.drop (c + 1) ++ R2 = S at *
          have g0 : (ir ePc M)[k]? = some ((ePc x).map .p) := ir_get' (by rw [eM, ← hP]; exact at_0 ..)
          have g1 : (ir ePc M)[k + 1]? = some ((ePc y).map .p) := ir_get' (by rw [eM, ← hP]; exact at_1 ..)
          have sw : (M.set k y).set (k + 1) x = P ++ y :: x :: S := by rw [eM, ← hP]; exact swap_at ..
          have g2 : (ir ePc (M.set k y))[k + 1]? = some ((ePc y).map .p) := ir_get' (by
            rw [List.getElem?_set_ne (by omega), eM, ← hP]; exact at_1 ..)
          have tn : ((k : Int) + 1).toNat = k + 1 := rfl
          (try simp (maxSteps := 2000000) (disch := omega) only [go_sem, simprocAttr, if_pos, if_neg, w64, beqT, beqF, bneT, bneF, pr_get, ir_get, decide_eq_true, decide_eq_false, hc'])
          (refine walk_trim [0, 10, 13] trivial zL ?_; (refine zW ?_; try with_reducible exact True.intro); refine irun_walk (id := 11) (n := 200) [none, none, none, none, none, none, none, none, none, none, none, none, none, none, none, some [2, 3, 4], none, some []] mixed (by kernel_rfl) ?_)
          (try simp (maxSteps := 2000000) (disch := omega) only [go_sem, simprocAttr, if_pos, if_neg, w64, beqT, beqF, bneT, bneF, pr_get, ir_get, decide_eq_true, decide_eq_false, g0, g1, g2, tn, ePc])
          refine ⟨(k + 1, P ++ y :: x :: S), ⟨by simp only; omega, by simp only; omega, ?_⟩, by simp only; omega, ?_⟩
          · simp only
            rw [show k + 1 - a = c + 1 by omega, hty, ← hPP, ← hSS]; simp
          · constructor <;> (try simp (maxSteps := 2000000) (disch := omega) only [go_sem, simprocAttr, if_pos, if_neg, w64, beqT, beqF, bneT, bneF, pr_get, ir_get, decide_eq_true, decide_eq_false, sw, hml])
        · have hc0 : c = c0 := by omega
          subst hc0
          have hc' : ¬ ((k : Int) < (m : Int) + (c : Int) - 1) := by omega
          have eM : M = L ++ (B1 ++ x :: R2) := by rw [k3, List.take_of_length_le (by omega), List.drop_eq_nil_of_le (by omega)]; simp
          (try simp (maxSteps := 2000000) (disch := omega) only [go_sem, simprocAttr, if_pos, if_neg, w64, beqT, beqF, bneT, bneF, pr_get, ir_get, decide_eq_true, decide_eq_false, hc', eM])
theorem swap_at' (P S : List Pc) (x y : Pc) : ((P ++ x :: y :: S).set (P.length + 1) x).set P.length y = P ++ y :: x :: S := by
  rw [List.set_append_right _ _ (by omega), List.set_append_right _ _ (Nat.le_refl _), Nat.sub_self]
  simp
theorem sym_last (g : Nat) (L A : List Pc) (y : Pc) (R : List Pc) (hA : 2 ≤ A.length) (hu : Up A) (hn : (L ++ A ++ y :: R).length < 1000) :
    PG Try.prog 51 [.ref 0 g 0 (L ++ A ++ y :: R).length, sci .i64 (L.length : Int), sci .i64 ((L.length + A.length : Nat) : Int), sci .i64 ((L.length + A.length + 1 : Nat) : Int), cmpF]
      [pB g (L ++ A ++ y :: R)] 0 (.tup []) [(0, pB g (L ++ List.merge A [y] leP ++ R))] := by
  generalize hl : L ++ A ++ y :: R = l at *
  generalize ha : L.length = a at *
  generalize hm : a + A.length = m at *
  generalize hb : m + 1 = b at *
  have hlen : b ≤ l.length := by rw [← hl]; simp; omega
  have hgy : l[m]? = some y := by rw [← hl, List.getElem?_append_right (by simp; omega), List.length_append, show m - (L.length + A.length) = 0 by omega]; rfl
  have hgA : ∀ k (hk : k < A.length), l[a + k]? = some A[k] := fun k hk => by
    rw [← hl, List.append_assoc, List.getElem?_append_right (by omega), show a + k - L.length = k by omega, List.getElem?_append_left hk, List.getElem?_eq_getElem hk]
  
  refine pg_of 200 (fn := Try.f51) Try.func51 rfl (by simp [Try.ntmps51]) 1 rfl zC zC zC zC zC fun hs => ?_
  ((try refine zW ?_); (try with_reducible exact True.intro))
  have s1 : ((m : Int) - (a : Int) == 1) = false := by rw [beq_eq_false_iff_ne]; omega
  have s2 : ((b : Int) - (m : Int) == 1) = true := by rw [beq_iff_eq]; omega
  (try simp (maxSteps := 2000000) (disch := omega) only [go_sem, simprocAttr, if_pos, if_neg, w64, beqT, beqF, bneT, bneF, pr_get, ir_get, decide_eq_true, decide_eq_false, s1, s2])
  refine walk_loop 200 200 (fun p : Nat × Nat => (a ≤ p.1 ∧ p.1 ≤ p.2 ∧ p.2 ≤ m) ∧ (∀ k (hk : k < A.length), a + k < p.1 → A[k].node ≤ y.node) ∧ (∀ k (hk : k < A.length), p.2 ≤ a + k → y.node < A[k].node))
    (fun p => ⟨220, [(0, .ref 0 g 0 l.length), (2, sci .i64 (m : Int)), (4, cmpF), (14, sci .i64 (p.1 : Int)), (15, sci .i64 (p.2 : Int))], [], 1, [(0, pB g l)]⟩) (fun p => p.2 - p.1) (a, m) ?_ ?_ ?_
  · exact ⟨⟨Nat.le_refl _, by simp only; omega, Nat.le_refl _⟩, fun k _ h => by simp only at h; omega, fun k hk h => by simp only at h; omega⟩
  · constructor <;> ((try refine zO ?_); (try with_reducible exact True.intro))
  · rintro ⟨i, j⟩ ⟨⟨i1, i2, i3⟩, i4, i5⟩
    simp only at i1 i2 i3 i4 i5
    ((try refine zW ?_); (try with_reducible exact True.intro))
    by_cases hij : i < j
    · have hij' : (i : Int) < (j : Int) := by omega
      (try simp (maxSteps := 2000000) (disch := omega) only [go_sem, simprocAttr, if_pos, if_neg, w64, beqT, beqF, bneT, bneF, pr_get, ir_get, decide_eq_true, decide_eq_false, hij'])
      obtain ⟨h, hmid, h1, h2⟩ : ∃ h : Nat, IntKind.i64.wrap ((IntKind.u64.wrap ((i : Int) + (j : Int))).fdiv (2 ^ min 1 64)) = (h : Int) ∧ i ≤ h ∧ h < j := ⟨(i + j) / 2, mid_of (by omega), by omega, by omega⟩
      obtain ⟨k, hh⟩ : ∃ k, a + k = h := ⟨h - a, by omega⟩
      have hk : k < A.length := by omega
      have gh : (ir ePc l)[h]? = some ((ePc A[k]).map .p) := ir_get' (by rw [← hh]; exact hgA k hk)
      have gm : (ir ePc l)[m]? = some ((ePc y).map .p) := ir_get' hgy
      (try simp (maxSteps := 2000000) (disch := omega) only [go_sem, simprocAttr, if_pos, if_neg, w64, beqT, beqF, bneT, bneF, pr_get, ir_get, decide_eq_true, decide_eq_false, hmid])
      (refine walk_trim [0, 2, 4, 14, 15, 16] trivial zL ?_; (refine zW ?_; try with_reducible exact True.intro); refine irun_walk (id := 17) (n := 200) [none, none, none, none, none, none, none, none, none, some [], none, none] mixed (by kernel_rfl) ?_)
      (try simp (maxSteps := 2000000) (disch := omega) only [go_sem, simprocAttr, if_pos, if_neg, w64, beqT, beqF, bneT, bneF, pr_get, ir_get, decide_eq_true, decide_eq_false, gh, gm, ePc])
      (refine at_dcall ?_; (refine zW ?_; try with_reducible exact True.intro); refine callA_of (cmpP_spec y A[k]) zB ?_; ((try refine zW ?_); (try with_reducible exact True.intro)))
      ((try refine zO ?_); (try with_reducible exact True.intro))
      by_cases hc : y.node < A[k].node
      · have hc3 : decide (cmpI y.node A[k].node < 0) = true := by rw [cmp_lt]; unfold ltP; simpa using hc
        (try simp (maxSteps := 2000000) (disch := omega) only [go_sem, simprocAttr, if_pos, if_neg, w64, beqT, beqF, bneT, bneF, pr_get, ir_get, decide_eq_true, decide_eq_false, hc3])
        refine ⟨(i, h), ⟨⟨i1, h1, by simp only; omega⟩, i4, fun q hq hlt => ?_⟩, by simp only; omega, ?_⟩
        · simp only at hlt
          have := up_get hu (show k ≤ q by omega) hq
          omega
        · constructor <;> ((try refine zO ?_); (try with_reducible exact True.intro))
      · have hc3 : decide (cmpI y.node A[k].node < 0) = false := by rw [cmp_lt]; unfold ltP; simpa using hc
        (try simp (maxSteps := 2000000) (disch := omega) only [go_sem, simprocAttr, if_pos, if_neg, w64, beqT, beqF, bneT, bneF, pr_get, ir_get, decide_eq_true, decide_eq_false, hc3])
        refine ⟨(h + 1, j), ⟨⟨by simp only; omega, by simp only; omega, i3⟩, fun q hq hlt => ?_, i5⟩, by simp only; omega, ?_⟩
        · simp only at hlt
          have := up_get hu (show q ≤ k by omega) hk
          omega
        · constructor <;> ((try refine zO ?_); (try with_reducible exact True.intro))
    · have hij2 : i = j := by omega
      subst hij2
      obtain ⟨c0, hc0⟩ : ∃ c0, a + c0 = i := ⟨i - a, by omega⟩
      have hA1 : (A.take c0).length = c0 := by rw [List.length_take]; omega
      have hA2 : (A.drop c0).length = m - i := by rw [List.length_drop]; omega
      have hm1 : List.merge A [y] leP = A.take c0 ++ y :: A.drop c0 := by
        rw [← merge_last (y := y) (A1 := A.take c0) (A2 := A.drop c0), List.take_append_drop]
        · intro x hx
          obtain ⟨q, hq, rfl⟩ := List.getElem_of_mem hx
          rw [List.getElem_take]
          exact i4 q (by omega) (by omega)
        · intro x hx
          obtain ⟨q, hq, rfl⟩ := List.getElem_of_mem hx
          rw [List.getElem_drop]
          rw [List.length_drop] at hq
          exact i5 (c0 + q) (by omega) (by omega)
      have eB : l = (L ++ A.take c0) ++ (A.drop c0 ++ y :: R) := by
        have e := List.take_append_drop c0 A
        rw [← hl]
        conv => lhs; rw [← e]
        simp only [List.append_assoc]
      have eF : L ++ List.merge A [y] leP ++ R = (L ++ A.take c0) ++ y :: (A.drop c0 ++ R) := by rw [hm1]; simp
      have hLl : (L ++ A.take c0).length = i := by rw [List.length_append, hA1, ha, hc0]
      rw [eF]
      clear i4 i5 hm1 hgA eF
      generalize A.drop c0 = A2 at *
      generalize L ++ A.take c0 = L2 at *
      have hlen2 : l.length = m + 1 + R.length := by rw [eB]; simp; omega
      ((try refine zO ?_); (try with_reducible exact True.intro))
      (refine walk_trim [0, 14, 17] trivial zL ?_; ((try refine zW ?_); (try with_reducible exact True.intro)))
      refine walk_loop 200 200 (fun p : Nat × List Pc => i ≤ p.1 ∧ p.1 ≤ m ∧ p.2 = L2 ++ (A2.take (p.1 - i) ++ y :: (A2.drop (p.1 - i) ++ R)))
        (fun p => ⟨220, [(0, .ref 0 g 0 l.length), (14, sci .i64 (i : Int)), (17, sci .i64 (p.1 : Int))], [], 1, [(0, pB g p.2)]⟩) (fun p => p.1) (m, l) ?_ ?_ ?_
      · refine ⟨i3, Nat.le_refl _, ?_⟩
        simp only
        rw [List.take_of_length_le (by omega), List.drop_eq_nil_of_le (by omega)]
        simpa using eB
      · constructor <;> ((try refine zO ?_); (try with_reducible exact True.intro))
      · rintro ⟨k, M⟩ ⟨k1, k2, k3⟩
        simp only at k1 k2 k3
        have hml : M.length = l.length := by
          rw [k3, hlen2]
          simp only [List.length_append, List.length_cons, List.length_take, List.length_drop]
          omega
        by_cases hc : k = i
        · subst hc
          have eM : M = L2 ++ y :: (A2 ++ R) := by rw [k3]; simp
          ((try refine zW ?_); (try with_reducible exact True.intro))
          (try simp (maxSteps := 2000000) (disch := omega) only [go_sem, simprocAttr, if_pos, if_neg, w64, beqT, beqF, bneT, bneF, pr_get, ir_get, decide_eq_true, decide_eq_false, eM])
        · obtain ⟨q, rfl⟩ : ∃ q, k = q + 1 := ⟨k - 1, by omega⟩
          ((try refine zW ?_); (try with_reducible exact True.intro))
          obtain ⟨c, hcq⟩ : ∃ c, i + c = q := ⟨q - i, by omega⟩
          rw [show q + 1 - i = c + 1 by omega] at k3
          obtain ⟨x, hx⟩ : ∃ x, A2.drop c = x :: A2.drop (c + 1) := ⟨A2[c]'(by omega), List.drop_eq_getElem_cons (by omega)⟩
          have hty : A2.take (c + 1) = A2.take c ++ [x] := by
            have e : A2[c]'(by omega) = x := by
              have := List.drop_eq_getElem_cons (l := A2) (i := c) (by omega)
              rw [this] at hx
              exact (List.cons.inj hx).1
            rw [List.take_succ_eq_append_getElem (by omega), e]
          have hP : (L2 ++ A2.take c).length = q := by rw [List.length_append, List.length_take, hLl]; omega
          have eM : M = (L2 ++ A2.take c) ++ x :: y :: (A2.drop (c + 1) ++ R) := by rw [k3, hty]; simp
          generalize hPP : L2 ++ A2.take c = P at *
          generalize hSS : A2.drop (c + 1) ++ R = S at *
          have g0 : (ir ePc M)[q]? = some ((ePc x).map .p) := ir_get' (by rw [eM, ← hP]; exact at_0 ..)
          have g1 : (ir ePc M)[q + 1]? = some ((ePc y).map .p) := ir_get' (by rw [eM, ← hP]; exact at_1 ..)
          have sw : (M.set (q + 1) x).set q y = P ++ y :: x :: S := by rw [eM, ← hP]; exact swap_at' ..
          have g2 : (ir ePc (M.set (q + 1) x))[q]? = some ((ePc x).map .p) := ir_get' (by
            rw [List.getElem?_set_ne (by omega), eM, ← hP]; exact at_0 ..)
          have tn : ((q : Int) + 1).toNat = q + 1 := rfl
          have hc' : (i : Int) < (q : Int) + 1 := by omega
          (try simp (maxSteps := 2000000) (disch := omega) only [go_sem, simprocAttr, if_pos, if_neg, w64, beqT, beqF, bneT, bneF, pr_get, ir_get, decide_eq_true, decide_eq_false, hc'])
          (refine walk_trim [0, 14, 17] trivial zL ?_; (refine zW ?_; try with_reducible exact True.intro); refine irun_walk (id := 23) (n := 200) [none, none, none, none, none, none, none, none, none, none, none, none, none, none, none, some [2, 3, 4], none, some []] mixed (by kernel_rfl) ?_)
          (try simp (maxSteps := 2000000) (disch := omega) only [go_sem, simprocAttr, if_pos, if_neg, w64, beqT, beqF, bneT, bneF, pr_get, ir_get, decide_eq_true, decide_eq_false, g0, g1, g2, tn, ePc, Int.add_sub_cancel])
          refine ⟨(q, P ++ y :: x :: S), ⟨by simp only; omega, by simp only; omega, ?_⟩, by simp only; omega, ?_⟩
          · simp only
            rw [show q - i = c by omega, hx, ← hPP, ← hSS]; simp
          · constructor <;> (try simp (maxSteps := 2000000) (disch := omega) only [go_sem, simprocAttr, if_pos, if_neg, w64, beqT, beqF, bneT, bneF, pr_get, ir_get, decide_eq_true, decide_eq_false, sw, hml, Int.add_sub_cancel])
end Go.Proofs.GR
