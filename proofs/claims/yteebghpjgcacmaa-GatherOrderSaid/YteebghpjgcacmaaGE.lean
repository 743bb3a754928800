/- Pieces put in order: the sort in place. -/
import Derived.Test.YteebghpjgcacmaaGD
import Derived.Test.YteebghpjgcacmaaGS
set_option linter.unusedSimpArgs false
set_option linter.unusedVariables false
namespace Go.Proofs.GR
open Go Go.Idl Go.Proofs Go.GN
set_option maxHeartbeats 20000000
set_option maxRecDepth 100000
def cmpI (a b : Int) : Int := if a < b then -1 else if b < a then 1 else 0


theorem isNaNi_spec (a : Int) : Pure Try.prog 31 [sci .i64 a] (scb false) := by
  refine pcall0 200 (fn := Try.f31) Try.func31 rfl (by simp [Try.ntmps31]) zB zB fun hs => ?_
  (repeat (first | ((refine zW ?_; try with_reducible exact True.intro))))
theorem CompareI_spec (a b : Int) : Pure Try.prog 16 [sci .i64 a, sci .i64 b] (sci .i64 (cmpI a b)) := by
  refine pcall0 200 (fn := Try.f16) Try.func16 rfl (by simp [Try.ntmps16]) zB zB fun hs => ?_
  unfold cmpI
  by_cases h1 : a < b
  · (repeat (first | ((refine zW ?_; try with_reducible exact True.intro)) | (refine at_call 200 ?_; (refine zW ?_; try with_reducible exact True.intro); refine callA_of (isNaNi_spec _) zB ?_; ((try refine zW ?_); (try with_reducible exact True.intro))) | (refine at_dcall ?_; (refine zW ?_; try with_reducible exact True.intro); refine callA_of (isNaNi_spec _) zB ?_; ((try refine zW ?_); (try with_reducible exact True.intro))) | (refine at_call 200 ?_; (refine zW ?_; try with_reducible exact True.intro); refine callA_view ?_; (refine zW ?_; try with_reducible exact True.intro); refine callV_of (isNaNi_spec _) (by first | rfl | (split <;> rfl)) ?_; ((try refine zW ?_); (try with_reducible exact True.intro))) | (refine at_dcall ?_; (refine zW ?_; try with_reducible exact True.intro); refine callA_view ?_; (refine zW ?_; try with_reducible exact True.intro); refine callV_of (isNaNi_spec _) (by first | rfl | (split <;> rfl)) ?_; ((try refine zW ?_); (try with_reducible exact True.intro)))))
    ((try refine zO ?_); (try with_reducible exact True.intro))
    (repeat (first | ((refine zW ?_; try with_reducible exact True.intro)) | (refine at_call 200 ?_; (refine zW ?_; try with_reducible exact True.intro); refine callA_of (isNaNi_spec _) zB ?_; ((try refine zW ?_); (try with_reducible exact True.intro))) | (refine at_dcall ?_; (refine zW ?_; try with_reducible exact True.intro); refine callA_of (isNaNi_spec _) zB ?_; ((try refine zW ?_); (try with_reducible exact True.intro))) | (refine at_call 200 ?_; (refine zW ?_; try with_reducible exact True.intro); refine callA_view ?_; (refine zW ?_; try with_reducible exact True.intro); refine callV_of (isNaNi_spec _) (by first | rfl | (split <;> rfl)) ?_; ((try refine zW ?_); (try with_reducible exact True.intro))) | (refine at_dcall ?_; (refine zW ?_; try with_reducible exact True.intro); refine callA_view ?_; (refine zW ?_; try with_reducible exact True.intro); refine callV_of (isNaNi_spec _) (by first | rfl | (split <;> rfl)) ?_; ((try refine zW ?_); (try with_reducible exact True.intro)))))
  · by_cases h2 : b < a
    · (repeat (first | ((refine zW ?_; try with_reducible exact True.intro)) | (refine at_call 200 ?_; (refine zW ?_; try with_reducible exact True.intro); refine callA_of (isNaNi_spec _) zB ?_; ((try refine zW ?_); (try with_reducible exact True.intro))) | (refine at_dcall ?_; (refine zW ?_; try with_reducible exact True.intro); refine callA_of (isNaNi_spec _) zB ?_; ((try refine zW ?_); (try with_reducible exact True.intro))) | (refine at_call 200 ?_; (refine zW ?_; try with_reducible exact True.intro); refine callA_view ?_; (refine zW ?_; try with_reducible exact True.intro); refine callV_of (isNaNi_spec _) (by first | rfl | (split <;> rfl)) ?_; ((try refine zW ?_); (try with_reducible exact True.intro))) | (refine at_dcall ?_; (refine zW ?_; try with_reducible exact True.intro); refine callA_view ?_; (refine zW ?_; try with_reducible exact True.intro); refine callV_of (isNaNi_spec _) (by first | rfl | (split <;> rfl)) ?_; ((try refine zW ?_); (try with_reducible exact True.intro)))))
      ((try refine zO ?_); (try with_reducible exact True.intro))
      (repeat (first | ((refine zW ?_; try with_reducible exact True.intro)) | (refine at_call 200 ?_; (refine zW ?_; try with_reducible exact True.intro); refine callA_of (isNaNi_spec _) zB ?_; ((try refine zW ?_); (try with_reducible exact True.intro))) | (refine at_dcall ?_; (refine zW ?_; try with_reducible exact True.intro); refine callA_of (isNaNi_spec _) zB ?_; ((try refine zW ?_); (try with_reducible exact True.intro))) | (refine at_call 200 ?_; (refine zW ?_; try with_reducible exact True.intro); refine callA_view ?_; (refine zW ?_; try with_reducible exact True.intro); refine callV_of (isNaNi_spec _) (by first | rfl | (split <;> rfl)) ?_; ((try refine zW ?_); (try with_reducible exact True.intro))) | (refine at_dcall ?_; (refine zW ?_; try with_reducible exact True.intro); refine callA_view ?_; (refine zW ?_; try with_reducible exact True.intro); refine callV_of (isNaNi_spec _) (by first | rfl | (split <;> rfl)) ?_; ((try refine zW ?_); (try with_reducible exact True.intro)))))
    · (repeat (first | ((refine zW ?_; try with_reducible exact True.intro)) | (refine at_call 200 ?_; (refine zW ?_; try with_reducible exact True.intro); refine callA_of (isNaNi_spec _) zB ?_; ((try refine zW ?_); (try with_reducible exact True.intro))) | (refine at_dcall ?_; (refine zW ?_; try with_reducible exact True.intro); refine callA_of (isNaNi_spec _) zB ?_; ((try refine zW ?_); (try with_reducible exact True.intro))) | (refine at_call 200 ?_; (refine zW ?_; try with_reducible exact True.intro); refine callA_view ?_; (refine zW ?_; try with_reducible exact True.intro); refine callV_of (isNaNi_spec _) (by first | rfl | (split <;> rfl)) ?_; ((try refine zW ?_); (try with_reducible exact True.intro))) | (refine at_dcall ?_; (refine zW ?_; try with_reducible exact True.intro); refine callA_view ?_; (refine zW ?_; try with_reducible exact True.intro); refine callV_of (isNaNi_spec _) (by first | rfl | (split <;> rfl)) ?_; ((try refine zW ?_); (try with_reducible exact True.intro)))))
      ((try refine zO ?_); (try with_reducible exact True.intro))
      (repeat (first | ((refine zW ?_; try with_reducible exact True.intro)) | (refine at_call 200 ?_; (refine zW ?_; try with_reducible exact True.intro); refine callA_of (isNaNi_spec _) zB ?_; ((try refine zW ?_); (try with_reducible exact True.intro))) | (refine at_dcall ?_; (refine zW ?_; try with_reducible exact True.intro); refine callA_of (isNaNi_spec _) zB ?_; ((try refine zW ?_); (try with_reducible exact True.intro))) | (refine at_call 200 ?_; (refine zW ?_; try with_reducible exact True.intro); refine callA_view ?_; (refine zW ?_; try with_reducible exact True.intro); refine callV_of (isNaNi_spec _) (by first | rfl | (split <;> rfl)) ?_; ((try refine zW ?_); (try with_reducible exact True.intro))) | (refine at_dcall ?_; (refine zW ?_; try with_reducible exact True.intro); refine callA_view ?_; (refine zW ?_; try with_reducible exact True.intro); refine callV_of (isNaNi_spec _) (by first | rfl | (split <;> rfl)) ?_; ((try refine zW ?_); (try with_reducible exact True.intro)))))
theorem cmpP_spec (p q : Pc) : Pure Try.prog 15 [lPc p, lPc q] (sci .i64 (cmpI p.node q.node)) := by
  refine pcall0 200 (fn := Try.f15) Try.func15 rfl (by simp [Try.ntmps15]) zB zB fun hs => ?_
  ((try refine zW ?_); (try with_reducible exact True.intro))
  (refine at_call 200 ?_; (refine zW ?_; try with_reducible exact True.intro); refine callA_of (CompareI_spec _ _) zB ?_; ((try refine zW ?_); (try with_reducible exact True.intro)))
abbrev cmpF : IV := .p (.sc (.func (.func 15) #[] #[]))
@[go_sem] theorem tcsF : tcs Try.prog 43 = [] := by kernel_rfl
@[go_sem] theorem tcsG : tcs Try.prog 38 = [] := by kernel_rfl
def ltP (x y : Pc) : Bool := decide (x.node < y.node)
theorem cmp_lt (p q : Pc) : decide (cmpI p.node q.node < 0) = ltP p q := by
  unfold cmpI ltP
  by_cases h1 : p.node < q.node
  · simp [h1]
  · rw [if_neg h1]
    split <;> simp [h1]
/-- From the place a on. -/
def sinkA {α : Type} (lt : α → α → Bool) (a : Nat) : Nat → List α → List α
  | 0, l => l
  | d + 1, l => match l[a + d + 1]?, l[a + d]? with
    | some x, some y => if lt x y then sinkA lt a d (swp l (a + d) x y) else l
    | _, _ => l
def insA {α : Type} (lt : α → α → Bool) (a : Nat) : Nat → Nat → List α → List α
  | 0, _, l => l
  | f + 1, d, l => insA lt a f (d + 1) (sinkA lt a d l)
theorem sinkA_at {α : Type} {lt : α → α → Bool} {a d : Nat} {M : List α} (hx : a + d + 1 < M.length) (hy : a + d < M.length) : sinkA lt a (d + 1) M = if lt M[a + d + 1] M[a + d] = true then sinkA lt a d (swp M (a + d) M[a + d + 1] M[a + d]) else M := by
  rw [sinkA, List.getElem?_eq_getElem hx, List.getElem?_eq_getElem hy]
theorem sinkA_len {α : Type} (lt : α → α → Bool) (a : Nat) : ∀ (d : Nat) (l : List α), (sinkA lt a d l).length = l.length
  | 0, l => rfl
  | d + 1, l => by
    rw [sinkA]
    split
    · split
      · rw [sinkA_len lt a d, swp_len]
      · rfl
    · rfl
theorem insA_len {α : Type} (lt : α → α → Bool) (a : Nat) : ∀ (f d : Nat) (l : List α), (insA lt a f d l).length = l.length
  | 0, d, l => rfl
  | f + 1, d, l => by rw [insA, insA_len lt a f, sinkA_len]
@[go_sem] theorem ir_setP {l : List Pc} {i : Nat} {p : Pc} : (ir ePc l).set i [.p (.sc (.int .i64 p.node)), .p (.sc (.int .i64 p.state)), .p (.sc (.int .i64 p.steps)), .p (.imm 1 (pr eI p.sent)), .p (.imm 1 (pr eMs p.inn)), .p (.imm 1 (pr eLs p.out))] = ir ePc (l.set i p) := ir_set (f := ePc) (a := p)
abbrev pB (g : Nat) (l : List Pc) : IBlk := .arr 6 g (ir ePc l)
theorem insertion_spec (g a b : Nat) (l : List Pc) (hab : a ≤ b) (hb : b ≤ l.length) (hn : l.length < 1000) :
    PG Try.prog 50 [.ref 0 g 0 l.length, sci .i64 (a : Int), sci .i64 (b : Int), cmpF] [pB g l] 0 (.tup []) [(0, pB g (insA ltP a (b - (a + 1)) 1 l))] := by
  generalize hres : insA ltP a (b - (a + 1)) 1 l = res
  
  refine pg_of 200 (fn := Try.f50) Try.func50 rfl (by simp [Try.ntmps50]) 1 rfl zC zC zC zC zC fun hs => ?_
  ((try refine zW ?_); (try with_reducible exact True.intro))
  refine walk_loop 200 200 (fun p : Nat × List Pc => a + 1 ≤ p.1 ∧ (p.1 ≤ b ∨ p.1 = a + 1) ∧ p.2.length = l.length ∧ insA ltP a (b - p.1) (p.1 - a) p.2 = res)
    (fun p => ⟨53, [(0, .ref 0 g 0 l.length), (1, sci .i64 (a : Int)), (2, sci .i64 (b : Int)), (3, cmpF), (8, sci .i64 (p.1 : Int))], [], 1, [(0, pB g p.2)]⟩) (fun p => b - p.1) (a + 1, l) ?_ ?_ ?_
  · refine ⟨Nat.le_refl _, .inr rfl, rfl, ?_⟩
    rw [show a + 1 - a = 1 by omega]; exact hres
  · constructor <;> (try simp (maxSteps := 2000000) (disch := omega) only [go_sem, simprocAttr, if_pos, if_neg, w64, beqT, beqF, bneT, bneF, pr_get, ir_get, decide_eq_true, decide_eq_false, Int.natCast_one])
  · rintro ⟨i, L⟩ ⟨i1, i2, i3, i5⟩
    simp only at i1 i2 i3 i5
    ((try refine zW ?_); (try with_reducible exact True.intro))
    by_cases hi : i < b
    · have hi' : (i : Int) < (b : Int) := by omega
      (try simp (maxSteps := 2000000) (disch := omega) only [go_sem, simprocAttr, if_pos, if_neg, w64, beqT, beqF, bneT, bneF, pr_get, ir_get, decide_eq_true, decide_eq_false, hi'])
      refine walk_loop 200 200 (fun p : Nat × List Pc => a ≤ p.1 ∧ p.1 ≤ i ∧ p.2.length = l.length ∧ sinkA ltP a (p.1 - a) p.2 = sinkA ltP a (i - a) L)
        (fun p => ⟨53, [(0, .ref 0 g 0 l.length), (1, sci .i64 (a : Int)), (2, sci .i64 (b : Int)), (3, cmpF), (8, sci .i64 (i : Int)), (9, sci .i64 (p.1 : Int))], [], 1, [(0, pB g p.2)]⟩) (fun p => p.1) (i, L) ?_ ?_ ?_
      · exact ⟨by simp only; omega, Nat.le_refl _, i3, rfl⟩
      · constructor <;> ((try refine zO ?_); (try with_reducible exact True.intro))
      · rintro ⟨j, M⟩ ⟨j0, j1, j2, j4⟩
        simp only at j0 j1 j2 j4
        ((try refine zW ?_); (try with_reducible exact True.intro))
        (refine walk_trim [0, 1, 2, 3, 8, 9] trivial zL ?_; (refine zW ?_; try with_reducible exact True.intro); refine irun_walk (id := 4) (n := 200) [none, none, none, none, none, none, none, none, none, none, none, none, none, none, some [], none, none] mixed (by kernel_rfl) ?_)
        by_cases hja : j = a
        · subst hja
          ((try refine zO ?_); (try with_reducible exact True.intro))
          have e0 : M = sinkA ltP j (i - j) L := by rw [← j4, Nat.sub_self]; rfl
          refine ⟨(i + 1, M), ⟨by simp only; omega, .inl (by simp only; omega), j2, ?_⟩, by simp only; omega, ?_⟩
          · rw [show b - i = (b - (i + 1)) + 1 by omega] at i5
            simp only
            rw [e0, show i + 1 - j = (i - j) + 1 by omega]
            exact i5
          · constructor <;> ((try refine zO ?_); (try with_reducible exact True.intro))
        · obtain ⟨j, rfl⟩ : ∃ k, j = k + 1 := ⟨j - 1, by omega⟩
          have hx : j + 1 < M.length := by omega
          have hy : j < M.length := by omega
          have hgt : (a : Int) < (j : Int) + 1 := by omega
          have tn : ((j : Int) + 1).toNat = j + 1 := rfl
          have hsx : a + (j - a) + 1 < M.length := by omega
          have hsy : a + (j - a) < M.length := by omega
          have e1 := sinkA_at (lt := ltP) hsx hsy
          simp only [show a + (j - a) = j by omega] at e1
          rw [show j - a + 1 = j + 1 - a by omega, j4] at e1
          (try simp (maxSteps := 2000000) (disch := omega) only [go_sem, simprocAttr, if_pos, if_neg, w64, beqT, beqF, bneT, bneF, pr_get, ir_get, decide_eq_true, decide_eq_false, hgt, tn, Int.add_sub_cancel, ePc])
          (refine at_dcall ?_; (refine zW ?_; try with_reducible exact True.intro); refine callA_of (cmpP_spec M[j + 1] M[j]) zB ?_; ((try refine zW ?_); (try with_reducible exact True.intro)))
          ((try refine zO ?_); (try with_reducible exact True.intro))
          by_cases hc : ltP M[j + 1] M[j] = true
          · have hc3 : decide (cmpI M[j + 1].node M[j].node < 0) = true := by rw [cmp_lt]; exact hc
            rw [if_pos hc] at e1
            (try simp (maxSteps := 2000000) (disch := omega) only [go_sem, simprocAttr, if_pos, if_neg, w64, beqT, beqF, bneT, bneF, pr_get, ir_get, decide_eq_true, decide_eq_false, hc3])
            (refine walk_trim [0, 1, 2, 3, 8, 9] trivial zL ?_; (refine zW ?_; try with_reducible exact True.intro); refine irun_walk (id := 6) (n := 200) [none, none, none, none, none, none, none, none, none, none, none, none, none, none, none, some [2, 3, 4], none, some []] mixed (by kernel_rfl) ?_)
            have e2 : (ir ePc (M.set (j + 1) M[j]))[j]? = some ((ePc M[j]).map .p) := ir_get' (by rw [List.getElem?_set_ne (by omega), List.getElem?_eq_getElem hy])
            (try simp (maxSteps := 2000000) (disch := omega) only [go_sem, simprocAttr, if_pos, if_neg, w64, beqT, beqF, bneT, bneF, pr_get, ir_get, decide_eq_true, decide_eq_false, ePc, tn, Int.add_sub_cancel, e2])
            refine ⟨(j, swp M j M[j + 1] M[j]), ⟨by simp only; omega, by simp only; omega, by rw [swp_len]; exact j2, e1.symm⟩, by simp, ?_⟩
            constructor <;> (try simp (maxSteps := 2000000) (disch := omega) only [go_sem, simprocAttr, if_pos, if_neg, w64, beqT, beqF, bneT, bneF, pr_get, ir_get, decide_eq_true, decide_eq_false, swp, Int.add_sub_cancel])
          · have hc3 : decide (cmpI M[j + 1].node M[j].node < 0) = false := by rw [cmp_lt]; simpa using hc
            rw [if_neg hc] at e1
            (try simp (maxSteps := 2000000) (disch := omega) only [go_sem, simprocAttr, if_pos, if_neg, w64, beqT, beqF, bneT, bneF, pr_get, ir_get, decide_eq_true, decide_eq_false, hc3])
            refine ⟨(i + 1, M), ⟨by simp only; omega, .inl (by simp only; omega), j2, ?_⟩, by simp only; omega, ?_⟩
            · rw [show b - i = (b - (i + 1)) + 1 by omega] at i5
              simp only
              rw [← e1, show i + 1 - a = (i - a) + 1 by omega]
              exact i5
            · constructor <;> ((try refine zO ?_); (try with_reducible exact True.intro))
    · have hi' : ¬ ((i : Int) < (b : Int)) := by omega
      (try simp (maxSteps := 2000000) (disch := omega) only [go_sem, simprocAttr, if_pos, if_neg, w64, beqT, beqF, bneT, bneF, pr_get, ir_get, decide_eq_true, decide_eq_false, hi'])
      rw [show b - i = 0 by omega] at i5
      have e0 : L = res := i5
      rw [e0]
      ((try refine zW ?_); (try with_reducible exact True.intro))
end Go.Proofs.GR
