/- Words of a sign and a rung. -/
import Derived.Test.YtkbbafmaddkehaaFL6
namespace Go.FL
open Go Go.Idl Ieee
theorem word_parts (s : Bool) {r : Nat} (h : r ≤ 9218868437227405312) : neg (double.word s r) = s ∧ rung (double.word s r) = r ∧ nan (double.word s r) = false := by
  have hr : rung (double.word s r) = r := by
    unfold Format.word rung; rw [consts.2.2.2.1]; split <;> omega
  refine ⟨?_, hr, ?_⟩
  · unfold Format.word neg; rw [consts.2.2.2.1]
    cases s
    · rw [if_neg (by decide), Nat.div_eq_of_lt (by omega)]; rfl
    · rw [if_pos rfl, show (9223372036854775808 + r) / 9223372036854775808 = 1 by omega]; rfl
  · unfold nan; rw [hr, decide_eq_false_iff_not]; omega
theorem word_self (s : Bool) {r : Nat} (h : r ≤ 9218868437227405312) : feq (double.word s r) (double.word s r) = true := by
  rw [feq_self, (word_parts s h).2.2]; rfl
theorem word_flt {r t : Nat} (h : r ≤ 9218868437227405312) (h' : t ≤ 9218868437227405312) (hl : t ≤ r) : flt (double.word false r) (double.word false t) = false := by
  obtain ⟨a1, a2, a3⟩ := word_parts false h
  obtain ⟨b1, b2, b3⟩ := word_parts false h'
  unfold flt
  rw [a3, b3, skey_pos a1, skey_pos b1, a2, b2, decide_eq_false (by omega)]
  rfl
theorem word_zero (s t : Bool) : feq (double.word s 0) (double.word t 0) = true ∧ feq (double.word s 0) 0 = true := by
  cases s <;> cases t <;> decide
theorem rq_self {x : Nat} (hx : 0 < x) (h : x < 9007199254740992) : rq x x = 4607182418800017408 := by
  rw [rq_eq (x' := 1) (y' := 1) hx h hx h (by decide) (by decide) (by decide) (by decide) (by omega)]
  decide
theorem quo_self {x : Int} (hx : x ≠ 0) (h : x.natAbs < 9007199254740992) : flarith .quo (FloatKind.f64.nearest x) (FloatKind.f64.nearest x) = some 4607182418800017408 := by
  rw [quo_int hx hx h h, rq_self (by omega) h, Bool.xor_self]
  decide
theorem quo_none : flarith .quo (FloatKind.f64.nearest 0) (FloatKind.f64.nearest 0) = none := by decide
theorem quo_neg {x y : Int} (hx : x ≠ 0) (hy : y ≠ 0) (h : x.natAbs < 9007199254740992) (h' : y.natAbs < 9007199254740992) :
    flarith .quo (FloatKind.f64.nearest (-x)) (FloatKind.f64.nearest (-y)) = some (double.word (decide (x < 0) ^^ decide (y < 0)) (rq x.natAbs y.natAbs)) := by
  rw [quo_int (by omega) (by omega) (by omega) (by omega), Int.natAbs_neg, Int.natAbs_neg]
  have e : ∀ z : Int, z ≠ 0 → decide (-z < 0) = !decide (z < 0) := by
    intro z hz
    by_cases h : z < 0
    · rw [decide_eq_true h, decide_eq_false (by omega)]; rfl
    · rw [decide_eq_false h, decide_eq_true (by omega)]; rfl
  rw [e x hx, e y hy]
  cases decide (x < 0) <;> cases decide (y < 0) <;> rfl
end Go.FL
