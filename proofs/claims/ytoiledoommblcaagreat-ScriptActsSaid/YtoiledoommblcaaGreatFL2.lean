/-
  Plain law of numbers' bits: kinds, keys, sizes.
-/
import Derived.Test.YtoiledoommblcaaGreatFL
import Derived.Laws.Bits64b
import Derived.Laws.BitsLemmas
namespace Go.FL
open Ieee

theorem toggle_lo {a : Nat} (h : a < 9223372036854775808) : a ^^^ 9223372036854775808 = a + 9223372036854775808 := by
  apply Nat.eq_of_testBit_eq
  intro i
  have e : (9223372036854775808 : Nat) = 2 ^ 63 := by decide
  rw [Nat.testBit_xor, Nat.add_comm, e, Nat.testBit_two_pow]
  rcases Nat.lt_trichotomy i 63 with hi | hi | hi
  · rw [Nat.testBit_two_pow_add_gt hi]
    have : (63 = i) = False := by simp; omega
    simp [this]
  · subst hi; rw [Nat.testBit_two_pow_add_eq]; simp
  · have h1 : a < 2 ^ i := Nat.lt_of_lt_of_le h (by rw [e]; exact Nat.pow_le_pow_right (by decide) (by omega))
    have h2 : 2 ^ 63 + a < 2 ^ i := Nat.lt_of_lt_of_le (show 2 ^ 63 + a < 2 ^ 64 by omega) (Nat.pow_le_pow_right (by decide) (by omega))
    rw [Nat.testBit_lt_two_pow h1, Nat.testBit_lt_two_pow h2]
    have : (63 = i) = False := by simp; omega
    simp [this]
theorem toggle_hi {a : Nat} (h : 9223372036854775808 ≤ a) (h2 : a < 18446744073709551616) : a ^^^ 9223372036854775808 = a - 9223372036854775808 := by
  have := toggle_lo (a := a - 9223372036854775808) (by omega)
  rw [show a - 9223372036854775808 + 9223372036854775808 = a by omega] at this
  rw [← this, Nat.xor_assoc, Nat.xor_self, Nat.xor_zero, this]
theorem or_hi {a : Nat} (h : a < 9223372036854775808) : a ||| 9223372036854775808 = a + 9223372036854775808 := by
  have := Nat.two_pow_add_eq_or_of_lt (i := 63) (b := a) (by omega) 1
  rw [Nat.or_comm]
  simpa [Nat.add_comm] using this.symm
theorem not64 {a : Nat} (h : a < 18446744073709551616) : 18446744073709551615 ^^^ a = 18446744073709551615 - a := by
  have h1 : (BitVec.allOnes 64 ^^^ BitVec.ofNat 64 a).toNat = 18446744073709551615 ^^^ a := by
    simp [BitVec.toNat_xor, BitVec.toNat_allOnes, Nat.mod_eq_of_lt h]
  have h2 : BitVec.allOnes 64 ^^^ BitVec.ofNat 64 a = ~~~ (BitVec.ofNat 64 a) := by rw [BitVec.xor_comm, BitVec.xor_allOnes]
  rw [← h1, h2, BitVec.toNat_not]
  simp [Nat.mod_eq_of_lt h]

def kindN (b : Nat) : Int :=
  if nan b then 0 else if rung b = 9218868437227405312 then (if neg b then 1 else 6) else if rung b = 0 then (if neg b then 3 else 4) else if neg b then 2 else 5
def keyN (b : Nat) : Nat := if neg b then 18446744073709551615 - b else b + 9223372036854775808
def flip (b : Nat) : Nat := b ^^^ 9223372036854775808
theorem neg_iff {b : Nat} (h : b < 18446744073709551616) : neg b = decide (9223372036854775808 ≤ b) := by
  unfold neg
  rw [Bool.eq_iff_iff]
  simp only [beq_iff_eq, decide_eq_true_eq]
  omega
theorem flip_lt {b : Nat} (h : b < 18446744073709551616) : flip b < 18446744073709551616 := by
  unfold flip
  by_cases h1 : b < 9223372036854775808
  · rw [toggle_lo h1]; omega
  · rw [toggle_hi (by omega) h]; omega
theorem flip_rung {b : Nat} (h : b < 18446744073709551616) : rung (flip b) = rung b := by
  unfold flip rung
  by_cases h1 : b < 9223372036854775808
  · rw [toggle_lo h1]; omega
  · rw [toggle_hi (by omega) h]; omega
theorem flip_neg {b : Nat} (h : b < 18446744073709551616) : neg (flip b) = !neg b := by
  rw [neg_iff (flip_lt h), neg_iff h]
  unfold flip
  by_cases h1 : b < 9223372036854775808
  · rw [toggle_lo h1]
    have : ¬ 9223372036854775808 ≤ b := by omega
    simp [this]
  · rw [toggle_hi (by omega) h]
    have : ¬ 9223372036854775808 ≤ b - 9223372036854775808 := by omega
    have h3 : 9223372036854775808 ≤ b := by omega
    simp [this, h3]
theorem flip_nan {b : Nat} (h : b < 18446744073709551616) : nan (flip b) = nan b := by unfold nan; rw [flip_rung h]
/-- Whether one is less than another one, equal to it, as numbers. -/
def flt (a b : Nat) : Bool := !nan a && !nan b && decide (skey a < skey b)
def feq (a b : Nat) : Bool := !nan a && !nan b && decide (skey a = skey b)
theorem ord_lt (a b : Nat) : (double.order a b == some .lt) = flt a b := by
  unfold flt
  cases ha : nan a
  · cases hb : nan b
    · rw [order_eq ha hb]
      rcases Int.lt_trichotomy (skey a) (skey b) with h | h | h
      · simp [cmpL h, h]
      · simp [cmpE h, h]
      · have : ¬ skey a < skey b := by omega
        simp [cmpG h, this]
    · rw [order_nan (.inr hb)]; rfl
  · rw [order_nan (.inl ha)]; rfl
theorem ord_gt (a b : Nat) : (double.order a b == some .gt) = flt b a := by
  unfold flt
  cases ha : nan a
  · cases hb : nan b
    · rw [order_eq ha hb]
      rcases Int.lt_trichotomy (skey a) (skey b) with h | h | h
      · have : ¬ skey b < skey a := by omega
        simp [cmpL h, this]
      · simp [cmpE h, h]
      · simp [cmpG h, h]
    · rw [order_nan (.inr hb)]; rfl
  · rw [order_nan (.inl ha)]; cases nan b <;> rfl
theorem ord_eq (a b : Nat) : (double.order a b == some .eq) = feq a b := by
  unfold feq
  cases ha : nan a
  · cases hb : nan b
    · rw [order_eq ha hb]
      rcases Int.lt_trichotomy (skey a) (skey b) with h | h | h
      · have : ¬ skey a = skey b := by omega
        simp [cmpL h, this]
      · simp [cmpE h, h]
      · have : ¬ skey a = skey b := by omega
        simp [cmpG h, this]
    · rw [order_nan (.inr hb)]; rfl
  · rw [order_nan (.inl ha)]; rfl
theorem feq_self (b : Nat) : feq b b = !nan b := by unfold feq; cases nan b <;> simp
theorem flt_zero (b : Nat) : flt b 0 = (!nan b && neg b && decide (0 < rung b)) := by
  have h0 : skey 0 = 0 := by decide
  have h1 : nan 0 = false := by decide
  unfold flt
  rw [h0, h1]
  unfold skey
  cases nan b <;> cases neg b <;> simp <;> omega
theorem flt_zero' (b : Nat) : flt 0 b = (!nan b && !neg b && decide (0 < rung b)) := by
  have h0 : skey 0 = 0 := by decide
  have h1 : nan 0 = false := by decide
  unfold flt
  rw [h0, h1]
  unfold skey
  cases nan b <;> cases neg b <;> simp <;> omega
/-- The greatest number stands below b: b is infinite. -/
theorem flt_max (b : Nat) : flt 9218868437227405311 b = (!neg b && decide (rung b = 9218868437227405312)) := by
  have h0 : skey 9218868437227405311 = 9218868437227405311 := by decide
  have h1 : nan 9218868437227405311 = false := by decide
  unfold flt
  rw [h0, h1]
  unfold skey nan
  cases neg b
  · simp only [Bool.not_false, Bool.true_and, Bool.false_eq_true, if_false]
    rw [Bool.eq_iff_iff]
    simp only [Bool.and_eq_true, Bool.not_eq_true', decide_eq_false_iff_not, decide_eq_true_eq]
    omega
  · simp only [Bool.not_false, Bool.true_and, if_true, Bool.not_true, Bool.false_and]
    rw [Bool.and_eq_false_iff]
    simp only [Bool.not_eq_false', decide_eq_true_eq, decide_eq_false_iff_not]
    omega
/-! ### sizes -/
def floorN (r : Nat) : Nat := (4503599627370496 + r % 4503599627370496) / 2 ^ (1075 - r / 4503599627370496)
/-- A size, and whether there is none. -/
def capN (b : Nat) : Int × Int :=
  if nan b || neg b || decide (rung b < 4607182418800017408) then (0, 1) else if 4626322717216342016 ≤ rung b then (20, 0) else (floorN (rung b), 0)
end Go.FL
