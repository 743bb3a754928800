/- Facts that the proofs of this claim lean on. -/
import Derived.Laws.FloatBits
import Derived.Laws.Bits64b
import Derived.Laws.BitsLemmas
import Derived.Test.YtoiledoommblcaaIdTx
set_option linter.unusedSimpArgs false
set_option linter.unusedVariables false
/-
  Plain law of binary numbers of 64 bits: their order is that of their rungs.
-/
namespace Go.FL
open Ieee

theorem cmpL {a b : Int} (h : a < b) : compare a b = .lt := by simp [compare, compareOfLessAndEq, h]
theorem cmpG {a b : Int} (h : b < a) : compare a b = .gt := by
  have h1 : ¬ a < b := by omega
  have h2 : ¬ a = b := by omega
  simp [compare, compareOfLessAndEq, h1, h2]
theorem cmpE {a b : Int} (h : a = b) : compare a b = .eq := by subst h; simp [compare, compareOfLessAndEq]
def W52 : Nat := 4503599627370496
def W63 : Nat := 9223372036854775808
def INF : Nat := 9218868437227405312
def neg (b : Nat) : Bool := b / 9223372036854775808 % 2 == 1
def rung (b : Nat) : Nat := b % 9223372036854775808
def skey (b : Nat) : Int := if neg b then -(rung b : Int) else rung b
def nan (b : Nat) : Bool := decide (9218868437227405312 < rung b)

theorem read_eq (b : Nat) : double.read b =
    if rung b < 4503599627370496 then .number (neg b) (rung b) (-1074)
    else if rung b < 9218868437227405312 then .number (neg b) (4503599627370496 + rung b % 4503599627370496) (-1074 + (rung b / 4503599627370496 - 1 : Nat))
    else if rung b = 9218868437227405312 then .infinity (neg b) else .nan (neg b) (rung b - 9218868437227405312) := by
  have e1 : double.signWeight = 9223372036854775808 := by decide
  have e2 : double.binade = 4503599627370496 := by decide
  have e3 : double.infRung = 9218868437227405312 := by decide
  have e4 : double.leastPlace = -1074 := by decide
  unfold Format.read
  simp only [e1, e2, e3, e4, rung, neg]
  rfl

/-- What a rung stands for, in units of the least place. -/
def val (r : Nat) : Nat := if r < 4503599627370496 then r else (4503599627370496 + r % 4503599627370496) * 2 ^ (r / 4503599627370496 - 1)
def mag (r : Nat) : Nat := if r < 4503599627370496 then r else 4503599627370496 + r % 4503599627370496
def pl (r : Nat) : Nat := r / 4503599627370496 - 1
theorem val_eq (r : Nat) : val r = mag r * 2 ^ pl r := by
  unfold val mag pl
  split
  · rw [Nat.div_eq_of_lt (by assumption)]; simp
  · rfl
theorem read_fin {b : Nat} (h : rung b < 9218868437227405312) : double.read b = .number (neg b) (mag (rung b)) (-1074 + (pl (rung b) : Int)) := by
  rw [read_eq]
  unfold mag pl
  split
  · rename_i h1
    rw [Nat.div_eq_of_lt h1]; rfl
  · rfl
theorem val_mono {r s : Nat} (h : r < s) : val r < val s := by
  have step : ∀ r, val r < val (r + 1) := by
    intro r
    unfold val
    by_cases h1 : r + 1 < 4503599627370496
    · rw [if_pos h1, if_pos (by omega)]; omega
    · rw [if_neg h1]
      by_cases h2 : r < 4503599627370496
      · have : r + 1 = 4503599627370496 := by omega
        rw [if_pos h2, this]
        simp
        omega
      · rw [if_neg h2]
        by_cases h3 : r % 4503599627370496 + 1 < 4503599627370496
        · have e1 : (r + 1) % 4503599627370496 = r % 4503599627370496 + 1 := by omega
          have e2 : (r + 1) / 4503599627370496 = r / 4503599627370496 := by omega
          rw [e1, e2]
          exact Nat.mul_lt_mul_of_pos_right (by omega) (Nat.two_pow_pos _)
        · have e1 : (r + 1) % 4503599627370496 = 0 := by omega
          have e2 : (r + 1) / 4503599627370496 - 1 = (r / 4503599627370496 - 1) + 1 := by omega
          have e3 : r % 4503599627370496 = 4503599627370495 := by omega
          rw [e1, e2, e3, Nat.pow_succ]
          have := Nat.two_pow_pos (r / 4503599627370496 - 1)
          omega
  induction h with
  | refl => exact step r
  | step _ ih => exact Nat.lt_trans ih (step _)
theorem val_lt_iff {r s : Nat} : val r < val s ↔ r < s := by
  refine ⟨fun h => ?_, val_mono⟩
  rcases Nat.lt_trichotomy r s with h1 | h1 | h1
  · exact h1
  · subst h1; omega
  · have := val_mono h1; omega
theorem val_zero : val 0 = 0 := rfl

theorem signed_eq (n : Bool) (m up : Nat) : signed n m up = if n then -((m * 2 ^ up : Nat) : Int) else (m * 2 ^ up : Nat) := by
  unfold signed
  rw [Nat.shiftLeft_eq]
theorem cmp_scale (s t : Bool) (m n p q : Nat) : compare (signed s m (p - min p q)) (signed t n (q - min p q)) = compare (signed s m p) (signed t n q) := by
  obtain ⟨d, hd⟩ : ∃ d, d = min p q := ⟨_, rfl⟩
  have hp : p = p - min p q + d := by omega
  have hq : q = q - min p q + d := by omega
  generalize p - min p q = a at *
  generalize q - min p q = b at *
  subst hp; subst hq
  simp only [signed_eq, Nat.pow_add, ← Nat.mul_assoc]
  generalize m * 2 ^ a = x
  generalize n * 2 ^ b = y
  have hpos : 0 < 2 ^ d := Nat.two_pow_pos d
  have key : ∀ u v : Int, compare (u * (2 ^ d : Nat)) (v * (2 ^ d : Nat)) = compare u v := by
    intro u v
    have hp' : (0 : Int) < (2 ^ d : Nat) := by exact_mod_cast hpos
    rcases Int.lt_trichotomy u v with h | h | h
    · rw [cmpL h, cmpL (Int.mul_lt_mul_of_pos_right h hp')]
    · subst h; rw [cmpE rfl, cmpE rfl]
    · rw [cmpG h, cmpG (Int.mul_lt_mul_of_pos_right h hp')]
  have e : ∀ (c : Bool) (z : Nat), (if c then -((z * 2 ^ d : Nat) : Int) else (z * 2 ^ d : Nat)) = (if c then -(z : Int) else z) * (2 ^ d : Nat) := by
    intro c z
    cases c <;> simp [Int.neg_mul]
  rw [e, e, key]
theorem order_fin {x y : Nat} (hx : rung x < 9218868437227405312) (hy : rung y < 9218868437227405312) : double.order x y = some (compare (skey x) (skey y)) := by
  unfold Format.order
  rw [read_fin hx, read_fin hy]
  simp only [Datum.order]
  have e1 : (-1074 + (pl (rung x) : Int) - min (-1074 + (pl (rung x) : Int)) (-1074 + (pl (rung y) : Int))).toNat = pl (rung x) - min (pl (rung x)) (pl (rung y)) := by omega
  have e2 : (-1074 + (pl (rung y) : Int) - min (-1074 + (pl (rung x) : Int)) (-1074 + (pl (rung y) : Int))).toNat = pl (rung y) - min (pl (rung x)) (pl (rung y)) := by omega
  rw [e1, e2, cmp_scale, signed_eq, signed_eq, ← val_eq, ← val_eq]
  congr 1
  unfold skey
  generalize rung x = r
  generalize rung y = s
  have h1 := val_lt_iff (r := r) (s := s)
  have h2 := val_lt_iff (r := s) (s := r)
  have h3 : 0 < val r ↔ 0 < r := val_lt_iff (r := 0) (s := r)
  have h4 : 0 < val s ↔ 0 < s := val_lt_iff (r := 0) (s := s)
  generalize val r = vr at *
  generalize val s = vs at *
  have fin : ∀ a b c d : Int, (a < b ↔ c < d) → (b < a ↔ d < c) → compare a b = compare c d := by
    intro a b c d g1 g2
    rcases Int.lt_trichotomy a b with h | h | h
    · rw [cmpL h, cmpL (g1.1 h)]
    · have : c = d := by
        subst h
        have := mt g1.2 (Int.lt_irrefl a)
        have := mt g2.2 (Int.lt_irrefl a)
        omega
      rw [cmpE h, cmpE this]
    · rw [cmpG h, cmpG (g2.1 h)]
  apply fin <;> (cases neg x <;> cases neg y <;> simp <;> omega)
theorem order_eq {x y : Nat} (hx : nan x = false) (hy : nan y = false) : double.order x y = some (compare (skey x) (skey y)) := by
  simp only [nan, decide_eq_false_iff_not] at hx hy
  by_cases h1 : rung x < 9218868437227405312
  · by_cases h2 : rung y < 9218868437227405312
    · exact order_fin h1 h2
    · have e : rung y = 9218868437227405312 := by omega
      unfold Format.order
      rw [read_fin h1, read_eq y, if_neg (by omega), if_neg h2, if_pos e]
      simp only [Datum.order, skey, e]
      cases neg y
      · simp; symm; apply cmpL; split <;> omega
      · simp; symm; apply cmpG; split <;> omega
  · have e : rung x = 9218868437227405312 := by omega
    by_cases h2 : rung y < 9218868437227405312
    · unfold Format.order
      rw [read_fin h2, read_eq x, if_neg (by omega), if_neg h1, if_pos e]
      simp only [Datum.order, skey, e]
      cases neg x
      · simp; symm; apply cmpG; split <;> omega
      · simp; symm; apply cmpL; split <;> omega
    · have e' : rung y = 9218868437227405312 := by omega
      unfold Format.order
      rw [read_eq x, read_eq y, if_neg (by omega), if_neg h1, if_pos e, if_neg (by omega), if_neg h2, if_pos e']
      simp only [Datum.order, skey, e, e']
      cases neg x <;> cases neg y <;> rfl
theorem order_nan {x y : Nat} (h : nan x = true ∨ nan y = true) : double.order x y = none := by
  have hn : ∀ z, nan z = true → double.read z = .nan (neg z) (rung z - 9218868437227405312) := by
    intro z hz
    simp only [nan, decide_eq_true_eq] at hz
    rw [read_eq, if_neg (by omega), if_neg (by omega), if_neg (by omega)]
  unfold Format.order
  rcases h with h | h
  · rw [hn x h]; rfl
  · rw [hn y h]; cases double.read x <;> rfl
end Go.FL

/-
  Plain law of numbers' bits: kinds, keys, sizes.
-/
namespace Go.FL
open Ieee

theorem toggle_lo {a : Nat} (h : a < 9223372036854775808) : a ^^^ 9223372036854775808 = a + 9223372036854775808 := by
  apply Nat.eq_of_testBit_eq
  intro i
  have e : (9223372036854775808 : Nat) = 2 ^ 63 := by decide
  rw [Nat.testBit_xor, Nat.add_comm, e, Nat.testBit_two_pow]
  rcases Nat.lt_trichotomy i 63 with hi | hi | hi
  · rw [Nat.testBit_two_pow_add_gt hi]
    have : (63 = i) = False := by simp; omega
    simp [this]
  · subst hi; rw [Nat.testBit_two_pow_add_eq]; simp
  · have h1 : a < 2 ^ i := Nat.lt_of_lt_of_le h (by rw [e]; exact Nat.pow_le_pow_right (by decide) (by omega))
    have h2 : 2 ^ 63 + a < 2 ^ i := Nat.lt_of_lt_of_le (show 2 ^ 63 + a < 2 ^ 64 by omega) (Nat.pow_le_pow_right (by decide) (by omega))
    rw [Nat.testBit_lt_two_pow h1, Nat.testBit_lt_two_pow h2]
    have : (63 = i) = False := by simp; omega
    simp [this]
theorem toggle_hi {a : Nat} (h : 9223372036854775808 ≤ a) (h2 : a < 18446744073709551616) : a ^^^ 9223372036854775808 = a - 9223372036854775808 := by
  have := toggle_lo (a := a - 9223372036854775808) (by omega)
  rw [show a - 9223372036854775808 + 9223372036854775808 = a by omega] at this
  rw [← this, Nat.xor_assoc, Nat.xor_self, Nat.xor_zero, this]
theorem or_hi {a : Nat} (h : a < 9223372036854775808) : a ||| 9223372036854775808 = a + 9223372036854775808 := by
  have := Nat.two_pow_add_eq_or_of_lt (i := 63) (b := a) (by omega) 1
  rw [Nat.or_comm]
  simpa [Nat.add_comm] using this.symm
theorem not64 {a : Nat} (h : a < 18446744073709551616) : 18446744073709551615 ^^^ a = 18446744073709551615 - a := by
  have h1 : (BitVec.allOnes 64 ^^^ BitVec.ofNat 64 a).toNat = 18446744073709551615 ^^^ a := by
    simp [BitVec.toNat_xor, BitVec.toNat_allOnes, Nat.mod_eq_of_lt h]
  have h2 : BitVec.allOnes 64 ^^^ BitVec.ofNat 64 a = ~~~ (BitVec.ofNat 64 a) := by rw [BitVec.xor_comm, BitVec.xor_allOnes]
  rw [← h1, h2, BitVec.toNat_not]
  simp [Nat.mod_eq_of_lt h]

def kindN (b : Nat) : Int :=
  if nan b then 0 else if rung b = 9218868437227405312 then (if neg b then 1 else 6) else if rung b = 0 then (if neg b then 3 else 4) else if neg b then 2 else 5
def keyN (b : Nat) : Nat := if neg b then 18446744073709551615 - b else b + 9223372036854775808
def flip (b : Nat) : Nat := b ^^^ 9223372036854775808
theorem neg_iff {b : Nat} (h : b < 18446744073709551616) : neg b = decide (9223372036854775808 ≤ b) := by
  unfold neg
  rw [Bool.eq_iff_iff]
  simp only [beq_iff_eq, decide_eq_true_eq]
  omega
theorem flip_lt {b : Nat} (h : b < 18446744073709551616) : flip b < 18446744073709551616 := by
  unfold flip
  by_cases h1 : b < 9223372036854775808
  · rw [toggle_lo h1]; omega
  · rw [toggle_hi (by omega) h]; omega
theorem flip_rung {b : Nat} (h : b < 18446744073709551616) : rung (flip b) = rung b := by
  unfold flip rung
  by_cases h1 : b < 9223372036854775808
  · rw [toggle_lo h1]; omega
  · rw [toggle_hi (by omega) h]; omega
theorem flip_neg {b : Nat} (h : b < 18446744073709551616) : neg (flip b) = !neg b := by
  rw [neg_iff (flip_lt h), neg_iff h]
  unfold flip
  by_cases h1 : b < 9223372036854775808
  · rw [toggle_lo h1]
    have : ¬ 9223372036854775808 ≤ b := by omega
    simp [this]
  · rw [toggle_hi (by omega) h]
    have : ¬ 9223372036854775808 ≤ b - 9223372036854775808 := by omega
    have h3 : 9223372036854775808 ≤ b := by omega
    simp [this, h3]
theorem flip_nan {b : Nat} (h : b < 18446744073709551616) : nan (flip b) = nan b := by unfold nan; rw [flip_rung h]
/-- Whether one is less than another one, equal to it, as numbers. -/
def flt (a b : Nat) : Bool := !nan a && !nan b && decide (skey a < skey b)
def feq (a b : Nat) : Bool := !nan a && !nan b && decide (skey a = skey b)
theorem ord_lt (a b : Nat) : (double.order a b == some .lt) = flt a b := by
  unfold flt
  cases ha : nan a
  · cases hb : nan b
    · rw [order_eq ha hb]
      rcases Int.lt_trichotomy (skey a) (skey b) with h | h | h
      · simp [cmpL h, h]
      · simp [cmpE h, h]
      · have : ¬ skey a < skey b := by omega
        simp [cmpG h, this]
    · rw [order_nan (.inr hb)]; rfl
  · rw [order_nan (.inl ha)]; rfl
theorem ord_gt (a b : Nat) : (double.order a b == some .gt) = flt b a := by
  unfold flt
  cases ha : nan a
  · cases hb : nan b
    · rw [order_eq ha hb]
      rcases Int.lt_trichotomy (skey a) (skey b) with h | h | h
      · have : ¬ skey b < skey a := by omega
        simp [cmpL h, this]
      · simp [cmpE h, h]
      · simp [cmpG h, h]
    · rw [order_nan (.inr hb)]; rfl
  · rw [order_nan (.inl ha)]; cases nan b <;> rfl
theorem ord_eq (a b : Nat) : (double.order a b == some .eq) = feq a b := by
  unfold feq
  cases ha : nan a
  · cases hb : nan b
    · rw [order_eq ha hb]
      rcases Int.lt_trichotomy (skey a) (skey b) with h | h | h
      · have : ¬ skey a = skey b := by omega
        simp [cmpL h, this]
      · simp [cmpE h, h]
      · have : ¬ skey a = skey b := by omega
        simp [cmpG h, this]
    · rw [order_nan (.inr hb)]; rfl
  · rw [order_nan (.inl ha)]; rfl
theorem feq_self (b : Nat) : feq b b = !nan b := by unfold feq; cases nan b <;> simp
theorem flt_zero (b : Nat) : flt b 0 = (!nan b && neg b && decide (0 < rung b)) := by
  have h0 : skey 0 = 0 := by decide
  have h1 : nan 0 = false := by decide
  unfold flt
  rw [h0, h1]
  unfold skey
  cases nan b <;> cases neg b <;> simp <;> omega
theorem flt_zero' (b : Nat) : flt 0 b = (!nan b && !neg b && decide (0 < rung b)) := by
  have h0 : skey 0 = 0 := by decide
  have h1 : nan 0 = false := by decide
  unfold flt
  rw [h0, h1]
  unfold skey
  cases nan b <;> cases neg b <;> simp <;> omega
/-- The greatest number stands below b: b is infinite. -/
theorem flt_max (b : Nat) : flt 9218868437227405311 b = (!neg b && decide (rung b = 9218868437227405312)) := by
  have h0 : skey 9218868437227405311 = 9218868437227405311 := by decide
  have h1 : nan 9218868437227405311 = false := by decide
  unfold flt
  rw [h0, h1]
  unfold skey nan
  cases neg b
  · simp only [Bool.not_false, Bool.true_and, Bool.false_eq_true, if_false]
    rw [Bool.eq_iff_iff]
    simp only [Bool.and_eq_true, Bool.not_eq_true', decide_eq_false_iff_not, decide_eq_true_eq]
    omega
  · simp only [Bool.not_false, Bool.true_and, if_true, Bool.not_true, Bool.false_and]
    rw [Bool.and_eq_false_iff]
    simp only [Bool.not_eq_false', decide_eq_true_eq, decide_eq_false_iff_not]
    omega
/-! ### sizes -/
def floorN (r : Nat) : Nat := (4503599627370496 + r % 4503599627370496) / 2 ^ (1075 - r / 4503599627370496)
/-- A size, and whether there is none. -/
def capN (b : Nat) : Int × Int :=
  if nan b || neg b || decide (rung b < 4607182418800017408) then (0, 1) else if 4626322717216342016 ≤ rung b then (20, 0) else (floorN (rung b), 0)
end Go.FL

/- Rules of numbers for the walk. -/
namespace Go.FL
open Go Go.Idl
@[go_sem] theorem fl_lss (a b : Nat) : flbin .lss .f64 a b = some (.bool (flt a b)) := by
  have := ord_lt a b
  simp only [flbin, FloatKind.format, this]
@[go_sem] theorem fl_gtr (a b : Nat) : flbin .gtr .f64 a b = some (.bool (flt b a)) := by
  have := ord_gt a b
  simp only [flbin, FloatKind.format, this]
@[go_sem] theorem fl_eql (a b : Nat) : flbin .eql .f64 a b = some (.bool (feq a b)) := by
  have := ord_eq a b
  simp only [flbin, FloatKind.format, this]
@[go_sem] theorem fl_neq (a b : Nat) : flbin .neq .f64 a b = some (.bool !(feq a b)) := by
  have := ord_eq a b
  simp only [flbin, FloatKind.format, bne, this]
@[go_sem] theorem fl_leq (a b : Nat) : flbin .leq .f64 a b = some (.bool (flt a b || feq a b)) := by
  have := ord_eq a b
  have := ord_lt a b
  simp only [flbin, FloatKind.format, *]
@[go_sem] theorem fl_geq (a b : Nat) : flbin .geq .f64 a b = some (.bool (flt b a || feq a b)) := by
  have := ord_eq a b
  have := ord_gt a b
  simp only [flbin, FloatKind.format, *]
@[go_sem] theorem neg_f64 (b : Nat) : Op.negFloat .f64 b = flip b := by
  simp only [Op.negFloat, FloatKind.format]
  rfl
theorem flt_maxf {b : Nat} (h : b < 18446744073709551616) : flt 9218868437227405311 (flip b) = (neg b && decide (rung b = 9218868437227405312)) := by
  rw [flt_max, flip_neg h, flip_rung h, Bool.not_not]
theorem wrap_bits {b : Nat} (h : b < 18446744073709551616) : decide (IntKind.i64.wrap (b : Int) < 0) = neg b := by
  rw [neg_iff h, Bool.eq_iff_iff]
  simp only [decide_eq_true_eq]
  rw [IntKind.wrap_i64]; omega
end Go.FL
namespace Go.FL
open Go Go.Idl
theorem tmodN (b c : Nat) : (b : Int).tmod (c : Int) = ((b % c : Nat) : Int) := rfl
theorem tdivN (b c : Nat) : (b : Int).tdiv (c : Int) = ((b / c : Nat) : Int) := rfl
theorem tmodL (b : Nat) : (b : Int).tmod 4503599627370496 = ((b % 4503599627370496 : Nat) : Int) := (rfl)
theorem tdivL (b : Nat) : (b : Int).tdiv 4503599627370496 = ((b / 4503599627370496 : Nat) : Int) := (rfl)
theorem tmodK (b : Nat) : (b : Int).tmod 2048 = ((b % 2048 : Nat) : Int) := (rfl)
theorem w64u {n : Nat} (h : n < 18446744073709551616) : IntKind.u64.wrap (n : Int) = n := by rw [IntKind.wrap_u64]; omega
theorem fdiv63 (b : Nat) : (b : Int).fdiv (2 ^ min 63 64) = ((b / 9223372036854775808 : Nat) : Int) := by
  have e : (2 : Int) ^ min 63 64 = ((9223372036854775808 : Nat) : Int) := by decide
  rw [e, Int.fdiv_eq_ediv_of_nonneg _ (by omega)]; rfl
theorem nan_parts (b : Nat) : nan b = decide (b / 4503599627370496 % 2048 = 2047 ∧ ¬ b % 4503599627370496 = 0) := by
  unfold nan rung
  rw [decide_eq_decide]
  omega
theorem inf_parts (b : Nat) : (rung b = 9218868437227405312) = (b / 4503599627370496 % 2048 = 2047 ∧ b % 4503599627370496 = 0) := by
  unfold rung
  rw [eq_iff_iff]
  omega
theorem zero_parts (b : Nat) : (rung b = 0) = (b / 4503599627370496 % 2048 = 0 ∧ b % 4503599627370496 = 0) := by
  unfold rung
  rw [eq_iff_iff]
  omega
@[go_sem] theorem un_xor_u64 (n : Int) : bits .xor .u64 (if IntKind.u64.signed = true then -1 else IntKind.u64.max) n = bits .xor .u64 18446744073709551615 n := (rfl)
theorem xor_all {b : Nat} (h : b < 18446744073709551616) : bits .xor .u64 18446744073709551615 (b : Int) = ((18446744073709551615 - b : Nat) : Int) := by
  rw [← not64 h]; exact bits_xor_u64_nat 18446744073709551615 b (by decide) h
theorem or_top {b : Nat} (h : b < 9223372036854775808) : bits .or .u64 (b : Int) 9223372036854775808 = ((b + 9223372036854775808 : Nat) : Int) := by
  rw [← or_hi h]; exact bits_or_u64_nat b 9223372036854775808 (by omega) (by decide)
theorem xor_top {b : Nat} (h : b < 18446744073709551616) : bits .xor .u64 (b : Int) 9223372036854775808 = ((flip b : Nat) : Int) :=
  bits_xor_u64_nat b 9223372036854775808 h (by decide)
end Go.FL

/- Floors, sizes, whole numbers of doubles. -/
namespace Go.FL
open Go Go.Idl Ieee
theorem floorOf_lo {b : Nat} (hg : neg b = false) (h1 : 4607182418800017408 ≤ rung b) (h2 : rung b < 4626322717216342016) :
    floorOf b = some (.float .f64 (FloatKind.f64.encode (.number false (floorN (rung b)) 0))) ∧ 1 ≤ floorN (rung b) ∧ floorN (rung b) ≤ 19 := by
  have hr := read_fin (b := b) (by omega)
  have hm : mag (rung b) = 4503599627370496 + rung b % 4503599627370496 := by unfold mag; rw [if_neg (by omega)]
  have hp : -1074 + (pl (rung b) : Int) = -((1075 - rung b / 4503599627370496 : Nat) : Int) := by unfold pl; omega
  rw [hm, hp, hg] at hr
  have hd : FloatKind.f64.decode b = _ := hr
  have hq : 1023 ≤ rung b / 4503599627370496 ∧ rung b / 4503599627370496 ≤ 1027 := by omega
  have hf : floorN (rung b) = (4503599627370496 + rung b % 4503599627370496) / 2 ^ (1075 - rung b / 4503599627370496) := rfl
  generalize hk : 1075 - rung b / 4503599627370496 = k at *
  have hk2 : 48 ≤ k ∧ k ≤ 52 := by omega
  generalize hM : 4503599627370496 + rung b % 4503599627370496 = M at *
  have hM2 : 4503599627370496 ≤ M ∧ M < 9007199254740992 := by omega
  have hl : M.log2 = 52 := by
    have a : 52 ≤ M.log2 := (Nat.le_log2 (by omega)).2 (by omega)
    have c : M.log2 < 53 := (Nat.log2_lt (by omega)).2 (by omega)
    omega
  refine ⟨?_, ?_, ?_⟩
  · unfold floorOf
    rw [hd]
    simp only [Datum.integral, Toward.cut, Int.toNat_neg_natCast, Nat.shiftLeft_zero, Int.neg_neg, Int.toNat_natCast, hl, Bool.false_and, Bool.toNat_false, Nat.add_zero]
    rw [Nat.min_eq_left (by omega), Nat.one_shiftLeft, hf]
  · rw [hf, Nat.le_div_iff_mul_le (Nat.two_pow_pos k), Nat.one_mul]
    exact Nat.le_trans (Nat.pow_le_pow_right (by decide) hk2.2) (by omega)
  · rw [hf]
    have : 20 * 2 ^ k > M := by
      have : k = 48 ∨ k = 49 ∨ k = 50 ∨ k = 51 ∨ k = 52 := by omega
      rcases this with rfl | rfl | rfl | rfl | rfl <;> omega
    have := Nat.div_lt_of_lt_mul (m := M) (n := 2 ^ k) (k := 20) (by rw [Nat.mul_comm]; exact this)
    omega
theorem small_back {n : Nat} (h : n < 32) : (FloatKind.f64.decode (FloatKind.f64.encode (.number false n 0))).toInt .zero = some (n : Int) := by
  revert n
  decide
theorem floorOf_val {b : Nat} (hg : neg b = false) (h1 : 4607182418800017408 ≤ rung b) (h2 : rung b < 4626322717216342016) :
    ∃ f, floorOf b = some (.float .f64 f) ∧ (FloatKind.f64.decode f).toInt .zero = some (floorN (rung b) : Int) ∧ 1 ≤ floorN (rung b) ∧ floorN (rung b) ≤ 19 := by
  obtain ⟨a, c, d⟩ := floorOf_lo hg h1 h2
  exact ⟨_, a, small_back (by omega), c, d⟩
/-- The greatest small whole number that is not above. -/
theorem floor_ge {b : Nat} {n : Nat} (h1 : 4607182418800017408 ≤ rung b) (h2 : rung b < 4626322717216342016) (hn : 1 ≤ n) (hn2 : n ≤ 20) :
    decide (FloatKind.f64.nearest (n : Int) ≤ rung b) = decide (n ≤ floorN (rung b)) := by
  rw [decide_eq_decide]
  have hf : floorN (rung b) = (4503599627370496 + rung b % 4503599627370496) / 2 ^ (1075 - rung b / 4503599627370496) := rfl
  rw [hf, Nat.le_div_iff_mul_le (Nat.two_pow_pos _)]
  have hq : 1023 ≤ rung b / 4503599627370496 ∧ rung b / 4503599627370496 ≤ 1027 := by omega
  have hs : rung b = 4503599627370496 * (rung b / 4503599627370496) + rung b % 4503599627370496 := by omega
  have hl : rung b % 4503599627370496 < 4503599627370496 := Nat.mod_lt _ (by decide)
  generalize rung b % 4503599627370496 = lo at *
  have key : ∀ N : Nat, FloatKind.f64.nearest (n : Int) = N → (N ≤ rung b ↔ N ≤ 4503599627370496 * (rung b / 4503599627370496) + lo) := by intro N _; omega
  rw [key _ rfl]
  have h5 : ∀ q lo : Nat, 1023 ≤ q → q ≤ 1027 → lo < 4503599627370496 → (FloatKind.f64.nearest (n : Int) ≤ 4503599627370496 * q + lo ↔ n * 2 ^ (1075 - q) ≤ 4503599627370496 + lo) := by
    intro q lo a c d
    have hn3 : n = 1 ∨ n = 2 ∨ n = 3 ∨ n = 4 ∨ n = 5 ∨ n = 6 ∨ n = 7 ∨ n = 8 ∨ n = 9 ∨ n = 10 ∨ n = 11 ∨ n = 12 ∨ n = 13 ∨ n = 14 ∨ n = 15 ∨ n = 16 ∨ n = 17 ∨ n = 18 ∨ n = 19 ∨ n = 20 := by omega
    have hq3 : q = 1023 ∨ q = 1024 ∨ q = 1025 ∨ q = 1026 ∨ q = 1027 := by omega
    rcases hn3 with rfl | rfl | rfl | rfl | rfl | rfl | rfl | rfl | rfl | rfl | rfl | rfl | rfl | rfl | rfl | rfl | rfl | rfl | rfl | rfl
    · have e : FloatKind.f64.nearest ((1 : Nat) : Int) = 4607182418800017408 := by decide
      rw [e]; rcases hq3 with rfl | rfl | rfl | rfl | rfl <;> omega
    · have e : FloatKind.f64.nearest ((2 : Nat) : Int) = 4611686018427387904 := by decide
      rw [e]; rcases hq3 with rfl | rfl | rfl | rfl | rfl <;> omega
    · have e : FloatKind.f64.nearest ((3 : Nat) : Int) = 4613937818241073152 := by decide
      rw [e]; rcases hq3 with rfl | rfl | rfl | rfl | rfl <;> omega
    · have e : FloatKind.f64.nearest ((4 : Nat) : Int) = 4616189618054758400 := by decide
      rw [e]; rcases hq3 with rfl | rfl | rfl | rfl | rfl <;> omega
    · have e : FloatKind.f64.nearest ((5 : Nat) : Int) = 4617315517961601024 := by decide
      rw [e]; rcases hq3 with rfl | rfl | rfl | rfl | rfl <;> omega
    · have e : FloatKind.f64.nearest ((6 : Nat) : Int) = 4618441417868443648 := by decide
      rw [e]; rcases hq3 with rfl | rfl | rfl | rfl | rfl <;> omega
    · have e : FloatKind.f64.nearest ((7 : Nat) : Int) = 4619567317775286272 := by decide
      rw [e]; rcases hq3 with rfl | rfl | rfl | rfl | rfl <;> omega
    · have e : FloatKind.f64.nearest ((8 : Nat) : Int) = 4620693217682128896 := by decide
      rw [e]; rcases hq3 with rfl | rfl | rfl | rfl | rfl <;> omega
    · have e : FloatKind.f64.nearest ((9 : Nat) : Int) = 4621256167635550208 := by decide
      rw [e]; rcases hq3 with rfl | rfl | rfl | rfl | rfl <;> omega
    · have e : FloatKind.f64.nearest ((10 : Nat) : Int) = 4621819117588971520 := by decide
      rw [e]; rcases hq3 with rfl | rfl | rfl | rfl | rfl <;> omega
    · have e : FloatKind.f64.nearest ((11 : Nat) : Int) = 4622382067542392832 := by decide
      rw [e]; rcases hq3 with rfl | rfl | rfl | rfl | rfl <;> omega
    · have e : FloatKind.f64.nearest ((12 : Nat) : Int) = 4622945017495814144 := by decide
      rw [e]; rcases hq3 with rfl | rfl | rfl | rfl | rfl <;> omega
    · have e : FloatKind.f64.nearest ((13 : Nat) : Int) = 4623507967449235456 := by decide
      rw [e]; rcases hq3 with rfl | rfl | rfl | rfl | rfl <;> omega
    · have e : FloatKind.f64.nearest ((14 : Nat) : Int) = 4624070917402656768 := by decide
      rw [e]; rcases hq3 with rfl | rfl | rfl | rfl | rfl <;> omega
    · have e : FloatKind.f64.nearest ((15 : Nat) : Int) = 4624633867356078080 := by decide
      rw [e]; rcases hq3 with rfl | rfl | rfl | rfl | rfl <;> omega
    · have e : FloatKind.f64.nearest ((16 : Nat) : Int) = 4625196817309499392 := by decide
      rw [e]; rcases hq3 with rfl | rfl | rfl | rfl | rfl <;> omega
    · have e : FloatKind.f64.nearest ((17 : Nat) : Int) = 4625478292286210048 := by decide
      rw [e]; rcases hq3 with rfl | rfl | rfl | rfl | rfl <;> omega
    · have e : FloatKind.f64.nearest ((18 : Nat) : Int) = 4625759767262920704 := by decide
      rw [e]; rcases hq3 with rfl | rfl | rfl | rfl | rfl <;> omega
    · have e : FloatKind.f64.nearest ((19 : Nat) : Int) = 4626041242239631360 := by decide
      rw [e]; rcases hq3 with rfl | rfl | rfl | rfl | rfl <;> omega
    · have e : FloatKind.f64.nearest ((20 : Nat) : Int) = 4626322717216342016 := by decide
      rw [e]; rcases hq3 with rfl | rfl | rfl | rfl | rfl <;> omega
  exact h5 _ _ hq.1 hq.2 hl
theorem kind_le4 (b : Nat) : decide (kindN b ≤ 4) = (nan b || neg b || decide (rung b = 0)) := by
  unfold kindN
  cases hn : nan b
  · cases hg : neg b
    · by_cases hi : rung b = 9218868437227405312
      · simp [hi]
      · by_cases h0 : rung b = 0 <;> simp [hi, h0]
    · by_cases hi : rung b = 9218868437227405312
      · simp [hi]
      · by_cases h0 : rung b = 0 <;> simp [hi, h0]
  · rfl
theorem kind_eq5 {b : Nat} (hn : nan b = false) (hg : neg b = false) (h0 : rung b ≠ 0) : (kindN b == 5) = decide (rung b ≠ 9218868437227405312) := by
  unfold kindN
  by_cases hi : rung b = 9218868437227405312 <;> simp [hi, hn, hg, h0]
theorem skey_pos {b : Nat} (hg : neg b = false) : skey b = rung b := by unfold skey; rw [hg]; rfl
theorem flt_one {b : Nat} (hn : nan b = false) (hg : neg b = false) : flt b 4607182418800017408 = decide (rung b < 4607182418800017408) := by
  have h0 : skey 4607182418800017408 = 4607182418800017408 := by decide
  have h1 : nan 4607182418800017408 = false := by decide
  unfold flt
  rw [h0, h1, hn, skey_pos hg]
  simp only [Bool.not_false, Bool.true_and, decide_eq_decide]
  omega
theorem flt_ge {b c : Nat} (hn : nan b = false) (hg : neg b = false) (hc : c < 9218868437227405312) : (flt c b || feq b c) = decide (c ≤ rung b) := by
  have h3 : rung c = c := by unfold rung; omega
  have h2 : neg c = false := by unfold neg; rw [Nat.div_eq_of_lt (by omega)]; rfl
  have h1 : nan c = false := by unfold nan; rw [h3, decide_eq_false_iff_not]; omega
  unfold flt feq
  rw [h1, hn, skey_pos hg, skey_pos h2, h3]
  simp only [Bool.not_false, Bool.true_and]
  rw [Bool.eq_iff_iff]
  simp only [Bool.or_eq_true, decide_eq_true_eq]
  omega
theorem near_lt {n : Nat} (h : n ≤ 20) : FloatKind.f64.nearest (n : Int) < 9218868437227405312 := by
  have : ∀ n : Nat, n < 21 → FloatKind.f64.nearest (n : Int) < 9218868437227405312 := by decide
  exact this n (by omega)
theorem near_ge {n : Nat} (h : 1 ≤ n) (h2 : n ≤ 20) : FloatKind.f64.nearest (n : Int) ≤ 4626322717216342016 := by
  have : ∀ n : Nat, n < 21 → FloatKind.f64.nearest (n : Int) ≤ 4626322717216342016 := by decide
  exact this n (by omega)
/-- The number of whole ones up to twenty. -/
def capW (b : Nat) : Nat := if 4626322717216342016 ≤ rung b then 20 else floorN (rung b)
theorem capW_ge {b : Nat} {n : Nat} (hn : nan b = false) (hg : neg b = false) (h1 : 4607182418800017408 ≤ rung b) (hn1 : 1 ≤ n) (hn2 : n ≤ 20) :
    (flt (FloatKind.f64.nearest (n : Int)) b || feq b (FloatKind.f64.nearest (n : Int))) = decide (n ≤ capW b) := by
  rw [flt_ge hn hg (near_lt hn2)]
  unfold capW
  split
  · have := near_ge hn1 hn2
    rw [decide_eq_decide]; omega
  · exact floor_ge h1 (by omega) hn1 hn2
theorem capW_bd {b : Nat} (hg : neg b = false) (h1 : 4607182418800017408 ≤ rung b) : 1 ≤ capW b ∧ capW b ≤ 20 := by
  unfold capW
  split
  · omega
  · obtain ⟨-, c, d⟩ := floorOf_lo hg h1 (by omega)
    omega
theorem capN_some {b : Nat} (hn : nan b = false) (hg : neg b = false) (h1 : 4607182418800017408 ≤ rung b) : capN b = ((capW b : Int), 0) := by
  unfold capN capW
  rw [hn, hg, decide_eq_false (by omega), if_neg (by decide)]
  split <;> rfl
theorem capN_none {b : Nat} (h : nan b = true ∨ neg b = true ∨ rung b < 4607182418800017408) : capN b = (0, 1) := by
  unfold capN
  rw [if_pos]
  rcases h with h | h | h
  · simp [h]
  · simp [h]
  · simp [h]
theorem keyN_eq {a : Nat} (ha : a < 18446744073709551616) : (keyN a : Int) = if 9223372036854775808 ≤ a then 18446744073709551615 - (a : Int) else (a : Int) + 9223372036854775808 := by
  unfold keyN
  rw [neg_iff ha]
  by_cases h : 9223372036854775808 ≤ a
  · rw [decide_eq_true h, if_pos rfl, if_pos h]; omega
  · rw [decide_eq_false h, if_neg (by decide), if_neg h]; omega
theorem keyN_inj {a b : Nat} (ha : a < 18446744073709551616) (hb : b < 18446744073709551616) (h : (keyN a : Int) = keyN b) : a = b := by
  rw [keyN_eq ha, keyN_eq hb] at h
  split at h <;> split at h <;> omega
theorem flt_key {a b : Nat} (ha : a < 18446744073709551616) (hb : b < 18446744073709551616) (h : flt a b = true) : (keyN a : Int) < keyN b := by
  unfold flt skey rung at h
  rw [neg_iff ha, neg_iff hb] at h
  simp only [Bool.and_eq_true, decide_eq_true_eq] at h
  rw [keyN_eq ha, keyN_eq hb]
  by_cases h1 : 9223372036854775808 ≤ a <;> by_cases h2 : 9223372036854775808 ≤ b <;> simp only [h1, h2, if_true, if_false] at h ⊢ <;> omega
theorem nan_inf {a : Nat} (ha : a < 18446744073709551616) (hn : kindN a = 0) : decide ((keyN a : Int) < ((keyN 9218868437227405312 : Nat) : Int)) = decide ((9223372036854775808 : Int) ≤ a) := by
  have hn' : nan a = true := by
    unfold kindN at hn
    cases h : nan a
    · rw [h] at hn
      simp only [Bool.false_eq_true, if_false] at hn
      split at hn
      · split at hn <;> simp at hn
      · split at hn
        · split at hn <;> simp at hn
        · split at hn <;> simp at hn
    · rfl
  unfold nan rung at hn'
  rw [decide_eq_true_eq] at hn'
  rw [keyN_eq ha, keyN_eq (by decide), if_neg (show ¬ 9223372036854775808 ≤ 9218868437227405312 by decide), decide_eq_decide]
  split <;> omega
theorem kind_flip {b : Nat} (h : b < 18446744073709551616) : ∃ i j : Nat, kindN b = i ∧ kindN (flip b) = j ∧ i ≤ 6 ∧ (i = 0 ∧ j = 0 ∨ ¬ i = 0 ∧ ¬ j = 0 ∧ i + j = 7) := by
  unfold kindN
  rw [flip_nan h, flip_neg h, flip_rung h]
  cases nan b
  · cases neg b <;> by_cases hi : rung b = 9218868437227405312 <;> by_cases h0 : rung b = 0 <;> simp only [hi, h0, if_true, if_false, Bool.not_true, Bool.not_false, Bool.false_eq_true]
    all_goals first | exact ⟨1, 6, by decide⟩ | exact ⟨6, 1, by decide⟩ | exact ⟨3, 4, by decide⟩ | exact ⟨4, 3, by decide⟩ | exact ⟨2, 5, by decide⟩ | exact ⟨5, 2, by decide⟩
  · exact ⟨0, 0, rfl, rfl, by omega, .inl ⟨rfl, rfl⟩⟩
end Go.FL
