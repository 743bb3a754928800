/- Rules of numbers for the walk. -/
import Derived.Test.YtoiledoommblcaaGreatFL2
import Derived.Test.YtoiledoommblcaaGreatIdTx
namespace Go.FL
open Go Go.Idl
@[go_sem] theorem fl_lss (a b : Nat) : flbin .lss .f64 a b = some (.bool (flt a b)) := by
  have := ord_lt a b
  simp only [flbin, FloatKind.format, this]
@[go_sem] theorem fl_gtr (a b : Nat) : flbin .gtr .f64 a b = some (.bool (flt b a)) := by
  have := ord_gt a b
  simp only [flbin, FloatKind.format, this]
@[go_sem] theorem fl_eql (a b : Nat) : flbin .eql .f64 a b = some (.bool (feq a b)) := by
  have := ord_eq a b
  simp only [flbin, FloatKind.format, this]
@[go_sem] theorem fl_neq (a b : Nat) : flbin .neq .f64 a b = some (.bool !(feq a b)) := by
  have := ord_eq a b
  simp only [flbin, FloatKind.format, bne, this]
@[go_sem] theorem fl_leq (a b : Nat) : flbin .leq .f64 a b = some (.bool (flt a b || feq a b)) := by
  have := ord_eq a b
  have := ord_lt a b
  simp only [flbin, FloatKind.format, *]
@[go_sem] theorem fl_geq (a b : Nat) : flbin .geq .f64 a b = some (.bool (flt b a || feq a b)) := by
  have := ord_eq a b
  have := ord_gt a b
  simp only [flbin, FloatKind.format, *]
@[go_sem] theorem neg_f64 (b : Nat) : Op.negFloat .f64 b = flip b := by
  simp only [Op.negFloat, FloatKind.format]
  rfl
theorem flt_maxf {b : Nat} (h : b < 18446744073709551616) : flt 9218868437227405311 (flip b) = (neg b && decide (rung b = 9218868437227405312)) := by
  rw [flt_max, flip_neg h, flip_rung h, Bool.not_not]
theorem wrap_bits {b : Nat} (h : b < 18446744073709551616) : decide (IntKind.i64.wrap (b : Int) < 0) = neg b := by
  rw [neg_iff h, Bool.eq_iff_iff]
  simp only [decide_eq_true_eq]
  rw [IntKind.wrap_i64]; omega
end Go.FL
namespace Go.FL
open Go Go.Idl
theorem tmodN (b c : Nat) : (b : Int).tmod (c : Int) = ((b % c : Nat) : Int) := rfl
theorem tdivN (b c : Nat) : (b : Int).tdiv (c : Int) = ((b / c : Nat) : Int) := rfl
theorem tmodL (b : Nat) : (b : Int).tmod 4503599627370496 = ((b % 4503599627370496 : Nat) : Int) := (rfl)
theorem tdivL (b : Nat) : (b : Int).tdiv 4503599627370496 = ((b / 4503599627370496 : Nat) : Int) := (rfl)
theorem tmodK (b : Nat) : (b : Int).tmod 2048 = ((b % 2048 : Nat) : Int) := (rfl)
theorem w64u {n : Nat} (h : n < 18446744073709551616) : IntKind.u64.wrap (n : Int) = n := by rw [IntKind.wrap_u64]; omega
theorem fdiv63 (b : Nat) : (b : Int).fdiv (2 ^ min 63 64) = ((b / 9223372036854775808 : Nat) : Int) := by
  have e : (2 : Int) ^ min 63 64 = ((9223372036854775808 : Nat) : Int) := by decide
  rw [e, Int.fdiv_eq_ediv_of_nonneg _ (by omega)]; rfl
theorem nan_parts (b : Nat) : nan b = decide (b / 4503599627370496 % 2048 = 2047 ∧ ¬ b % 4503599627370496 = 0) := by
  unfold nan rung
  rw [decide_eq_decide]
  omega
theorem inf_parts (b : Nat) : (rung b = 9218868437227405312) = (b / 4503599627370496 % 2048 = 2047 ∧ b % 4503599627370496 = 0) := by
  unfold rung
  rw [eq_iff_iff]
  omega
theorem zero_parts (b : Nat) : (rung b = 0) = (b / 4503599627370496 % 2048 = 0 ∧ b % 4503599627370496 = 0) := by
  unfold rung
  rw [eq_iff_iff]
  omega
@[go_sem] theorem un_xor_u64 (n : Int) : bits .xor .u64 (if IntKind.u64.signed = true then -1 else IntKind.u64.max) n = bits .xor .u64 18446744073709551615 n := (rfl)
theorem xor_all {b : Nat} (h : b < 18446744073709551616) : bits .xor .u64 18446744073709551615 (b : Int) = ((18446744073709551615 - b : Nat) : Int) := by
  rw [← not64 h]; exact bits_xor_u64_nat 18446744073709551615 b (by decide) h
theorem or_top {b : Nat} (h : b < 9223372036854775808) : bits .or .u64 (b : Int) 9223372036854775808 = ((b + 9223372036854775808 : Nat) : Int) := by
  rw [← or_hi h]; exact bits_or_u64_nat b 9223372036854775808 (by omega) (by decide)
theorem xor_top {b : Nat} (h : b < 18446744073709551616) : bits .xor .u64 (b : Int) 9223372036854775808 = ((flip b : Nat) : Int) :=
  bits_xor_u64_nat b 9223372036854775808 h (by decide)
end Go.FL
