/-
  Plain law of binary numbers of 64 bits: their order is that of their rungs.
-/
import Derived.Laws.FloatBits
namespace Go.FL
open Ieee

theorem cmpL {a b : Int} (h : a < b) : compare a b = .lt := by simp [compare, compareOfLessAndEq, h]
theorem cmpG {a b : Int} (h : b < a) : compare a b = .gt := by
  have h1 : ¬ a < b := by omega
  have h2 : ¬ a = b := by omega
  simp [compare, compareOfLessAndEq, h1, h2]
theorem cmpE {a b : Int} (h : a = b) : compare a b = .eq := by subst h; simp [compare, compareOfLessAndEq]
def W52 : Nat := 4503599627370496
def W63 : Nat := 9223372036854775808
def INF : Nat := 9218868437227405312
def neg (b : Nat) : Bool := b / 9223372036854775808 % 2 == 1
def rung (b : Nat) : Nat := b % 9223372036854775808
def skey (b : Nat) : Int := if neg b then -(rung b : Int) else rung b
def nan (b : Nat) : Bool := decide (9218868437227405312 < rung b)

theorem read_eq (b : Nat) : double.read b =
    if rung b < 4503599627370496 then .number (neg b) (rung b) (-1074)
    else if rung b < 9218868437227405312 then .number (neg b) (4503599627370496 + rung b % 4503599627370496) (-1074 + (rung b / 4503599627370496 - 1 : Nat))
    else if rung b = 9218868437227405312 then .infinity (neg b) else .nan (neg b) (rung b - 9218868437227405312) := by
  have e1 : double.signWeight = 9223372036854775808 := by decide
  have e2 : double.binade = 4503599627370496 := by decide
  have e3 : double.infRung = 9218868437227405312 := by decide
  have e4 : double.leastPlace = -1074 := by decide
  unfold Format.read
  simp only [e1, e2, e3, e4, rung, neg]
  rfl

/-- What a rung stands for, in units of the least place. -/
def val (r : Nat) : Nat := if r < 4503599627370496 then r else (4503599627370496 + r % 4503599627370496) * 2 ^ (r / 4503599627370496 - 1)
def mag (r : Nat) : Nat := if r < 4503599627370496 then r else 4503599627370496 + r % 4503599627370496
def pl (r : Nat) : Nat := r / 4503599627370496 - 1
theorem val_eq (r : Nat) : val r = mag r * 2 ^ pl r := by
  unfold val mag pl
  split
  · rw [Nat.div_eq_of_lt (by assumption)]; simp
  · rfl
theorem read_fin {b : Nat} (h : rung b < 9218868437227405312) : double.read b = .number (neg b) (mag (rung b)) (-1074 + (pl (rung b) : Int)) := by
  rw [read_eq]
  unfold mag pl
  split
  · rename_i h1
    rw [Nat.div_eq_of_lt h1]; rfl
  · rfl
theorem val_mono {r s : Nat} (h : r < s) : val r < val s := by
  have step : ∀ r, val r < val (r + 1) := by
    intro r
    unfold val
    by_cases h1 : r + 1 < 4503599627370496
    · rw [if_pos h1, if_pos (by omega)]; omega
    · rw [if_neg h1]
      by_cases h2 : r < 4503599627370496
      · have : r + 1 = 4503599627370496 := by omega
        rw [if_pos h2, this]
        simp
        omega
      · rw [if_neg h2]
        by_cases h3 : r % 4503599627370496 + 1 < 4503599627370496
        · have e1 : (r + 1) % 4503599627370496 = r % 4503599627370496 + 1 := by omega
          have e2 : (r + 1) / 4503599627370496 = r / 4503599627370496 := by omega
          rw [e1, e2]
          exact Nat.mul_lt_mul_of_pos_right (by omega) (Nat.two_pow_pos _)
        · have e1 : (r + 1) % 4503599627370496 = 0 := by omega
          have e2 : (r + 1) / 4503599627370496 - 1 = (r / 4503599627370496 - 1) + 1 := by omega
          have e3 : r % 4503599627370496 = 4503599627370495 := by omega
          rw [e1, e2, e3, Nat.pow_succ]
          have := Nat.two_pow_pos (r / 4503599627370496 - 1)
          omega
  induction h with
  | refl => exact step r
  | step _ ih => exact Nat.lt_trans ih (step _)
theorem val_lt_iff {r s : Nat} : val r < val s ↔ r < s := by
  refine ⟨fun h => ?_, val_mono⟩
  rcases Nat.lt_trichotomy r s with h1 | h1 | h1
  · exact h1
  · subst h1; omega
  · have := val_mono h1; omega
theorem val_zero : val 0 = 0 := rfl

theorem signed_eq (n : Bool) (m up : Nat) : signed n m up = if n then -((m * 2 ^ up : Nat) : Int) else (m * 2 ^ up : Nat) := by
  unfold signed
  rw [Nat.shiftLeft_eq]
theorem cmp_scale (s t : Bool) (m n p q : Nat) : compare (signed s m (p - min p q)) (signed t n (q - min p q)) = compare (signed s m p) (signed t n q) := by
  obtain ⟨d, hd⟩ : ∃ d, d = min p q := ⟨_, rfl⟩
  have hp : p = p - min p q + d := by omega
  have hq : q = q - min p q + d := by omega
  generalize p - min p q = a at *
  generalize q - min p q = b at *
  subst hp; subst hq
  simp only [signed_eq, Nat.pow_add, ← Nat.mul_assoc]
  generalize m * 2 ^ a = x
  generalize n * 2 ^ b = y
  have hpos : 0 < 2 ^ d := Nat.two_pow_pos d
  have key : ∀ u v : Int, compare (u * (2 ^ d : Nat)) (v * (2 ^ d : Nat)) = compare u v := by
    intro u v
    have hp' : (0 : Int) < (2 ^ d : Nat) := by exact_mod_cast hpos
    rcases Int.lt_trichotomy u v with h | h | h
    · rw [cmpL h, cmpL (Int.mul_lt_mul_of_pos_right h hp')]
    · subst h; rw [cmpE rfl, cmpE rfl]
    · rw [cmpG h, cmpG (Int.mul_lt_mul_of_pos_right h hp')]
  have e : ∀ (c : Bool) (z : Nat), (if c then -((z * 2 ^ d : Nat) : Int) else (z * 2 ^ d : Nat)) = (if c then -(z : Int) else z) * (2 ^ d : Nat) := by
    intro c z
    cases c <;> simp [Int.neg_mul]
  rw [e, e, key]
theorem order_fin {x y : Nat} (hx : rung x < 9218868437227405312) (hy : rung y < 9218868437227405312) : double.order x y = some (compare (skey x) (skey y)) := by
  unfold Format.order
  rw [read_fin hx, read_fin hy]
  simp only [Datum.order]
  have e1 : (-1074 + (pl (rung x) : Int) - min (-1074 + (pl (rung x) : Int)) (-1074 + (pl (rung y) : Int))).toNat = pl (rung x) - min (pl (rung x)) (pl (rung y)) := by omega
  have e2 : (-1074 + (pl (rung y) : Int) - min (-1074 + (pl (rung x) : Int)) (-1074 + (pl (rung y) : Int))).toNat = pl (rung y) - min (pl (rung x)) (pl (rung y)) := by omega
  rw [e1, e2, cmp_scale, signed_eq, signed_eq, ← val_eq, ← val_eq]
  congr 1
  unfold skey
  generalize rung x = r
  generalize rung y = s
  have h1 := val_lt_iff (r := r) (s := s)
  have h2 := val_lt_iff (r := s) (s := r)
  have h3 : 0 < val r ↔ 0 < r := val_lt_iff (r := 0) (s := r)
  have h4 : 0 < val s ↔ 0 < s := val_lt_iff (r := 0) (s := s)
  generalize val r = vr at *
  generalize val s = vs at *
  have fin : ∀ a b c d : Int, (a < b ↔ c < d) → (b < a ↔ d < c) → compare a b = compare c d := by
    intro a b c d g1 g2
    rcases Int.lt_trichotomy a b with h | h | h
    · rw [cmpL h, cmpL (g1.1 h)]
    · have : c = d := by
        subst h
        have := mt g1.2 (Int.lt_irrefl a)
        have := mt g2.2 (Int.lt_irrefl a)
        omega
      rw [cmpE h, cmpE this]
    · rw [cmpG h, cmpG (g2.1 h)]
  apply fin <;> (cases neg x <;> cases neg y <;> simp <;> omega)
theorem order_eq {x y : Nat} (hx : nan x = false) (hy : nan y = false) : double.order x y = some (compare (skey x) (skey y)) := by
  simp only [nan, decide_eq_false_iff_not] at hx hy
  by_cases h1 : rung x < 9218868437227405312
  · by_cases h2 : rung y < 9218868437227405312
    · exact order_fin h1 h2
    · have e : rung y = 9218868437227405312 := by omega
      unfold Format.order
      rw [read_fin h1, read_eq y, if_neg (by omega), if_neg h2, if_pos e]
      simp only [Datum.order, skey, e]
      cases neg y
      · simp; symm; apply cmpL; split <;> omega
      · simp; symm; apply cmpG; split <;> omega
  · have e : rung x = 9218868437227405312 := by omega
    by_cases h2 : rung y < 9218868437227405312
    · unfold Format.order
      rw [read_fin h2, read_eq x, if_neg (by omega), if_neg h1, if_pos e]
      simp only [Datum.order, skey, e]
      cases neg x
      · simp; symm; apply cmpG; split <;> omega
      · simp; symm; apply cmpL; split <;> omega
    · have e' : rung y = 9218868437227405312 := by omega
      unfold Format.order
      rw [read_eq x, read_eq y, if_neg (by omega), if_neg h1, if_pos e, if_neg (by omega), if_neg h2, if_pos e']
      simp only [Datum.order, skey, e, e']
      cases neg x <;> cases neg y <;> rfl
theorem order_nan {x y : Nat} (h : nan x = true ∨ nan y = true) : double.order x y = none := by
  have hn : ∀ z, nan z = true → double.read z = .nan (neg z) (rung z - 9218868437227405312) := by
    intro z hz
    simp only [nan, decide_eq_true_eq] at hz
    rw [read_eq, if_neg (by omega), if_neg (by omega), if_neg (by omega)]
  unfold Format.order
  rcases h with h | h
  · rw [hn x h]; rfl
  · rw [hn y h]; cases double.read x <;> rfl
end Go.FL
