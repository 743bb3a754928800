/- Quotients of whole numbers as doubles: they grow with the ratio. -/
import Derived.Test.YtkbbafmaddkehaaFL5
namespace Go.FL
open Go Go.Idl Ieee
/-- p by q, to the nearest whole number, a half to the even one. -/
def RN (p q : Nat) : Nat := p / q + if q < 2 * (p % q) ∨ (q = 2 * (p % q) ∧ p / q % 2 = 1) then 1 else 0
theorem RN_parts {q : Nat} (w r : Nat) (hr : r < q) : RN (q * w + r) q = w + if q < 2 * r ∨ (q = 2 * r ∧ w % 2 = 1) then 1 else 0 := by
  have h1 : (q * w + r) / q = w := by rw [Nat.mul_add_div (by omega), Nat.div_eq_of_lt hr, Nat.add_zero]
  have h2 : (q * w + r) % q = r := by rw [Nat.mul_add_mod, Nat.mod_eq_of_lt hr]
  unfold RN
  rw [h1, h2]
theorem RN_mono {p q p' q' : Nat} (hq : 0 < q) (hq' : 0 < q') (h : p * q' ≤ p' * q) : RN p q ≤ RN p' q' := by
  have e := Nat.div_add_mod p q
  have e' := Nat.div_add_mod p' q'
  have l := Nat.mod_lt p hq
  have l' := Nat.mod_lt p' hq'
  rw [← e, ← e', RN_parts _ _ l, RN_parts _ _ l']
  rw [← e, ← e'] at h
  generalize p / q = a at *
  generalize p' / q' = b at *
  generalize p % q = r at *
  generalize p' % q' = r' at *
  clear e e'
  have hab : a ≤ b := by
    rcases Nat.lt_or_ge b a with hc | hc
    · exfalso
      have h1 : (q' * b + r') * q < (q' * (b + 1)) * q := Nat.mul_lt_mul_of_pos_right (by rw [Nat.mul_add]; omega) hq
      have h2 : (q' * (b + 1)) * q ≤ (q * a + r) * q' := by
        have : q' * (b + 1) * q ≤ q * a * q' := by
          rw [Nat.mul_comm q' (b + 1), Nat.mul_assoc, Nat.mul_comm q a, Nat.mul_assoc, Nat.mul_comm q' q]
          exact Nat.mul_le_mul_right _ hc
        exact Nat.le_trans this (Nat.mul_le_mul_right _ (Nat.le_add_right _ _))
      omega
    · exact hc
  rcases Nat.lt_or_ge a b with hc | hc
  · split <;> split <;> omega
  · obtain rfl : a = b := by omega
    have h3 : r * q' ≤ r' * q := by
      rw [Nat.add_mul, Nat.add_mul, Nat.mul_comm q' a, Nat.mul_comm q a, Nat.mul_assoc, Nat.mul_assoc, Nat.mul_comm q' q] at h
      omega
    by_cases c1 : q < 2 * r
    · have : q * q' < 2 * r' * q := Nat.lt_of_lt_of_le (Nat.mul_lt_mul_of_pos_right c1 hq') (by rw [Nat.mul_assoc, Nat.mul_assoc]; exact Nat.mul_le_mul_left _ h3)
      have : q' < 2 * r' := by
        rw [Nat.mul_comm q q'] at this
        exact Nat.lt_of_mul_lt_mul_right this
      rw [if_pos (.inl c1), if_pos (.inl this)]
      exact Nat.le_refl _
    · by_cases c2 : q = 2 * r ∧ a % 2 = 1
      · have : q' * q ≤ 2 * r' * q := by
          rw [Nat.mul_comm q' q]
          calc q * q' = 2 * r * q' := by rw [← c2.1]
            _ ≤ 2 * r' * q := by rw [Nat.mul_assoc, Nat.mul_assoc]; exact Nat.mul_le_mul_left _ h3
        have h4 : q' ≤ 2 * r' := Nat.le_of_mul_le_mul_right this hq
        have h5 : q' < 2 * r' ∨ q' = 2 * r' ∧ a % 2 = 1 := by
          rcases Nat.lt_or_ge q' (2 * r') with h6 | h6
          · exact .inl h6
          · exact .inr ⟨by omega, c2.2⟩
        rw [if_pos (.inr c2), if_pos h5]
        exact Nat.le_refl _
      · rw [if_neg (by rintro (h | h); exact c1 h; exact c2 h)]
        omega
theorem cut_even (s : Bool) (Q D : Nat) (hD : D ≤ Q.log2 + 2) : Toward.even.cut s Q D = RN Q (2 ^ D) := by
  unfold Toward.cut RN
  rw [Nat.min_eq_left hD, Nat.one_shiftLeft]
  dsimp only
  congr 1
  by_cases h1 : 2 ^ D < 2 * (Q % 2 ^ D)
  · simp [h1]
  · by_cases h2 : 2 ^ D = 2 * (Q % 2 ^ D)
    · by_cases h3 : Q / 2 ^ D % 2 = 1
      · simp [h1, ← h2, h3]
      · have h4 : Q / 2 ^ D % 2 = 0 := by omega
        simp [h1, ← h2, h3, h4]
    · have h5 : (2 ^ D == 2 * (Q % 2 ^ D)) = false := by simp [h2]
      simp [h1, h2, h5]
theorem RN_sticky {A n g : Nat} (hn : 0 < n) (hg : g = 2 ∨ g = 4) : RN (2 * (A / n) + (A % n != 0).toNat) (2 * g) = RN A (n * g) := by
  have e := Nat.div_add_mod A n
  have l := Nat.mod_lt A hn
  have hs : (A % n != 0).toNat = if A % n = 0 then 0 else 1 := by by_cases h : A % n = 0 <;> simp [h]
  rw [hs]
  generalize A / n = h at *
  generalize A % n = r at *
  subst e
  have e2 := Nat.div_add_mod h g
  have l2 : h % g < g := Nat.mod_lt h (by omega)
  generalize h / g = w at *
  generalize h % g = u at *
  subst e2
  have a1 : 2 * (g * w + u) + (if r = 0 then 0 else 1) = (2 * g) * w + (2 * u + if r = 0 then 0 else 1) := by rw [Nat.mul_add, Nat.mul_assoc, Nat.add_assoc]
  have a2 : n * (g * w + u) + r = (n * g) * w + (n * u + r) := by rw [Nat.mul_add, Nat.mul_assoc, Nat.add_assoc]
  rw [a1, a2, RN_parts _ _ (by split <;> omega), RN_parts]
  · congr 1
    have key : (2 * g < 2 * (2 * u + if r = 0 then 0 else 1) ∨ 2 * g = 2 * (2 * u + if r = 0 then 0 else 1) ∧ w % 2 = 1) ↔ (n * g < 2 * (n * u + r) ∨ n * g = 2 * (n * u + r) ∧ w % 2 = 1) := by
      rcases hg with rfl | rfl
      · have : u = 0 ∨ u = 1 := by omega
        rcases this with rfl | rfl <;> split <;> omega
      · have : u = 0 ∨ u = 1 ∨ u = 2 ∨ u = 3 := by omega
        rcases this with rfl | rfl | rfl | rfl <;> split <;> omega
    simp only [key]
  · rcases hg with rfl | rfl
    · have : u = 0 ∨ u = 1 := by omega
      rcases this with rfl | rfl <;> omega
    · have : u = 0 ∨ u = 1 ∨ u = 2 ∨ u = 3 := by omega
      rcases this with rfl | rfl | rfl | rfl <;> omega
/-! ### whole numbers -/
theorem log_lo {x : Nat} (hx : 0 < x) : 2 ^ x.log2 ≤ x := Nat.log2_self_le (by omega)
theorem log_hi (x : Nat) : x < 2 ^ (x.log2 + 1) := Nat.lt_log2_self
theorem log_is {x k : Nat} (h1 : 2 ^ k ≤ x) (h2 : x < 2 ^ (k + 1)) : x.log2 = k := by
  have h0 : x ≠ 0 := by have := Nat.two_pow_pos k; omega
  have a : k ≤ x.log2 := (Nat.le_log2 h0).2 h1
  have b : x.log2 < k + 1 := (Nat.log2_lt h0).2 h2
  omega
theorem log_53 {x : Nat} (hx : 0 < x) (h : x < 9007199254740992) : x.log2 ≤ 52 := by
  have : x.log2 < 53 := (Nat.log2_lt (by omega)).2 h
  omega
/-- Made 53 digits long. -/
def mN (x : Nat) : Nat := x * 2 ^ (52 - x.log2)
theorem mN_bd {x : Nat} (hx : 0 < x) (h : x < 9007199254740992) : 4503599627370496 ≤ mN x ∧ mN x < 9007199254740992 := by
  have hl := log_53 hx h
  have a := log_lo hx
  have b := log_hi x
  unfold mN
  constructor
  · calc 4503599627370496 = 2 ^ x.log2 * 2 ^ (52 - x.log2) := by rw [← Nat.pow_add, show x.log2 + (52 - x.log2) = 52 by omega]
      _ ≤ _ := Nat.mul_le_mul_right _ a
  · calc x * 2 ^ (52 - x.log2) < 2 ^ (x.log2 + 1) * 2 ^ (52 - x.log2) := Nat.mul_lt_mul_of_pos_right b (Nat.two_pow_pos _)
      _ = 9007199254740992 := by rw [← Nat.pow_add, show x.log2 + 1 + (52 - x.log2) = 53 by omega]
theorem consts : double.leastPlace = -1074 ∧ double.binade = 4503599627370496 ∧ double.infRung = 9218868437227405312 ∧ double.signWeight = 9223372036854775808 ∧ double.fractionBits = 52 := by decide
theorem word_read {s : Bool} {e M : Nat} (h1 : 4503599627370496 ≤ M) (h2 : M < 9007199254740992) (he : 1 ≤ e) (he2 : e ≤ 2000) :
    double.read (double.word s ((e - 1) * 4503599627370496 + M)) = .number s M (-1074 + ((e - 1 : Nat) : Int)) := by
  obtain ⟨c1, c2, c3, c4, c5⟩ := consts
  have hr : rung (double.word s ((e - 1) * 4503599627370496 + M)) = (e - 1) * 4503599627370496 + M := by
    unfold Format.word rung; rw [c4]; split <;> omega
  have hn : neg (double.word s ((e - 1) * 4503599627370496 + M)) = s := by
    unfold Format.word neg; rw [c4]
    cases s
    · rw [if_neg (by decide), Nat.div_eq_of_lt (by omega)]; rfl
    · rw [if_pos rfl, show (9223372036854775808 + ((e - 1) * 4503599627370496 + M)) / 9223372036854775808 = 1 by omega]; rfl
  rw [read_fin (by rw [hr]; omega), hr, hn]
  have hm : mag ((e - 1) * 4503599627370496 + M) = M := by unfold mag; rw [if_neg (by omega)]; omega
  have hp : pl ((e - 1) * 4503599627370496 + M) = e - 1 := by unfold pl; omega
  rw [hm, hp]
theorem near_read {x : Nat} (hx : 0 < x) (h : x < 9007199254740992) (s : Bool) : double.read (double.nearest s x 0) = .number s (mN x) ((x.log2 : Int) - 52) := by
  obtain ⟨c1, c2, c3, c4, c5⟩ := consts
  have hl := log_53 hx h
  obtain ⟨b1, b2⟩ := mN_bd hx h
  have : double.nearest s x 0 = double.word s ((x.log2 + 1023 - 1) * 4503599627370496 + mN x) := by
    unfold Format.nearest
    rw [if_neg (by omega), c1, c2, c3, c5]
    have e1 : max ((0 : Int) + (x.log2 : Int) - (52 : Nat)) (-1074) = (x.log2 : Int) - 52 := by omega
    simp only [e1]
    have e2 : ((0 : Int) - ((x.log2 : Int) - 52)).toNat = 52 - x.log2 := by omega
    have e3 : ((x.log2 : Int) - 52 - 0).toNat = 0 := by omega
    have e4 : ((x.log2 : Int) - 52 - -1074).toNat = x.log2 + 1023 - 1 := by omega
    rw [e2, e3, e4, Nat.shiftLeft_eq, cut_even _ _ _ (by omega)]
    have e5 : RN (x * 2 ^ (52 - x.log2)) (2 ^ 0) = mN x := by
      unfold RN mN
      simp [Nat.mod_one]
    rw [e5, Nat.min_eq_left (by omega)]
  rw [this, word_read b1 b2 (by omega) (by omega)]
  rw [show (-1074 + ((x.log2 + 1023 - 1 : Nat) : Int)) = (x.log2 : Int) - 52 by omega]
/-- One digit less where the first one is less. -/
def eE (x y : Nat) : Nat := if mN x < mN y then 1 else 0
def rq (x y : Nat) : Nat := (x.log2 + 1022 - (y.log2 + eE x y)) * 4503599627370496 + RN (mN x * 18014398509481984) (mN y * 2 ^ (2 - eE x y))
theorem RN_bd {x y : Nat} (hx : 0 < x) (h : x < 9007199254740992) (hy : 0 < y) (h' : y < 9007199254740992) :
    4503599627370496 ≤ RN (mN x * 18014398509481984) (mN y * 2 ^ (2 - eE x y)) ∧ RN (mN x * 18014398509481984) (mN y * 2 ^ (2 - eE x y)) ≤ 9007199254740992 := by
  obtain ⟨b1, b2⟩ := mN_bd hx h
  obtain ⟨b3, b4⟩ := mN_bd hy h'
  unfold eE
  generalize mN x = m at *
  generalize mN y = n at *
  have r1 : RN 4503599627370496 1 = 4503599627370496 := by decide
  have r2 : RN 9007199254740992 1 = 9007199254740992 := by decide
  by_cases hc : m < n
  · rw [if_pos hc]
    constructor
    · rw [← r1]; apply RN_mono <;> omega
    · rw [← r2]; apply RN_mono <;> omega
  · rw [if_neg hc]
    constructor
    · rw [← r1]; apply RN_mono <;> omega
    · rw [← r2]; apply RN_mono <;> omega
set_option maxHeartbeats 600000 in
theorem div_val {x y : Nat} (hx : 0 < x) (h : x < 9007199254740992) (hy : 0 < y) (h' : y < 9007199254740992) (s t : Bool) :
    double.div (double.nearest s x 0) (double.nearest t y 0) = some (double.word (s ^^ t) (rq x y)) := by
  obtain ⟨c1, c2, c3, c4, c5⟩ := consts
  obtain ⟨b1, b2⟩ := mN_bd hx h
  obtain ⟨b3, b4⟩ := mN_bd hy h'
  have lx := log_53 hx h
  have ly := log_53 hy h'
  obtain ⟨k1, k2⟩ := RN_bd hx h hy h'
  unfold Format.div
  rw [near_read hx h, near_read hy h', c5]
  have lm : (mN x).log2 = 52 := log_is (by omega) (by omega)
  have ln : (mN y).log2 = 52 := log_is (by omega) (by omega)
  simp only [Datum.quotient]
  rw [if_neg (by omega), lm, ln, Option.map_some]
  refine congrArg some ?_
  simp only [Format.write, Nat.shiftLeft_eq]
  rw [show 2 ^ (52 + 2 + 52 - 52) = 18014398509481984 by decide]
  unfold rq
  generalize hQ : 2 * (mN x * 18014398509481984 / mN y) + (mN x * 18014398509481984 % mN y != 0).toNat = Q
  have hb : (mN x * 18014398509481984 % mN y != 0).toNat ≤ 1 := Bool.toNat_le _
  have hd := Nat.div_add_mod (mN x * 18014398509481984) (mN y)
  have hl := Nat.mod_lt (mN x * 18014398509481984) (show 0 < mN y by omega)
  have hE : eE x y = if mN x < mN y then 1 else 0 := rfl
  have hQ2 : 2 ^ (55 - eE x y) ≤ Q ∧ Q < 2 ^ (55 - eE x y + 1) ∧ eE x y ≤ 1 ∧ RN Q (2 ^ (3 - eE x y)) = RN (mN x * 18014398509481984) (mN y * 2 ^ (2 - eE x y)) := by
    rw [hE]
    by_cases hc : mN x < mN y
    · rw [if_pos hc]
      have q1 : 9007199254740992 ≤ mN x * 18014398509481984 / mN y := (Nat.le_div_iff_mul_le (by omega)).2 (by omega)
      have q2 : mN x * 18014398509481984 / mN y < 18014398509481984 := (Nat.div_lt_iff_lt_mul (by omega)).2 (by omega)
      refine ⟨by omega, by omega, by omega, ?_⟩
      rw [← hQ]
      exact RN_sticky (g := 2) (by omega) (.inl rfl)
    · rw [if_neg hc]
      have q1 : 18014398509481984 ≤ mN x * 18014398509481984 / mN y := (Nat.le_div_iff_mul_le (by omega)).2 (by omega)
      have q2 : mN x * 18014398509481984 / mN y < 36028797018963968 := (Nat.div_lt_iff_lt_mul (by omega)).2 (by omega)
      refine ⟨by omega, by omega, by omega, ?_⟩
      rw [← hQ]
      exact RN_sticky (g := 4) (by omega) (.inr rfl)
  obtain ⟨g1, g2, g3, g4⟩ := hQ2
  have lq : Q.log2 = 55 - eE x y := log_is g1 g2
  have hQ0 : Q ≠ 0 := by have := Nat.two_pow_pos (55 - eE x y); omega
  rw [← g4] at k1 k2 ⊢
  clear hQ hb hd hl hE g1 g2 g4
  unfold Format.nearest
  rw [if_neg hQ0, c1, c2, c3, c5, lq]
  have e1 : max ((x.log2 : Int) - 52 - ((y.log2 : Int) - 52) - ((52 + 2 + 52 - 52 : Nat) : Int) - 1 + ((55 - eE x y : Nat) : Int) - (52 : Nat)) (-1074) = (x.log2 : Int) - y.log2 - eE x y - 52 := by omega
  simp only [e1]
  have e2 : ((x.log2 : Int) - 52 - ((y.log2 : Int) - 52) - ((52 + 2 + 52 - 52 : Nat) : Int) - 1 - ((x.log2 : Int) - y.log2 - eE x y - 52)).toNat = 0 := by omega
  have e3 : ((x.log2 : Int) - y.log2 - eE x y - 52 - ((x.log2 : Int) - 52 - ((y.log2 : Int) - 52) - ((52 + 2 + 52 - 52 : Nat) : Int) - 1)).toNat = 3 - eE x y := by omega
  have e4 : ((x.log2 : Int) - y.log2 - eE x y - 52 - -1074).toNat = x.log2 + 1022 - (y.log2 + eE x y) := by omega
  rw [e2, e3, e4, Nat.shiftLeft_zero, cut_even _ _ _ (by omega), Nat.min_eq_left (by omega)]
/-- The exponent of a ratio, made positive: x lies between y times two to it and twice that. -/
theorem eE_le (x y : Nat) : eE x y ≤ 1 := by unfold eE; split <;> omega
theorem ratio_lo {x y : Nat} (hx : 0 < x) (h : x < 9007199254740992) (hy : 0 < y) (h' : y < 9007199254740992) :
    y * 2 ^ (x.log2 + 60 - (y.log2 + eE x y)) ≤ x * 2 ^ 60 ∧ x * 2 ^ 60 < y * 2 ^ (x.log2 + 61 - (y.log2 + eE x y)) := by
  have lx := log_53 hx h
  have ly := log_53 hy h'
  have hE := eE_le x y
  have key : ∀ p q : Nat, p * 2 ^ (52 - x.log2) * 2 ^ (52 - y.log2) ≤ q * 2 ^ (52 - x.log2) * 2 ^ (52 - y.log2) → p ≤ q := fun p q hh => Nat.le_of_mul_le_mul_right (Nat.le_of_mul_le_mul_right hh (Nat.two_pow_pos _)) (Nat.two_pow_pos _)
  have key2 : ∀ p q : Nat, p * 2 ^ (52 - x.log2) * 2 ^ (52 - y.log2) < q * 2 ^ (52 - x.log2) * 2 ^ (52 - y.log2) → p < q := fun p q hh => Nat.lt_of_mul_lt_mul_right (Nat.lt_of_mul_lt_mul_right hh)
  have a1 : ∀ k, y * 2 ^ k * 2 ^ (52 - x.log2) * 2 ^ (52 - y.log2) = mN y * 2 ^ (k + (52 - x.log2)) := by
    intro k; unfold mN; rw [Nat.pow_add]; simp only [Nat.mul_assoc, Nat.mul_comm, Nat.mul_left_comm]
  have a2 : x * 2 ^ 60 * 2 ^ (52 - x.log2) * 2 ^ (52 - y.log2) = mN x * 2 ^ (60 + (52 - y.log2)) := by
    unfold mN; rw [Nat.pow_add]; simp only [Nat.mul_assoc, Nat.mul_comm, Nat.mul_left_comm]
  obtain ⟨b1, b2⟩ := mN_bd hx h
  obtain ⟨b3, b4⟩ := mN_bd hy h'
  constructor
  · apply key
    rw [a1, a2]
    by_cases hc : mN x < mN y
    · have : eE x y = 1 := by unfold eE; rw [if_pos hc]
      rw [this, show 60 + (52 - y.log2) = (x.log2 + 60 - (y.log2 + 1) + (52 - x.log2)) + 1 by omega, Nat.pow_succ, ← Nat.mul_assoc, Nat.mul_right_comm]
      exact Nat.mul_le_mul_right _ (by omega)
    · have : eE x y = 0 := by unfold eE; rw [if_neg hc]
      rw [this, show 60 + (52 - y.log2) = (x.log2 + 60 - (y.log2 + 0) + (52 - x.log2)) by omega]
      exact Nat.mul_le_mul_right _ (by omega)
  · apply key2
    rw [a1, a2]
    by_cases hc : mN x < mN y
    · have : eE x y = 1 := by unfold eE; rw [if_pos hc]
      rw [this, show 60 + (52 - y.log2) = (x.log2 + 61 - (y.log2 + 1) + (52 - x.log2)) by omega]
      exact Nat.mul_lt_mul_of_pos_right hc (Nat.two_pow_pos _)
    · have : eE x y = 0 := by unfold eE; rw [if_neg hc]
      rw [this, show (x.log2 + 61 - (y.log2 + 0) + (52 - x.log2)) = 60 + (52 - y.log2) + 1 by omega, Nat.pow_succ, ← Nat.mul_assoc, Nat.mul_right_comm]
      exact Nat.mul_lt_mul_of_pos_right (by omega) (Nat.two_pow_pos _)
theorem rq_mono {x y x' y' : Nat} (hx : 0 < x) (h : x < 9007199254740992) (hy : 0 < y) (h' : y < 9007199254740992)
    (gx : 0 < x') (g : x' < 9007199254740992) (gy : 0 < y') (g' : y' < 9007199254740992) (hr : x * y' ≤ x' * y) : rq x y ≤ rq x' y' := by
  have lx := log_53 hx h
  have ly := log_53 hy h'
  have lx' := log_53 gx g
  have ly' := log_53 gy g'
  have hE := eE_le x y
  have hE' := eE_le x' y'
  obtain ⟨k1, k2⟩ := RN_bd hx h hy h'
  obtain ⟨k3, k4⟩ := RN_bd gx g gy g'
  obtain ⟨r1, r2⟩ := ratio_lo hx h hy h'
  obtain ⟨r3, r4⟩ := ratio_lo gx g gy g'
  have he : x.log2 + 60 - (y.log2 + eE x y) ≤ x'.log2 + 60 - (y'.log2 + eE x' y') := by
    rcases Nat.lt_or_ge (x'.log2 + 60 - (y'.log2 + eE x' y')) (x.log2 + 60 - (y.log2 + eE x y)) with hc | hc
    · exfalso
      have s1 : y * (x' * 2 ^ 60) < y * (y' * 2 ^ (x'.log2 + 61 - (y'.log2 + eE x' y'))) := Nat.mul_lt_mul_of_pos_left r4 hy
      have s2 : y * (y' * 2 ^ (x'.log2 + 61 - (y'.log2 + eE x' y'))) ≤ y' * (y * 2 ^ (x.log2 + 60 - (y.log2 + eE x y))) := by
        rw [Nat.mul_left_comm]
        exact Nat.mul_le_mul_left _ (Nat.mul_le_mul_left _ (Nat.pow_le_pow_right (by decide) (by omega)))
      have s3 : y' * (y * 2 ^ (x.log2 + 60 - (y.log2 + eE x y))) ≤ y' * (x * 2 ^ 60) := Nat.mul_le_mul_left _ r1
      have s4 : y' * (x * 2 ^ 60) ≤ y * (x' * 2 ^ 60) := by
        rw [← Nat.mul_assoc, ← Nat.mul_assoc, Nat.mul_comm y' x, Nat.mul_comm y x']
        exact Nat.mul_le_mul_right _ hr
      omega
    · exact hc
  unfold rq
  rcases Nat.lt_or_ge (x.log2 + 60 - (y.log2 + eE x y)) (x'.log2 + 60 - (y'.log2 + eE x' y')) with hc | hc
  · omega
  · have hq : x.log2 + 60 - (y.log2 + eE x y) = x'.log2 + 60 - (y'.log2 + eE x' y') := by omega
    have : RN (mN x * 18014398509481984) (mN y * 2 ^ (2 - eE x y)) ≤ RN (mN x' * 18014398509481984) (mN y' * 2 ^ (2 - eE x' y')) := by
      have c54 : (18014398509481984 : Nat) = 2 ^ 54 := by decide
      obtain ⟨b3, b4⟩ := mN_bd hy h'
      obtain ⟨b5, b6⟩ := mN_bd gy g'
      apply RN_mono
      · exact Nat.mul_pos (by omega) (Nat.two_pow_pos _)
      · exact Nat.mul_pos (by omega) (Nat.two_pow_pos _)
      · rw [c54]
        unfold mN
        have t1 : x * 2 ^ (52 - x.log2) * 2 ^ 54 * (y' * 2 ^ (52 - y'.log2) * 2 ^ (2 - eE x' y')) = (x * y') * 2 ^ ((52 - x.log2) + 54 + (52 - y'.log2) + (2 - eE x' y')) := by
          rw [Nat.pow_add, Nat.pow_add, Nat.pow_add]; simp only [Nat.mul_assoc, Nat.mul_comm, Nat.mul_left_comm]
        have t2 : x' * 2 ^ (52 - x'.log2) * 2 ^ 54 * (y * 2 ^ (52 - y.log2) * 2 ^ (2 - eE x y)) = (x' * y) * 2 ^ ((52 - x'.log2) + 54 + (52 - y.log2) + (2 - eE x y)) := by
          rw [Nat.pow_add, Nat.pow_add, Nat.pow_add]; simp only [Nat.mul_assoc, Nat.mul_comm, Nat.mul_left_comm]
        rw [t1, t2, show (52 - x.log2) + 54 + (52 - y'.log2) + (2 - eE x' y') = (52 - x'.log2) + 54 + (52 - y.log2) + (2 - eE x y) by omega]
        exact Nat.mul_le_mul_right _ hr
    omega
theorem rq_eq {x y x' y' : Nat} (hx : 0 < x) (h : x < 9007199254740992) (hy : 0 < y) (h' : y < 9007199254740992)
    (gx : 0 < x') (g : x' < 9007199254740992) (gy : 0 < y') (g' : y' < 9007199254740992) (hr : x * y' = x' * y) : rq x y = rq x' y' :=
  Nat.le_antisymm (rq_mono hx h hy h' gx g gy g' (Nat.le_of_eq hr)) (rq_mono gx g gy g' hx h hy h' (Nat.le_of_eq hr.symm))
theorem nearest_int (n : Int) : FloatKind.f64.nearest n = double.nearest (decide (n < 0)) n.natAbs 0 := (rfl)
theorem word_lt (s : Bool) {r : Nat} (h : r ≤ 9218868437227405312) : double.word s r < 18446744073709551616 := by
  unfold Format.word
  rw [consts.2.2.2.1]
  split <;> omega
theorem rq_lt {x y : Nat} (hx : 0 < x) (h : x < 9007199254740992) (hy : 0 < y) (h' : y < 9007199254740992) : rq x y ≤ 9218868437227405312 := by
  obtain ⟨k1, k2⟩ := RN_bd hx h hy h'
  have lx := log_53 hx h
  unfold rq
  omega
theorem quo_int {p q : Int} (hp : p ≠ 0) (hq : q ≠ 0) (h : p.natAbs < 9007199254740992) (h' : q.natAbs < 9007199254740992) :
    flarith .quo (FloatKind.f64.nearest p) (FloatKind.f64.nearest q) = some (double.word (decide (p < 0) ^^ decide (q < 0)) (rq p.natAbs q.natAbs)) := by
  rw [nearest_int, nearest_int]
  exact div_val (by omega) h (by omega) h' _ _
theorem quo_zero {q : Int} (hq : q ≠ 0) (h' : q.natAbs < 9007199254740992) :
    flarith .quo (FloatKind.f64.nearest 0) (FloatKind.f64.nearest q) = some (double.word (decide (q < 0)) 0) := by
  have e0 : FloatKind.f64.nearest 0 = 0 := by decide
  have e1 : double.read 0 = .number false 0 (-1074) := by decide
  rw [e0, nearest_int]
  show double.div 0 _ = _
  obtain ⟨b1, b2⟩ := mN_bd (x := q.natAbs) (by omega) h'
  unfold Format.div
  rw [near_read (by omega) h', e1]
  simp only [Datum.quotient]
  rw [if_neg (by omega), Option.map_some]
  refine congrArg some ?_
  simp only [Format.write, Nat.zero_shiftLeft, Nat.zero_div, Nat.zero_mod, Nat.mul_zero, bne_self_eq_false, Bool.toNat_false, Nat.add_zero, Bool.false_xor]
  unfold Format.nearest
  rw [if_pos rfl]
/-- A half of an odd number. -/
theorem half_ok {k : Nat} (h : k < 8) : ∃ v, flarith .quo (FloatKind.f64.nearest (2 * (k : Int) + 3)) (FloatKind.f64.nearest 2) = some v ∧ v < 18446744073709551616 ∧ capN v = ((k : Int) + 1, 0) := by
  have hk : k = 0 ∨ k = 1 ∨ k = 2 ∨ k = 3 ∨ k = 4 ∨ k = 5 ∨ k = 6 ∨ k = 7 := by omega
  have key : ∀ (c v : Nat), FloatKind.f64.nearest (2 * (k : Int) + 3) = c → double.div c 4611686018427387904 = some v → v < 18446744073709551616 → capN v = ((k : Int) + 1, 0) →
      ∃ v, flarith .quo (FloatKind.f64.nearest (2 * (k : Int) + 3)) (FloatKind.f64.nearest 2) = some v ∧ v < 18446744073709551616 ∧ capN v = ((k : Int) + 1, 0) := by
    intro c v h1 h2 h3 h4
    have e : FloatKind.f64.nearest 2 = 4611686018427387904 := by decide
    rw [h1, e]
    exact ⟨v, h2, h3, h4⟩
  rcases hk with rfl | rfl | rfl | rfl | rfl | rfl | rfl | rfl
  · exact key 4613937818241073152 4609434218613702656 (by decide) (by decide) (by decide) (by decide)
  · exact key 4617315517961601024 4612811918334230528 (by decide) (by decide) (by decide) (by decide)
  · exact key 4619567317775286272 4615063718147915776 (by decide) (by decide) (by decide) (by decide)
  · exact key 4621256167635550208 4616752568008179712 (by decide) (by decide) (by decide) (by decide)
  · exact key 4622382067542392832 4617878467915022336 (by decide) (by decide) (by decide) (by decide)
  · exact key 4623507967449235456 4619004367821864960 (by decide) (by decide) (by decide) (by decide)
  · exact key 4624633867356078080 4620130267728707584 (by decide) (by decide) (by decide) (by decide)
  · exact key 4625478292286210048 4620974692658839552 (by decide) (by decide) (by decide) (by decide)
theorem and7 (x : Int) : ∃ k : Nat, bits .and .i64 x 7 = (k : Int) ∧ k < 8 := by
  refine ⟨(BitVec.ofInt 64 x &&& BitVec.ofInt 64 7).toNat, ?_, ?_⟩
  · show IntKind.i64.wrap ((BitVec.ofInt 64 x &&& BitVec.ofInt 64 7).toNat : Int) = _
    have : (BitVec.ofInt 64 x &&& BitVec.ofInt 64 7).toNat ≤ 7 := by
      rw [BitVec.toNat_and]
      exact Nat.and_le_right
    rw [IntKind.wrap_i64]; omega
  · rw [BitVec.toNat_and]
    exact Nat.lt_of_le_of_lt Nat.and_le_right (by decide)
end Go.FL
