/- Floors, sizes, whole numbers of doubles. -/
import Derived.Test.YtoiledoommblcaaGreatFL3
namespace Go.FL
open Go Go.Idl Ieee
theorem floorOf_lo {b : Nat} (hg : neg b = false) (h1 : 4607182418800017408 ≤ rung b) (h2 : rung b < 4626322717216342016) :
    floorOf b = some (.float .f64 (FloatKind.f64.encode (.number false (floorN (rung b)) 0))) ∧ 1 ≤ floorN (rung b) ∧ floorN (rung b) ≤ 19 := by
  have hr := read_fin (b := b) (by omega)
  have hm : mag (rung b) = 4503599627370496 + rung b % 4503599627370496 := by unfold mag; rw [if_neg (by omega)]
  have hp : -1074 + (pl (rung b) : Int) = -((1075 - rung b / 4503599627370496 : Nat) : Int) := by unfold pl; omega
  rw [hm, hp, hg] at hr
  have hd : FloatKind.f64.decode b = _ := hr
  have hq : 1023 ≤ rung b / 4503599627370496 ∧ rung b / 4503599627370496 ≤ 1027 := by omega
  have hf : floorN (rung b) = (4503599627370496 + rung b % 4503599627370496) / 2 ^ (1075 - rung b / 4503599627370496) := rfl
  generalize hk : 1075 - rung b / 4503599627370496 = k at *
  have hk2 : 48 ≤ k ∧ k ≤ 52 := by omega
  generalize hM : 4503599627370496 + rung b % 4503599627370496 = M at *
  have hM2 : 4503599627370496 ≤ M ∧ M < 9007199254740992 := by omega
  have hl : M.log2 = 52 := by
    have a : 52 ≤ M.log2 := (Nat.le_log2 (by omega)).2 (by omega)
    have c : M.log2 < 53 := (Nat.log2_lt (by omega)).2 (by omega)
    omega
  refine ⟨?_, ?_, ?_⟩
  · unfold floorOf
    rw [hd]
    simp only [Datum.integral, Toward.cut, Int.toNat_neg_natCast, Nat.shiftLeft_zero, Int.neg_neg, Int.toNat_natCast, hl, Bool.false_and, Bool.toNat_false, Nat.add_zero]
    rw [Nat.min_eq_left (by omega), Nat.one_shiftLeft, hf]
  · rw [hf, Nat.le_div_iff_mul_le (Nat.two_pow_pos k), Nat.one_mul]
    exact Nat.le_trans (Nat.pow_le_pow_right (by decide) hk2.2) (by omega)
  · rw [hf]
    have : 20 * 2 ^ k > M := by
      have : k = 48 ∨ k = 49 ∨ k = 50 ∨ k = 51 ∨ k = 52 := by omega
      rcases this with rfl | rfl | rfl | rfl | rfl <;> omega
    have := Nat.div_lt_of_lt_mul (m := M) (n := 2 ^ k) (k := 20) (by rw [Nat.mul_comm]; exact this)
    omega
theorem small_back {n : Nat} (h : n < 32) : (FloatKind.f64.decode (FloatKind.f64.encode (.number false n 0))).toInt .zero = some (n : Int) := by
  revert n
  decide
theorem floorOf_val {b : Nat} (hg : neg b = false) (h1 : 4607182418800017408 ≤ rung b) (h2 : rung b < 4626322717216342016) :
    ∃ f, floorOf b = some (.float .f64 f) ∧ (FloatKind.f64.decode f).toInt .zero = some (floorN (rung b) : Int) ∧ 1 ≤ floorN (rung b) ∧ floorN (rung b) ≤ 19 := by
  obtain ⟨a, c, d⟩ := floorOf_lo hg h1 h2
  exact ⟨_, a, small_back (by omega), c, d⟩
/-- The greatest small whole number that is not above. -/
theorem floor_ge {b : Nat} {n : Nat} (h1 : 4607182418800017408 ≤ rung b) (h2 : rung b < 4626322717216342016) (hn : 1 ≤ n) (hn2 : n ≤ 20) :
    decide (FloatKind.f64.nearest (n : Int) ≤ rung b) = decide (n ≤ floorN (rung b)) := by
  rw [decide_eq_decide]
  have hf : floorN (rung b) = (4503599627370496 + rung b % 4503599627370496) / 2 ^ (1075 - rung b / 4503599627370496) := rfl
  rw [hf, Nat.le_div_iff_mul_le (Nat.two_pow_pos _)]
  have hq : 1023 ≤ rung b / 4503599627370496 ∧ rung b / 4503599627370496 ≤ 1027 := by omega
  have hs : rung b = 4503599627370496 * (rung b / 4503599627370496) + rung b % 4503599627370496 := by omega
  have hl : rung b % 4503599627370496 < 4503599627370496 := Nat.mod_lt _ (by decide)
  generalize rung b % 4503599627370496 = lo at *
  have key : ∀ N : Nat, FloatKind.f64.nearest (n : Int) = N → (N ≤ rung b ↔ N ≤ 4503599627370496 * (rung b / 4503599627370496) + lo) := by intro N _; omega
  rw [key _ rfl]
  have h5 : ∀ q lo : Nat, 1023 ≤ q → q ≤ 1027 → lo < 4503599627370496 → (FloatKind.f64.nearest (n : Int) ≤ 4503599627370496 * q + lo ↔ n * 2 ^ (1075 - q) ≤ 4503599627370496 + lo) := by
    intro q lo a c d
    have hn3 : n = 1 ∨ n = 2 ∨ n = 3 ∨ n = 4 ∨ n = 5 ∨ n = 6 ∨ n = 7 ∨ n = 8 ∨ n = 9 ∨ n = 10 ∨ n = 11 ∨ n = 12 ∨ n = 13 ∨ n = 14 ∨ n = 15 ∨ n = 16 ∨ n = 17 ∨ n = 18 ∨ n = 19 ∨ n = 20 := by omega
    have hq3 : q = 1023 ∨ q = 1024 ∨ q = 1025 ∨ q = 1026 ∨ q = 1027 := by omega
    rcases hn3 with rfl | rfl | rfl | rfl | rfl | rfl | rfl | rfl | rfl | rfl | rfl | rfl | rfl | rfl | rfl | rfl | rfl | rfl | rfl | rfl
    · have e : FloatKind.f64.nearest ((1 : Nat) : Int) = 4607182418800017408 := by decide
      rw [e]; rcases hq3 with rfl | rfl | rfl | rfl | rfl <;> omega
    · have e : FloatKind.f64.nearest ((2 : Nat) : Int) = 4611686018427387904 := by decide
      rw [e]; rcases hq3 with rfl | rfl | rfl | rfl | rfl <;> omega
    · have e : FloatKind.f64.nearest ((3 : Nat) : Int) = 4613937818241073152 := by decide
      rw [e]; rcases hq3 with rfl | rfl | rfl | rfl | rfl <;> omega
    · have e : FloatKind.f64.nearest ((4 : Nat) : Int) = 4616189618054758400 := by decide
      rw [e]; rcases hq3 with rfl | rfl | rfl | rfl | rfl <;> omega
    · have e : FloatKind.f64.nearest ((5 : Nat) : Int) = 4617315517961601024 := by decide
      rw [e]; rcases hq3 with rfl | rfl | rfl | rfl | rfl <;> omega
    · have e : FloatKind.f64.nearest ((6 : Nat) : Int) = 4618441417868443648 := by decide
      rw [e]; rcases hq3 with rfl | rfl | rfl | rfl | rfl <;> omega
    · have e : FloatKind.f64.nearest ((7 : Nat) : Int) = 4619567317775286272 := by decide
      rw [e]; rcases hq3 with rfl | rfl | rfl | rfl | rfl <;> omega
    · have e : FloatKind.f64.nearest ((8 : Nat) : Int) = 4620693217682128896 := by decide
      rw [e]; rcases hq3 with rfl | rfl | rfl | rfl | rfl <;> omega
    · have e : FloatKind.f64.nearest ((9 : Nat) : Int) = 4621256167635550208 := by decide
      rw [e]; rcases hq3 with rfl | rfl | rfl | rfl | rfl <;> omega
    · have e : FloatKind.f64.nearest ((10 : Nat) : Int) = 4621819117588971520 := by decide
      rw [e]; rcases hq3 with rfl | rfl | rfl | rfl | rfl <;> omega
    · have e : FloatKind.f64.nearest ((11 : Nat) : Int) = 4622382067542392832 := by decide
      rw [e]; rcases hq3 with rfl | rfl | rfl | rfl | rfl <;> omega
    · have e : FloatKind.f64.nearest ((12 : Nat) : Int) = 4622945017495814144 := by decide
      rw [e]; rcases hq3 with rfl | rfl | rfl | rfl | rfl <;> omega
    · have e : FloatKind.f64.nearest ((13 : Nat) : Int) = 4623507967449235456 := by decide
      rw [e]; rcases hq3 with rfl | rfl | rfl | rfl | rfl <;> omega
    · have e : FloatKind.f64.nearest ((14 : Nat) : Int) = 4624070917402656768 := by decide
      rw [e]; rcases hq3 with rfl | rfl | rfl | rfl | rfl <;> omega
    · have e : FloatKind.f64.nearest ((15 : Nat) : Int) = 4624633867356078080 := by decide
      rw [e]; rcases hq3 with rfl | rfl | rfl | rfl | rfl <;> omega
    · have e : FloatKind.f64.nearest ((16 : Nat) : Int) = 4625196817309499392 := by decide
      rw [e]; rcases hq3 with rfl | rfl | rfl | rfl | rfl <;> omega
    · have e : FloatKind.f64.nearest ((17 : Nat) : Int) = 4625478292286210048 := by decide
      rw [e]; rcases hq3 with rfl | rfl | rfl | rfl | rfl <;> omega
    · have e : FloatKind.f64.nearest ((18 : Nat) : Int) = 4625759767262920704 := by decide
      rw [e]; rcases hq3 with rfl | rfl | rfl | rfl | rfl <;> omega
    · have e : FloatKind.f64.nearest ((19 : Nat) : Int) = 4626041242239631360 := by decide
      rw [e]; rcases hq3 with rfl | rfl | rfl | rfl | rfl <;> omega
    · have e : FloatKind.f64.nearest ((20 : Nat) : Int) = 4626322717216342016 := by decide
      rw [e]; rcases hq3 with rfl | rfl | rfl | rfl | rfl <;> omega
  exact h5 _ _ hq.1 hq.2 hl
theorem kind_le4 (b : Nat) : decide (kindN b ≤ 4) = (nan b || neg b || decide (rung b = 0)) := by
  unfold kindN
  cases hn : nan b
  · cases hg : neg b
    · by_cases hi : rung b = 9218868437227405312
      · simp [hi]
      · by_cases h0 : rung b = 0 <;> simp [hi, h0]
    · by_cases hi : rung b = 9218868437227405312
      · simp [hi]
      · by_cases h0 : rung b = 0 <;> simp [hi, h0]
  · rfl
theorem kind_eq5 {b : Nat} (hn : nan b = false) (hg : neg b = false) (h0 : rung b ≠ 0) : (kindN b == 5) = decide (rung b ≠ 9218868437227405312) := by
  unfold kindN
  by_cases hi : rung b = 9218868437227405312 <;> simp [hi, hn, hg, h0]
theorem skey_pos {b : Nat} (hg : neg b = false) : skey b = rung b := by unfold skey; rw [hg]; rfl
theorem flt_one {b : Nat} (hn : nan b = false) (hg : neg b = false) : flt b 4607182418800017408 = decide (rung b < 4607182418800017408) := by
  have h0 : skey 4607182418800017408 = 4607182418800017408 := by decide
  have h1 : nan 4607182418800017408 = false := by decide
  unfold flt
  rw [h0, h1, hn, skey_pos hg]
  simp only [Bool.not_false, Bool.true_and, decide_eq_decide]
  omega
theorem flt_ge {b c : Nat} (hn : nan b = false) (hg : neg b = false) (hc : c < 9218868437227405312) : (flt c b || feq b c) = decide (c ≤ rung b) := by
  have h3 : rung c = c := by unfold rung; omega
  have h2 : neg c = false := by unfold neg; rw [Nat.div_eq_of_lt (by omega)]; rfl
  have h1 : nan c = false := by unfold nan; rw [h3, decide_eq_false_iff_not]; omega
  unfold flt feq
  rw [h1, hn, skey_pos hg, skey_pos h2, h3]
  simp only [Bool.not_false, Bool.true_and]
  rw [Bool.eq_iff_iff]
  simp only [Bool.or_eq_true, decide_eq_true_eq]
  omega
theorem near_lt {n : Nat} (h : n ≤ 20) : FloatKind.f64.nearest (n : Int) < 9218868437227405312 := by
  have : ∀ n : Nat, n < 21 → FloatKind.f64.nearest (n : Int) < 9218868437227405312 := by decide
  exact this n (by omega)
theorem near_ge {n : Nat} (h : 1 ≤ n) (h2 : n ≤ 20) : FloatKind.f64.nearest (n : Int) ≤ 4626322717216342016 := by
  have : ∀ n : Nat, n < 21 → FloatKind.f64.nearest (n : Int) ≤ 4626322717216342016 := by decide
  exact this n (by omega)
/-- The number of whole ones up to twenty. -/
def capW (b : Nat) : Nat := if 4626322717216342016 ≤ rung b then 20 else floorN (rung b)
theorem capW_ge {b : Nat} {n : Nat} (hn : nan b = false) (hg : neg b = false) (h1 : 4607182418800017408 ≤ rung b) (hn1 : 1 ≤ n) (hn2 : n ≤ 20) :
    (flt (FloatKind.f64.nearest (n : Int)) b || feq b (FloatKind.f64.nearest (n : Int))) = decide (n ≤ capW b) := by
  rw [flt_ge hn hg (near_lt hn2)]
  unfold capW
  split
  · have := near_ge hn1 hn2
    rw [decide_eq_decide]; omega
  · exact floor_ge h1 (by omega) hn1 hn2
theorem capW_bd {b : Nat} (hg : neg b = false) (h1 : 4607182418800017408 ≤ rung b) : 1 ≤ capW b ∧ capW b ≤ 20 := by
  unfold capW
  split
  · omega
  · obtain ⟨-, c, d⟩ := floorOf_lo hg h1 (by omega)
    omega
theorem capN_some {b : Nat} (hn : nan b = false) (hg : neg b = false) (h1 : 4607182418800017408 ≤ rung b) : capN b = ((capW b : Int), 0) := by
  unfold capN capW
  rw [hn, hg, decide_eq_false (by omega), if_neg (by decide)]
  split <;> rfl
theorem capN_none {b : Nat} (h : nan b = true ∨ neg b = true ∨ rung b < 4607182418800017408) : capN b = (0, 1) := by
  unfold capN
  rw [if_pos]
  rcases h with h | h | h
  · simp [h]
  · simp [h]
  · simp [h]
theorem keyN_eq {a : Nat} (ha : a < 18446744073709551616) : (keyN a : Int) = if 9223372036854775808 ≤ a then 18446744073709551615 - (a : Int) else (a : Int) + 9223372036854775808 := by
  unfold keyN
  rw [neg_iff ha]
  by_cases h : 9223372036854775808 ≤ a
  · rw [decide_eq_true h, if_pos rfl, if_pos h]; omega
  · rw [decide_eq_false h, if_neg (by decide), if_neg h]; omega
theorem keyN_inj {a b : Nat} (ha : a < 18446744073709551616) (hb : b < 18446744073709551616) (h : (keyN a : Int) = keyN b) : a = b := by
  rw [keyN_eq ha, keyN_eq hb] at h
  split at h <;> split at h <;> omega
theorem flt_key {a b : Nat} (ha : a < 18446744073709551616) (hb : b < 18446744073709551616) (h : flt a b = true) : (keyN a : Int) < keyN b := by
  unfold flt skey rung at h
  rw [neg_iff ha, neg_iff hb] at h
  simp only [Bool.and_eq_true, decide_eq_true_eq] at h
  rw [keyN_eq ha, keyN_eq hb]
  by_cases h1 : 9223372036854775808 ≤ a <;> by_cases h2 : 9223372036854775808 ≤ b <;> simp only [h1, h2, if_true, if_false] at h ⊢ <;> omega
theorem nan_inf {a : Nat} (ha : a < 18446744073709551616) (hn : kindN a = 0) : decide ((keyN a : Int) < ((keyN 9218868437227405312 : Nat) : Int)) = decide ((9223372036854775808 : Int) ≤ a) := by
  have hn' : nan a = true := by
    unfold kindN at hn
    cases h : nan a
    · rw [h] at hn
      simp only [Bool.false_eq_true, if_false] at hn
      split at hn
      · split at hn <;> simp at hn
      · split at hn
        · split at hn <;> simp at hn
        · split at hn <;> simp at hn
    · rfl
  unfold nan rung at hn'
  rw [decide_eq_true_eq] at hn'
  rw [keyN_eq ha, keyN_eq (by decide), if_neg (show ¬ 9223372036854775808 ≤ 9218868437227405312 by decide), decide_eq_decide]
  split <;> omega
theorem kind_flip {b : Nat} (h : b < 18446744073709551616) : ∃ i j : Nat, kindN b = i ∧ kindN (flip b) = j ∧ i ≤ 6 ∧ (i = 0 ∧ j = 0 ∨ ¬ i = 0 ∧ ¬ j = 0 ∧ i + j = 7) := by
  unfold kindN
  rw [flip_nan h, flip_neg h, flip_rung h]
  cases nan b
  · cases neg b <;> by_cases hi : rung b = 9218868437227405312 <;> by_cases h0 : rung b = 0 <;> simp only [hi, h0, if_true, if_false, Bool.not_true, Bool.not_false, Bool.false_eq_true]
    all_goals first | exact ⟨1, 6, by decide⟩ | exact ⟨6, 1, by decide⟩ | exact ⟨3, 4, by decide⟩ | exact ⟨4, 3, by decide⟩ | exact ⟨2, 5, by decide⟩ | exact ⟨5, 2, by decide⟩
  · exact ⟨0, 0, rfl, rfl, by omega, .inl ⟨rfl, rfl⟩⟩
end Go.FL
