/- Sizes: they grow, and those of small numbers. -/
import Derived.Test.YtkbbafmaddkehaaFL4
namespace Go.FL
open Go Go.Idl Ieee
theorem capW_mono {x y : Nat} (hx : nan x = false) (gx : neg x = false) (h1 : 4607182418800017408 ≤ rung x) (h : (flt x y || feq x y) = true) :
    nan y = false ∧ neg y = false ∧ 4607182418800017408 ≤ rung y ∧ capW x ≤ capW y := by
  have hy : nan y = false ∧ skey x ≤ skey y := by
    unfold flt feq at h
    cases hn : nan y
    · refine ⟨rfl, ?_⟩
      rw [hn, hx] at h
      simp only [Bool.not_false, Bool.true_and, Bool.or_eq_true, decide_eq_true_eq] at h
      omega
    · rw [hn] at h; simp at h
  obtain ⟨ny, hy⟩ := hy
  rw [skey_pos gx] at hy
  have gy : neg y = false := by
    cases hg : neg y
    · rfl
    · unfold skey at hy; rw [hg] at hy; simp only [if_true] at hy; omega
  rw [skey_pos gy] at hy
  have h2 : 4607182418800017408 ≤ rung y := by omega
  obtain ⟨c1, c2⟩ := capW_bd gx h1
  refine ⟨ny, gy, h2, ?_⟩
  have a := capW_ge hx gx h1 c1 c2
  have b := capW_ge ny gy h2 c1 c2
  rw [flt_ge hx gx (near_lt c2)] at a
  rw [flt_ge ny gy (near_lt c2)] at b
  have a' : FloatKind.f64.nearest (capW x : Int) ≤ rung x := by simpa using a
  have := b.symm.trans (decide_eq_true (by omega))
  simpa using this
theorem small_ok {k : Nat} (h : k < 20) : ∃ v, double.add (FloatKind.f64.nearest ((k : Int) + 1)) 4604930618986332160 = some v ∧ v < 18446744073709551616 ∧ capN v = ((k : Int) + 1, 0) ∧
    FloatKind.f64.nearest ((k : Int) + 1) < 18446744073709551616 ∧ capN (FloatKind.f64.nearest ((k : Int) + 1)) = ((k : Int) + 1, 0) := by
  have key : ∀ c v : Nat, FloatKind.f64.nearest ((k : Int) + 1) = c → double.add c 4604930618986332160 = some v → v < 18446744073709551616 → capN v = ((k : Int) + 1, 0) → c < 18446744073709551616 → capN c = ((k : Int) + 1, 0) →
      ∃ v, double.add (FloatKind.f64.nearest ((k : Int) + 1)) 4604930618986332160 = some v ∧ v < 18446744073709551616 ∧ capN v = ((k : Int) + 1, 0) ∧
    FloatKind.f64.nearest ((k : Int) + 1) < 18446744073709551616 ∧ capN (FloatKind.f64.nearest ((k : Int) + 1)) = ((k : Int) + 1, 0) := by
    intro c v h1 h2 h3 h4 h5 h6
    rw [h1]
    exact ⟨v, h2, h3, h4, h5, h6⟩
  have hk : k = 0 ∨ k = 1 ∨ k = 2 ∨ k = 3 ∨ k = 4 ∨ k = 5 ∨ k = 6 ∨ k = 7 ∨ k = 8 ∨ k = 9 ∨ k = 10 ∨ k = 11 ∨ k = 12 ∨ k = 13 ∨ k = 14 ∨ k = 15 ∨ k = 16 ∨ k = 17 ∨ k = 18 ∨ k = 19 := by omega
  rcases hk with rfl | rfl | rfl | rfl | rfl | rfl | rfl | rfl | rfl | rfl | rfl | rfl | rfl | rfl | rfl | rfl | rfl | rfl | rfl | rfl
  · exact key 4607182418800017408 4610560118520545280 (by decide) (by decide) (by decide) (by decide) (by decide) (by decide)
  · exact key 4611686018427387904 4613374868287651840 (by decide) (by decide) (by decide) (by decide) (by decide) (by decide)
  · exact key 4613937818241073152 4615626668101337088 (by decide) (by decide) (by decide) (by decide) (by decide) (by decide)
  · exact key 4616189618054758400 4617034042984890368 (by decide) (by decide) (by decide) (by decide) (by decide) (by decide)
  · exact key 4617315517961601024 4618159942891732992 (by decide) (by decide) (by decide) (by decide) (by decide) (by decide)
  · exact key 4618441417868443648 4619285842798575616 (by decide) (by decide) (by decide) (by decide) (by decide) (by decide)
  · exact key 4619567317775286272 4620411742705418240 (by decide) (by decide) (by decide) (by decide) (by decide) (by decide)
  · exact key 4620693217682128896 4621115430147194880 (by decide) (by decide) (by decide) (by decide) (by decide) (by decide)
  · exact key 4621256167635550208 4621678380100616192 (by decide) (by decide) (by decide) (by decide) (by decide) (by decide)
  · exact key 4621819117588971520 4622241330054037504 (by decide) (by decide) (by decide) (by decide) (by decide) (by decide)
  · exact key 4622382067542392832 4622804280007458816 (by decide) (by decide) (by decide) (by decide) (by decide) (by decide)
  · exact key 4622945017495814144 4623367229960880128 (by decide) (by decide) (by decide) (by decide) (by decide) (by decide)
  · exact key 4623507967449235456 4623930179914301440 (by decide) (by decide) (by decide) (by decide) (by decide) (by decide)
  · exact key 4624070917402656768 4624493129867722752 (by decide) (by decide) (by decide) (by decide) (by decide) (by decide)
  · exact key 4624633867356078080 4625056079821144064 (by decide) (by decide) (by decide) (by decide) (by decide) (by decide)
  · exact key 4625196817309499392 4625407923542032384 (by decide) (by decide) (by decide) (by decide) (by decide) (by decide)
  · exact key 4625478292286210048 4625689398518743040 (by decide) (by decide) (by decide) (by decide) (by decide) (by decide)
  · exact key 4625759767262920704 4625970873495453696 (by decide) (by decide) (by decide) (by decide) (by decide) (by decide)
  · exact key 4626041242239631360 4626252348472164352 (by decide) (by decide) (by decide) (by decide) (by decide) (by decide)
  · exact key 4626322717216342016 4626533823448875008 (by decide) (by decide) (by decide) (by decide) (by decide) (by decide)
end Go.FL
