/- Any quotient is a word of 64 bits, or none. -/
import Derived.Test.YtkbbafmaddkehaaFL7
namespace Go.FL
open Go Go.Idl Ieee
theorem quotient_cases (D : Nat) (a b d : Datum) (h : a.quotient D b = some d) : (∃ s m e, d = .number s m e) ∨ ∃ s, d = .infinity s := by
  cases a <;> cases b <;> simp only [Datum.quotient, Option.some.injEq, reduceCtorEq] at h
  · split at h
    · split at h
      · cases h
      · cases h; exact .inr ⟨_, rfl⟩
    · cases h; exact .inl ⟨_, _, _, rfl⟩
  all_goals first | (subst h; exact .inl ⟨_, _, _, rfl⟩) | (subst h; exact .inr ⟨_, rfl⟩)
theorem div_lt {x y v : Nat} (h : double.div x y = some v) : v < 18446744073709551616 := by
  unfold Format.div at h
  rw [Option.map_eq_some_iff] at h
  obtain ⟨d, hd, rfl⟩ := h
  rcases quotient_cases _ _ _ _ hd with ⟨s, m, e, rfl⟩ | ⟨s, rfl⟩
  · show double.nearest s m e < _
    unfold Format.nearest
    split
    · exact word_lt s (Nat.zero_le _)
    · exact word_lt s (by rw [consts.2.2.1]; exact Nat.min_le_right _ _)
  · exact word_lt s (by rw [consts.2.2.1]; exact Nat.le_refl _)
end Go.FL
