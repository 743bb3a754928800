/- Plain law of ranks: numbers laid in order, and a list turned round. -/
import Derived.Test.YtkbbafmaddkehaaSM
import Derived.Test.YtkbbafmaddkehaaFL4
namespace Go.Proofs.TS
open Go.FL
theorem insR_perm (lt : Nat → Nat → Bool) (x : Nat) : ∀ A : List Nat, (insR lt x A).Perm (x :: A)
  | [] => .refl _
  | y :: A => by
    unfold insR
    split
    · exact ((insR_perm lt x A).cons y).trans (.swap x y A)
    · exact .refl _
theorem turned_perm (lt : Nat → Nat → Bool) : ∀ i, (turned lt i).Perm (List.range i)
  | 0 => .refl _
  | i + 1 => by
    rw [turned, List.range_succ]
    refine (insR_perm lt i _).trans (((turned_perm lt i).cons i).trans ?_)
    exact (List.perm_append_comm (l₁ := [i]) (l₂ := List.range i))
theorem rankN_perm (l : List Nat) : (rankN l).Perm (List.range l.length) := by
  rw [rankN_eq]
  exact (List.reverse_perm _).trans (turned_perm _ _)
/-- The numbers in the order of their rank. -/
def laid (l : List Nat) : List Nat := (rankN l).map fun i => l.getD i 0
theorem range_getD (l : List Nat) : (List.range l.length).map (fun i => l.getD i 0) = l := by
  apply List.ext_getElem
  · simp
  · intro i h1 h2
    simp [h2]
theorem laid_perm (l : List Nat) : (laid l).Perm l := by
  have := (rankN_perm l).map fun i => l.getD i 0
  rw [range_getD] at this
  exact this
theorem laid_len (l : List Nat) : (laid l).length = l.length := by simp [laid, rankN_len]
theorem laid_get (l : List Nat) {i : Nat} (hi : i < (rankN l).length) (hi' : i < (laid l).length) : (laid l)[i] = l[(rankN l)[i]]'(rankN_lt l hi) := by
  have := rankN_lt l hi
  simp [laid, this]
theorem laid_keys (l : List Nat) : List.Pairwise (· ≤ ·) ((laid l).map keyN) := by
  rw [List.pairwise_iff_getElem]
  intro k i hk hi h
  simp only [List.length_map, laid_len] at hk hi
  have hi2 : i < (rankN l).length := by rw [rankN_len]; exact hi
  have hk2 : k < (rankN l).length := by rw [rankN_len]; exact hk
  simp only [List.getElem_map]
  rw [laid_get l hk2, laid_get l hi2]
  have := (rankN_pair l h hi2).1
  rw [kLt_at (rankN_lt l hi2) (rankN_lt l hk2), decide_eq_false_iff_not] at this
  omega
theorem laid_turned (l : List Nat) : (laid l.reverse).map keyN = (laid l).map keyN := by
  refine List.Perm.eq_of_pairwise (le := (· ≤ ·)) (fun a b _ _ h1 h2 => Nat.le_antisymm h1 h2) (laid_keys _) (laid_keys _) ?_
  exact ((laid_perm _).trans ((List.reverse_perm l).trans (laid_perm l).symm)).map keyN
/-- of a list whose keys never fall. -/
theorem strict_range : ∀ (n : Nat) (p : List Nat), p.length = n → (∀ x ∈ p, x < n) → List.Pairwise (· < ·) p → p = List.range n := by
  intro n p hl hb hp
  have hpm : ∀ (i : Nat) (hi : i < p.length), i ≤ p[i] := by
    intro i
    induction i with
    | zero => intro _; exact Nat.zero_le _
    | succ i ih =>
      intro hi
      have h1 := ih (by omega)
      have h2 := (List.pairwise_iff_getElem.1 hp) i (i + 1) (by omega) hi (by omega)
      omega
  have hpM : ∀ (d i : Nat) (hi : i < p.length), i + d + 1 = p.length → p[i] ≤ i := by
    intro d
    induction d with
    | zero => intro i hi h; have := hb _ (List.getElem_mem hi); omega
    | succ d ih =>
      intro i hi h
      have h1 := ih (i + 1) (by omega) (by omega)
      have h2 := (List.pairwise_iff_getElem.1 hp) i (i + 1) hi (by omega) (by omega)
      omega
  apply List.ext_getElem
  · simp [hl]
  · intro i h1 h2
    rw [List.getElem_range]
    have := hpm i h1
    have := hpM (p.length - i - 1) i h1 (by omega)
    omega
theorem rank_flat (m : List Nat) (hm : List.Pairwise (· ≤ ·) (m.map keyN)) : rankN m = List.range m.length := by
  refine strict_range _ _ (rankN_len m) (fun x hx => (rankN_mem m x).1 hx) ?_
  rw [List.pairwise_iff_getElem]
  intro k i hk hi h
  obtain ⟨h1, h2⟩ := rankN_pair m h hi
  have b1 := rankN_lt m hi
  have b2 := rankN_lt m hk
  rw [kLt_at b1 b2, decide_eq_false_iff_not] at h1
  rw [kLt_at b2 b1, decide_eq_false_iff_not] at h2
  rcases Nat.lt_trichotomy (rankN m)[k] (rankN m)[i] with h' | h' | h'
  · exact h'
  · have := h2 (by simp only [h']; omega); omega
  · have := (List.pairwise_iff_getElem.1 hm) _ _ (by simpa using b1) (by simpa using b2) h'
    simp only [List.getElem_map] at this
    have := h2 (by omega)
    omega
theorem rank_laid (l : List Nat) : rankN (laid l) = List.range l.length := by
  rw [rank_flat _ (laid_keys l), laid_len]
theorem turned_laid (l : List Nat) (hb : ∀ x ∈ l, x < 18446744073709551616) : laid l.reverse = laid l := by
  have h := laid_turned l
  have hb1 : ∀ x ∈ laid l.reverse, x < 18446744073709551616 := fun x hx => hb x (by simpa using (laid_perm _).subset hx)
  have hb2 : ∀ x ∈ laid l, x < 18446744073709551616 := fun x hx => hb x ((laid_perm _).subset hx)
  generalize laid l.reverse = a at h hb1
  generalize laid l = b at h hb2
  clear hb
  induction a generalizing b with
  | nil => cases b with
    | nil => rfl
    | cons y b => cases h
  | cons x a ih =>
    cases b with
    | nil => cases h
    | cons y b =>
      simp only [List.map_cons, List.cons.injEq] at h
      rw [keyN_inj (hb1 x (List.mem_cons_self ..)) (hb2 y (List.mem_cons_self ..)) (by rw [h.1]), ih (fun z hz => hb1 z (List.mem_cons_of_mem _ hz)) b h.2 (fun z hz => hb2 z (List.mem_cons_of_mem _ hz))]
end Go.Proofs.TS
