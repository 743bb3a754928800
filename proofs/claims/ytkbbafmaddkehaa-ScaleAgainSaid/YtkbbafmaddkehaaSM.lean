/- Plain law: to insert from the left is to insert from the right. -/
import Derived.Test.YtkbbafmaddkehaaSJ
namespace Go.Proofs.TS
open Go.FL
theorem insR_split {lt : Nat → Nat → Bool} {x : Nat} : ∀ (B C : List Nat), (∀ b ∈ B, lt x b = true) → (∀ c, C.head? = some c → lt x c = false) → insR lt x (B ++ C) = B ++ x :: C
  | [], [], _, _ => rfl
  | [], c :: C, _, h => by
    have := h c rfl
    simp [insR, this]
  | b :: B, C, hB, h => by
    have := hB b (List.mem_cons_self ..)
    simp only [List.cons_append, insR, this, if_true]
    rw [insR_split B C (fun b hb => hB b (List.mem_cons_of_mem _ hb)) h]
theorem place_at {lt : Nat → Nat → Bool} (trans : ∀ x y z, lt x y = false → lt y z = false → lt x z = false) {out : List Nat} (hs : List.Pairwise (fun y x => After lt x y) out) {x k : Nat} (hk : k ≤ out.length)
    (h1 : ∀ (j : Nat) (hj : j < out.length), j < k → lt x out[j] = false) (h2 : ∀ h : k < out.length, lt x out[k] = true) :
    out.take k ++ x :: out.drop k = (insR lt x out.reverse).reverse := by
  have e : out.reverse = (out.drop k).reverse ++ (out.take k).reverse := by
    rw [← List.reverse_append, List.take_append_drop]
  rw [e, insR_split]
  · simp
  · intro b hb
    rw [List.mem_reverse] at hb
    obtain ⟨j, hj, rfl⟩ := List.mem_iff_getElem.1 hb
    rw [List.length_drop] at hj
    rw [List.getElem_drop]
    have hk' : k < out.length := by omega
    have h3 := h2 hk'
    cases j with
    | zero => simpa using h3
    | succ j =>
      have h4 := List.pairwise_iff_getElem.1 hs k (k + (j + 1)) hk' (by omega) (by omega)
      cases h5 : lt x out[k + (j + 1)]
      · rw [trans _ _ _ h5 h4.1] at h3; cases h3
      · rfl
  · intro c hc
    rw [List.head?_reverse] at hc
    have hm : c ∈ out.take k := List.mem_of_getLast? hc
    obtain ⟨j, hj, rfl⟩ := List.mem_iff_getElem.1 hm
    rw [List.length_take] at hj
    rw [List.getElem_take]
    exact h1 j (by omega) (by omega)
theorem kLt_trans (fl : List Nat) (x y z : Nat) (h1 : kLt fl x y = false) (h2 : kLt fl y z = false) : kLt fl x z = false := by
  unfold kLt at *; rw [decide_eq_false_iff_not] at *; omega
theorem turned_out (fl : List Nat) (i : Nat) : List.Pairwise (fun y x => After (kLt fl) x y) (turned (kLt fl) i).reverse := by
  rw [List.pairwise_reverse]
  refine turned_sorted (fun x y h => ?_) (kLt_trans fl) _
  unfold kLt at *; rw [decide_eq_true_eq] at h; rw [decide_eq_false_iff_not]; omega
theorem turned_place (fl : List Nat) {i k : Nat} (hk : k ≤ i) (h1 : ∀ (j : Nat) (hj : j < (turned (kLt fl) i).reverse.length), j < k → kLt fl i (turned (kLt fl) i).reverse[j] = false)
    (h2 : ∀ h : k < (turned (kLt fl) i).reverse.length, kLt fl i (turned (kLt fl) i).reverse[k] = true) :
    (turned (kLt fl) i).reverse.take k ++ i :: (turned (kLt fl) i).reverse.drop k = (turned (kLt fl) (i + 1)).reverse := by
  rw [place_at (kLt_trans fl) (turned_out fl i) (by rw [List.length_reverse, turned_len]; exact hk) h1 h2, List.reverse_reverse]
  rfl
end Go.Proofs.TS
