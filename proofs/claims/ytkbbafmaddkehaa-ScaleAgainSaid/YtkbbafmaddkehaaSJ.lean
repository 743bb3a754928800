/- Plain law of the sort: places in order. -/
import Derived.Test.YtkbbafmaddkehaaSI
namespace Go.Proofs.TS
open Go.FL
/-- Insert from the right: x goes ahead of all that it is less than. (The list is turned round.) -/
def insR (lt : Nat → Nat → Bool) (x : Nat) : List Nat → List Nat
  | [] => [x]
  | y :: r => if lt x y then y :: insR lt x r else x :: y :: r
theorem sink_insR (lt : Nat → Nat → Bool) (x : Nat) : ∀ (A B : List Nat), sink lt A.length (A.reverse ++ x :: B) = (insR lt x A).reverse ++ B
  | [], B => by simp [sink, insR]
  | y :: A, B => by
    have hx : ((y :: A).reverse ++ x :: B)[A.length + 1]? = some x := by
      rw [List.getElem?_append_right (by simp)]; simp
    have hy : ((y :: A).reverse ++ x :: B)[A.length]? = some y := by
      rw [List.getElem?_append_left (by simp), List.reverse_cons, List.getElem?_append_right (by simp)]; simp
    rw [List.length_cons, sink, hx, hy]
    simp only
    unfold insR
    by_cases h : lt x y = true
    · rw [if_pos h, if_pos h]
      have : swp ((y :: A).reverse ++ x :: B) A.length x y = A.reverse ++ x :: (y :: B) := by
        unfold swp
        rw [List.reverse_cons, List.append_assoc, List.set_append_right _ _ (by simp), List.set_append_right _ _ (by simp)]
        simp
      rw [this, sink_insR lt x A (y :: B)]
      simp
    · rw [if_neg h, if_neg h]
      simp
theorem insR_mem {lt : Nat → Nat → Bool} {x z : Nat} : ∀ {A : List Nat}, z ∈ insR lt x A ↔ z = x ∨ z ∈ A
  | [] => by simp [insR]
  | y :: A => by
    unfold insR
    split
    · rw [List.mem_cons, insR_mem, List.mem_cons]; constructor <;> (rintro (h | h | h) <;> simp [h])
    · simp
/-- In order: behind the other one, and of the same keys the greater place. -/
def After (lt : Nat → Nat → Bool) (x y : Nat) : Prop := lt x y = false ∧ (lt y x = false → y < x)
/-- lists that are turned round: each element is after the later ones. -/
theorem insR_sorted {lt : Nat → Nat → Bool} (asym : ∀ x y, lt x y = true → lt y x = false) (trans : ∀ x y z, lt x y = false → lt y z = false → lt x z = false) {x : Nat} :
    ∀ {A : List Nat}, (∀ a ∈ A, a < x) → List.Pairwise (After lt) A → List.Pairwise (After lt) (insR lt x A)
  | [], _, _ => by simp [insR]
  | y :: A, hx, hp => by
    obtain ⟨h1, h2⟩ := List.pairwise_cons.1 hp
    unfold insR
    split
    · rename_i h
      refine List.pairwise_cons.2 ⟨fun z hz => ?_, insR_sorted asym trans (fun a ha => hx a (List.mem_cons_of_mem _ ha)) h2⟩
      rcases insR_mem.1 hz with rfl | hz
      · exact ⟨asym _ _ h, fun hf => by rw [h] at hf; cases hf⟩
      · exact h1 z hz
    · rename_i h
      have hf : lt x y = false := by simpa using h
      refine List.pairwise_cons.2 ⟨fun z hz => ?_, hp⟩
      refine ⟨?_, fun _ => hx z hz⟩
      rcases List.mem_cons.1 hz with rfl | hz
      · exact hf
      · exact trans _ _ _ hf (h1 z hz).1
/-- The list that stands when the first i are in order. -/
def turned (lt : Nat → Nat → Bool) : Nat → List Nat
  | 0 => []
  | i + 1 => insR lt i (turned lt i)
theorem insR_len (lt : Nat → Nat → Bool) (x : Nat) : ∀ A, (insR lt x A).length = A.length + 1
  | [] => rfl
  | y :: A => by unfold insR; split <;> simp [insR_len lt x A]
theorem turned_len (lt : Nat → Nat → Bool) : ∀ i, (turned lt i).length = i
  | 0 => rfl
  | i + 1 => by rw [turned, insR_len, turned_len lt i]
theorem turned_mem (lt : Nat → Nat → Bool) : ∀ i z, z ∈ turned lt i ↔ z < i
  | 0, z => by simp [turned]
  | i + 1, z => by rw [turned, insR_mem, turned_mem lt i]; omega
theorem ins_turned (lt : Nat → Nat → Bool) (n : Nat) : ∀ (f i : Nat), i + f = n → ins lt f i ((turned lt i).reverse ++ List.range' i f) = (turned lt n).reverse
  | 0, i, h => by obtain rfl : i = n := by omega
                  simp [ins]
  | f + 1, i, h => by
    rw [ins, List.range'_succ]
    have := sink_insR lt i (turned lt i) (List.range' (i + 1) f)
    rw [turned_len] at this
    rw [this]
    exact ins_turned lt n f (i + 1) (by omega)
theorem turned_sorted {lt : Nat → Nat → Bool} (asym : ∀ x y, lt x y = true → lt y x = false) (trans : ∀ x y z, lt x y = false → lt y z = false → lt x z = false) : ∀ i, List.Pairwise (After lt) (turned lt i)
  | 0 => by simp [turned]
  | i + 1 => insR_sorted asym trans (fun a ha => (turned_mem lt i a).1 ha) (turned_sorted asym trans i)
theorem rankN_eq (fl : List Nat) : rankN fl = (turned (kLt fl) fl.length).reverse := by
  unfold rankN
  cases h : fl.length with
  | zero => rfl
  | succ n =>
    have := ins_turned (kLt fl) (n + 1) n 1 (by omega)
    rw [← this]
    rw [show n + 1 - 1 = n by omega, List.range_eq_range', List.range'_succ]
    rfl
theorem rankN_len (fl : List Nat) : (rankN fl).length = fl.length := by rw [rankN_eq, List.length_reverse, turned_len]
theorem rankN_mem (fl : List Nat) (z : Nat) : z ∈ rankN fl ↔ z < fl.length := by rw [rankN_eq, List.mem_reverse, turned_mem]
theorem rankN_sorted (fl : List Nat) : List.Pairwise (fun y x => After (kLt fl) x y) (rankN fl) := by
  rw [rankN_eq, List.pairwise_reverse]
  refine turned_sorted (fun x y h => ?_) (fun x y z h1 h2 => ?_) _
  · unfold kLt at *; rw [decide_eq_true_eq] at h; rw [decide_eq_false_iff_not]; omega
  · unfold kLt at *; rw [decide_eq_false_iff_not] at *; omega
theorem rankN_pair (fl : List Nat) {i k : Nat} (hk : k < i) (hi : i < (rankN fl).length) : After (kLt fl) (rankN fl)[i] ((rankN fl)[k]'(by omega)) :=
  List.pairwise_iff_getElem.1 (rankN_sorted fl) k i (by omega) hi hk
theorem rankN_lt (fl : List Nat) {i : Nat} (hi : i < (rankN fl).length) : (rankN fl)[i] < fl.length := (rankN_mem fl _).1 (List.getElem_mem hi)
end Go.Proofs.TS
