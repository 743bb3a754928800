/- Messages that are taken, in whichever order: the plain law. -/
import Derived.Test.YtnbhjoopcaaafaaGreatHTk
set_option linter.unusedSimpArgs false
set_option linter.unusedVariables false
namespace Go.Proofs.HO
open Go Go.Idl Go.Proofs Go.GP
/-- A message put among a row's. -/
def sIns (l : List (Int × Int)) (m : Int × Int) : List (Int × Int) :=
  match l with
  | [] => [m]
  | x :: r => if x.1 < m.1 then x :: sIns r m else m :: x :: r
theorem sIns_eq (m : Int × Int) : ∀ l : List (Int × Int), l.take (posL m.1 l) ++ m :: l.drop (posL m.1 l) = sIns l m
  | [] => rfl
  | x :: r => by
    unfold posL sIns
    split
    · rw [← sIns_eq m r]; rfl
    · rfl
theorem sIns_comm {a b : Int × Int} (h : a.1 ≠ b.1) : ∀ l, sIns (sIns l a) b = sIns (sIns l b) a
  | [] => by
    simp only [sIns]
    by_cases h1 : a.1 < b.1
    · rw [if_pos h1, if_neg (by omega)]
    · rw [if_neg h1, if_pos (by omega)]
  | x :: r => by
    by_cases h1 : x.1 < a.1 <;> by_cases h2 : x.1 < b.1 <;> simp only [sIns, h1, h2, if_true, if_false]
    · rw [sIns_comm h r]
    · rw [if_pos (by omega)]
    · rw [if_pos (by omega)]
    · by_cases h3 : a.1 < b.1
      · rw [if_pos h3, if_neg (by omega)]
      · rw [if_neg h3, if_pos (by omega)]
theorem sIns_len (m : Int × Int) : ∀ l, (sIns l m).length = l.length + 1
  | [] => rfl
  | x :: r => by
    unfold sIns
    split
    · simp [sIns_len m r]
    · simp
theorem sIns_mem {m x : Int × Int} : ∀ {l}, x ∈ sIns l m ↔ x = m ∨ x ∈ l
  | [] => by simp [sIns]
  | y :: r => by
    unfold sIns
    split
    · rw [List.mem_cons, sIns_mem, List.mem_cons]; constructor <;> (rintro (h | h | h) <;> simp [h])
    · simp
theorem up_pw {l : List (Int × Int)} : Up l ↔ l.Pairwise (fun a b => a.1 < b.1) := by
  rw [List.pairwise_iff_getElem]
  exact ⟨fun h i j hi hj hij => h i j hj hij, fun h a b hb hab => h a b (by omega) hb hab⟩
theorem sIns_up {m : Int × Int} : ∀ {l}, l.Pairwise (fun a b : Int × Int => a.1 < b.1) → (∀ x ∈ l, x.1 ≠ m.1) → (sIns l m).Pairwise (fun a b => a.1 < b.1)
  | [], _, _ => by simp [sIns]
  | y :: r, h, hm => by
    have hy := hm y (by simp)
    rw [List.pairwise_cons] at h
    unfold sIns
    split
    · rename_i c
      rw [List.pairwise_cons]
      refine ⟨fun x hx => ?_, sIns_up h.2 fun x hx => hm x (by simp [hx])⟩
      rcases sIns_mem.1 hx with rfl | hx
      · exact c
      · exact h.1 x hx
    · rw [List.pairwise_cons]
      refine ⟨fun x hx => ?_, List.pairwise_cons.2 h⟩
      rcases List.mem_cons.1 hx with rfl | hx
      · omega
      · have := h.1 x hx; omega
theorem posL_has {q : Int} : ∀ {l : List (Int × Int)}, l.Pairwise (fun a b : Int × Int => a.1 < b.1) → ((∃ y, l[posL q l]? = some y ∧ y.1 = q) ↔ ∃ x ∈ l, x.1 = q)
  | [], _ => by simp [posL]
  | x :: r, h => by
    rw [List.pairwise_cons] at h
    unfold posL
    split
    · rename_i c
      rw [List.getElem?_cons_succ, posL_has h.2]
      constructor
      · rintro ⟨y, h1, h2⟩; exact ⟨y, by simp [h1], h2⟩
      · rintro ⟨y, h1, h2⟩
        rcases List.mem_cons.1 h1 with rfl | h1
        · omega
        · exact ⟨y, h1, h2⟩
    · rename_i c
      constructor
      · rintro ⟨y, h1, h2⟩
        simp at h1
        exact ⟨x, by simp, by rw [h1]; exact h2⟩
      · rintro ⟨y, h1, h2⟩
        refine ⟨x, by simp, ?_⟩
        rcases List.mem_cons.1 h1 with rfl | h1
        · exact h2
        · have := h.1 y h1; omega
/-- Messages put among a row's, one by one. -/
def sAll (l : List (Int × Int)) (D : List (Int × Int)) : List (Int × Int) := D.foldl sIns l
theorem sAll_len (D : List (Int × Int)) : ∀ l, (sAll l D).length = l.length + D.length := by
  induction D with
  | nil => intro l; rfl
  | cons m D ih => intro l; show (sAll (sIns l m) D).length = _; rw [ih, sIns_len]; simp; omega
theorem sAll_mem (D : List (Int × Int)) : ∀ l x, x ∈ sAll l D ↔ x ∈ l ∨ x ∈ D := by
  induction D with
  | nil => intro l x; simp [sAll]
  | cons m D ih =>
    intro l x
    show x ∈ sAll (sIns l m) D ↔ _
    rw [ih, sIns_mem, List.mem_cons]
    constructor
    · rintro ((h | h) | h) <;> simp [h]
    · rintro (h | h | h) <;> simp [h]
theorem sAll_snoc (l D : List (Int × Int)) (m : Int × Int) : sAll l (D ++ [m]) = sIns (sAll l D) m := by simp [sAll]
theorem sAll_perm {l D E : List (Int × Int)} (h : D.Perm E) (hd : ∀ a ∈ D, ∀ b ∈ D, a.1 = b.1 → a = b) : sAll l D = sAll l E :=
  List.Perm.foldl_eq' h (fun a ha b hb z => by
    by_cases e : a.1 = b.1
    · rw [hd a ha b hb e]
    · exact sIns_comm e z) l
/-- The lists of a host behind messages of the link at place k. -/
def putAll (k : Int) (inn : List (List (Int × Int))) (D : List (Int × Int)) : List (List (Int × Int)) := if k < 0 then inn else inn.modify k.toNat (fun l => sAll l D)
theorem putAll_nil (k : Int) (inn : List (List (Int × Int))) : putAll k inn [] = inn := by
  unfold putAll
  split
  · rfl
  · apply List.ext_getElem?; intro i; rw [List.getElem?_modify]; split <;> simp [sAll]
theorem putAll_len (k : Int) (inn : List (List (Int × Int))) (D : List (Int × Int)) : (putAll k inn D).length = inn.length := by unfold putAll; split <;> simp
theorem putAll_perm {k : Int} {inn : List (List (Int × Int))} {D E : List (Int × Int)} (h : D.Perm E) (hd : ∀ a ∈ D, ∀ b ∈ D, a.1 = b.1 → a = b) : putAll k inn D = putAll k inn E := by
  unfold putAll; split
  · rfl
  · congr 1; funext l; exact sAll_perm h hd
theorem putAll_get {i : Nat} {inn : List (List (Int × Int))} {D : List (Int × Int)} {l : List (Int × Int)} (h : inn[i]? = some l) : (putAll (i : Int) inn D)[i]? = some (sAll l D) := by
  unfold putAll
  rw [if_neg (by omega), Int.toNat_natCast, List.getElem?_modify, h]
  simp
theorem putAll_snoc {i : Nat} {inn : List (List (Int × Int))} {D : List (Int × Int)} {l : List (Int × Int)} {m : Int × Int} (h : inn[i]? = some l) :
    (putAll (i : Int) inn D).set i (sIns (sAll l D) m) = putAll (i : Int) inn (D ++ [m]) := by
  unfold putAll
  rw [if_neg (by omega), if_neg (by omega), Int.toNat_natCast]
  apply List.ext_getElem?
  intro j
  rw [List.getElem?_set, List.getElem?_modify, List.getElem?_modify]
  have hi := (List.getElem?_eq_some_iff.1 h).1
  by_cases e : i = j
  · subst e
    rw [h]
    simp [hi, sAll_snoc]
  · simp [e]
theorem sAll_pw {D : List (Int × Int)} : ∀ {l : List (Int × Int)}, l.Pairwise (fun a b : Int × Int => a.1 < b.1) → D.Pairwise (fun a b => a.1 ≠ b.1) → (∀ m ∈ D, ∀ y ∈ l, y.1 ≠ m.1) → (sAll l D).Pairwise (fun a b => a.1 < b.1) := by
  induction D with
  | nil => intro l h _ _; exact h
  | cons m D ih =>
    intro l h hd hn
    rw [List.pairwise_cons] at hd
    refine ih (l := sIns l m) (sIns_up h (hn m (by simp))) hd.2 fun b hb y hy => ?_
    rcases sIns_mem.1 hy with rfl | hy
    · exact hd.1 b hb
    · exact hn b (by simp [hb]) y hy
theorem putAll_mem {k : Int} {inn : List (List (Int × Int))} {D : List (Int × Int)} {l : List (Int × Int)} (h : l ∈ putAll k inn D) : l ∈ inn ∨ ∃ (z : Nat) (l0 : List (Int × Int)), k = z ∧ inn[z]? = some l0 ∧ l = sAll l0 D := by
  unfold putAll at h
  split at h
  · exact .inl h
  · rename_i c
    obtain ⟨i, hi⟩ := List.mem_iff_getElem?.1 h
    rw [List.getElem?_modify] at hi
    split at hi
    · rename_i e
      subst e
      cases e2 : inn[k.toNat]? with
      | none => rw [e2] at hi; simp at hi
      | some l0 =>
        rw [e2] at hi
        simp at hi
        exact .inr ⟨k.toNat, l0, by omega, e2, hi.symm⟩
    · simp at hi
      exact .inl (List.mem_of_getElem? hi)
theorem putAll_up {k : Int} {inn : List (List (Int × Int))} {D : List (Int × Int)} (hp : ∀ l ∈ inn, l.Pairwise (fun a b : Int × Int => a.1 < b.1)) (hd : D.Pairwise (fun a b => a.1 ≠ b.1))
    (hn : ∀ (z : Nat) l, k = z → inn[z]? = some l → ∀ m ∈ D, ∀ y ∈ l, y.1 ≠ m.1) : ∀ l ∈ putAll k inn D, Up l := fun l hl => by
  rw [up_pw]
  rcases putAll_mem hl with h | ⟨z, l0, h1, h2, rfl⟩
  · exact hp l h
  · exact sAll_pw (hp l0 (List.mem_of_getElem? h2)) hd (hn z l0 h1 h2)
theorem putAll_row {k : Int} {inn : List (List (Int × Int))} {D : List (Int × Int)} {b : Nat} (hp : ∀ l ∈ inn, l.length ≤ b) : ∀ l ∈ putAll k inn D, l.length ≤ b + D.length := fun l hl => by
  rcases putAll_mem hl with h | ⟨z, l0, h1, h2, rfl⟩
  · have := hp l h; omega
  · have := hp l0 (List.mem_of_getElem? h2); rw [sAll_len]; omega
/-- What a take gives, where the lists are told by what was put. -/
theorem takeH_put {ls : List (Int × Int)} {st : St} {node state steps : Int} {inn : List (List (Int × Int))} {out : List (List Int)} {x : Int} {m : Int × Int} {D : List (Int × Int)} {k : Int} (hk : indexL x 0 (ins node 0 ls) = k)
    (hi : inn.length = (ins node 0 ls).length) (hu : ∀ l ∈ putAll k inn D, Up l) (h1 : 1 ≤ m.1 ∧ m.1 ≤ 500) (h2 : 0 ≤ m.2 ∧ m.2 < 4) :
    takeH ls st ⟨node, state, steps, putAll k inn D, out⟩ x m = (zH, 1) ∧ (k < 0 ∨ ∃ (i : Nat) (l : List (Int × Int)), k = i ∧ inn[i]? = some l ∧ ∃ y ∈ sAll l D, y.1 = m.1) ∨
    ∃ (i : Nat) (l : List (Int × Int)) (lk : Int × Int), k = i ∧ inn[i]? = some l ∧ ls[x.toNat]? = some lk ∧ (∀ y ∈ sAll l D, y.1 ≠ m.1) ∧ takeH ls st ⟨node, state, steps, putAll k inn D, out⟩ x m = (⟨node, takenL lk.1 m.2 state st.takes, steps + 1, putAll k inn (D ++ [m]), out⟩, 0) := by
  subst hk
  unfold takeH
  simp only
  by_cases c : indexL x 0 (ins node 0 ls) < 0
  · exact .inl ⟨by rw [if_pos (.inl c)], .inl c⟩
  · rw [if_neg (by omega)]
    rcases indexL_at x (ins node 0 ls) with e | ⟨i, e, hil, hig⟩
    · exact absurd (by omega) c
    obtain ⟨kx, hkx, rfl, hlk⟩ := ins_mem (List.mem_of_getElem? hig)
    have hii : i < inn.length := by omega
    have hl := List.getElem?_eq_getElem hii
    generalize inn[i] = l at hl
    rw [e] at hu ⊢
    have hp := putAll_get (D := D) hl
    have hup := up_pw.1 (hu _ (List.mem_of_getElem? hp))
    have hx : ls[((0 : Nat) + kx : Nat)]? = some ls[kx] := by rw [Nat.zero_add]; exact List.getElem?_eq_getElem hkx
    rw [Int.toNat_natCast, hp, Int.toNat_natCast, hx]
    simp only
    rw [posL_has hup, sIns_eq, putAll_snoc hl]
    by_cases hh : ∃ y ∈ sAll l D, y.1 = m.1
    · left
      rw [tB_pos hh]
      exact ⟨rfl, .inr ⟨i, l, rfl, hl, hh⟩⟩
    · right
      rw [tB_neg hh]
      exact ⟨i, l, _, rfl, hl, rfl, fun y hy e => hh ⟨y, hy, e⟩, rfl⟩
end Go.Proofs.HO
