/- Facts that the proofs of this claim lean on. -/
import Derived.Test.YtnbhjoopcaaafaaGreatHTk
import Derived.Test.YtnbhjoopcaaafaaGreatHP10
set_option linter.unusedSimpArgs false
set_option linter.unusedVariables false
/- Messages that are taken, in whichever order: the plain law. -/
namespace Go.Proofs.HO
open Go Go.Idl Go.Proofs Go.GP
def sIns (l : List (Int × Int)) (m : Int × Int) : List (Int × Int) :=
 match l with
 | [] => [m]
 | x :: r => if x.1 < m.1 then x :: sIns r m else m :: x :: r
theorem sIns_eq (m : Int × Int) : ∀ l : List (Int × Int), l.take (posL m.1 l) ++ m :: l.drop (posL m.1 l) = sIns l m
 | [] => rfl
 | x :: r => by
   unfold posL sIns
   split
   ·rw [← sIns_eq m r]; rfl
   ·rfl
theorem sIns_len (m : Int × Int) : ∀ l, (sIns l m).length = l.length + 1
 | [] => rfl
 | x :: r => by
   unfold sIns
   split
   ·simp [sIns_len m r]
   ·simp
theorem sIns_mem {m x : Int × Int} : ∀ {l}, x ∈ sIns l m ↔ x = m ∨ x ∈ l
 | [] => by simp [sIns]
 | y :: r => by
   unfold sIns
   split
   ·rw [List.mem_cons, sIns_mem, List.mem_cons]; constructor <;> (rintro (h | h | h) <;> simp [h])
   ·simp
theorem up_pw {l : List (Int × Int)} : Up l ↔ l.Pairwise (fun a b => a.1 < b.1) := by
 rw [List.pairwise_iff_getElem]
 exact ⟨fun h i j hi hj hij => h i j hj hij, fun h a b hb hab => h a b (by omega) hb hab⟩
theorem sIns_up {m : Int × Int} : ∀ {l}, l.Pairwise (fun a b : Int × Int => a.1 < b.1) → (∀ x ∈ l, x.1 ≠ m.1) → (sIns l m).Pairwise (fun a b => a.1 < b.1)
 | [], _, _ => by simp [sIns]
 | y :: r, h, hm => by
   have hy := hm y (by simp)
   rw [List.pairwise_cons] at h
   unfold sIns
   split
   ·rename_i c
    rw [List.pairwise_cons]
    refine ⟨fun x hx => ?_, sIns_up h.2 fun x hx => hm x (by simp [hx])⟩
    rcases sIns_mem.1 hx with rfl | hx
    ·exact c
    ·exact h.1 x hx
   ·rw [List.pairwise_cons]
    refine ⟨fun x hx => ?_, List.pairwise_cons.2 h⟩
    rcases List.mem_cons.1 hx with rfl | hx
    ·omega
    ·have := h.1 x hx; omega
theorem posL_has {q : Int} : ∀ {l : List (Int × Int)}, l.Pairwise (fun a b : Int × Int => a.1 < b.1) → ((∃ y, l[posL q l]? = some y ∧ y.1 = q) ↔ ∃ x ∈ l, x.1 = q)
 | [], _ => by simp [posL]
 | x :: r, h => by
   rw [List.pairwise_cons] at h
   unfold posL
   split
   ·rename_i c
    rw [List.getElem?_cons_succ, posL_has h.2]
    constructor
    ·rintro ⟨y, h1, h2⟩; exact ⟨y, by simp [h1], h2⟩
    ·rintro ⟨y, h1, h2⟩
     rcases List.mem_cons.1 h1 with rfl | h1
     ·omega
     ·exact ⟨y, h1, h2⟩
   ·rename_i c
    constructor
    ·rintro ⟨y, h1, h2⟩
     simp at h1
     exact ⟨x, by simp, by rw [h1]; exact h2⟩
    ·rintro ⟨y, h1, h2⟩
     refine ⟨x, by simp, ?_⟩
     rcases List.mem_cons.1 h1 with rfl | h1
     ·exact h2
     ·have := h.1 y h1; omega
end Go.Proofs.HO
/- In whichever order messages are taken: the law's walk. -/
namespace Go.Proofs.HO
open Go Go.Idl Go.Proofs Go.GP
set_option maxHeartbeats 20000000
set_option maxRecDepth 100000
theorem takenL_in {f a d : Int} {m : Nat} : ∀ {l : List (Int × Int × Int)}, (∀ t ∈ l, StaP m t.2.2) → StaP m d → StaP m (takenL f a d l)
 | [], _, h => h
 | t :: r, h, hd => by
   unfold takenL
   split
   ·exact h t (by simp)
   ·exact takenL_in (fun x hx => h x (by simp [hx])) hd
theorem ris_pw : ∀ {last : Int} {l : List (Int × Int)}, RisP last l → l.Pairwise (fun a b => a.1 < b.1) ∧ ∀ x ∈ l, last < x.1
 | _, [], _ => by simp
 | last, x :: r, h => by
   obtain ⟨h1, h2⟩ := ris_pw h.2
   have h0 := h.1.1
   exact ⟨List.pairwise_cons.2 ⟨h2, h1⟩, fun y hy => by
    rcases List.mem_cons.1 hy with rfl | hy
    ·exact h0
    ·have := h2 y hy; omega⟩
def rng (a : Nat) : List Int := (List.range a).map fun q : Nat => (q : Int)
theorem L6Ref_spec (p : Pc) : Pure Tryz.prog 30 [lPc p] (lPc p) := by
 refine pcall0 200 (fn := Tryz.f30) Tryz.func30 rfl (by simp [Tryz.ntmps30]) zB zB fun hs => ?_
 (repeat (first | ((refine zW ?_; try with_reducible exact True.intro))))
theorem gHs_zero : gHs ⟨0, 0, 0, [], []⟩ := ⟨by simp, by simp, by simp, by simp⟩
end Go.Proofs.HO
