/- Messages that are taken, in whichever order: the plain law. -/
import Derived.Test.YtnbhjoopcaaafaaGreatHTk
set_option linter.unusedSimpArgs false
set_option linter.unusedVariables false
namespace Go.Proofs.HO
open Go Go.Idl Go.Proofs Go.GP
/-- A message put among a row's. -/
def sIns (l : List (Int × Int)) (m : Int × Int) : List (Int × Int) :=
  match l with
  | [] => [m]
  | x :: r => if x.1 < m.1 then x :: sIns r m else m :: x :: r
theorem sIns_eq (m : Int × Int) : ∀ l : List (Int × Int), l.take (posL m.1 l) ++ m :: l.drop (posL m.1 l) = sIns l m
  | [] => rfl
  | x :: r => by
    unfold posL sIns
    split
    · rw [← sIns_eq m r]; rfl
    · rfl
theorem sIns_len (m : Int × Int) : ∀ l, (sIns l m).length = l.length + 1
  | [] => rfl
  | x :: r => by
    unfold sIns
    split
    · simp [sIns_len m r]
    · simp
theorem up_pw {l : List (Int × Int)} : Up l ↔ l.Pairwise (fun a b => a.1 < b.1) := by
  rw [List.pairwise_iff_getElem]
  exact ⟨fun h i j hi hj hij => h i j hj hij, fun h a b hb hab => h a b (by omega) hb hab⟩
/-- Messages put among a row's, one by one. -/
def sAll (l : List (Int × Int)) (D : List (Int × Int)) : List (Int × Int) := D.foldl sIns l
/-- The lists of a host behind messages of the link at place k. -/
def putAll (k : Int) (inn : List (List (Int × Int))) (D : List (Int × Int)) : List (List (Int × Int)) := if k < 0 then inn else inn.modify k.toNat (fun l => sAll l D)
end Go.Proofs.HO
