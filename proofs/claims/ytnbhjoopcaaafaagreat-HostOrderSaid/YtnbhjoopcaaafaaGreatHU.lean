/- Facts that the proofs of this claim lean on. -/
import Derived.Test.YtnbhjoopcaaafaaGreatHA
import Derived.Test.YtnbhjoopcaaafaaGreatGPm
import Derived.Test.YtnbhjoopcaaafaaGreatHS
set_option linter.unusedSimpArgs false
set_option linter.unusedVariables false
/- Which tables may be: what is asked of a state. No program in sight. -/
namespace Go.Proofs.HO
open Go Go.Idl Go.GP
noncomputable def tB (P : Prop) : Bool := @decide P (Classical.propDecidable P)
theorem tB_iff {P : Prop} : tB P = true ↔ P := @decide_eq_true_iff P (Classical.propDecidable P)
theorem tB_pos {P : Prop} (h : P) : tB P = true := tB_iff.2 h
theorem tB_neg {P : Prop} (h : ¬ P) : tB P = false := Bool.eq_false_iff.2 fun q => h (tB_iff.1 q)
def LetP (n : Int) : Prop := 0 ≤ n ∧ n < 4
def StaP (m : Nat) (n : Int) : Prop := 0 ≤ n ∧ n < m
def WaitsP (ls : List (Int × Int)) (n : Int) (s : St) : Prop :=
  (s.mode ≠ 2 ∧ s.waits.length = 0) ∨ (s.mode = 2 ∧ 0 < s.waits.length ∧ ∀ (j : Nat) (w : Int), s.waits[j]? = some w → (w, n) ∈ ls ∧ ∀ v, 0 < j → s.waits[j - 1]? = some v → v < w)
def SendsP (ls : List (Int × Int)) (n : Int) (l : List (Int × Int)) : Prop := ∀ (j : Nat) (x : Int × Int), l[j]? = some x → (n, x.1) ∈ ls ∧ LetP x.2
def PicksP (ls : List (Int × Int)) (n : Int) (m : Nat) (s : St) : Prop :=
  s.picks.length ≤ 4 ∧ (s.mode = 1 ∨ s.picks.length = 0) ∧ ∀ (j : Nat) (p : Int × List (Int × Int)), s.picks[j]? = some p → StaP m p.1 ∧ p.2.length ≤ 4 ∧ SendsP ls n p.2
def Once (l : List (Int × Int × Int)) (t : Int × Int × Int) : Prop := ∀ (k : Nat) (u : Int × Int × Int), l[k]? = some u → ¬ (u.1 = t.1 ∧ u.2.1 = t.2.1)
def TakesP (ls : List (Int × Int)) (n : Int) (m : Nat) (s : St) : Prop :=
  ∀ (j : Nat) (t : Int × Int × Int), s.takes[j]? = some t → (t.1, n) ∈ ls ∧ LetP t.2.1 ∧ StaP m t.2.2 ∧ Once (s.takes.take j) t
def KeptP (ss : List St) (s : St) (t : Int × Int × Int) : Prop := ∀ (j : Nat) (w : Int), s.waits[j]? = some w → w ≠ t.1 → ∀ to, ss[t.2.2.toNat]? = some to → to.mode = 2 ∧ w ∈ to.waits
def StaysP (ss : List St) (s : St) : Prop := ∀ (j : Nat) (t : Int × Int × Int), s.takes[j]? = some t → KeptP ss s t
def ModeP (s : St) : Prop := 0 ≤ s.mode ∧ s.mode < 3
def MayP (ls : List (Int × Int)) (n : Int) (ss : List St) (s : St) : Prop := ModeP s ∧ WaitsP ls n s ∧ PicksP ls n ss.length s ∧ TakesP ls n ss.length s ∧ StaysP ss s
def NodeP (ls : List (Int × Int)) (n : Int) (x : Nd) : Prop :=
  1 ≤ x.states.length ∧ x.states.length ≤ 8 ∧ StaP x.states.length x.start ∧ ∀ (j : Nat) (s : St), x.states[j]? = some s → MayP ls n x.states s
def TabP (N : Int) (ls : List (Int × Int)) (T : List Nd) : Prop := RightP N ls ∧ (T.length : Int) = N ∧ ∀ (n : Nat) (x : Nd), T[n]? = some x → NodeP ls n x
/-- A loop that looks for what is not so: what is known of those ahead. -/
theorem all_snoc {α : Type} {l : List α} {P : Nat → α → Prop} {i : Nat} (hi : i < l.length) (h : ∀ j x, j < i → l[j]? = some x → P j x) (hx : P i l[i]) : ∀ j x, j < i + 1 → l[j]? = some x → P j x := by
  intro j x hj e
  rcases Nat.lt_or_ge j i with q | q
  · exact h j x q e
  · obtain rfl : j = i := by omega
    rw [List.getElem?_eq_getElem hi] at e
    cases e; exact hx
theorem all_end {α : Type} {l : List α} {P : Nat → α → Prop} (h : ∀ j x, j < l.length → l[j]? = some x → P j x) : ∀ j x, l[j]? = some x → P j x :=
  fun j x e => h j x (List.getElem?_eq_some_iff.1 e).1 e
end Go.Proofs.HO

/- Tables: a state's waits, picks, and takes. -/
namespace Go.Proofs.HO
open Go Go.Idl Go.Proofs Go.GP
set_option maxHeartbeats 20000000
set_option maxRecDepth 100000
variable (s : St) (n st : Int) (ss : List St) (N : Int) (ls : List (Int × Int)) (hl : ls.length ≤ 1000000)
end Go.Proofs.HO

/- Tables: what a state waits for, picks, and takes. -/
namespace Go.Proofs.HO
open Go Go.Idl Go.Proofs Go.GP
set_option maxHeartbeats 20000000
set_option maxRecDepth 100000
def firstB {α : Type} (f : α → Bool) : Nat → List α → Int
  | _, [] => -1
  | i, x :: r => if f x = true then i else firstB f (i + 1) r
variable (s : St) (n st : Int) (ss : List St) (N : Int) (ls : List (Int × Int)) (hl : ls.length ≤ 1000000)
end Go.Proofs.HO
