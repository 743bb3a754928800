/- In whichever order messages are taken: the law's walk. -/
import Derived.Test.YtnbhjoopcaaafaaGreatHTl
import Derived.Test.YtnbhjoopcaaafaaGreatHP10
set_option linter.unusedSimpArgs false
set_option linter.unusedVariables false
namespace Go.Proofs.HO
open Go Go.Idl Go.Proofs Go.GP
set_option maxHeartbeats 20000000
set_option maxRecDepth 100000
def eU8 (n : Int) : List PV := [.sc (.int .u8 n)]
theorem ris_pw : ∀ {last : Int} {l : List (Int × Int)}, RisP last l → l.Pairwise (fun a b => a.1 < b.1) ∧ ∀ x ∈ l, last < x.1
  | _, [], _ => by simp
  | last, x :: r, h => by
    obtain ⟨h1, h2⟩ := ris_pw h.2
    have h0 := h.1.1
    exact ⟨List.pairwise_cons.2 ⟨h2, h1⟩, fun y hy => by
      rcases List.mem_cons.1 hy with rfl | hy
      · exact h0
      · have := h2 y hy; omega⟩
/-- The letter's message. -/
def msg (L : List Int) (i : Nat) : Int × Int := (100 + i, bits .and .i64 ((L[i]?).getD 0) 3)
def newM (k : Int) (inn : List (List (Int × Int))) (ls : List (Int × Int)) (x : Int) (i : Nat) : Prop := ∃ (z : Nat) (l : List (Int × Int)) (lk : Int × Int), k = z ∧ inn[z]? = some l ∧ ls[x.toNat]? = some lk ∧ ∀ y ∈ l, y.1 ≠ 100 + (i : Int)
def rng (a : Nat) : List Int := (List.range a).map fun q : Nat => (q : Int)
end Go.Proofs.HO
