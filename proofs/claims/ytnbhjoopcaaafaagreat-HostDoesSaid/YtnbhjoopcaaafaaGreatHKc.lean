/- What a pick and a take count: the plain law. -/
import Derived.Test.YtnbhjoopcaaafaaGreatHPl
import Derived.Test.YtnbhjoopcaaafaaGreatHOw
set_option linter.unusedSimpArgs false
set_option linter.unusedVariables false
namespace Go.Proofs.HO
open Go Go.Idl Go.Proofs Go.GP
def cnt (l : Int) (S : List (Int × Int × Int)) : Nat := S.countP (fun e => e.1 == l)
theorem pickH_cases {ls : List (Int × Int)} {st : St} {h : Hs} {k : Int} : (∃ e : Int, e ≠ 0 ∧ pickH ls st h k = (zHs, [], e)) ∨
  ∃ p out sent, p ∈ st.picks ∧ pkGo ls h.node p.2 h.out [] = some (out, sent) ∧ pickH ls st h k = (⟨h.node, p.1, h.steps + 1, h.inn, out⟩, sent, 0) := by
 unfold pickH
 split
 ·exact .inl ⟨8, by decide, rfl⟩
 split
 ·exact .inl ⟨3, by decide, rfl⟩
 cases h3 : st.picks[k.toNat]? with
 | none => exact .inl ⟨3, by decide, rfl⟩
 | some p =>
   simp only
   cases h4 : pkGo ls h.node p.2 h.out [] with
   | none => exact .inl ⟨2, by decide, rfl⟩
   | some r => exact .inr ⟨p, r.1, r.2, List.mem_of_getElem? h3, h4, rfl⟩
end Go.Proofs.HO
