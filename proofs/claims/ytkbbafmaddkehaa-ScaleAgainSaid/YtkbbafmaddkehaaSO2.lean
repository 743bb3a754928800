/- A list of bits as an argument. -/
import Derived.Test.YtkbbafmaddkehaaSO
import Derived.Test.YtkbbafmaddkehaaSK
namespace Go.Proofs.Ytkbbafmaddkehaa
open Go Go.Idl Go.Proofs
open Go.ChangeShapes Go.WideShapes Go.ChangeAt Go.RowKit
theorem bitsN (l : List Int) (h : ∀ a ∈ l, IntKind.u64.min ≤ a ∧ a ≤ IntKind.u64.max) : ∃ m : List Nat, pr (fun n : Int => [PV.sc (.int .u64 n)]) l = pr TS.eU m ∧ ∀ x ∈ m, x < 18446744073709551616 := by
  induction l with
  | nil => exact ⟨[], rfl, by simp⟩
  | cons a r ih =>
    obtain ⟨m, e, hm⟩ := ih fun x hx => h x (List.mem_cons_of_mem _ hx)
    obtain ⟨b, rfl, hb⟩ := u64N (h a (List.mem_cons_self ..))
    refine ⟨b :: m, ?_, fun x hx => ?_⟩
    · simp only [pr, List.map_cons] at e ⊢
      rw [e]; rfl
    · rcases List.mem_cons.1 hx with rfl | hx
      · exact hb
      · exact hm x hx
end Go.Proofs.Ytkbbafmaddkehaa
