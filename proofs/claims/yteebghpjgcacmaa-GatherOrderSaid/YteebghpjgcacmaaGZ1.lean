/- The law GatherOrder is proved: whatever is handed in, it answers true, and what is handed in reads as it did. No condition beyond the given statement's own. -/
import Derived.Test.YteebghpjgcacmaaGO
import Derived.Test.YteebghpjgcacmaaGOr
set_option linter.unusedSimpArgs false
set_option linter.unusedVariables false
namespace Go.Proofs.Yteebghpjgcacmaa
open Go Go.Idl Go.Proofs
open Go.ChangeShapes Go.WideShapes Go.ChangeAt Go.RowKit
set_option maxRecDepth 100000
theorem GatherOrder_holds : Rows.GatherOrderSaid :=
  OpenClaim.holds_of_wide 3 Try.f3 rfl rfl rfl rfl rfl rfl rfl ⟨rfl, rfl, rfl, rfl, rfl⟩ rfl rfl rfl rfl rfl (by kernel_rfl) Try.func3 (by kernel_rfl)
    (of_decide_eq_true (by kernel_rfl)) (by unfold Func.isWrapper; rw [if_neg (by decide +kernel)]; exact ⟨rfl, rfl⟩)
    (fun os started H enc _ => law_lifted (C := Try.checked) (s := Rows.gatherOrderSpec) started Try.own (by kernel_rfl) Try.func3
      (ChangeSpec.witness6 (enc := enc) (C := Try.checked) false ⟨#[], #[.slice none 0 0, .slice none 0 0, .slice none 0 0], []⟩ 8 (by kernel_rfl) (by kernel_rfl) (by kernel_rfl) (by kernel_rfl))
      Try.laidOut (tb := 4) (by kernel_rfl) Try.underlying4 (by kernel_rfl) rfl (fun ds h => match ds, h with | [_, _, _], _ => rfl)
      (argsOpen_cons op_pieces (fun _ => one (by kernel_rfl)) (argsOpen_cons op_pieces (fun _ => one (by kernel_rfl)) (argsOpen_cons op_pieces (fun _ => one (by kernel_rfl)) (argsOpen_nil))))
      fun ⟨l, k, m, _⟩ _ => GR.order_spec l k m)
end Go.Proofs.Yteebghpjgcacmaa
