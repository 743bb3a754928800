/- The law TreeOwn is proved: whatever is handed in, it answers true, and what is handed in reads as it did. No condition beyond the given statement's own. -/
import Derived.Test.YtlbjmfpbpiicdaaTO
import Derived.Test.YtlbjmfpbpiicdaaTB4
namespace Go.Proofs.Ytlbjmfpbpiicdaa
open Go Go.Idl Go.Proofs
open Go.ChangeShapes Go.WideShapes Go.ChangeAt Go.RowKit
theorem TreeOwn_holds : Rows.TreeOwnSaid :=
  OpenClaim.holds_of_wide 7 Try.f7 rfl rfl rfl rfl rfl rfl rfl ⟨rfl, rfl, rfl, rfl, rfl⟩ rfl rfl rfl rfl rfl (by kernel_rfl) Try.func7 (by kernel_rfl)
    (of_decide_eq_true (by kernel_rfl)) (by unfold Func.isWrapper; rw [if_neg (by decide +kernel)]; exact ⟨rfl, rfl⟩)
    (fun os started H enc _ => law_lifted (C := Try.checked) (s := Rows.treeOwnSpec) started Try.own (by kernel_rfl) Try.func7
      (ChangeSpec.witness6 (enc := enc) (C := Try.checked) false ⟨#[], #[.slice none 0 0], []⟩ 8 (by kernel_rfl) (by kernel_rfl) (by kernel_rfl) (by kernel_rfl))
      Try.laidOut (tb := 4) (by kernel_rfl) Try.underlying4 (by kernel_rfl) rfl (fun ds h => match ds, h with | [_], _ => rfl)
      (argsOpen_cons op_ints (fun _ => one (by kernel_rfl)) (argsOpen_nil))
      fun ⟨l, _⟩ _ => TT.TreeOwn_spec l)
end Go.Proofs.Ytlbjmfpbpiicdaa
