/- The law TreeOthers is proved: whatever is handed in, it answers true, and what is handed in reads as it did. No condition beyond the given statement's own. -/
import Derived.Test.YtlbjmfpbpiicdaaTO
import Derived.Test.YtlbjmfpbpiicdaaTB3
namespace Go.Proofs.Ytlbjmfpbpiicdaa
open Go Go.Idl Go.Proofs
open Go.ChangeShapes Go.WideShapes Go.ChangeAt Go.RowKit
theorem TreeOthers_holds : Rows.TreeOthersSaid :=
  OpenClaim.holds_of_wide 6 Try.f6 rfl rfl rfl rfl rfl rfl rfl ⟨rfl, rfl, rfl, rfl, rfl⟩ rfl rfl rfl rfl rfl (by kernel_rfl) Try.func6 (by kernel_rfl)
    (of_decide_eq_true (by kernel_rfl)) (by unfold Func.isWrapper; rw [if_neg (by decide +kernel)]; exact ⟨rfl, rfl⟩)
    (fun os started H enc _ => law_lifted (C := Try.checked) (s := Rows.treeOthersSpec) started Try.own (by kernel_rfl) Try.func6
      (ChangeSpec.witness6 (enc := enc) (C := Try.checked) false ⟨#[], #[.int .u8 0, .slice none 0 0], []⟩ 8 (by kernel_rfl) (by kernel_rfl) (by kernel_rfl) (by kernel_rfl))
      Try.laidOut (tb := 4) (by kernel_rfl) Try.underlying4 (by kernel_rfl) rfl (fun ds h => match ds, h with | [_, _], _ => rfl)
      (argsOpen_cons op_u8 (fun _ => one (by kernel_rfl)) (argsOpen_cons op_ops (fun _ => one (by kernel_rfl)) (argsOpen_nil)))
      fun ⟨o, l, _⟩ ⟨h1, h2, _⟩ => TT.TreeOthers_spec o h1 l)
end Go.Proofs.Ytlbjmfpbpiicdaa
