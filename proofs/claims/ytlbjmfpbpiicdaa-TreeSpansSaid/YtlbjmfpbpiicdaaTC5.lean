/- The law TreeSpans is proved: whatever is handed in, it answers true, and what is handed in reads as it did. No condition beyond the given statement's own. -/
import Derived.Test.YtlbjmfpbpiicdaaTO2
namespace Go.Proofs.Ytlbjmfpbpiicdaa
open Go Go.Idl Go.Proofs
open Go.ChangeShapes Go.WideShapes Go.ChangeAt Go.RowKit
theorem TreeSpans_holds : Rows.TreeSpansSaid :=
  OpenClaim.holds_of_wide 3 Try.f3 rfl rfl rfl rfl rfl rfl rfl ⟨rfl, rfl, rfl, rfl, rfl⟩ rfl rfl rfl rfl rfl (by kernel_rfl) Try.func3 (by kernel_rfl)
    (of_decide_eq_true (by kernel_rfl)) (by unfold Func.isWrapper; rw [if_neg (by decide +kernel)]; exact ⟨rfl, rfl⟩)
    (fun os started H enc _ => law_lifted (C := Try.checked) (s := Rows.treeSpansSpec) started Try.own (by kernel_rfl) Try.func3
      (ChangeSpec.witness6 (enc := enc) (C := Try.checked) false ⟨#[], #[.agg #[.int .i64 0, .slice none 0 0], .int .i64 0, .slice none 0 0], []⟩ 8 (by kernel_rfl) (by kernel_rfl) (by kernel_rfl) (by kernel_rfl))
      Try.laidOut (tb := 4) (by kernel_rfl) Try.underlying4 (by kernel_rfl) rfl (fun ds h => match ds, h with | [_, _, _], _ => rfl)
      (argsOpen_cons op_graph (fun _ => agg (by kernel_rfl)) (argsOpen_cons op_int (fun _ => one (by kernel_rfl)) (argsOpen_cons op_u16s (fun _ => one (by kernel_rfl)) (argsOpen_nil))))
      fun ⟨⟨N, ls⟩, r, p, _⟩ ⟨_, _, ⟨hp, _⟩, _⟩ => TT.Spans_spec N ls r p fun x hx => by
        have h := hp x hx
        have h1 : IntKind.u16.min = 0 := by decide
        have h2 : IntKind.u16.max = 65535 := by decide
        rw [h1, h2] at h
        exact h)
end Go.Proofs.Ytlbjmfpbpiicdaa
