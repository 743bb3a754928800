/- The law ScaleExact is proved: whatever is handed in, it answers true, and what is handed in reads as it did. No condition beyond the given statement's own. -/
import Derived.Test.YtkbbafmaddkehaaSO
import Derived.Test.YtkbbafmaddkehaaSE
namespace Go.Proofs.Ytkbbafmaddkehaa
open Go Go.Idl Go.Proofs
open Go.ChangeShapes Go.WideShapes Go.ChangeAt Go.RowKit
theorem ScaleExact_holds : Rows.ScaleExactSaid :=
  OpenClaim.holds_of_wide 10 Try.f10 rfl rfl rfl rfl rfl rfl rfl ⟨rfl, rfl, rfl, rfl, rfl⟩ rfl rfl rfl rfl rfl (by kernel_rfl) Try.func10 (by kernel_rfl)
    (of_decide_eq_true (by kernel_rfl)) (by unfold Func.isWrapper; rw [if_neg (by decide +kernel)]; exact ⟨rfl, rfl⟩)
    (fun os started H enc _ => law_lifted (C := Try.checked) (s := Rows.scaleExactSpec) started Try.own (by kernel_rfl) Try.func10
      (ChangeSpec.witness6 (enc := enc) (C := Try.checked) false ⟨#[], #[.int .i32 0, .int .i32 0], []⟩ 8 (by kernel_rfl) (by kernel_rfl) (by kernel_rfl) (by kernel_rfl))
      Try.laidOut (tb := 4) (by kernel_rfl) Try.underlying4 (by kernel_rfl) rfl (fun ds h => match ds, h with | [_, _], _ => rfl)
      (argsOpen_cons op_i32 (fun _ => one (by kernel_rfl)) (argsOpen_cons op_i32 (fun _ => one (by kernel_rfl)) (argsOpen_nil)))
      fun ⟨a, b, _⟩ ⟨ha, hb, _⟩ => TS.Exact_spec a b (i32N ha) (i32N hb))
end Go.Proofs.Ytkbbafmaddkehaa
