/- The law ScaleCaps is proved: whatever is handed in, it answers true, and what is handed in reads as it did. No condition beyond the given statement's own. -/
import Derived.Test.YtkbbafmaddkehaaSO
import Derived.Test.YtkbbafmaddkehaaSD
namespace Go.Proofs.Ytkbbafmaddkehaa
open Go Go.Idl Go.Proofs
open Go.ChangeShapes Go.WideShapes Go.ChangeAt Go.RowKit
theorem ScaleCaps_holds : Rows.ScaleCapsSaid :=
  OpenClaim.holds_of_wide 6 Try.f6 rfl rfl rfl rfl rfl rfl rfl ⟨rfl, rfl, rfl, rfl, rfl⟩ rfl rfl rfl rfl rfl (by kernel_rfl) Try.func6 (by kernel_rfl)
    (of_decide_eq_true (by kernel_rfl)) (by unfold Func.isWrapper; rw [if_neg (by decide +kernel)]; exact ⟨rfl, rfl⟩)
    (fun os started H enc _ => law_lifted (C := Try.checked) (s := Rows.scaleCapsSpec) started Try.own (by kernel_rfl) Try.func6
      (ChangeSpec.witness6 (enc := enc) (C := Try.checked) false ⟨#[], #[.float .f64 0, .float .f64 0, .int .u8 0], []⟩ 8 (by kernel_rfl) (by kernel_rfl) (by kernel_rfl) (by kernel_rfl))
      Try.laidOut (tb := 4) (by kernel_rfl) Try.underlying4 (by kernel_rfl) rfl (fun ds h => match ds, h with | [_, _, _], _ => rfl)
      (argsOpen_cons op_f64 (fun _ => one (by kernel_rfl)) (argsOpen_cons op_f64 (fun _ => one (by kernel_rfl)) (argsOpen_cons op_u8 (fun _ => one (by kernel_rfl)) (argsOpen_nil))))
      fun ⟨x, y, n, _⟩ ⟨hx, hy, hn, _⟩ => by obtain ⟨b, rfl, hb⟩ := u8N hn; exact TS.Caps_spec x y b hx hy hb)
end Go.Proofs.Ytkbbafmaddkehaa
