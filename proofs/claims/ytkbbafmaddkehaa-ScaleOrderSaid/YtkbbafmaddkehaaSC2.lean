/- The law ScaleOrder is proved: whatever is handed in, it answers true, and what is handed in reads as it did. No condition beyond the given statement's own. -/
import Derived.Test.YtkbbafmaddkehaaSO
import Derived.Test.YtkbbafmaddkehaaSC
namespace Go.Proofs.Ytkbbafmaddkehaa
open Go Go.Idl Go.Proofs
open Go.ChangeShapes Go.WideShapes Go.ChangeAt Go.RowKit
theorem ScaleOrder_holds : Rows.ScaleOrderSaid :=
  OpenClaim.holds_of_wide 4 Try.f4 rfl rfl rfl rfl rfl rfl rfl ⟨rfl, rfl, rfl, rfl, rfl⟩ rfl rfl rfl rfl rfl (by kernel_rfl) Try.func4 (by kernel_rfl)
    (of_decide_eq_true (by kernel_rfl)) (by unfold Func.isWrapper; rw [if_neg (by decide +kernel)]; exact ⟨rfl, rfl⟩)
    (fun os started H enc _ => law_lifted (C := Try.checked) (s := Rows.scaleOrderSpec) started Try.own (by kernel_rfl) Try.func4
      (ChangeSpec.witness6 (enc := enc) (C := Try.checked) false ⟨#[], #[.int .u64 0, .int .u64 0, .int .u64 0], []⟩ 8 (by kernel_rfl) (by kernel_rfl) (by kernel_rfl) (by kernel_rfl))
      Try.laidOut (tb := 4) (by kernel_rfl) Try.underlying4 (by kernel_rfl) rfl (fun ds h => match ds, h with | [_, _, _], _ => rfl)
      (argsOpen_cons op_u64 (fun _ => one (by kernel_rfl)) (argsOpen_cons op_u64 (fun _ => one (by kernel_rfl)) (argsOpen_cons op_u64 (fun _ => one (by kernel_rfl)) (argsOpen_nil))))
      fun ⟨n, n', n'', _⟩ ⟨h, h', h'', _⟩ => by obtain ⟨b, rfl, hb⟩ := u64N h; obtain ⟨b', rfl, hb'⟩ := u64N h'; obtain ⟨b'', rfl, hb''⟩ := u64N h''; exact TS.Order_spec b b' b'' hb hb' hb'')
end Go.Proofs.Ytkbbafmaddkehaa
