/- The law ScaleAgain is proved: whatever is handed in, it answers true, and what is handed in reads as it did. No condition beyond the given statement's own. -/
import Derived.Test.YtkbbafmaddkehaaSO2
import Derived.Test.YtkbbafmaddkehaaST
namespace Go.Proofs.Ytkbbafmaddkehaa
open Go Go.Idl Go.Proofs
open Go.ChangeShapes Go.WideShapes Go.ChangeAt Go.RowKit
theorem ScaleAgain_holds : Rows.ScaleAgainSaid :=
  OpenClaim.holds_of_wide 9 Try.f9 rfl rfl rfl rfl rfl rfl rfl ⟨rfl, rfl, rfl, rfl, rfl⟩ rfl rfl rfl rfl rfl (by kernel_rfl) Try.func9 (by kernel_rfl)
    (of_decide_eq_true (by kernel_rfl)) (by unfold Func.isWrapper; rw [if_neg (by decide +kernel)]; exact ⟨rfl, rfl⟩)
    (fun os started H enc _ => law_lifted (C := Try.checked) (s := Rows.scaleAgainSpec) started Try.own (by kernel_rfl) Try.func9
      (ChangeSpec.witness6 (enc := enc) (C := Try.checked) false ⟨#[], #[.slice none 0 0], []⟩ 8 (by kernel_rfl) (by kernel_rfl) (by kernel_rfl) (by kernel_rfl))
      Try.laidOut (tb := 4) (by kernel_rfl) Try.underlying4 (by kernel_rfl) rfl (fun ds h => match ds, h with | [_], _ => rfl)
      (argsOpen_cons op_u64s (fun _ => one (by kernel_rfl)) (argsOpen_nil))
      fun ⟨l, _⟩ ⟨⟨h, _, hl⟩, _⟩ => by
        obtain ⟨m, e, hm⟩ := bitsN l h
        have hlen : m.length ≤ 9223372036854775807 := by
          have := congrArg List.length e
          simp only [pr, List.length_map] at this
          rw [← this]; exact hl
        rw [e]; exact TS.ScaleAgain_spec m hm hlen)
end Go.Proofs.Ytkbbafmaddkehaa
