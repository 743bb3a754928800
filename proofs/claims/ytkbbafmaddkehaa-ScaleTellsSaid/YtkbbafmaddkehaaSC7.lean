/- The law ScaleTells is proved: whatever is handed in, it answers true, and what is handed in reads as it did. No condition beyond the given statement's own. -/
import Derived.Test.YtkbbafmaddkehaaSO3
import Derived.Test.YtkbbafmaddkehaaSQ
namespace Go.Proofs.Ytkbbafmaddkehaa
open Go Go.Idl Go.Proofs
open Go.ChangeShapes Go.WideShapes Go.ChangeAt Go.RowKit
theorem ScaleTells_holds : Rows.ScaleTellsSaid :=
  OpenClaim.holds_of_wide 3 Try.f3 rfl rfl rfl rfl rfl rfl rfl ⟨rfl, rfl, rfl, rfl, rfl⟩ rfl rfl rfl rfl rfl (by kernel_rfl) Try.func3 (by kernel_rfl)
    (of_decide_eq_true (by kernel_rfl)) (by unfold Func.isWrapper; rw [if_neg (by decide +kernel)]; exact ⟨rfl, rfl⟩)
    (fun os started H enc _ => law_lifted (C := Try.checked) (s := Rows.scaleTellsSpec) started Try.own (by kernel_rfl) Try.func3
      (ChangeSpec.witness6 (enc := enc) (C := Try.checked) false ⟨#[], #[.float .f64 0, .float .f64 0, .agg #[.int .i64 0, .int .i64 0, .slice none 0 0]], []⟩ 8 (by kernel_rfl) (by kernel_rfl) (by kernel_rfl) (by kernel_rfl))
      Try.laidOut (tb := 4) (by kernel_rfl) Try.underlying4 (by kernel_rfl) rfl (fun ds h => match ds, h with | [_, _, _], _ => rfl)
      (argsOpen_cons op_f64 (fun _ => one (by kernel_rfl)) (argsOpen_cons op_f64 (fun _ => one (by kernel_rfl)) (argsOpen_cons op_many (fun _ => agg (by kernel_rfl)) (argsOpen_nil))))
      fun ⟨x, y, ⟨A, B, l⟩, _⟩ ⟨hx, hy, ⟨_, _, hl, _, hm⟩, _⟩ => by
        obtain ⟨m, e, hb⟩ := bitsN l hl
        have hlen : m.length ≤ 9223372036854775807 := by
          have := congrArg List.length e
          simp only [pr, List.length_map] at this
          rw [← this]; exact hm
        show Idl.PCall _ _ [_, _, .agg (List.map _ (eMany (A, B, l)))] _ _
        unfold eMany
        simp only [e]
        exact TS.Tells_spec x y hx hy A B m hb hlen)
end Go.Proofs.Ytkbbafmaddkehaa
