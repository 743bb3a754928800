/- The law ScriptActs is proved: whatever is handed in, it answers true, and what is handed in reads as it did. No condition beyond the given statement's own. -/
import Derived.Test.YtoiledoommblcaaGreatZO
import Derived.Test.YtoiledoommblcaaGreatZY
namespace Go.Proofs.YtoiledoommblcaaGreat
open Go Go.Idl Go.Proofs
open Go.ChangeShapes Go.WideShapes Go.ChangeAt Go.RowKit
set_option maxRecDepth 100000
theorem ScriptActs_holds : Rows.ScriptActsSaid :=
  OpenClaim.holds_of_wide 4 Tryz.f4 rfl rfl rfl rfl rfl rfl rfl ⟨rfl, rfl, rfl, rfl, rfl⟩ rfl rfl rfl rfl rfl (by kernel_rfl) Tryz.func4 (by kernel_rfl)
    (of_decide_eq_true (by kernel_rfl)) (by unfold Func.isWrapper; rw [if_neg (by decide +kernel)]; exact ⟨rfl, rfl⟩)
    (fun os started H enc _ => law_lifted (C := Tryz.checked) (s := Rows.scriptActsSpec) started Tryz.own (by kernel_rfl) Tryz.func4
      (ChangeSpec.witness6 (enc := enc) (C := Tryz.checked) false ⟨#[], #[.agg #[.int .i64 0, .slice none 0 0, .slice none 0 0, .bool false, .float .f64 0, .slice none 0 0], .int .i64 0, .agg #[.int .i64 0, .int .i64 0]], []⟩ 8 (by kernel_rfl) (by kernel_rfl) (by kernel_rfl) (by kernel_rfl))
      Tryz.laidOut (tb := 4) (by kernel_rfl) Tryz.underlying4 (by kernel_rfl) rfl (fun ds h => match ds, h with | [_, _, _], _ => rfl)
      (argsOpen_cons op_script (fun _ => agg (by kernel_rfl)) (argsOpen_cons op_int (fun _ => one (by kernel_rfl)) (argsOpen_cons op_link (fun _ => agg (by kernel_rfl)) (argsOpen_nil))))
      fun ⟨s, k, x, _⟩ ⟨h, _, hx, _⟩ => TZ.ScriptActs_spec s k x.1 x.2 h hx.1 hx.2)
end Go.Proofs.YtoiledoommblcaaGreat
