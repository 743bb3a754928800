/- The law GatherPlain is proved: whatever is handed in, it answers true, and what is handed in reads as it did. No condition beyond the given statement's own. -/
import Derived.Test.YteebghpjgcacmaaGreatYzGp
import Derived.Test.YteebghpjgcacmaaGreatYWq
set_option linter.unusedSimpArgs false
set_option linter.unusedVariables false
namespace Go.Proofs.YteebghpjgcacmaaGreat
open Go Go.Idl Go.Proofs
set_option maxRecDepth 100000
open Go.ChangeShapes Go.WideShapes Go.ChangeAt Go.RowKit
theorem GatherPlain_holds:Rows.GatherPlainSaid:=
 OpenClaim.holds_of_wide 6 Tryz.f6 rfl rfl rfl rfl rfl rfl rfl ⟨rfl,rfl,rfl,rfl,rfl⟩ rfl rfl rfl rfl rfl (by kernel_rfl) Tryz.func6 (by kernel_rfl)
  (of_decide_eq_true (by kernel_rfl)) (by unfold Func.isWrapper;rw [if_neg (by decide+kernel)];exact⟨rfl,rfl⟩)
  (fun os started H enc _=>qm7 (C:=Tryz.checked) (s:=Rows.gatherPlainSpec) started Tryz.own (by kernel_rfl) Tryz.func6
   (ChangeSpec.witness6 (enc:=enc) (C:=Tryz.checked) false ⟨#[],#[.agg #[.int .i64 0, .slice none 0 0, .slice none 0 0, .bool false], .slice none 0 0], []⟩ 8 (by kernel_rfl) (by kernel_rfl) (by kernel_rfl) (by kernel_rfl))
   Tryz.laidOut (tb:=4) (by kernel_rfl) Tryz.underlying4 (by kernel_rfl) rfl (fun ds h=>match ds,h with | [_,_],_=>rfl)
   (argsOpen_cons op_app (fun _=>agg (by kernel_rfl)) (argsOpen_cons qpt (fun _=>one (by kernel_rfl)) (qkg)))
   fun⟨a,l,_⟩ _=>GY.Plain_pure a l)
end Go.Proofs.YteebghpjgcacmaaGreat
