/- The law HostOwn is proved: whatever is handed in, it answers true, and what is handed in reads as it did. No condition beyond the given statement's own. -/
import Derived.Test.YtnbhjoopcaaafaaGreatHPo3
import Derived.Test.YtnbhjoopcaaafaaGreatHMf
set_option linter.unusedSimpArgs false
set_option linter.unusedVariables false
namespace Go.Proofs.YtnbhjoopcaaafaaGreat
open Go Go.Idl Go.Proofs
set_option maxRecDepth 100000
open Go.ChangeShapes Go.WideShapes Go.ChangeAt Go.RowKit
theorem HostOwn_holds:Rows.HostOwnSaid:=
 OpenClaim.holds_of_wide 5 Tryz.f5 rfl rfl rfl rfl rfl rfl rfl ⟨rfl,rfl,rfl,rfl,rfl⟩ rfl rfl rfl rfl rfl (by kernel_rfl) Tryz.func5 (by kernel_rfl)
  (of_decide_eq_true (by kernel_rfl)) (by unfold Func.isWrapper;rw [if_neg (by decide+kernel)];exact⟨rfl,rfl⟩)
  (fun os started H enc _=>law_lifted (C:=Tryz.checked) (s:=Rows.hostOwnSpec) started Tryz.own (by kernel_rfl) Tryz.func5
   (ChangeSpec.witness6 (enc:=enc) (C:=Tryz.checked) false ⟨#[],#[.agg #[.int .i64 0, .slice none 0 0, .slice none 0 0, .bool false], .agg #[.int .i64 0, .int .i64 0, .int .i64 0, .slice none 0 0, .slice none 0 0], .agg #[.int .i64 0, .int .i64 0, .int .i64 0, .int .i64 0]], []⟩ 8 (by kernel_rfl) (by kernel_rfl) (by kernel_rfl) (by kernel_rfl))
   Tryz.laidOut (tb:=4) (by kernel_rfl) Tryz.underlying4 (by kernel_rfl) rfl (fun ds h=>match ds,h with | [_,_,_],_=>rfl)
   (argsOpen_cons op_app (fun _=>agg (by kernel_rfl)) (argsOpen_cons op_host (fun _=>agg (by kernel_rfl)) (argsOpen_cons op_op (fun _=>agg (by kernel_rfl)) (argsOpen_nil))))
   fun⟨a,h,x,_⟩ _=>HO.HostOwn_pure a h x.1 x.2.1 x.2.2)
end Go.Proofs.YtnbhjoopcaaafaaGreat
