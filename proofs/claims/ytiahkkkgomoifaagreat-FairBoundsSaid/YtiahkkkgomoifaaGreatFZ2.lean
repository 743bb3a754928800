/- The law FairBounds is proved: whatever is handed in, it answers true, and what is handed in reads as it did. No condition beyond the given statement's own. -/
import Derived.Test.YtiahkkkgomoifaaGreatFAo
import Derived.Test.YtiahkkkgomoifaaGreatFAc
set_option linter.unusedSimpArgs false
set_option linter.unusedVariables false
namespace Go.Proofs.YtiahkkkgomoifaaGreat
open Go Go.Idl Go.Proofs
set_option maxRecDepth 100000
open Go.ChangeShapes Go.WideShapes Go.ChangeAt Go.RowKit
theorem FairBounds_holds:Rows.FairBoundsSaid:=
 OpenClaim.holds_of_wide 5 Tryz.f5 rfl rfl rfl rfl rfl rfl rfl ⟨rfl,rfl,rfl,rfl,rfl⟩ rfl rfl rfl rfl rfl (by kernel_rfl) Tryz.func5 (by kernel_rfl)
  (of_decide_eq_true (by kernel_rfl)) (by unfold Func.isWrapper;rw [if_neg (by decide+kernel)];exact⟨rfl,rfl⟩)
  (fun os started H enc _=>law_lifted (C:=Tryz.checked) (s:=Rows.fairBoundsSpec) started Tryz.own (by kernel_rfl) Tryz.func5
   (ChangeSpec.witness6 (enc:=enc) (C:=Tryz.checked) false ⟨#[],#[.int .i64 0, .int .i64 0, .agg #[.int .u16 0, .int .u16 0]], []⟩ 8 (by kernel_rfl) (by kernel_rfl) (by kernel_rfl) (by kernel_rfl))
   Tryz.laidOut (tb:=4) (by kernel_rfl) Tryz.underlying4 (by kernel_rfl) rfl (fun ds h=>match ds,h with | [_,_,_],_=>rfl)
   (argsOpen_cons op_int (fun _=>one (by kernel_rfl)) (argsOpen_cons op_int (fun _=>one (by kernel_rfl)) (argsOpen_cons op_two (fun _=>agg (by kernel_rfl)) (argsOpen_nil))))
   fun⟨n,m,x,_⟩ h=>FA.FairBounds_pure n m x.1 x.2 h.2.2.1.1 h.2.2.1.2)
end Go.Proofs.YtiahkkkgomoifaaGreat
