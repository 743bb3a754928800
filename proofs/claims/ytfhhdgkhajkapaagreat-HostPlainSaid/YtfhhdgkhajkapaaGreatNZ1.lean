/- The law HostPlain is proved: whatever is handed in, it answers true, and what is handed in reads as it did. No condition beyond the given statement's own. -/
import Derived.Test.YtfhhdgkhajkapaaGreatNZ0
import Derived.Test.YtfhhdgkhajkapaaGreatNWq
set_option linter.unusedSimpArgs false
set_option linter.unusedVariables false
namespace Go.Proofs.YtfhhdgkhajkapaaGreat
open Go Go.Idl Go.Proofs
set_option maxRecDepth 100000
open Go.ChangeShapes Go.WideShapes Go.ChangeAt Go.RowKit
theorem qiT (os:Os) (H:Type) (enc:TypeId × Value→H): ∃(w:World) (tape:Tape) (i:Input),w.os=os∧(w.forCall tape i).Shaped Tryz.checked.prog∧i.vars= []∧Input.okWide Tryz.checked.prog (w.forCall tape i) .any w.heap.size 3 i∧
   Rows.hostPlainSpec.pre6 enc Tryz.checked.prog Tryz.f3 [] false (w.forCall tape i).memory i.args∧({}:Assume).holds Tryz.checked.prog (lone (Frame.enter Tryz.checked.prog 3 i.args .normal) [] (w.forCall tape i)):=
 ChangeSpec.witness6 (enc:=enc) (C:=Tryz.checked) false ⟨#[],#[.agg #[.int .i64 0, .slice none 0 0, .slice none 0 0, .bool false], .slice none 0 0], []⟩ 8 (by kernel_rfl) (by kernel_rfl) (by kernel_rfl) (by kernel_rfl)
theorem HostPlain_holds:Rows.HostPlainSaid:=
 OpenClaim.holds_of_wide 3 Tryz.f3 rfl rfl rfl rfl rfl rfl rfl ⟨rfl,rfl,rfl,rfl,rfl⟩ rfl rfl rfl rfl rfl (by kernel_rfl) Tryz.func3 qgF
  (of_decide_eq_true (by kernel_rfl)) (by unfold Func.isWrapper;rw [if_neg (by decide+kernel)];exact⟨rfl,rfl⟩)
  (fun os started H enc _=>qmd (C:=Tryz.checked) (s:=Rows.hostPlainSpec) started Tryz.own (by kernel_rfl) Tryz.func3
   (qiT os H enc)
   Tryz.laidOut (tb:=4) (by kernel_rfl) Tryz.underlying4 (by kernel_rfl) rfl (fun ds h=>match ds,h with | [_,_],_=>rfl)
   (argsOpen_cons op_app (fun _=>agg (by kernel_rfl)) (argsOpen_cons qoi (fun _=>one (by kernel_rfl)) (qjG)))
   fun⟨a,l,_⟩ _=>NO.HostPlain_pure a l)
end Go.Proofs.YtfhhdgkhajkapaaGreat
