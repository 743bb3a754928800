/- The law NodeHost is proved: whatever is handed in, it answers true, and what is handed in reads as it did. No condition beyond the given statement's own. -/
import Derived.Test.YtfhhdgkhajkapaaGreatIdLo
import Derived.Test.YtfhhdgkhajkapaaGreatNOh
set_option linter.all false
namespace Go.Proofs.YtfhhdgkhajkapaaGreat
open Go Go.Idl Go.Proofs
set_option maxRecDepth 100000
open Go.ChangeShapes Go.WideShapes Go.ChangeAt Go.RowKit
def qkR(os:Os)(H:Type)(enc:TypeId × Value->H): ∃(w:World) (tape:Tape) (i:Input),w.os=os/\(w.forCall tape i).Shaped Tryz.checked.prog/\i.vars= []/\Input.okWide Tryz.checked.prog (w.forCall tape i) .any w.heap.size 7 i/\
   Rows.nodeHostSpec.pre6 enc Tryz.checked.prog Tryz.f7 [] false (w.forCall tape i).memory i.args/\({}:Assume).holds Tryz.checked.prog (lone (Frame.enter Tryz.checked.prog 7 i.args .normal) [] (w.forCall tape i)):=
 ChangeSpec.witness6 (enc:=enc) (C:=Tryz.checked) false ⟨#[],#[.agg #[.int .i64 0, .slice none 0 0, .slice none 0 0, .bool false], .int .i64 0, .slice none 0 0], []⟩ 8 we we we we
theorem NodeHost_holds:Rows.NodeHostSaid:=
 OpenClaim.holds_of_wide 7 Tryz.f7 rfl rfl rfl rfl rfl rfl rfl ⟨rfl,rfl,rfl,rfl,rfl⟩ rfl rfl rfl rfl rfl we Tryz.func7 qiP
  (of_decide_eq_true we) (by unfold Func.isWrapper;rw[if_neg (by decide+kernel)];exact⟨rfl,rfl⟩)
  (λos started H enc _=>qor (C:=Tryz.checked) (s:=Rows.nodeHostSpec) started Tryz.own we Tryz.func7
   (qkR os H enc)
   Tryz.laidOut (tb:=4) we Tryz.underlying4 we rfl (λds h=>match ds,h with | [_,_,_],_=>rfl)
   (argsOpen_cons op_app (λ_=>agg we) (argsOpen_cons qaX (λ_=>one we) (argsOpen_cons op_ops (λ_=>one we) (qk6))))
   λ⟨a,n,l,_⟩ _=>NO.NodeHost_pure a n l)
end Go.Proofs.YtfhhdgkhajkapaaGreat
