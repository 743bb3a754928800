/- The law HostPlain's closed facts, one by one. -/
import Derived.Test.YtfhhdgkhajkapaaGreatNWk
import Derived.Test.YtfhhdgkhajkapaaGreatRows
set_option linter.unusedSimpArgs false
set_option linter.unusedVariables false
namespace Go.Proofs.YtfhhdgkhajkapaaGreat
open Go Go.Idl Go.Proofs
set_option maxRecDepth 100000
open Go.ChangeShapes Go.WideShapes Go.ChangeAt Go.RowKit
theorem qaF {a b:Bool} (ha:a=true) (hb:b=true):(a && b)=true:=by rw [ha,hb];rfl
theorem qji:Rows.hostPlainRow.wf (OpenSpec.ofChange Rows.hostPlainSpec)=true:=by kernel_rfl
theorem qjj:laidOutB Tryz.checked.prog=true:=by kernel_rfl
theorem qjk:mapsRowed Tryz.checked.prog=true:=by kernel_rfl
theorem qjl:Tryz.f3.params.all (Tryz.checked.prog.readableRec ·)=true:=by kernel_rfl
theorem qjm:namedTie Tryz.checked.prog Rows.hostPlainRow.named Rows.hostPlainSpec.vars=true:=by kernel_rfl
theorem qjn:(Rows.hostPlainRow.stops== [])=true:=by kernel_rfl
theorem qjo:(Tryz.checked.prog.stops== [])=true:=by kernel_rfl
theorem qjp:(Rows.hostPlainRow.knobs== [])=true:=by kernel_rfl
theorem qjq:(Tryz.checked.prog.stopKnobs== [])=true:=by kernel_rfl
theorem qjr:(Rows.hostPlainRow.inPlace==Tryz.checked.prog.inPlace 3)=true:=by kernel_rfl
theorem qix:(Rows.hostPlainRow.unfollowed==Tryz.checked.prog.unfollowed 3)=true:=by kernel_rfl
theorem qiy:(Rows.hostPlainRow.recurses==Tryz.checked.prog.recurses 3)=true:=by kernel_rfl
theorem qiz:(Rows.hostPlainRow.named==Tryz.checked.prog.varsNamed 3)=true:=by kernel_rfl
theorem qiA:(Rows.hostPlainRow.maps==(Tryz.f3.params.toList++Rows.hostPlainSpec.plain.varTypes Tryz.checked.prog).any (Tryz.checked.prog.mapsRec ·))=true:=by kernel_rfl
theorem qiB:(Rows.hostPlainRow.ifaces==(Tryz.f3.params.toList++Rows.hostPlainSpec.plain.varTypes Tryz.checked.prog).any (Tryz.checked.prog.ifacesRec ·))=true:=by kernel_rfl
theorem qiC:(Rows.hostPlainRow.mapsOut==Tryz.checked.prog.mapsAmong Tryz.f3.resultTypes.toList)=true:=by kernel_rfl
theorem qiD:(Rows.hostPlainRow.loops==(Tryz.f3.params.toList++Rows.hostPlainSpec.plain.varTypes Tryz.checked.prog).any (Tryz.checked.prog.loopsFrom ·))=true:=by kernel_rfl
theorem qiE:(Rows.hostPlainRow.wideKeys==(Tryz.f3.params.toList++Rows.hostPlainSpec.plain.varTypes Tryz.checked.prog++Tryz.f3.resultTypes.toList).any (Tryz.checked.prog.wideKeysFrom ·))=true:=by kernel_rfl
theorem qiF:Rows.hostPlainSpec.vars.all (Tryz.checked.prog.varReadable ·)=true:=by kernel_rfl
theorem qiG:Tryz.f3.resultTypes.all (fun t=>Tryz.checked.prog.readableRec t && decide (t < Tryz.checked.prog.types.size))=true:=by kernel_rfl
theorem qiH:(Rows.hostPlainRow.ifacesOut==Tryz.f3.resultTypes.toList.any (Tryz.checked.prog.ifacesRec ·))=true:=by kernel_rfl
theorem qiI:(Rows.hostPlainRow.loopsOut==Tryz.f3.resultTypes.toList.any (Tryz.checked.prog.loopsFrom ·))=true:=by kernel_rfl
theorem qiJ:(Rows.hostPlainRow.plainKeys==Tryz.checked.prog.plainKeys)=true:=by kernel_rfl
theorem qiK:Rows.hostPlainRow.shortTexts.isNone=true:=by kernel_rfl
theorem qiL:Tryz.checked.prog.stopsHeard=true:=by kernel_rfl
theorem qiM:Tryz.checked.prog.mayEnter=true:=by kernel_rfl
theorem qiN:(Rows.hostPlainRow.lifted==Tryz.checked.prog.liftsFinal)=true:=by kernel_rfl
theorem qiO:(Tryz.checked.prog.make==some Rows.hostPlainRow.make)=true:=by kernel_rfl
theorem qiP:(Rows.hostPlainRow.kinds==(if Rows.hostPlainRow.domain.isEmpty then [] else Tryz.f3.params.toList.map fun t=>match Tryz.checked.prog.underlying t with | some (.int k)=>some k | _=>none))=true:=by kernel_rfl
theorem qiQ:(Rows.hostPlainRow.pinned==Rows.hostPlainRow.pinnedBy)=true:=by kernel_rfl
theorem qiR:(Rows.hostPlainRow.veiled==(Tryz.f3.params.toList++Rows.hostPlainSpec.plain.varTypes Tryz.checked.prog++Tryz.f3.resultTypes.toList).any (Tryz.checked.prog.veiledRec ·))=true:=by kernel_rfl
theorem qiS:Rows.hostPlainRow.veiledFits Tryz.checked.prog Tryz.f3.params.toList (Tryz.f3.params.toList++Rows.hostPlainSpec.plain.varTypes Tryz.checked.prog++Tryz.f3.resultTypes.toList)=true:=by kernel_rfl
theorem qgF:joinedFacts Tryz.checked.prog 3 Tryz.f3 Rows.hostPlainSpec Rows.hostPlainRow=true:=qaF (qaF (qaF (qaF (qaF (qaF (qaF (qaF (qaF (qaF (qaF (qaF (qaF (qaF (qaF (qaF (qaF (qaF (qaF (qaF (qaF (qaF (qaF (qaF (qaF (qaF (qaF (qaF (qaF (qaF (qaF (qji) qjj) qjk) qjl) qjm) qjn) qjo) qjp) qjq) qjr) qix) qiy) qiz) qiA) qiB) qiC) qiD) qiE) qiF) qiG) qiH) qiI) qiJ) qiK) qiL) qiM) qiN) qiO) qiP) qiQ) qiR) qiS
end Go.Proofs.YtfhhdgkhajkapaaGreat
