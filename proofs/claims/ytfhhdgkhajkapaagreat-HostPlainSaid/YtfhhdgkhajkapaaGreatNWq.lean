/- Facts that the proofs of this claim lean on. -/
import Derived.Test.YtfhhdgkhajkapaaGreatNWk
import Derived.Test.YtfhhdgkhajkapaaGreatNzRn
import Derived.Test.YtfhhdgkhajkapaaGreatIdNl
import Derived.Test.YtfhhdgkhajkapaaGreatRows
import Derived.Test.YtfhhdgkhajkapaaGreatNHp
set_option linter.unusedSimpArgs false
set_option linter.unusedVariables false
/- How the laws' arguments read. -/
namespace Go.Proofs.YtfhhdgkhajkapaaGreat
open Go Go.Idl Go.Proofs
open Go.ChangeShapes Go.WideShapes Go.ChangeAt Go.RowKit
set_option maxRecDepth 100000
theorem Tryz.own:ownKnob Tryz.prog.godebug=none:=by kernel_rfl
theorem Tryz.laidOut:laidOutB Tryz.prog=true:=by kernel_rfl
theorem one {t:TypeId} {x:PV} (h:tag Tryz.prog t=some false):ArgIs Tryz.prog t [x] (.p x):=qoP h
theorem agg {t:TypeId} {xs:List PV} (h:tag Tryz.prog t=some true):ArgIs Tryz.prog t xs (.agg (xs.map .p)):=qoO h
theorem qbv:qas Tryz.prog 3 (fun n:Int=> [.sc (.int .i64 n)]) fun _=>True:=qas.map (qnf Tryz.underlying3) id (fun _=>rfl) fun _ _=>trivial
theorem qpk:qas Tryz.prog 4 (fun b:Bool=> [.sc (.bool b)]) fun _=>True:=qmr Tryz.underlying4
theorem qpl:qas Tryz.prog 37 (fun l:List Int=> [.imm 1 (pr eI l)]) fun _=>True:=
 qas.map (qbz (by_:=8) Tryz.underlying37 (by kernel_rfl) (by decide) (by kernel_rfl) qbv) id (fun _=>rfl) fun _ _=>trivial
theorem qpm:qas Tryz.prog 68 eII fun _=>True:=qas.map (qng (sz:=1) Tryz.underlying68 (by kernel_rfl) (by kernel_rfl) qbv) id (fun _=>rfl) fun _ _=>trivial
theorem qod:qas Tryz.prog 22 (fun l:List (Int × Int)=> [.imm 2 (pr eII l)]) fun _=>True:=
 qas.map (qbz (by_:=16) Tryz.underlying22 (by kernel_rfl) (by decide) (by kernel_rfl) qpm) id (fun _=>rfl) fun _ _=>trivial
theorem qoc:qas Tryz.prog 24 (fun a:Int × List (Int × Int)=> [.sc (.int .i64 a.1)]++ [.imm 2 (pr eII a.2)]) fun _=>True:=
 qas.map (qbp (fs:= [_,_]) Tryz.underlying24 (by kernel_rfl) (qaM rfl rfl qbv (qbJ rfl rfl qod))) id (fun _=>rfl) fun _ _=>trivial
theorem qpp:qas Tryz.prog 213 eII fun _=>True:=
 qas.map (qbp (fs:= [_,_]) Tryz.underlying213 (by kernel_rfl) (qaM rfl rfl qbv (qbJ rfl rfl qbv))) id (fun _=>rfl) fun _ _=>trivial
theorem qog:qas Tryz.prog 206 (fun l:List (Int × Int)=> [.imm 2 (pr eII l)]) fun _=>True:=
 qas.map (qbz (by_:=16) Tryz.underlying206 (by kernel_rfl) (by decide) (by kernel_rfl) qpp) id (fun _=>rfl) fun _ _=>trivial
theorem qpo:qas Tryz.prog 208 NO.ePk fun _=>True:=
 qas.map (qbp (fs:= [_,_]) Tryz.underlying208 (by kernel_rfl) (qaM rfl rfl qbv (qbJ rfl rfl qog))) id (fun _=>rfl) fun _ _=>trivial
theorem qof:qas Tryz.prog 297 (fun l:List (Int × List (Int × Int))=> [.imm 2 (pr NO.ePk l)]) fun _=>True:=
 qas.map (qbz (by_:=32) Tryz.underlying297 (by kernel_rfl) (by decide) (by kernel_rfl) qpo) id (fun _=>rfl) fun _ _=>trivial
theorem qpr:qas Tryz.prog 306 NO.eIII fun _=>True:=
 qas.map (qbp (fs:= [_,_,_]) Tryz.underlying306 (by kernel_rfl) (qaM rfl rfl qbv (qaM rfl rfl qbv (qbJ rfl rfl qbv)))) id (fun _=>rfl) fun _ _=>trivial
theorem qoj:qas Tryz.prog 298 (fun l:List (Int × Int × Int)=> [.imm 3 (pr NO.eIII l)]) fun _=>True:=
 qas.map (qbz (by_:=24) Tryz.underlying298 (by kernel_rfl) (by decide) (by kernel_rfl) qpr) id (fun _=>rfl) fun _ _=>trivial
theorem qoh:qas Tryz.prog 300 NO.eSt fun _=>True:=
 qas.map (qbp (fs:= [_,_,_,_]) Tryz.underlying300 (by kernel_rfl) (qaM rfl rfl qbv (qaM rfl rfl qpl (qaM rfl rfl qof (qbJ rfl rfl qoj)))))
  (fun a=>(⟨a.1,a.2.1,a.2.2.1,a.2.2.2⟩:NO.St)) (fun _=>rfl) fun _ _=>trivial
theorem qne:qas Tryz.prog 198 (fun l:List NO.St=> [.imm 4 (pr NO.eSt l)]) fun _=>True:=
 qas.map (qbz (by_:=80) Tryz.underlying198 (by kernel_rfl) (by decide) (by kernel_rfl) qoh) id (fun _=>rfl) fun _ _=>trivial
theorem qpn:qas Tryz.prog 200 NO.eNd fun _=>True:=
 qas.map (qbp (fs:= [_,_]) Tryz.underlying200 (by kernel_rfl) (qaM rfl rfl qbv (qbJ rfl rfl qne))) (fun a=>(⟨a.1,a.2⟩:NO.Nd)) (fun _=>rfl) fun _ _=>trivial
theorem qoe:qas Tryz.prog 25 (fun l:List NO.Nd=> [.imm 2 (pr NO.eNd l)]) fun _=>True:=
 qas.map (qbz (by_:=32) Tryz.underlying25 (by kernel_rfl) (by decide) (by kernel_rfl) qpn) id (fun _=>rfl) fun _ _=>trivial
theorem op_app:qas Tryz.prog 27 (fun a:NO.Sc=> [.sc (.int .i64 a.N), .imm 2 (pr eII a.ls), .imm 2 (pr NO.eNd a.T), .sc (.bool a.fifo)]) fun _=>True:=
 qas.map (qbp (fs:= [_,_,_]) Tryz.underlying27 (by kernel_rfl) (qaM rfl rfl qoc (qaM rfl rfl qoe (qbJ rfl rfl qpk))))
  (fun a=>(⟨a.1.1,a.1.2,a.2.1,a.2.2,0, []⟩:NO.Sc)) (fun _=>rfl) fun _ _=>trivial
theorem qpq:qas Tryz.prog 54 NO.eSp fun _=>True:=
 qas.map (qbp (fs:= [_,_,_,_,_]) Tryz.underlying54 (by kernel_rfl) (qaM rfl rfl qbv (qaM rfl rfl qbv (qaM rfl rfl qbv (qaM rfl rfl qbv (qbJ rfl rfl qbv))))))
  (fun a=>(⟨a.1,a.2.1,a.2.2.1,a.2.2.2.1,a.2.2.2.2⟩:NO.Sp)) (fun _=>rfl) fun _ _=>trivial
theorem qoi:qas Tryz.prog 28 (fun l:List NO.Sp=> [.imm 5 (pr NO.eSp l)]) fun _=>True:=
 qas.map (qbz (by_:=40) Tryz.underlying28 (by kernel_rfl) (by decide) (by kernel_rfl) qpq) id (fun _=>rfl) fun _ _=>trivial
end Go.Proofs.YtfhhdgkhajkapaaGreat
