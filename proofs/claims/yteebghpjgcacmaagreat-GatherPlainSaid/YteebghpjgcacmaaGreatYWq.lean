/- Facts that the proofs of this claim lean on. -/
import Derived.Test.YteebghpjgcacmaaGreatYWk
import Derived.Test.YteebghpjgcacmaaGreatYzP2
import Derived.Test.YteebghpjgcacmaaGreatIdNl
import Derived.Test.YteebghpjgcacmaaGreatRows
import Derived.Test.YteebghpjgcacmaaGreatYzGp
set_option linter.unusedSimpArgs false
set_option linter.unusedVariables false
/- How the arguments of the laws of gathering read. -/
namespace Go.Proofs.YteebghpjgcacmaaGreat
open Go Go.Idl Go.Proofs
open Go.ChangeShapes Go.WideShapes Go.ChangeAt Go.RowKit
set_option maxRecDepth 100000
theorem Tryz.own:ownKnob Tryz.prog.godebug=none:=by kernel_rfl
theorem Tryz.laidOut:laidOutB Tryz.prog=true:=by kernel_rfl
theorem one {t:TypeId} {x:PV} (h:tag Tryz.prog t=some false):ArgIs Tryz.prog t [x] (.p x):=qp0 h
theorem agg {t:TypeId} {xs:List PV} (h:tag Tryz.prog t=some true):ArgIs Tryz.prog t xs (.agg (xs.map .p)):=qpZ h
theorem qbC:qax Tryz.prog 3 (fun n:Int=> [.sc (.int .i64 n)]) fun _=>True:=qax.map (qol Tryz.underlying3) id (fun _=>rfl) fun _ _=>trivial
theorem qqA:qax Tryz.prog 4 (fun b:Bool=> [.sc (.bool b)]) fun _=>True:=qnl Tryz.underlying4
theorem qqB:qax Tryz.prog 47 (fun l:List Int=> [.imm 1 (pr eI l)]) fun _=>True:=
 qax.map (qbG (by_:=8) Tryz.underlying47 (by kernel_rfl) (by decide) (by kernel_rfl) qbC) id (fun _=>rfl) fun _ _=>trivial
theorem qqC:qax Tryz.prog 133 eII fun _=>True:=qax.map (qom (sz:=1) Tryz.underlying133 (by kernel_rfl) (by kernel_rfl) qbC) id (fun _=>rfl) fun _ _=>trivial
theorem qpo:qax Tryz.prog 22 (fun l:List (Int × Int)=> [.imm 2 (pr eII l)]) fun _=>True:=
 qax.map (qbG (by_:=16) Tryz.underlying22 (by kernel_rfl) (by decide) (by kernel_rfl) qqC) id (fun _=>rfl) fun _ _=>trivial
theorem qpn:qax Tryz.prog 24 (fun a:Int × List (Int × Int)=> [.sc (.int .i64 a.1)]++ [.imm 2 (pr eII a.2)]) fun _=>True:=
 qax.map (qbv (fs:= [_,_]) Tryz.underlying24 (by kernel_rfl) (qaR rfl rfl qbC (qbU rfl rfl qpo))) id (fun _=>rfl) fun _ _=>trivial
theorem qqF:qax Tryz.prog 150 eII fun _=>True:=
 qax.map (qbv (fs:= [_,_]) Tryz.underlying150 (by kernel_rfl) (qaR rfl rfl qbC (qbU rfl rfl qbC))) id (fun _=>rfl) fun _ _=>trivial
theorem qpr:qax Tryz.prog 143 (fun l:List (Int × Int)=> [.imm 2 (pr eII l)]) fun _=>True:=
 qax.map (qbG (by_:=16) Tryz.underlying143 (by kernel_rfl) (by decide) (by kernel_rfl) qqF) id (fun _=>rfl) fun _ _=>trivial
theorem qqE:qax Tryz.prog 145 GY.ePk fun _=>True:=
 qax.map (qbv (fs:= [_,_]) Tryz.underlying145 (by kernel_rfl) (qaR rfl rfl qbC (qbU rfl rfl qpr))) id (fun _=>rfl) fun _ _=>trivial
theorem qpq:qax Tryz.prog 160 (fun l:List (Int × List (Int × Int))=> [.imm 2 (pr GY.ePk l)]) fun _=>True:=
 qax.map (qbG (by_:=32) Tryz.underlying160 (by kernel_rfl) (by decide) (by kernel_rfl) qqE) id (fun _=>rfl) fun _ _=>trivial
theorem qqH:qax Tryz.prog 189 GY.eIII fun _=>True:=
 qax.map (qbv (fs:= [_,_,_]) Tryz.underlying189 (by kernel_rfl) (qaR rfl rfl qbC (qaR rfl rfl qbC (qbU rfl rfl qbC)))) id (fun _=>rfl) fun _ _=>trivial
theorem qpu:qax Tryz.prog 161 (fun l:List (Int × Int × Int)=> [.imm 3 (pr GY.eIII l)]) fun _=>True:=
 qax.map (qbG (by_:=24) Tryz.underlying161 (by kernel_rfl) (by decide) (by kernel_rfl) qqH) id (fun _=>rfl) fun _ _=>trivial
theorem qps:qax Tryz.prog 163 GY.eSt fun _=>True:=
 qax.map (qbv (fs:= [_,_,_,_]) Tryz.underlying163 (by kernel_rfl) (qaR rfl rfl qbC (qaR rfl rfl qqB (qaR rfl rfl qpq (qbU rfl rfl qpu)))))
  (fun a=>(⟨a.1,a.2.1,a.2.2.1,a.2.2.2⟩:GY.St)) (fun _=>rfl) fun _ _=>trivial
theorem qok:qax Tryz.prog 108 (fun l:List GY.St=> [.imm 4 (pr GY.eSt l)]) fun _=>True:=
 qax.map (qbG (by_:=80) Tryz.underlying108 (by kernel_rfl) (by decide) (by kernel_rfl) qps) id (fun _=>rfl) fun _ _=>trivial
theorem qqD:qax Tryz.prog 110 GY.eNd fun _=>True:=
 qax.map (qbv (fs:= [_,_]) Tryz.underlying110 (by kernel_rfl) (qaR rfl rfl qbC (qbU rfl rfl qok))) (fun a=>(⟨a.1,a.2⟩:GY.Nd)) (fun _=>rfl) fun _ _=>trivial
theorem qpp:qax Tryz.prog 25 (fun l:List GY.Nd=> [.imm 2 (pr GY.eNd l)]) fun _=>True:=
 qax.map (qbG (by_:=32) Tryz.underlying25 (by kernel_rfl) (by decide) (by kernel_rfl) qqD) id (fun _=>rfl) fun _ _=>trivial
theorem op_app:qax Tryz.prog 27 (fun a:GY.Sc=> [.sc (.int .i64 a.N), .imm 2 (pr eII a.ls), .imm 2 (pr GY.eNd a.T), .sc (.bool a.fifo)]) fun _=>True:=
 qax.map (qbv (fs:= [_,_,_]) Tryz.underlying27 (by kernel_rfl) (qaR rfl rfl qpn (qaR rfl rfl qpp (qbU rfl rfl qqA))))
  (fun a=>(⟨a.1.1,a.1.2,a.2.1,a.2.2,0, []⟩:GY.Sc)) (fun _=>rfl) fun _ _=>trivial
theorem qqG:qax Tryz.prog 82 GY.eSp fun _=>True:=
 qax.map (qbv (fs:= [_,_,_,_,_]) Tryz.underlying82 (by kernel_rfl) (qaR rfl rfl qbC (qaR rfl rfl qbC (qaR rfl rfl qbC (qaR rfl rfl qbC (qbU rfl rfl qbC))))))
  (fun a=>(⟨a.1,a.2.1,a.2.2.1,a.2.2.2.1,a.2.2.2.2⟩:GY.Sp)) (fun _=>rfl) fun _ _=>trivial
theorem qpt:qax Tryz.prog 74 (fun l:List GY.Sp=> [.imm 5 (pr GY.eSp l)]) fun _=>True:=
 qax.map (qbG (by_:=40) Tryz.underlying74 (by kernel_rfl) (by decide) (by kernel_rfl) qqG) id (fun _=>rfl) fun _ _=>trivial
end Go.Proofs.YteebghpjgcacmaaGreat
