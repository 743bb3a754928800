/- How the arguments of the laws of gathering read. -/
import Derived.Test.YteebghpjgcacmaaGreatYWd
import Derived.Test.YteebghpjgcacmaaGreatIdNl
import Derived.Test.YteebghpjgcacmaaGreatRows
set_option linter.unusedSimpArgs false
set_option linter.unusedVariables false
namespace Go.Proofs.YteebghpjgcacmaaGreat
open Go Go.Idl Go.Proofs
open Go.ChangeShapes Go.WideShapes Go.ChangeAt Go.RowKit
set_option maxRecDepth 100000
theorem Tryz.own:ownKnob Tryz.prog.godebug=none:=by kernel_rfl
theorem Tryz.laidOut:laidOutB Tryz.prog=true:=by kernel_rfl
theorem one {t:TypeId} {x:PV} (h:tag Tryz.prog t=some false):ArgIs Tryz.prog t [x] (.p x):=arg_one h
theorem agg {t:TypeId} {xs:List PV} (h:tag Tryz.prog t=some true):ArgIs Tryz.prog t xs (.agg (xs.map .p)):=arg_agg h
theorem op_int:Opens Tryz.prog 3 (fun n:Int=> [.sc (.int .i64 n)]) fun _=>True:=Opens.map (opens_int Tryz.underlying3) id (fun _=>rfl) fun _ _=>trivial
theorem op_bool:Opens Tryz.prog 4 (fun b:Bool=> [.sc (.bool b)]) fun _=>True:=opens_bool Tryz.underlying4
theorem op_ints:Opens Tryz.prog 47 (fun l:List Int=> [.imm 1 (pr eI l)]) fun _=>True:=
 Opens.map (opens_slice (by_:=8) Tryz.underlying47 (by kernel_rfl) (by decide) (by kernel_rfl) op_int) id (fun _=>rfl) fun _ _=>trivial
theorem op_link:Opens Tryz.prog 133 eII fun _=>True:=Opens.map (opens_two (sz:=1) Tryz.underlying133 (by kernel_rfl) (by kernel_rfl) op_int) id (fun _=>rfl) fun _ _=>trivial
theorem op_links:Opens Tryz.prog 22 (fun l:List (Int × Int)=> [.imm 2 (pr eII l)]) fun _=>True:=
 Opens.map (opens_slice (by_:=16) Tryz.underlying22 (by kernel_rfl) (by decide) (by kernel_rfl) op_link) id (fun _=>rfl) fun _ _=>trivial
theorem op_graph:Opens Tryz.prog 24 (fun a:Int × List (Int × Int)=> [.sc (.int .i64 a.1)]++ [.imm 2 (pr eII a.2)]) fun _=>True:=
 Opens.map (opens_struct (fs:= [_,_]) Tryz.underlying24 (by kernel_rfl) (fields_cons rfl rfl op_int (fields_one rfl rfl op_links))) id (fun _=>rfl) fun _ _=>trivial
theorem op_send:Opens Tryz.prog 150 eII fun _=>True:=
 Opens.map (opens_struct (fs:= [_,_]) Tryz.underlying150 (by kernel_rfl) (fields_cons rfl rfl op_int (fields_one rfl rfl op_int))) id (fun _=>rfl) fun _ _=>trivial
theorem op_sends:Opens Tryz.prog 143 (fun l:List (Int × Int)=> [.imm 2 (pr eII l)]) fun _=>True:=
 Opens.map (opens_slice (by_:=16) Tryz.underlying143 (by kernel_rfl) (by decide) (by kernel_rfl) op_send) id (fun _=>rfl) fun _ _=>trivial
theorem op_pick:Opens Tryz.prog 145 GY.ePk fun _=>True:=
 Opens.map (opens_struct (fs:= [_,_]) Tryz.underlying145 (by kernel_rfl) (fields_cons rfl rfl op_int (fields_one rfl rfl op_sends))) id (fun _=>rfl) fun _ _=>trivial
theorem op_picks:Opens Tryz.prog 160 (fun l:List (Int × List (Int × Int))=> [.imm 2 (pr GY.ePk l)]) fun _=>True:=
 Opens.map (opens_slice (by_:=32) Tryz.underlying160 (by kernel_rfl) (by decide) (by kernel_rfl) op_pick) id (fun _=>rfl) fun _ _=>trivial
theorem op_take:Opens Tryz.prog 189 GY.eIII fun _=>True:=
 Opens.map (opens_struct (fs:= [_,_,_]) Tryz.underlying189 (by kernel_rfl) (fields_cons rfl rfl op_int (fields_cons rfl rfl op_int (fields_one rfl rfl op_int)))) id (fun _=>rfl) fun _ _=>trivial
theorem op_takes:Opens Tryz.prog 161 (fun l:List (Int × Int × Int)=> [.imm 3 (pr GY.eIII l)]) fun _=>True:=
 Opens.map (opens_slice (by_:=24) Tryz.underlying161 (by kernel_rfl) (by decide) (by kernel_rfl) op_take) id (fun _=>rfl) fun _ _=>trivial
theorem op_state:Opens Tryz.prog 163 GY.eSt fun _=>True:=
 Opens.map (opens_struct (fs:= [_,_,_,_]) Tryz.underlying163 (by kernel_rfl) (fields_cons rfl rfl op_int (fields_cons rfl rfl op_ints (fields_cons rfl rfl op_picks (fields_one rfl rfl op_takes)))))
  (fun a=>(⟨a.1,a.2.1,a.2.2.1,a.2.2.2⟩:GY.St)) (fun _=>rfl) fun _ _=>trivial
theorem op_states:Opens Tryz.prog 108 (fun l:List GY.St=> [.imm 4 (pr GY.eSt l)]) fun _=>True:=
 Opens.map (opens_slice (by_:=80) Tryz.underlying108 (by kernel_rfl) (by decide) (by kernel_rfl) op_state) id (fun _=>rfl) fun _ _=>trivial
theorem op_node:Opens Tryz.prog 110 GY.eNd fun _=>True:=
 Opens.map (opens_struct (fs:= [_,_]) Tryz.underlying110 (by kernel_rfl) (fields_cons rfl rfl op_int (fields_one rfl rfl op_states))) (fun a=>(⟨a.1,a.2⟩:GY.Nd)) (fun _=>rfl) fun _ _=>trivial
theorem op_nodes:Opens Tryz.prog 25 (fun l:List GY.Nd=> [.imm 2 (pr GY.eNd l)]) fun _=>True:=
 Opens.map (opens_slice (by_:=32) Tryz.underlying25 (by kernel_rfl) (by decide) (by kernel_rfl) op_node) id (fun _=>rfl) fun _ _=>trivial
theorem op_app:Opens Tryz.prog 27 (fun a:GY.Sc=> [.sc (.int .i64 a.N), .imm 2 (pr eII a.ls), .imm 2 (pr GY.eNd a.T), .sc (.bool a.fifo)]) fun _=>True:=
 Opens.map (opens_struct (fs:= [_,_,_]) Tryz.underlying27 (by kernel_rfl) (fields_cons rfl rfl op_graph (fields_cons rfl rfl op_nodes (fields_one rfl rfl op_bool))))
  (fun a=>(⟨a.1.1,a.1.2,a.2.1,a.2.2,0, []⟩:GY.Sc)) (fun _=>rfl) fun _ _=>trivial
theorem op_msg:Opens Tryz.prog 72 eII fun _=>True:=
 Opens.map (opens_struct (fs:= [_,_]) Tryz.underlying72 (by kernel_rfl) (fields_cons rfl rfl op_int (fields_one rfl rfl op_int))) id (fun _=>rfl) fun _ _=>trivial
theorem op_msgs:Opens Tryz.prog 69 (fun l:List (Int × Int)=> [.imm 2 (pr eII l)]) fun _=>True:=
 Opens.map (opens_slice (by_:=16) Tryz.underlying69 (by kernel_rfl) (by decide) (by kernel_rfl) op_msg) id (fun _=>rfl) fun _ _=>trivial
theorem op_ins:Opens Tryz.prog 52 (fun l:List (List (Int × Int))=> [.imm 1 (pr GY.eMs l)]) fun _=>True:=
 Opens.map (opens_slice (by_:=24) Tryz.underlying52 (by kernel_rfl) (by decide) (by kernel_rfl) op_msgs) id (fun _=>rfl) fun _ _=>trivial
theorem op_outs:Opens Tryz.prog 66 (fun l:List (List Int)=> [.imm 1 (pr GY.eLs l)]) fun _=>True:=
 Opens.map (opens_slice (by_:=24) Tryz.underlying66 (by kernel_rfl) (by decide) (by kernel_rfl) op_ints) id (fun _=>rfl) fun _ _=>trivial
theorem op_piece:Opens Tryz.prog 68 GY.ePc fun _=>True:=
 Opens.map (opens_struct (fs:= [_,_,_,_,_,_]) Tryz.underlying68 (by kernel_rfl) (fields_cons rfl rfl op_int (fields_cons rfl rfl op_int (fields_cons rfl rfl op_int (fields_cons rfl rfl op_ints (fields_cons rfl rfl op_ins (fields_one rfl rfl op_outs)))))))
  (fun a=>(⟨a.1,a.2.1,a.2.2.1,a.2.2.2.1,a.2.2.2.2.1,a.2.2.2.2.2⟩:GY.Pc)) (fun _=>rfl) fun _ _=>trivial
theorem op_pieces:Opens Tryz.prog 28 (fun l:List GY.Pc=> [.imm 6 (pr GY.ePc l)]) fun _=>True:=
 Opens.map (opens_slice (by_:=96) Tryz.underlying28 (by kernel_rfl) (by decide) (by kernel_rfl) op_piece) id (fun _=>rfl) fun _ _=>trivial
end Go.Proofs.YteebghpjgcacmaaGreat
