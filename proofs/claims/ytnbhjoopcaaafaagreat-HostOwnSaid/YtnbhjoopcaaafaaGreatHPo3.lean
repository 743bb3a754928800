/- Facts that the proofs of this claim lean on. -/
import Derived.Test.YtnbhjoopcaaafaaGreatHP10
import Derived.Test.YtnbhjoopcaaafaaGreatIdNl
import Derived.Test.YtnbhjoopcaaafaaGreatRows
set_option linter.unusedSimpArgs false
set_option linter.unusedVariables false
/- How the arguments of the laws of hosts read. -/
namespace Go.Proofs.YtnbhjoopcaaafaaGreat
open Go Go.Idl Go.Proofs
open Go.ChangeShapes Go.WideShapes Go.ChangeAt Go.RowKit
set_option maxRecDepth 100000
theorem Tryz.own:ownKnob Tryz.prog.godebug=none:=by kernel_rfl
theorem Tryz.laidOut:laidOutB Tryz.prog=true:=by kernel_rfl
theorem one {t:TypeId} {x:PV} (h:tag Tryz.prog t=some false):ArgIs Tryz.prog t [x] (.p x):=arg_one h
theorem agg {t:TypeId} {xs:List PV} (h:tag Tryz.prog t=some true):ArgIs Tryz.prog t xs (.agg (xs.map .p)):=arg_agg h
theorem op_int:Opens Tryz.prog 3 (fun n:Int=> [.sc (.int .i64 n)]) fun _=>True:=Opens.map (opens_int Tryz.underlying3) id (fun _=>rfl) fun _ _=>trivial
theorem op_bool:Opens Tryz.prog 4 (fun b:Bool=> [.sc (.bool b)]) fun _=>True:=opens_bool Tryz.underlying4
theorem op_ints:Opens Tryz.prog 67 (fun l:List Int=> [.imm 1 (pr eI l)]) fun _=>True:=
 Opens.map (opens_slice (by_:=8) Tryz.underlying67 (by kernel_rfl) (by decide) (by kernel_rfl) op_int) id (fun _=>rfl) fun _ _=>trivial
theorem op_link:Opens Tryz.prog 103 eII fun _=>True:=Opens.map (opens_two (sz:=1) Tryz.underlying103 (by kernel_rfl) (by kernel_rfl) op_int) id (fun _=>rfl) fun _ _=>trivial
theorem op_links:Opens Tryz.prog 22 (fun l:List (Int × Int)=> [.imm 2 (pr eII l)]) fun _=>True:=
 Opens.map (opens_slice (by_:=16) Tryz.underlying22 (by kernel_rfl) (by decide) (by kernel_rfl) op_link) id (fun _=>rfl) fun _ _=>trivial
theorem op_graph:Opens Tryz.prog 24 (fun a:Int × List (Int × Int)=> [.sc (.int .i64 a.1)]++ [.imm 2 (pr eII a.2)]) fun _=>True:=
 Opens.map (opens_struct (fs:= [_,_]) Tryz.underlying24 (by kernel_rfl) (fields_cons rfl rfl op_int (fields_one rfl rfl op_links))) id (fun _=>rfl) fun _ _=>trivial
theorem op_send:Opens Tryz.prog 138 eII fun _=>True:=
 Opens.map (opens_struct (fs:= [_,_]) Tryz.underlying138 (by kernel_rfl) (fields_cons rfl rfl op_int (fields_one rfl rfl op_int))) id (fun _=>rfl) fun _ _=>trivial
theorem op_sends:Opens Tryz.prog 131 (fun l:List (Int × Int)=> [.imm 2 (pr eII l)]) fun _=>True:=
 Opens.map (opens_slice (by_:=16) Tryz.underlying131 (by kernel_rfl) (by decide) (by kernel_rfl) op_send) id (fun _=>rfl) fun _ _=>trivial
theorem op_pick:Opens Tryz.prog 133 HO.ePk fun _=>True:=
 Opens.map (opens_struct (fs:= [_,_]) Tryz.underlying133 (by kernel_rfl) (fields_cons rfl rfl op_int (fields_one rfl rfl op_sends))) id (fun _=>rfl) fun _ _=>trivial
theorem op_picks:Opens Tryz.prog 163 (fun l:List (Int × List (Int × Int))=> [.imm 2 (pr HO.ePk l)]) fun _=>True:=
 Opens.map (opens_slice (by_:=32) Tryz.underlying163 (by kernel_rfl) (by decide) (by kernel_rfl) op_pick) id (fun _=>rfl) fun _ _=>trivial
theorem op_take:Opens Tryz.prog 181 HO.eIII fun _=>True:=
 Opens.map (opens_struct (fs:= [_,_,_]) Tryz.underlying181 (by kernel_rfl) (fields_cons rfl rfl op_int (fields_cons rfl rfl op_int (fields_one rfl rfl op_int)))) id (fun _=>rfl) fun _ _=>trivial
theorem op_takes:Opens Tryz.prog 164 (fun l:List (Int × Int × Int)=> [.imm 3 (pr HO.eIII l)]) fun _=>True:=
 Opens.map (opens_slice (by_:=24) Tryz.underlying164 (by kernel_rfl) (by decide) (by kernel_rfl) op_take) id (fun _=>rfl) fun _ _=>trivial
theorem op_state:Opens Tryz.prog 166 HO.eSt fun _=>True:=
 Opens.map (opens_struct (fs:= [_,_,_,_]) Tryz.underlying166 (by kernel_rfl) (fields_cons rfl rfl op_int (fields_cons rfl rfl op_ints (fields_cons rfl rfl op_picks (fields_one rfl rfl op_takes)))))
  (fun a=>(⟨a.1,a.2.1,a.2.2.1,a.2.2.2⟩:HO.St)) (fun _=>rfl) fun _ _=>trivial
theorem op_states:Opens Tryz.prog 121 (fun l:List HO.St=> [.imm 4 (pr HO.eSt l)]) fun _=>True:=
 Opens.map (opens_slice (by_:=80) Tryz.underlying121 (by kernel_rfl) (by decide) (by kernel_rfl) op_state) id (fun _=>rfl) fun _ _=>trivial
theorem op_node:Opens Tryz.prog 123 HO.eNd fun _=>True:=
 Opens.map (opens_struct (fs:= [_,_]) Tryz.underlying123 (by kernel_rfl) (fields_cons rfl rfl op_int (fields_one rfl rfl op_states))) (fun a=>(⟨a.1,a.2⟩:HO.Nd)) (fun _=>rfl) fun _ _=>trivial
theorem op_nodes:Opens Tryz.prog 25 (fun l:List HO.Nd=> [.imm 2 (pr HO.eNd l)]) fun _=>True:=
 Opens.map (opens_slice (by_:=32) Tryz.underlying25 (by kernel_rfl) (by decide) (by kernel_rfl) op_node) id (fun _=>rfl) fun _ _=>trivial
theorem op_app:Opens Tryz.prog 27 (fun a:HO.Sc=> [.sc (.int .i64 a.N), .imm 2 (pr eII a.ls), .imm 2 (pr HO.eNd a.T), .sc (.bool a.fifo)]) fun _=>True:=
 Opens.map (opens_struct (fs:= [_,_,_]) Tryz.underlying27 (by kernel_rfl) (fields_cons rfl rfl op_graph (fields_cons rfl rfl op_nodes (fields_one rfl rfl op_bool))))
  (fun a=>(⟨a.1.1,a.1.2,a.2.1,a.2.2,0, []⟩:HO.Sc)) (fun _=>rfl) fun _ _=>trivial
theorem op_msg:Opens Tryz.prog 52 eII fun _=>True:=
 Opens.map (opens_struct (fs:= [_,_]) Tryz.underlying52 (by kernel_rfl) (fields_cons rfl rfl op_int (fields_one rfl rfl op_int))) id (fun _=>rfl) fun _ _=>trivial
theorem op_msgs:Opens Tryz.prog 79 (fun l:List (Int × Int)=> [.imm 2 (pr eII l)]) fun _=>True:=
 Opens.map (opens_slice (by_:=16) Tryz.underlying79 (by kernel_rfl) (by decide) (by kernel_rfl) op_msg) id (fun _=>rfl) fun _ _=>trivial
theorem op_ins:Opens Tryz.prog 37 (fun l:List (List (Int × Int))=> [.imm 1 (pr HO.eMs l)]) fun _=>True:=
 Opens.map (opens_slice (by_:=24) Tryz.underlying37 (by kernel_rfl) (by decide) (by kernel_rfl) op_msgs) id (fun _=>rfl) fun _ _=>trivial
theorem op_outs:Opens Tryz.prog 38 (fun l:List (List Int)=> [.imm 1 (pr HO.eLs l)]) fun _=>True:=
 Opens.map (opens_slice (by_:=24) Tryz.underlying38 (by kernel_rfl) (by decide) (by kernel_rfl) op_ints) id (fun _=>rfl) fun _ _=>trivial
theorem op_host:Opens Tryz.prog 40 (fun h:HO.Hs=> [.sc (.int .i64 h.node), .sc (.int .i64 h.state), .sc (.int .i64 h.steps), .imm 1 (pr HO.eMs h.inn), .imm 1 (pr HO.eLs h.out)]) fun _=>True:=
 Opens.map (opens_struct (fs:= [_,_,_,_,_]) Tryz.underlying40 (by kernel_rfl) (fields_cons rfl rfl op_int (fields_cons rfl rfl op_int (fields_cons rfl rfl op_int (fields_cons rfl rfl op_ins (fields_one rfl rfl op_outs))))))
  (fun a=>(⟨a.1,a.2.1,a.2.2.1,a.2.2.2.1,a.2.2.2.2⟩:HO.Hs)) (fun _=>rfl) fun _ _=>trivial
end Go.Proofs.YtnbhjoopcaaafaaGreat
/- How a call of the laws of hosts reads. -/
namespace Go.Proofs.YtnbhjoopcaaafaaGreat
open Go Go.Idl Go.Proofs
open Go.ChangeShapes Go.WideShapes Go.ChangeAt Go.RowKit
set_option maxRecDepth 100000
theorem op_op:Opens Tryz.prog 54 (fun x:Int × Int × Int × Int=> [.sc (.int .i64 x.1), .sc (.int .i64 x.2.1), .sc (.int .i64 x.2.2.1), .sc (.int .i64 x.2.2.2)]) fun _=>True:=
 Opens.map (opens_struct (fs:= [_,_,_]) Tryz.underlying54 (by kernel_rfl) (fields_cons rfl rfl op_int (fields_cons rfl rfl op_int (fields_one rfl rfl op_msg))))
  id (fun _=>rfl) fun _ _=>trivial
end Go.Proofs.YtnbhjoopcaaafaaGreat
