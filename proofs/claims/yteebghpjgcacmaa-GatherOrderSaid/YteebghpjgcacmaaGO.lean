/- How the arguments of the laws of gathering read. -/
import Derived.Test.YteebghpjgcacmaaGB
import Derived.Test.YteebghpjgcacmaaIdNl
import Derived.Test.YteebghpjgcacmaaRows
set_option linter.unusedSimpArgs false
set_option linter.unusedVariables false
namespace Go.Proofs.Yteebghpjgcacmaa
open Go Go.Idl Go.Proofs
open Go.ChangeShapes Go.WideShapes Go.ChangeAt Go.RowKit
set_option maxRecDepth 100000
theorem Try.own : ownKnob Try.prog.godebug = none := by kernel_rfl
theorem Try.laidOut : laidOutB Try.prog = true := by kernel_rfl
theorem one {t : TypeId} {x : PV} (h : tag Try.prog t = some false) : ArgIs Try.prog t [x] (.p x) := arg_one h
theorem agg {t : TypeId} {xs : List PV} (h : tag Try.prog t = some true) : ArgIs Try.prog t xs (.agg (xs.map .p)) := arg_agg h
theorem op_int : Opens Try.prog 3 (fun n : Int => [.sc (.int .i64 n)]) fun _ => True := Opens.map (opens_int Try.underlying3) id (fun _ => rfl) fun _ _ => trivial
theorem op_ints : Opens Try.prog 30 (fun l : List Int => [.imm 1 (pr eI l)]) fun _ => True :=
  Opens.map (opens_slice (by_ := 8) Try.underlying30 (by kernel_rfl) (by decide) (by kernel_rfl) op_int) id (fun _ => rfl) fun _ _ => trivial
theorem op_msg : Opens Try.prog 55 eII fun _ => True :=
  Opens.map (opens_struct (fs := [_, _]) Try.underlying55 (by kernel_rfl) (fields_cons rfl rfl op_int (fields_one rfl rfl op_int))) id (fun _ => rfl) fun _ _ => trivial
theorem op_msgs : Opens Try.prog 56 (fun l : List (Int × Int) => [.imm 2 (pr eII l)]) fun _ => True :=
  Opens.map (opens_slice (by_ := 16) Try.underlying56 (by kernel_rfl) (by decide) (by kernel_rfl) op_msg) id (fun _ => rfl) fun _ _ => trivial
theorem op_ins : Opens Try.prog 31 (fun l : List (List (Int × Int)) => [.imm 1 (pr GR.eMs l)]) fun _ => True :=
  Opens.map (opens_slice (by_ := 24) Try.underlying31 (by kernel_rfl) (by decide) (by kernel_rfl) op_msgs) id (fun _ => rfl) fun _ _ => trivial
theorem op_outs : Opens Try.prog 32 (fun l : List (List Int) => [.imm 1 (pr GR.eLs l)]) fun _ => True :=
  Opens.map (opens_slice (by_ := 24) Try.underlying32 (by kernel_rfl) (by decide) (by kernel_rfl) op_ints) id (fun _ => rfl) fun _ _ => trivial
theorem op_piece : Opens Try.prog 34 GR.ePc fun _ => True :=
  Opens.map (opens_struct (fs := [_, _, _, _, _, _]) Try.underlying34 (by kernel_rfl) (fields_cons rfl rfl op_int (fields_cons rfl rfl op_int (fields_cons rfl rfl op_int (fields_cons rfl rfl op_ints (fields_cons rfl rfl op_ins (fields_one rfl rfl op_outs)))))))
    (fun a => (⟨a.1, a.2.1, a.2.2.1, a.2.2.2.1, a.2.2.2.2.1, a.2.2.2.2.2⟩ : GR.Pc)) (fun _ => rfl) fun _ _ => trivial
theorem op_pieces : Opens Try.prog 22 (fun l : List GR.Pc => [.imm 6 (pr GR.ePc l)]) fun _ => True :=
  Opens.map (opens_slice (by_ := 96) Try.underlying22 (by kernel_rfl) (by decide) (by kernel_rfl) op_piece) id (fun _ => rfl) fun _ _ => trivial
end Go.Proofs.Yteebghpjgcacmaa
