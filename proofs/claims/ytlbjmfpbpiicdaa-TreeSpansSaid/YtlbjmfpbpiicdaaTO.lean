/- How the arguments of the tree's laws read. -/
import Derived.Test.YtlbjmfpbpiicdaaTB3
import Derived.Test.YtlbjmfpbpiicdaaRows
namespace Go.Proofs.Ytlbjmfpbpiicdaa
open Go Go.Idl Go.Proofs
open Go.ChangeShapes Go.WideShapes Go.ChangeAt Go.RowKit
theorem Try.own : ownKnob Try.prog.godebug = none := by kernel_rfl
theorem Try.laidOut : laidOutB Try.prog = true := by kernel_rfl
theorem op_int : Opens Try.prog 3 (fun n : Int => [.sc (.int .i64 n)]) fun n => IntKind.i64.min ≤ n ∧ n ≤ IntKind.i64.max := opens_int Try.underlying3
theorem op_u8 : Opens Try.prog 5 (fun n : Int => [.sc (.int .u8 n)]) fun n => IntKind.u8.min ≤ n ∧ n ≤ IntKind.u8.max := opens_int Try.underlying5
theorem op_bool : Opens Try.prog 4 eB fun _ => True := opens_bool Try.underlying4
theorem op_ints : Opens Try.prog 33 (fun l : List Int => [.imm 1 (pr eI l)]) fun l => (∀ a ∈ l, IntKind.i64.min ≤ a ∧ a ≤ IntKind.i64.max) ∧ l.length * 8 ≤ reachBytes ∧ l.length ≤ maxLen := opens_slice Try.underlying33 (by kernel_rfl) (by decide) (by kernel_rfl) op_int
theorem op_bools : Opens Try.prog 46 (fun l : List Bool => [.imm 1 (pr eB l)]) fun l => (∀ a ∈ l, True) ∧ l.length * 1 ≤ reachBytes ∧ l.length ≤ maxLen := opens_slice Try.underlying46 (by kernel_rfl) (by decide) (by kernel_rfl) op_bool
theorem op_op : Opens Try.prog 59 TT.eOp fun _ => True := Opens.map (opens_struct (fs := [_, _, _, _, _]) Try.underlying59 (by kernel_rfl) (fields_cons rfl rfl op_bool (fields_cons rfl rfl op_bool (fields_cons rfl rfl op_int (fields_cons rfl rfl op_int (fields_one rfl rfl op_int)))))) id (fun _ => rfl) (fun _ _ => trivial)
theorem op_ops : Opens Try.prog 57 (fun l : List TT.Op5 => [.imm 5 (pr TT.eOp l)]) fun l => (∀ a ∈ l, True) ∧ l.length * 32 ≤ reachBytes ∧ l.length ≤ maxLen := opens_slice Try.underlying57 (by kernel_rfl) (by decide) (by kernel_rfl) op_op
theorem one {t : TypeId} {x : PV} (h : tag Try.prog t = some false) : ArgIs Try.prog t [x] (.p x) := arg_one h
end Go.Proofs.Ytlbjmfpbpiicdaa
