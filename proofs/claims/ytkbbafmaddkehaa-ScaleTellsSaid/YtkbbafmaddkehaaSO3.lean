/- Two numbers and a list of bits as an argument. -/
import Derived.Test.YtkbbafmaddkehaaSO2
namespace Go.Proofs.Ytkbbafmaddkehaa
open Go Go.Idl Go.Proofs
open Go.ChangeShapes Go.WideShapes Go.ChangeAt Go.RowKit
def eMany (a : Int × Int × List Int) : List PV := [.sc (.int .i64 a.1)] ++ ([.sc (.int .i64 a.2.1)] ++ [.imm 1 (pr (fun n : Int => [.sc (.int .u64 n)]) a.2.2)])
theorem op_many : Opens Try.prog 25 eMany fun a => (IntKind.i64.min ≤ a.1 ∧ a.1 ≤ IntKind.i64.max) ∧ (IntKind.i64.min ≤ a.2.1 ∧ a.2.1 ≤ IntKind.i64.max) ∧ (∀ n ∈ a.2.2, IntKind.u64.min ≤ n ∧ n ≤ IntKind.u64.max) ∧ a.2.2.length * 8 ≤ reachBytes ∧ a.2.2.length ≤ maxLen :=
  opens_struct (fs := [_, _, _]) Try.underlying25 (by kernel_rfl) (fields_cons rfl rfl op_int (fields_cons rfl rfl op_int (fields_one rfl rfl op_u64s)))
theorem agg {t : TypeId} {xs : List PV} (h : tag Try.prog t = some true) : ArgIs Try.prog t xs (.agg (xs.map .p)) := arg_agg h
end Go.Proofs.Ytkbbafmaddkehaa
