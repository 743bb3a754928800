/- A graph, and picks, as arguments. -/
import Derived.Test.YtlbjmfpbpiicdaaTO
import Derived.Test.YtlbjmfpbpiicdaaTP5
namespace Go.Proofs.Ytlbjmfpbpiicdaa
open Go Go.Idl Go.Proofs
open Go.ChangeShapes Go.WideShapes Go.ChangeAt Go.RowKit
theorem op_link : Opens Try.prog 44 eII fun a => (IntKind.i64.min ≤ a.1 ∧ a.1 ≤ IntKind.i64.max) ∧ IntKind.i64.min ≤ a.2 ∧ a.2 ≤ IntKind.i64.max := opens_two (sz := 1) Try.underlying44 (by kernel_rfl) (by kernel_rfl) op_int
theorem op_links : Opens Try.prog 22 (fun l : List (Int × Int) => [.imm 2 (pr eII l)]) (fun l => (∀ a ∈ l, (IntKind.i64.min ≤ a.1 ∧ a.1 ≤ IntKind.i64.max) ∧ IntKind.i64.min ≤ a.2 ∧ a.2 ≤ IntKind.i64.max) ∧ l.length * 16 ≤ reachBytes ∧ l.length ≤ maxLen) := opens_slice Try.underlying22 (by kernel_rfl) (by decide) (by kernel_rfl) op_link
theorem op_graph : Opens Try.prog 24 (fun a : Int × List (Int × Int) => [.sc (.int .i64 a.1)] ++ [.imm 2 (pr eII a.2)]) (fun p => (IntKind.i64.min ≤ p.1 ∧ p.1 ≤ IntKind.i64.max) ∧ (∀ a ∈ p.2, (IntKind.i64.min ≤ a.1 ∧ a.1 ≤ IntKind.i64.max) ∧ IntKind.i64.min ≤ a.2 ∧ a.2 ≤ IntKind.i64.max) ∧ p.2.length * 16 ≤ reachBytes ∧ p.2.length ≤ maxLen) := opens_struct (fs := [_, _]) Try.underlying24 (by kernel_rfl) (fields_cons rfl rfl op_int (fields_one rfl rfl op_links))
theorem op_u16 : Opens Try.prog 40 (fun n : Int => [.sc (.int .u16 n)]) fun n => IntKind.u16.min ≤ n ∧ n ≤ IntKind.u16.max := opens_int Try.underlying40
theorem op_u16s : Opens Try.prog 25 (fun l : List Int => [.imm 1 (pr TT.eU16 l)]) fun l => (∀ a ∈ l, IntKind.u16.min ≤ a ∧ a ≤ IntKind.u16.max) ∧ l.length * 2 ≤ reachBytes ∧ l.length ≤ maxLen := opens_slice Try.underlying25 (by kernel_rfl) (by decide) (by kernel_rfl) op_u16
theorem agg {t : TypeId} {xs : List PV} (h : tag Try.prog t = some true) : ArgIs Try.prog t xs (.agg (xs.map .p)) := arg_agg h
end Go.Proofs.Ytlbjmfpbpiicdaa
