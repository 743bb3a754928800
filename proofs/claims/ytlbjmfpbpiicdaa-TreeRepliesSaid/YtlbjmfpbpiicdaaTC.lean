/- The statements of the tree's laws. -/
import Derived.Test.YtlbjmfpbpiicdaaTB
import Derived.Test.YtlbjmfpbpiicdaaRows
namespace Go.Proofs.Ytlbjmfpbpiicdaa
open Go Go.Idl Go.Proofs
open Go.ChangeShapes Go.WideShapes Go.ChangeAt Go.RowKit
theorem Try.own : ownKnob Try.prog.godebug = none := by kernel_rfl
theorem Try.laidOut : laidOutB Try.prog = true := by kernel_rfl
theorem op_int : Opens Try.prog 3 (fun n : Int => [.sc (.int .i64 n)]) fun n => IntKind.i64.min ≤ n ∧ n ≤ IntKind.i64.max := opens_int Try.underlying3
theorem op_u8 : Opens Try.prog 5 (fun n : Int => [.sc (.int .u8 n)]) fun n => IntKind.u8.min ≤ n ∧ n ≤ IntKind.u8.max := opens_int Try.underlying5
theorem op_bool : Opens Try.prog 4 eB fun _ => True := opens_bool Try.underlying4
theorem op_ints : Opens Try.prog 33 (fun l : List Int => [.imm 1 (pr eI l)]) fun l => (∀ a ∈ l, IntKind.i64.min ≤ a ∧ a ≤ IntKind.i64.max) ∧ l.length * 8 ≤ reachBytes ∧ l.length ≤ maxLen := opens_slice Try.underlying33 (by kernel_rfl) (by decide) (by kernel_rfl) op_int
theorem op_bools : Opens Try.prog 46 (fun l : List Bool => [.imm 1 (pr eB l)]) fun l => (∀ a ∈ l, True) ∧ l.length * 1 ≤ reachBytes ∧ l.length ≤ maxLen := opens_slice Try.underlying46 (by kernel_rfl) (by decide) (by kernel_rfl) op_bool
theorem one {t : TypeId} {x : PV} (h : tag Try.prog t = some false) : ArgIs Try.prog t [x] (.p x) := arg_one h
theorem TreeReplies_holds : Rows.TreeRepliesSaid :=
  OpenClaim.holds_of_wide 4 Try.f4 rfl rfl rfl rfl rfl rfl rfl ⟨rfl, rfl, rfl, rfl, rfl⟩ rfl rfl rfl rfl rfl (by kernel_rfl) Try.func4 (by kernel_rfl)
    (of_decide_eq_true (by kernel_rfl)) (by unfold Func.isWrapper; rw [if_neg (by decide +kernel)]; exact ⟨rfl, rfl⟩)
    (fun os started H enc _ => law_lifted (C := Try.checked) (s := Rows.treeRepliesSpec) started Try.own (by kernel_rfl) Try.func4
      (ChangeSpec.witness6 (enc := enc) (C := Try.checked) false ⟨#[], #[.int .u8 0, .slice none 0 0, .slice none 0 0], []⟩ 8 (by kernel_rfl) (by kernel_rfl) (by kernel_rfl) (by kernel_rfl))
      Try.laidOut (tb := 4) (by kernel_rfl) Try.underlying4 (by kernel_rfl) rfl (fun ds h => match ds, h with | [_, _, _], _ => rfl)
      (argsOpen_cons op_u8 (fun _ => one (by kernel_rfl)) (argsOpen_cons op_ints (fun _ => one (by kernel_rfl)) (argsOpen_cons op_bools (fun _ => one (by kernel_rfl)) argsOpen_nil)))
      fun ⟨o, l, ys, _⟩ ⟨h1, h2, _⟩ => TT.TreeReplies_spec o h1 l ys)
end Go.Proofs.Ytlbjmfpbpiicdaa
