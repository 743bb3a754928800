/- How the arguments of HostOrder read. -/
import Derived.Test.YtnbhjoopcaaafaaGreatHPo
import Derived.Test.YtnbhjoopcaaafaaGreatHOw
import Derived.Test.YtnbhjoopcaaafaaGreatRows
set_option linter.unusedSimpArgs false
set_option linter.unusedVariables false
namespace Go.Proofs.YtnbhjoopcaaafaaGreat
open Go Go.Idl Go.Proofs
open Go.ChangeShapes Go.WideShapes Go.ChangeAt Go.RowKit
set_option maxRecDepth 100000
theorem op_u8 : Opens Tryz.prog 5 (fun n : Int => [.sc (.int .u8 n)]) fun n => 0 ≤ n ∧ n < 256 :=
  Opens.map (opens_int Tryz.underlying5) id (fun _ => rfl) fun n h => by
    have e1 : IntKind.u8.min = 0 := by decide
    have e2 : IntKind.u8.max = 255 := by decide
    rw [e1, e2] at h
    exact ⟨h.1, by have := h.2; simp only [id]; omega⟩
theorem op_u8s : Opens Tryz.prog 82 (fun l : List Int => [.imm 1 (pr HO.eU8 l)]) fun l => ∀ t ∈ l, 0 ≤ t ∧ t < 256 :=
  Opens.map (opens_slice (by_ := 1) Tryz.underlying82 (by kernel_rfl) (by decide) (by kernel_rfl) op_u8) id (fun _ => rfl) fun _ h => h.1
theorem op_taking : Opens Tryz.prog 81 (fun x : HO.Hs × Int × List Int => [.sc (.int .i64 x.1.node), .sc (.int .i64 x.1.state), .sc (.int .i64 x.1.steps), .imm 1 (pr HO.eMs x.1.inn), .imm 1 (pr HO.eLs x.1.out), .sc (.int .i64 x.2.1), .imm 1 (pr eI x.2.2)]) fun _ => True :=
  Opens.map (opens_struct (fs := [_, _, _]) Tryz.underlying81 (by kernel_rfl) (fields_cons rfl rfl op_host (fields_cons rfl rfl op_int (fields_one rfl rfl op_ints))))
    id (fun _ => rfl) fun _ _ => trivial
end Go.Proofs.YtnbhjoopcaaafaaGreat
