/- How the arguments of the laws of scripts read. -/
import Derived.Test.YtoiledoommblcaaRL2
import Derived.Test.YtoiledoommblcaaRows
set_option linter.unusedSimpArgs false
set_option linter.unusedVariables false
namespace Go.Proofs.Ytoiledoommblcaa
open Go Go.Idl Go.Proofs
open Go.ChangeShapes Go.WideShapes Go.ChangeAt Go.RowKit
set_option maxRecDepth 100000
theorem Try.own : ownKnob Try.prog.godebug = none := by kernel_rfl
theorem Try.laidOut : laidOutB Try.prog = true := by kernel_rfl
theorem one {t : TypeId} {x : PV} (h : tag Try.prog t = some false) : ArgIs Try.prog t [x] (.p x) := arg_one h
theorem agg {t : TypeId} {xs : List PV} (h : tag Try.prog t = some true) : ArgIs Try.prog t xs (.agg (xs.map .p)) := arg_agg h
theorem i64N {n : Int} (h : IntKind.i64.min ≤ n ∧ n ≤ IntKind.i64.max) : TR.I64 n := by
  have h1 : IntKind.i64.min = -9223372036854775808 := by decide
  have h2 : IntKind.i64.max = 9223372036854775807 := by decide
  rwa [h1, h2] at h
theorem op_int : Opens Try.prog 3 (fun n : Int => [.sc (.int .i64 n)]) TR.I64 := Opens.map (opens_int Try.underlying3) id (fun _ => rfl) fun _ => i64N
theorem op_bool : Opens Try.prog 4 (fun b : Bool => [.sc (.bool b)]) fun _ => True := opens_bool Try.underlying4
theorem op_f64 : Opens Try.prog 28 (fun n : Nat => [.sc (.float .f64 n)]) fun n => n < 2 ^ 64 := opens_f64 Try.underlying28
theorem op_ints : Opens Try.prog 63 (fun l : List Int => [.imm 1 (pr eI l)]) fun l => ∀ a ∈ l, TR.I64 a :=
  Opens.map (opens_slice (by_ := 8) Try.underlying63 (by kernel_rfl) (by decide) (by kernel_rfl) op_int) id (fun _ => rfl) fun _ h => h.1
theorem op_link : Opens Try.prog 94 eII fun a => TR.I64 a.1 ∧ TR.I64 a.2 := opens_two (sz := 1) Try.underlying94 (by kernel_rfl) (by kernel_rfl) op_int
theorem op_links : Opens Try.prog 22 (fun l : List (Int × Int) => [.imm 2 (pr eII l)]) fun l => ∀ x ∈ l, TR.I64 x.1 ∧ TR.I64 x.2 :=
  Opens.map (opens_slice (by_ := 16) Try.underlying22 (by kernel_rfl) (by decide) (by kernel_rfl) op_link) id (fun _ => rfl) fun _ h => h.1
theorem op_graph : Opens Try.prog 24 (fun a : Int × List (Int × Int) => [.sc (.int .i64 a.1)] ++ [.imm 2 (pr eII a.2)]) fun a => TR.I64 a.1 ∧ ∀ x ∈ a.2, TR.I64 x.1 ∧ TR.I64 x.2 :=
  opens_struct (fs := [_, _]) Try.underlying24 (by kernel_rfl) (fields_cons rfl rfl op_int (fields_one rfl rfl op_links))
theorem op_send : Opens Try.prog 131 eII fun a => TR.I64 a.1 ∧ TR.I64 a.2 :=
  Opens.map (opens_struct (fs := [_, _]) Try.underlying131 (by kernel_rfl) (fields_cons rfl rfl op_int (fields_one rfl rfl op_int))) id (fun _ => rfl) fun _ h => h
theorem op_sends : Opens Try.prog 127 (fun l : List (Int × Int) => [.imm 2 (pr eII l)]) fun l => ∀ x ∈ l, TR.I64 x.1 ∧ TR.I64 x.2 :=
  Opens.map (opens_slice (by_ := 16) Try.underlying127 (by kernel_rfl) (by decide) (by kernel_rfl) op_send) id (fun _ => rfl) fun _ h => h.1
theorem op_pick : Opens Try.prog 129 TR.ePk fun p => TR.I64 p.1 ∧ ∀ x ∈ p.2, TR.I64 x.1 ∧ TR.I64 x.2 :=
  Opens.map (opens_struct (fs := [_, _]) Try.underlying129 (by kernel_rfl) (fields_cons rfl rfl op_int (fields_one rfl rfl op_sends))) id (fun _ => rfl) fun _ h => h
theorem op_picks : Opens Try.prog 98 (fun l : List (Int × List (Int × Int)) => [.imm 2 (pr TR.ePk l)]) fun l => ∀ p ∈ l, TR.I64 p.1 ∧ ∀ x ∈ p.2, TR.I64 x.1 ∧ TR.I64 x.2 :=
  Opens.map (opens_slice (by_ := 32) Try.underlying98 (by kernel_rfl) (by decide) (by kernel_rfl) op_pick) id (fun _ => rfl) fun _ h => h.1
theorem op_take : Opens Try.prog 133 TR.eIII fun t => TR.I64 t.1 ∧ TR.I64 t.2.1 ∧ TR.I64 t.2.2 :=
  Opens.map (opens_struct (fs := [_, _, _]) Try.underlying133 (by kernel_rfl) (fields_cons rfl rfl op_int (fields_cons rfl rfl op_int (fields_one rfl rfl op_int)))) id (fun _ => rfl) fun _ h => h
theorem op_takes : Opens Try.prog 99 (fun l : List (Int × Int × Int) => [.imm 3 (pr TR.eIII l)]) fun l => ∀ t ∈ l, TR.I64 t.1 ∧ TR.I64 t.2.1 ∧ TR.I64 t.2.2 :=
  Opens.map (opens_slice (by_ := 24) Try.underlying99 (by kernel_rfl) (by decide) (by kernel_rfl) op_take) id (fun _ => rfl) fun _ h => h.1
theorem op_state : Opens Try.prog 101 TR.eSt TR.gSt :=
  Opens.map (opens_struct (fs := [_, _, _, _]) Try.underlying101 (by kernel_rfl) (fields_cons rfl rfl op_int (fields_cons rfl rfl op_ints (fields_cons rfl rfl op_picks (fields_one rfl rfl op_takes)))))
    (fun a => (⟨a.1, a.2.1, a.2.2.1, a.2.2.2⟩ : TR.St)) (fun _ => rfl) fun _ h => h
theorem op_states : Opens Try.prog 95 (fun l : List TR.St => [.imm 4 (pr TR.eSt l)]) fun l => ∀ s ∈ l, TR.gSt s :=
  Opens.map (opens_slice (by_ := 80) Try.underlying95 (by kernel_rfl) (by decide) (by kernel_rfl) op_state) id (fun _ => rfl) fun _ h => h.1
theorem op_node : Opens Try.prog 97 TR.eNd TR.gNd :=
  Opens.map (opens_struct (fs := [_, _]) Try.underlying97 (by kernel_rfl) (fields_cons rfl rfl op_int (fields_one rfl rfl op_states))) (fun a => (⟨a.1, a.2⟩ : TR.Nd)) (fun _ => rfl) fun _ h => h
theorem op_nodes : Opens Try.prog 25 (fun l : List TR.Nd => [.imm 2 (pr TR.eNd l)]) fun l => ∀ n ∈ l, TR.gNd n :=
  Opens.map (opens_slice (by_ := 32) Try.underlying25 (by kernel_rfl) (by decide) (by kernel_rfl) op_node) id (fun _ => rfl) fun _ h => h.1
theorem op_app : Opens Try.prog 27 (fun a : (Int × List (Int × Int)) × List TR.Nd × Bool => ([.sc (.int .i64 a.1.1)] ++ [.imm 2 (pr eII a.1.2)]) ++ ([.imm 2 (pr TR.eNd a.2.1)] ++ [.sc (.bool a.2.2)]))
    fun a => (TR.I64 a.1.1 ∧ ∀ x ∈ a.1.2, TR.I64 x.1 ∧ TR.I64 x.2) ∧ (∀ n ∈ a.2.1, TR.gNd n) ∧ True :=
  opens_struct (fs := [_, _, _]) Try.underlying27 (by kernel_rfl) (fields_cons rfl rfl op_graph (fields_cons rfl rfl op_nodes (fields_one rfl rfl op_bool)))
theorem op_act : Opens Try.prog 61 TR.eIII fun t => TR.I64 t.1 ∧ TR.I64 t.2.1 ∧ TR.I64 t.2.2 :=
  Opens.map (opens_struct (fs := [_, _, _]) Try.underlying61 (by kernel_rfl) (fields_cons rfl rfl op_int (fields_cons rfl rfl op_int (fields_one rfl rfl op_int)))) id (fun _ => rfl) fun _ h => h
theorem op_acts : Opens Try.prog 29 (fun l : List (Int × Int × Int) => [.imm 3 (pr TR.eIII l)]) fun l => ∀ t ∈ l, TR.I64 t.1 ∧ TR.I64 t.2.1 ∧ TR.I64 t.2.2 :=
  Opens.map (opens_slice (by_ := 24) Try.underlying29 (by kernel_rfl) (by decide) (by kernel_rfl) op_act) id (fun _ => rfl) fun _ h => h.1
def eSc (s : TR.Sc) : List PV := [.sc (.int .i64 s.N), .imm 2 (pr eII s.ls), .imm 2 (pr TR.eNd s.T), .sc (.bool s.fifo), .sc (.float .f64 s.room), .imm 3 (pr TR.eIII s.acts)]
theorem op_script : Opens Try.prog 31 eSc TR.gSc :=
  Opens.map (opens_struct (fs := [_, _, _]) Try.underlying31 (by kernel_rfl) (fields_cons rfl rfl op_app (fields_cons rfl rfl op_f64 (fields_one rfl rfl op_acts))))
    (fun a => (⟨a.1.1.1, a.1.1.2, a.1.2.1, a.1.2.2, a.2.1, a.2.2⟩ : TR.Sc)) (fun _ => rfl) fun _ h => ⟨h.1.1.1, h.1.1.2, h.1.2.1, h.2.1, h.2.2⟩
end Go.Proofs.Ytoiledoommblcaa
