/- How the arguments of the laws of scripts read. -/
import Derived.Test.YtoiledoommblcaaGreatZL2
import Derived.Test.YtoiledoommblcaaGreatRows
namespace Go.Proofs.YtoiledoommblcaaGreat
open Go Go.Idl Go.Proofs
open Go.ChangeShapes Go.WideShapes Go.ChangeAt Go.RowKit
set_option maxRecDepth 100000
theorem Tryz.own : ownKnob Tryz.prog.godebug = none := by kernel_rfl
theorem Tryz.laidOut : laidOutB Tryz.prog = true := by kernel_rfl
theorem one {t : TypeId} {x : PV} (h : tag Tryz.prog t = some false) : ArgIs Tryz.prog t [x] (.p x) := arg_one h
theorem agg {t : TypeId} {xs : List PV} (h : tag Tryz.prog t = some true) : ArgIs Tryz.prog t xs (.agg (xs.map .p)) := arg_agg h
theorem i64N {n : Int} (h : IntKind.i64.min ≤ n ∧ n ≤ IntKind.i64.max) : TZ.I64 n := by
  have h1 : IntKind.i64.min = -9223372036854775808 := by decide
  have h2 : IntKind.i64.max = 9223372036854775807 := by decide
  rwa [h1, h2] at h
theorem op_int : Opens Tryz.prog 3 (fun n : Int => [.sc (.int .i64 n)]) TZ.I64 := Opens.map (opens_int Tryz.underlying3) id (fun _ => rfl) fun _ => i64N
theorem op_bool : Opens Tryz.prog 4 (fun b : Bool => [.sc (.bool b)]) fun _ => True := opens_bool Tryz.underlying4
theorem op_f64 : Opens Tryz.prog 28 (fun n : Nat => [.sc (.float .f64 n)]) fun n => n < 2 ^ 64 := opens_f64 Tryz.underlying28
theorem op_ints : Opens Tryz.prog 60 (fun l : List Int => [.imm 1 (pr eI l)]) fun l => ∀ a ∈ l, TZ.I64 a :=
  Opens.map (opens_slice (by_ := 8) Tryz.underlying60 (by kernel_rfl) (by decide) (by kernel_rfl) op_int) id (fun _ => rfl) fun _ h => h.1
theorem op_link : Opens Tryz.prog 55 eII fun a => TZ.I64 a.1 ∧ TZ.I64 a.2 := opens_two (sz := 1) Tryz.underlying55 (by kernel_rfl) (by kernel_rfl) op_int
theorem op_links : Opens Tryz.prog 22 (fun l : List (Int × Int) => [.imm 2 (pr eII l)]) fun l => ∀ x ∈ l, TZ.I64 x.1 ∧ TZ.I64 x.2 :=
  Opens.map (opens_slice (by_ := 16) Tryz.underlying22 (by kernel_rfl) (by decide) (by kernel_rfl) op_link) id (fun _ => rfl) fun _ h => h.1
theorem op_graph : Opens Tryz.prog 24 (fun a : Int × List (Int × Int) => [.sc (.int .i64 a.1)] ++ [.imm 2 (pr eII a.2)]) fun a => TZ.I64 a.1 ∧ ∀ x ∈ a.2, TZ.I64 x.1 ∧ TZ.I64 x.2 :=
  opens_struct (fs := [_, _]) Tryz.underlying24 (by kernel_rfl) (fields_cons rfl rfl op_int (fields_one rfl rfl op_links))
theorem op_send : Opens Tryz.prog 145 eII fun a => TZ.I64 a.1 ∧ TZ.I64 a.2 :=
  Opens.map (opens_struct (fs := [_, _]) Tryz.underlying145 (by kernel_rfl) (fields_cons rfl rfl op_int (fields_one rfl rfl op_int))) id (fun _ => rfl) fun _ h => h
theorem op_sends : Opens Tryz.prog 141 (fun l : List (Int × Int) => [.imm 2 (pr eII l)]) fun l => ∀ x ∈ l, TZ.I64 x.1 ∧ TZ.I64 x.2 :=
  Opens.map (opens_slice (by_ := 16) Tryz.underlying141 (by kernel_rfl) (by decide) (by kernel_rfl) op_send) id (fun _ => rfl) fun _ h => h.1
theorem op_pick : Opens Tryz.prog 143 TZ.ePk fun p => TZ.I64 p.1 ∧ ∀ x ∈ p.2, TZ.I64 x.1 ∧ TZ.I64 x.2 :=
  Opens.map (opens_struct (fs := [_, _]) Tryz.underlying143 (by kernel_rfl) (fields_cons rfl rfl op_int (fields_one rfl rfl op_sends))) id (fun _ => rfl) fun _ h => h
theorem op_picks : Opens Tryz.prog 106 (fun l : List (Int × List (Int × Int)) => [.imm 2 (pr TZ.ePk l)]) fun l => ∀ p ∈ l, TZ.I64 p.1 ∧ ∀ x ∈ p.2, TZ.I64 x.1 ∧ TZ.I64 x.2 :=
  Opens.map (opens_slice (by_ := 32) Tryz.underlying106 (by kernel_rfl) (by decide) (by kernel_rfl) op_pick) id (fun _ => rfl) fun _ h => h.1
theorem op_take : Opens Tryz.prog 147 TZ.eIII fun t => TZ.I64 t.1 ∧ TZ.I64 t.2.1 ∧ TZ.I64 t.2.2 :=
  Opens.map (opens_struct (fs := [_, _, _]) Tryz.underlying147 (by kernel_rfl) (fields_cons rfl rfl op_int (fields_cons rfl rfl op_int (fields_one rfl rfl op_int)))) id (fun _ => rfl) fun _ h => h
theorem op_takes : Opens Tryz.prog 107 (fun l : List (Int × Int × Int) => [.imm 3 (pr TZ.eIII l)]) fun l => ∀ t ∈ l, TZ.I64 t.1 ∧ TZ.I64 t.2.1 ∧ TZ.I64 t.2.2 :=
  Opens.map (opens_slice (by_ := 24) Tryz.underlying107 (by kernel_rfl) (by decide) (by kernel_rfl) op_take) id (fun _ => rfl) fun _ h => h.1
theorem op_state : Opens Tryz.prog 109 TZ.eSt TZ.gSt :=
  Opens.map (opens_struct (fs := [_, _, _, _]) Tryz.underlying109 (by kernel_rfl) (fields_cons rfl rfl op_int (fields_cons rfl rfl op_ints (fields_cons rfl rfl op_picks (fields_one rfl rfl op_takes)))))
    (fun a => (⟨a.1, a.2.1, a.2.2.1, a.2.2.2⟩ : TZ.St)) (fun _ => rfl) fun _ h => h
theorem op_states : Opens Tryz.prog 103 (fun l : List TZ.St => [.imm 4 (pr TZ.eSt l)]) fun l => ∀ s ∈ l, TZ.gSt s :=
  Opens.map (opens_slice (by_ := 80) Tryz.underlying103 (by kernel_rfl) (by decide) (by kernel_rfl) op_state) id (fun _ => rfl) fun _ h => h.1
theorem op_node : Opens Tryz.prog 105 TZ.eNd TZ.gNd :=
  Opens.map (opens_struct (fs := [_, _]) Tryz.underlying105 (by kernel_rfl) (fields_cons rfl rfl op_int (fields_one rfl rfl op_states))) (fun a => (⟨a.1, a.2⟩ : TZ.Nd)) (fun _ => rfl) fun _ h => h
theorem op_nodes : Opens Tryz.prog 25 (fun l : List TZ.Nd => [.imm 2 (pr TZ.eNd l)]) fun l => ∀ n ∈ l, TZ.gNd n :=
  Opens.map (opens_slice (by_ := 32) Tryz.underlying25 (by kernel_rfl) (by decide) (by kernel_rfl) op_node) id (fun _ => rfl) fun _ h => h.1
theorem op_app : Opens Tryz.prog 27 (fun a : (Int × List (Int × Int)) × List TZ.Nd × Bool => ([.sc (.int .i64 a.1.1)] ++ [.imm 2 (pr eII a.1.2)]) ++ ([.imm 2 (pr TZ.eNd a.2.1)] ++ [.sc (.bool a.2.2)]))
    fun a => (TZ.I64 a.1.1 ∧ ∀ x ∈ a.1.2, TZ.I64 x.1 ∧ TZ.I64 x.2) ∧ (∀ n ∈ a.2.1, TZ.gNd n) ∧ True :=
  opens_struct (fs := [_, _, _]) Tryz.underlying27 (by kernel_rfl) (fields_cons rfl rfl op_graph (fields_cons rfl rfl op_nodes (fields_one rfl rfl op_bool)))
theorem op_act : Opens Tryz.prog 57 TZ.eIII fun t => TZ.I64 t.1 ∧ TZ.I64 t.2.1 ∧ TZ.I64 t.2.2 :=
  Opens.map (opens_struct (fs := [_, _, _]) Tryz.underlying57 (by kernel_rfl) (fields_cons rfl rfl op_int (fields_cons rfl rfl op_int (fields_one rfl rfl op_int)))) id (fun _ => rfl) fun _ h => h
theorem op_acts : Opens Tryz.prog 29 (fun l : List (Int × Int × Int) => [.imm 3 (pr TZ.eIII l)]) fun l => ∀ t ∈ l, TZ.I64 t.1 ∧ TZ.I64 t.2.1 ∧ TZ.I64 t.2.2 :=
  Opens.map (opens_slice (by_ := 24) Tryz.underlying29 (by kernel_rfl) (by decide) (by kernel_rfl) op_act) id (fun _ => rfl) fun _ h => h.1
def eSc (s : TZ.Sc) : List PV := [.sc (.int .i64 s.N), .imm 2 (pr eII s.ls), .imm 2 (pr TZ.eNd s.T), .sc (.bool s.fifo), .sc (.float .f64 s.room), .imm 3 (pr TZ.eIII s.acts)]
theorem op_script : Opens Tryz.prog 31 eSc TZ.gSc :=
  Opens.map (opens_struct (fs := [_, _, _]) Tryz.underlying31 (by kernel_rfl) (fields_cons rfl rfl op_app (fields_cons rfl rfl op_f64 (fields_one rfl rfl op_acts))))
    (fun a => (⟨a.1.1.1, a.1.1.2, a.1.2.1, a.1.2.2, a.2.1, a.2.2⟩ : TZ.Sc)) (fun _ => rfl) fun _ h => ⟨h.1.1.1, h.1.1.2, h.1.2.1, h.2.1, h.2.2⟩
end Go.Proofs.YtoiledoommblcaaGreat
