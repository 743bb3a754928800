/-
  Lists told as rows.
-/
import Derived.Test.YtkbbafmaddkehaaIdX
namespace Go.Idl
/-- A list as rows of cells that nothing writes to, and as rows of an owned block. -/
def pr {α : Type} (f : α → List PV) (l : List α) : List (List PV) := l.map f
def ir {α : Type} (f : α → List PV) (l : List α) : List (List IV) := l.map fun a => (f a).map .p
section
variable {α : Type} {f : α → List PV} {l l' : List α} {i k : Nat} {a : α}
@[go_sem] theorem pr_length : (pr f l).length = l.length := by simp [pr]
@[go_sem] theorem ir_length : (ir f l).length = l.length := by simp [ir]
theorem pr_get (h : i < l.length) : (pr f l)[i]? = some (f l[i]) := by simp [pr, h]
theorem ir_get (h : i < l.length) : (ir f l)[i]? = some ((f l[i]).map .p) := by simp [ir, h]
theorem pr_get' (h : l[i]? = some a) : (pr f l)[i]? = some (f a) := by simp [pr, h]
theorem ir_get' (h : l[i]? = some a) : (ir f l)[i]? = some ((f a).map .p) := by simp [ir, h]
@[go_sem] theorem pr_map : (pr f l).map (·.map .p) = ir f l := by simp [pr, ir]
@[go_sem] theorem pvs_map : ∀ {x : List PV}, pvs (x.map .p) = some x
  | [] => rfl
  | x :: r => by simp [pvs, pvs_map]
@[go_sem] theorem pvs2_ir : pvs2 (ir f l) = some (pr f l) := by
  induction l with
  | nil => rfl
  | cons x l ih =>
    have : ir f (x :: l) = (f x).map .p :: ir f l := rfl
    rw [this]
    simp only [pvs2, pvs_map, ih]
    rfl
theorem ir_snoc : ir f (l ++ [a]) = ir f l ++ [(f a).map .p] := by simp [ir]
@[go_sem] theorem ir_append : ir f l ++ ir f l' = ir f (l ++ l') := by simp [ir]
@[go_sem] theorem pr_drop : (pr f l).drop k = pr f (l.drop k) := by simp [pr]
@[go_sem] theorem pr_take : (pr f l).take k = pr f (l.take k) := by simp [pr]
@[go_sem] theorem ir_drop : (ir f l).drop k = ir f (l.drop k) := by simp [ir]
@[go_sem] theorem ir_take : (ir f l).take k = ir f (l.take k) := by simp [ir]
@[go_sem] theorem ir_nil : ir f [] = [] := rfl
@[go_sem] theorem pr_nil : pr f [] = [] := rfl
@[go_sem] theorem pr_eq_nil : pr f l = [] ↔ l = [] := by simp [pr]
theorem ir_set : (ir f l).set i ((f a).map .p) = ir f (l.set i a) := by simp [ir, List.map_set]
@[go_sem] theorem pssm_pr (h : ∀ a, plsm (f a)) : pssm (pr f l) := by
  induction l with
  | nil => trivial
  | cons x l ih => exact ⟨h x, ih⟩
end
def eI (n : Int) : List PV := [.sc (.int .i64 n)]
def eB (b : Bool) : List PV := [.sc (.bool b)]
def eII (p : Int × Int) : List PV := [.sc (.int .i64 p.1), .sc (.int .i64 p.2)]
@[go_sem] theorem snocI {l : List Int} {n : Int} : ir eI l ++ [[.p (.sc (.int .i64 n))]] = ir eI (l ++ [n]) := by simp [ir, eI]
@[go_sem] theorem snocB {l : List Bool} {n : Bool} : ir eB l ++ [[.p (.sc (.bool n))]] = ir eB (l ++ [n]) := by simp [ir, eB]
@[go_sem] theorem take_snoc {α : Type} {l : List α} {a : α} : List.take (l.length + 1) (l ++ [a]) = l ++ [a] := List.take_of_length_le (by simp)
@[go_sem] theorem take_app {α : Type} {l l' : List α} : List.take (l.length + l'.length) (l ++ l') = l ++ l' := List.take_of_length_le (by simp)
abbrev lI (l : List Int) : IV := .p (.imm 1 (pr eI l))
abbrev lB (l : List Bool) : IV := .p (.imm 1 (pr eB l))
abbrev lII (l : List (Int × Int)) : IV := .p (.imm 2 (pr eII l))
theorem w64 {n : Int} (h : -9223372036854775808 ≤ n ∧ n ≤ 9223372036854775807) : IntKind.i64.wrap n = n := by rw [IntKind.wrap_i64]; omega
theorem drop_cons {α : Type} {l : List α} {i : Nat} (h : i < l.length) : l.drop i = l[i] :: l.drop (i + 1) := List.drop_eq_getElem_cons h
theorem beqT {x y : Int} (h : x = y) : (x == y) = true := by simp [h]
theorem beqF {x y : Int} (h : ¬ x = y) : (x == y) = false := by simp [h]
theorem bneT {x y : Int} (h : ¬ x = y) : (x != y) = true := by simp [h]
theorem bneF {x y : Int} (h : x = y) : (x != y) = false := by simp [h]
@[go_sem] theorem bbT {b : Bool} : (b == true) = b := by cases b <;> rfl
@[go_sem] theorem bbF {b : Bool} : (b == false) = !b := by cases b <;> rfl
attribute [go_sem] lI lB lII
end Go.Idl
