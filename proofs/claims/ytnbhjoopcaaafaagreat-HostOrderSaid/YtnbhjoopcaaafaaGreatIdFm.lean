/-
  Families of blocks: a list of lists of which each row is held.
-/
import Derived.Test.YtnbhjoopcaaafaaGreatIdGr
set_option linter.unusedSimpArgs false
set_option linter.unusedVariables false
namespace Go.Idl
variable {P : Program} {h0 : IH}

/-- Rows that speak of the blocks k, k + 1, ..: x.1 is a block's generation, x.2 what lies in it. -/
def refsR {β : Type} : Nat → List (Nat × List β) → List (List IV)
  | _, [] => []
  | k, x :: r => [.ref k x.1 0 x.2.length] :: refsR (k + 1) r
/-- The blocks. -/
def famB {β : Type} (sz : Nat) (e : β → List PV) (xs : List (Nat × List β)) : List IBlk := xs.map fun x => .arr sz x.1 (ir e x.2)
/-- New ones. -/
def freshF {β : Type} (l : List (List β)) : List (Nat × List β) := l.map fun x => (0, x)

section
variable {β : Type} {k k' n sz g : Nat} {e : β → List PV} {xs : List (Nat × List β)} {ρ : Nat → Nat}
section
variable {nx a b : Nat}
end
end

section
variable {β : Type} {k b sz : Nat} {e : β → List PV} {xs : List (Nat × List β)}
end
/-! ### cuts -/
section
variable {S : IState} {m : List (Nat × IBlk)} {ids : List Nat} {nx nx0 k : Nat} {L : List IBlk} {r l' : List (Nat × IBlk)}
@[go_sem] theorem geAll_zero : ∀ {l : List Nat}, geAll 0 l = True
  | [] => rfl
  | _ :: _ => eq_true ⟨Nat.zero_le _, of_eq_true geAll_zero⟩
end

/-! ### ends -/
section
variable {fn : Func} {kk : Nat} {m : List (Nat × IBlk)} {c : Nat} {x : IV} {W : List (Nat × IBlk)} {N : Nat} {s : List (Nat × IV)} {nx : Nat} {l : List (Nat × IBlk)}
/-- The numbers from k on, s more. -/
def shf (k s i : Nat) : Nat := if i < k then i else i + s
@[go_sem] theorem shf_10 {s : Nat} : shf 1 s 0 = 0 := rfl
end

/-! ### calls whose new blocks are numbered at will -/
section
variable {f : FuncId} {args : List IV} {c : Nat} {x : IV} {W : List (Nat × IBlk)}
variable {Q : Exit → IState → Prop} {k : List It} {all : Array Oper} {r : List Oper} {dst : Option Tmp} {ty : TypeId} {pos : String} {aft : Array Edge} {N : Nat} {s : List (Nat × IV)} {d : List IDef} {nx : Nat} {l : List (Nat × IBlk)}
  {g : Option (Nat × Bool)} {fo : Operand} {as : List Operand} {ts : List TypeId}
end
end Go.Idl
