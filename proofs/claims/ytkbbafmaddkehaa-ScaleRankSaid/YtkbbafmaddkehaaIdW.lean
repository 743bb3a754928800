/-
  The rewriting rules of the walk of regions that draw their order; calls in the walk.
-/
import Derived.Test.YtkbbafmaddkehaaIdV
namespace Go.Idl
section
variable {P : Program} {h0 : IH} {all : Array Oper} {K : IState → List FP → Prop} {r : List Oper} {dst : Option Tmp} {op : Op} {ty : TypeId} {pos : String} {aft : Array Edge} {N : Nat} {s : List (Nat × IV)} {d : List IDef} {nx : Nat} {l : List (Nat × IBlk)} {acc : List FP}
@[go_sem ↓] theorem dvc_nil {S : IState} : dvc P h0 all K [] S acc = K S acc := (rfl)
def dStepOp (P : Program) (h0 : IH) (all : Array Oper) (K : IState → List FP → Prop) (o : Oper) (r : List Oper) (N : Nat) (s : List (Nat × IV)) (d : List IDef) (nx : Nat) (l : List (Nat × IBlk)) (acc : List FP) (x : Option FR) : Prop :=
  onSome x (fun fr => if dOk N o.dst then dvc P h0 all K r ⟨N, putS o.dst fr.x s, d, nx + fr.F.length, fr.W.reverse ++ l⟩ (acc ++ [fr.fp]) else False)
    (DRun P h0 all (o :: r) ⟨N, s, d, nx, l⟩ acc K)
@[go_sem ↓] theorem dvc_ops : dvc P h0 all K (⟨dst, op, ty, pos, aft, none⟩ :: r) ⟨N, s, d, nx, l⟩ acc =
    dStepOp P h0 all K ⟨dst, op, ty, pos, aft, none⟩ r N s d nx l acc (fop P (ev s) (look (l ++ h0.m)) nx op) := (rfl)
@[go_sem ↓] theorem dStepOp_put {g : Option (Nat × Bool)} {t : Tmp} {x : IV} {R W : List (Nat × IBlk)} {F : List Nat} :
    dStepOp P h0 all K ⟨some t, op, ty, pos, aft, g⟩ r N s d nx l acc (some ⟨x, R, F, W⟩) =
      if t < N then dvc P h0 all K r ⟨N, (t, x) :: s, d, nx + F.length, W.reverse ++ l⟩ (acc ++ [(R.map (·.1), W.map (·.1))]) else False := by
  simp [dStepOp, onSome, dOk, putS, FR.fp]
@[go_sem ↓] theorem dStepOp_nil {g : Option (Nat × Bool)} {x : IV} {R W : List (Nat × IBlk)} {F : List Nat} :
    dStepOp P h0 all K ⟨none, op, ty, pos, aft, g⟩ r N s d nx l acc (some ⟨x, R, F, W⟩) =
      dvc P h0 all K r ⟨N, s, d, nx + F.length, W.reverse ++ l⟩ (acc ++ [(R.map (·.1), W.map (·.1))]) := by
  simp [dStepOp, onSome, dOk, putS, FR.fp]
@[go_sem ↓] theorem dStepOp_none {o : Oper} : dStepOp P h0 all K o r N s d nx l acc none = DRun P h0 all (o :: r) ⟨N, s, d, nx, l⟩ acc K := (rfl)
theorem dStepOp_congr {o : Oper} {x x' : Option FR} (h : x = x') : dStepOp P h0 all K o r N s d nx l acc x = dStepOp P h0 all K o r N s d nx l acc x' := by rw [h]
def dStepGuard (P : Program) (h0 : IH) (all : Array Oper) (K : IState → List FP → Prop) (o : Oper) (r : List Oper) (N : Nat) (s : List (Nat × IV)) (d : List IDef) (nx : Nat) (l : List (Nat × IBlk)) (acc : List FP) (x : Option Bool) : Prop :=
  onSome x (fun b => onBool b (dStepOp P h0 all K o r N s d nx l acc (fop P (ev s) (look (l ++ h0.m)) nx o.op))
    (if dOk N o.dst then dvc P h0 all K r ⟨N, putS o.dst (.tup []) s, d, nx, l⟩ (acc ++ [([], [])]) else False)) (DRun P h0 all (o :: r) ⟨N, s, d, nx, l⟩ acc K)
@[go_sem ↓] theorem dvc_ops_guard {g : Nat × Bool} : dvc P h0 all K (⟨dst, op, ty, pos, aft, some g⟩ :: r) ⟨N, s, d, nx, l⟩ acc =
    dStepGuard P h0 all K ⟨dst, op, ty, pos, aft, some g⟩ r N s d nx l acc (iwant all s ⟨dst, op, ty, pos, aft, some g⟩) := (rfl)
@[go_sem ↓] theorem dStepGuard_true {o : Oper} : dStepGuard P h0 all K o r N s d nx l acc (some true) = dStepOp P h0 all K o r N s d nx l acc (fop P (ev s) (look (l ++ h0.m)) nx o.op) := (rfl)
@[go_sem ↓] theorem dStepGuard_false {g : Option (Nat × Bool)} {t : Tmp} : dStepGuard P h0 all K ⟨some t, op, ty, pos, aft, g⟩ r N s d nx l acc (some false) =
    if t < N then dvc P h0 all K r ⟨N, (t, .tup []) :: s, d, nx, l⟩ (acc ++ [([], [])]) else False := by
  simp [dStepGuard, onSome, onBool, dOk, putS]
@[go_sem ↓] theorem dStepGuard_skip {g : Option (Nat × Bool)} : dStepGuard P h0 all K ⟨none, op, ty, pos, aft, g⟩ r N s d nx l acc (some false) = dvc P h0 all K r ⟨N, s, d, nx, l⟩ (acc ++ [([], [])]) := by
  simp [dStepGuard, onSome, onBool, dOk, putS]
theorem dStepGuard_congr {o : Oper} {x x' : Option Bool} (h : x = x') : dStepGuard P h0 all K o r N s d nx l acc x = dStepGuard P h0 all K o r N s d nx l acc x' := by rw [h]
theorem drun_congr {S S' : IState} (h : S = S') : DRun P h0 all r S acc K = DRun P h0 all r S' acc K := by rw [h]
end
section
variable {P : Program} {h0 : IH} {Q : Exit → IState → Prop} {n : Nat} {k : List It} {all : Array Oper} {r : List Oper} {dst : Option Tmp} {op : Op} {ty : TypeId} {pos : String} {aft : Array Edge} {N : Nat} {s : List (Nat × IV)} {d : List IDef} {nx : Nat} {l : List (Nat × IBlk)}
/-- A call of what leaves nothing: its callee, its arguments, its answer; then on. -/
theorem wlk_call (n : Nat) {g : Option (Nat × Bool)} {f : Operand} {args : List Operand} {ts : Array TypeId} {c : FuncId} {zs : List IV} {x : IV} {R : List (Nat × IBlk)}
    (hc : icallee (ev s) f args = some (c, zs)) (hp : PCall P c zs R x) (hR : ∀ p ∈ R, look (l ++ h0.m) p.1 = some p.2)
    (hw : iwant all s ⟨dst, .call { callee := .value f, args := ⟨args⟩, argTypes := ts }, ty, pos, aft, g⟩ = some true) (hn : fnOk P c = true) (hd : dOk N dst = true)
    (h : vc P h0 Q n (.ops all r :: k) ⟨N, putS dst x s, d, nx, l⟩) :
    IRun P h0 (.ops all (⟨dst, .call { callee := .value f, args := ⟨args⟩, argTypes := ts }, ty, pos, aft, g⟩ :: r) :: k) ⟨N, s, d, nx, l⟩ Q :=
  iops_pcall hw hc hn hd hR hp (vc_sound Q n _ _ h)
theorem walk_dcall {g : Option (Nat × Bool)} {f : Operand} {args : List Operand} {ts : Array TypeId} {c : FuncId} {zs : List IV} {x : IV} {R : List (Nat × IBlk)} {acc : List FP} {K : IState → List FP → Prop}
    (hc : icallee (ev s) f args = some (c, zs)) (hp : PCall P c zs R x) (hR : ∀ p ∈ R, look (l ++ h0.m) p.1 = some p.2)
    (hw : iwant all s ⟨dst, .call { callee := .value f, args := ⟨args⟩, argTypes := ts }, ty, pos, aft, g⟩ = some true) (hn : fnOk P c = true) (hd : dOk N dst = true) (hx : bel 0 x)
    (h : dvc P h0 all K r ⟨N, putS dst x s, d, nx, l⟩ (acc ++ [(R.map (·.1), [])])) :
    DRun P h0 all (⟨dst, .call { callee := .value f, args := ⟨args⟩, argTypes := ts }, ty, pos, aft, g⟩ :: r) ⟨N, s, d, nx, l⟩ acc K :=
  drun_call hw hc hn hd hR hp hx (dvc_sound _ _ _ h)
end
attribute [congr] dStepOp_congr dStepGuard_congr drun_congr
attribute [go_sem] icallee chk chkGo chk1 apL apF putS dOk

/-- A contract's form for functions of plain data. -/
abbrev Pure (P : Program) (f : FuncId) (args : List IV) (x : IV) : Prop := PCall P f args [] x
end Go.Idl
