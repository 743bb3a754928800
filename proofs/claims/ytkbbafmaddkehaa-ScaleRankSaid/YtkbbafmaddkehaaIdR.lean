/-
  The rewriting rules of the walk.
-/
import Derived.Test.YtkbbafmaddkehaaIdQ
namespace Go.Idl
section
variable {P : Program} {h0 : IH} {Q : Exit → IState → Prop} {n : Nat} {k : List It} {S : IState}

@[go_sem ↓] theorem vc_nil : vc P h0 Q (n + 1) [] S = Q .normal S := (rfl)
@[go_sem ↓] theorem vc_blk {id : Nat} : vc P h0 Q (n + 1) (.blk id :: k) S = vc P h0 Q n k S := (rfl)
@[go_sem ↓] theorem vc_skip : vc P h0 Q (n + 1) (.code .skip :: k) S = vc P h0 Q n k S := (rfl)
@[go_sem ↓] theorem vc_label {l : Nat} : vc P h0 Q (n + 1) (.code (.label l) :: k) S = vc P h0 Q n k S := (rfl)
@[go_sem ↓] theorem vc_seq {x y : Code} : vc P h0 Q (n + 1) (.code (.seq x y) :: k) S = vc P h0 Q n (.code x :: .code y :: k) S := (rfl)
@[go_sem ↓] theorem vc_block {id : Nat} {c : Code} : vc P h0 Q (n + 1) (.code (.block id c) :: k) S = vc P h0 Q n (.code c :: .blk id :: k) S := (rfl)
/-- A jump, where it leads is known. -/
def stepExit (P : Program) (h0 : IH) (Q : Exit → IState → Prop) (n id : Nat) (S : IState) (x : Option (List It)) : Prop := onSome x (fun k' => vc P h0 Q n k' S) (Q (.exit id) S)
@[go_sem ↓] theorem vc_exit {id : Nat} : vc P h0 Q (n + 1) (.code (.exit id) :: k) S = stepExit P h0 Q n id S (toBlk id k) := (rfl)
@[go_sem ↓] theorem stepExit_some {id : Nat} {k' : List It} : stepExit P h0 Q n id S (some k') = vc P h0 Q n k' S := (rfl)
@[go_sem ↓] theorem stepExit_none {id : Nat} : stepExit P h0 Q n id S none = Q (.exit id) S := (rfl)
@[go_sem ↓] theorem vc_ret : vc P h0 Q (n + 1) (.code .ret :: k) S = Q .ret S := (rfl)
@[go_sem ↓] theorem vc_region {id : Nat} {l : List Oper} : vc P h0 Q (n + 1) (.code (.region id l.toArray false) :: k) S = vc P h0 Q n (.ops l.toArray l :: k) S := (rfl)
@[go_sem ↓] theorem vc_drawn {id : Nat} {ops : Array Oper} : vc P h0 Q (n + 1) (.code (.region id ops true) :: k) S = IRun P h0 (.code (.region id ops true) :: k) S Q := (rfl)
@[go_sem ↓] theorem vc_loop {c : Code} : vc P h0 Q (n + 1) (.code (.loop c) :: k) S = IRun P h0 (.code (.loop c) :: k) S Q := (rfl)
@[go_sem ↓] theorem vc_ops_nil {all : Array Oper} : vc P h0 Q (n + 1) (.ops all [] :: k) S = vc P h0 Q n k S := (rfl)
/-- An operation, what it does is known. -/
def stepOp (P : Program) (h0 : IH) (Q : Exit → IState → Prop) (n : Nat) (all : Array Oper) (o : Oper) (r : List Oper) (k : List It) (N : Nat) (s : List (Nat × IV)) (d : List IDef) (nx : Nat) (l : List (Nat × IBlk)) (x : Option FR) : Prop :=
  onSome x (fun fr => if dOk N o.dst then vc P h0 Q n (.ops all r :: k) ⟨N, putS o.dst fr.x s, d, nx + fr.F.length, fr.W.reverse ++ l⟩ else False)
    (IRun P h0 (.ops all (o :: r) :: k) ⟨N, s, d, nx, l⟩ Q)
section
variable {all : Array Oper} {r : List Oper} {dst : Option Tmp} {op : Op} {ty : TypeId} {pos : String} {aft : Array Edge} {N : Nat} {s : List (Nat × IV)} {d : List IDef} {nx : Nat} {l : List (Nat × IBlk)}
@[go_sem ↓] theorem vc_ops : vc P h0 Q (n + 1) (.ops all (⟨dst, op, ty, pos, aft, none⟩ :: r) :: k) ⟨N, s, d, nx, l⟩ =
    stepOp P h0 Q n all ⟨dst, op, ty, pos, aft, none⟩ r k N s d nx l (fop P (ev s) (look (l ++ h0.m)) nx op) := (rfl)
theorem stepOp_dst {o : Oper} {t : Tmp} {x : IV} {R W : List (Nat × IBlk)} {F : List Nat} (ho : o.dst = some t) (ht : t < N) :
    stepOp P h0 Q n all o r k N s d nx l (some ⟨x, R, F, W⟩) = vc P h0 Q n (.ops all r :: k) ⟨N, (t, x) :: s, d, nx + F.length, W.reverse ++ l⟩ := by
  simp [stepOp, onSome, ho, dOk, ht, putS]
@[go_sem ↓] theorem stepOp_put {g : Option (Nat × Bool)} {t : Tmp} {x : IV} {R W : List (Nat × IBlk)} {F : List Nat} :
    stepOp P h0 Q n all ⟨some t, op, ty, pos, aft, g⟩ r k N s d nx l (some ⟨x, R, F, W⟩) = if t < N then vc P h0 Q n (.ops all r :: k) ⟨N, (t, x) :: s, d, nx + F.length, W.reverse ++ l⟩ else False := by
  simp [stepOp, onSome, dOk, putS]
@[go_sem ↓] theorem stepOp_nil {g : Option (Nat × Bool)} {x : IV} {R W : List (Nat × IBlk)} {F : List Nat} :
    stepOp P h0 Q n all ⟨none, op, ty, pos, aft, g⟩ r k N s d nx l (some ⟨x, R, F, W⟩) = vc P h0 Q n (.ops all r :: k) ⟨N, s, d, nx + F.length, W.reverse ++ l⟩ := by
  simp [stepOp, onSome, dOk, putS]
@[go_sem ↓] theorem stepOp_none {o : Oper} : stepOp P h0 Q n all o r k N s d nx l none = IRun P h0 (.ops all (o :: r) :: k) ⟨N, s, d, nx, l⟩ Q := (rfl)
theorem stepOp_congr {o : Oper} {x x' : Option FR} (h : x = x') : stepOp P h0 Q n all o r k N s d nx l x = stepOp P h0 Q n all o r k N s d nx l x' := by rw [h]

/-- A guarded operation. -/
def stepGuard (P : Program) (h0 : IH) (Q : Exit → IState → Prop) (n : Nat) (all : Array Oper) (o : Oper) (r : List Oper) (k : List It) (N : Nat) (s : List (Nat × IV)) (d : List IDef) (nx : Nat) (l : List (Nat × IBlk)) (x : Option Bool) : Prop :=
  onSome x (fun b => onBool b (stepOp P h0 Q n all o r k N s d nx l (fop P (ev s) (look (l ++ h0.m)) nx o.op))
    (if dOk N o.dst then vc P h0 Q n (.ops all r :: k) ⟨N, putS o.dst (.tup []) s, d, nx, l⟩ else False)) (IRun P h0 (.ops all (o :: r) :: k) ⟨N, s, d, nx, l⟩ Q)
@[go_sem ↓] theorem vc_ops_guard {g : Nat × Bool} : vc P h0 Q (n + 1) (.ops all (⟨dst, op, ty, pos, aft, some g⟩ :: r) :: k) ⟨N, s, d, nx, l⟩ =
    stepGuard P h0 Q n all ⟨dst, op, ty, pos, aft, some g⟩ r k N s d nx l (iwant all s ⟨dst, op, ty, pos, aft, some g⟩) := (rfl)
@[go_sem ↓] theorem stepGuard_true {o : Oper} : stepGuard P h0 Q n all o r k N s d nx l (some true) = stepOp P h0 Q n all o r k N s d nx l (fop P (ev s) (look (l ++ h0.m)) nx o.op) := (rfl)
@[go_sem ↓] theorem stepGuard_false {g : Option (Nat × Bool)} {t : Tmp} : stepGuard P h0 Q n all ⟨some t, op, ty, pos, aft, g⟩ r k N s d nx l (some false) =
    if t < N then vc P h0 Q n (.ops all r :: k) ⟨N, (t, .tup []) :: s, d, nx, l⟩ else False := by
  simp [stepGuard, onSome, onBool, dOk, putS]
@[go_sem ↓] theorem stepGuard_skip {g : Option (Nat × Bool)} : stepGuard P h0 Q n all ⟨none, op, ty, pos, aft, g⟩ r k N s d nx l (some false) = vc P h0 Q n (.ops all r :: k) ⟨N, s, d, nx, l⟩ := by
  simp [stepGuard, onSome, onBool, dOk, putS]
theorem stepGuard_congr {o : Oper} {x x' : Option Bool} (h : x = x') : stepGuard P h0 Q n all o r k N s d nx l x = stepGuard P h0 Q n all o r k N s d nx l x' := by rw [h]

/-- A test. -/
def stepCond (P : Program) (h0 : IH) (Q : Exit → IState → Prop) (n : Nat) (c : Operand) (x y : Code) (k : List It) (N : Nat) (s : List (Nat × IV)) (d : List IDef) (nx : Nat) (l : List (Nat × IBlk)) (z : Option IV) : Prop :=
  onCond z (fun t => onBool t (vc P h0 Q n (.code x :: k) ⟨N, s, d, nx, l⟩) (vc P h0 Q n (.code y :: k) ⟨N, s, d, nx, l⟩)) (IRun P h0 (.code (.cond c x y) :: k) ⟨N, s, d, nx, l⟩ Q)
@[go_sem ↓] theorem vc_cond {c : Operand} {x y : Code} : vc P h0 Q (n + 1) (.code (.cond c x y) :: k) ⟨N, s, d, nx, l⟩ = stepCond P h0 Q n c x y k N s d nx l (ev s c) := (rfl)
@[go_sem ↓] theorem stepCond_true {c : Operand} {x y : Code} : stepCond P h0 Q n c x y k N s d nx l (some (.p (.sc (.bool true)))) = vc P h0 Q n (.code x :: k) ⟨N, s, d, nx, l⟩ := (rfl)
@[go_sem ↓] theorem stepCond_false {c : Operand} {x y : Code} : stepCond P h0 Q n c x y k N s d nx l (some (.p (.sc (.bool false)))) = vc P h0 Q n (.code y :: k) ⟨N, s, d, nx, l⟩ := (rfl)
theorem stepCond_congr {c : Operand} {x y : Code} {z z' : Option IV} (h : z = z') : stepCond P h0 Q n c x y k N s d nx l z = stepCond P h0 Q n c x y k N s d nx l z' := by rw [h]
end
theorem onBool_true {x y : Prop} : onBool true x y = x := rfl
theorem onBool_false {x y : Prop} : onBool false x y = y := rfl
/-- Both ways of a test that is not decided. -/
theorem onBool_both {b : Bool} {x y : Prop} (h1 : b = true → x) (h2 : b = false → y) : onBool b x y := by cases b <;> simp_all [onBool]
theorem irun_congr {S S' : IState} (h : S = S') : IRun P h0 k S Q = IRun P h0 k S' Q := by rw [h]
end

attribute [go_sem ↓] onBool_true onBool_false
attribute [congr] stepOp_congr stepGuard_congr stepCond_congr irun_congr

attribute [congr] orE_congr
attribute [go_sem ↓] orE_some orE_none
attribute [go_sem] fnanop fnan1 fcallx fext look ev cst toBlk iwant iyield ywant fop sci scb
attribute [go_sem] fload ffaddr fiaddr ldrow idx ibin shbin strbin sbin fbin sun fun1 scv fconv fpart ffield findex fextract irows flen flenOk sbd sbds fslice ropt rlist scs fiface fnil imax imin fmax
attribute [go_sem] icells fbox zcs falloc fmake fstore iapp appTy fapp fcopy iset ifill fbuild rparts pvs chunk flit fbslice ires1 iress ires enum start bel bels onSome_some

end Go.Idl
