/-
  Operators on numbers of which it is known that they are none (NaN).
-/
import Derived.Test.YtkbbafmaddkehaaIdEx
namespace Go.Idl
variable {P : Program} {o : Oper} {ρ : Operand → Option IV} {G : Nat → Option IBlk}

def flarith : BinOp → Nat → Nat → Option Nat
  | .add, a, b => Ieee.double.add a b
  | .sub, a, b => Ieee.double.sub a b
  | .mul, a, b => Ieee.double.mul a b
  | .quo, a, b => Ieee.double.div a b
  | _, _, _ => some 0
def fnan1 : BinOp → Option FR
  | .eql | .lss | .leq | .gtr | .geq => some { x := scb false }
  | .neq => some { x := scb true }
  | .add | .sub | .mul | .quo => some { x := .p (.nan .f64) }
  | _ => none
def fnanop (op : BinOp) : IV → IV → Option FR
  | .p (.sc (.float .f64 a)), .p (.sc (.float .f64 b)) => match flarith op a b with
    | none => some { x := .p (.nan .f64) }
    | some _ => none
  | .p (.nan .f64), .p (.sc (.float .f64 _)) => fnan1 op
  | .p (.sc (.float .f64 _)), .p (.nan .f64) => fnan1 op
  | .p (.nan .f64), .p (.nan .f64) => fnan1 op
  | _, _ => none

theorem nan_read {r : Nat} (h : 9218868437227405312 < r % 9223372036854775808) : (Ieee.double.read r).isNaN = true := by
  have e1 : Ieee.double.signWeight = 9223372036854775808 := by decide
  have e2 : Ieee.double.binade = 4503599627370496 := by decide
  have e3 : Ieee.double.infRung = 9218868437227405312 := by decide
  unfold Ieee.Format.read
  simp only [e1, e2, e3]
  rw [if_neg (by omega), if_neg (by omega), if_neg (by omega)]
  rfl
theorem nan_cut (x y t : Nat) : (Ieee.double.read ((Question.nanBits .f64 x y).cut t)).isNaN = true := by
  refine nan_read ?_
  show 9218868437227405312 < ((t % 2) * 2 ^ 63 + 0x7ff0000000000000 + 1 + (t / 2) % (2 ^ 52 - 1)) % 9223372036854775808
  have h1 : (t / 2) % (2 ^ 52 - 1) < 4503599627370495 := Nat.mod_lt _ (by decide)
  generalize (t / 2) % (2 ^ 52 - 1) = s at h1 ⊢
  have h2 : t % 2 = 0 ∨ t % 2 = 1 := by omega
  rcases h2 with h2 | h2 <;> rw [h2] <;> omega
theorem nan_order1 {a b : Nat} (h : (Ieee.double.read a).isNaN = true) : Ieee.double.order a b = none := by
  unfold Ieee.Format.order
  cases ha : Ieee.double.read a with
  | nan s t => rfl
  | number s m e => rw [ha] at h; cases h
  | infinity s => rw [ha] at h; cases h
theorem nan_order2 {a b : Nat} (h : (Ieee.double.read b).isNaN = true) : Ieee.double.order a b = none := by
  unfold Ieee.Format.order
  cases hb : Ieee.double.read b with
  | nan s t => cases Ieee.double.read a <;> rfl
  | number s m e => rw [hb] at h; cases h
  | infinity s => rw [hb] at h; cases h
theorem nan_arith1 {op : BinOp} {a b : Nat} (h : (Ieee.double.read a).isNaN = true) (ho : op = .add ∨ op = .sub ∨ op = .mul ∨ op = .quo) : flarith op a b = none := by
  cases ha : Ieee.double.read a with
  | nan s t =>
    rcases ho with rfl | rfl | rfl | rfl <;> simp only [flarith, Ieee.Format.add, Ieee.Format.sub, Ieee.Format.mul, Ieee.Format.div, ha] <;> rfl
  | number s m e => rw [ha] at h; cases h
  | infinity s => rw [ha] at h; cases h
theorem nan_arith2 {op : BinOp} {a b : Nat} (h : (Ieee.double.read b).isNaN = true) (ho : op = .add ∨ op = .sub ∨ op = .mul ∨ op = .quo) : flarith op a b = none := by
  cases hb : Ieee.double.read b with
  | nan s t =>
    rcases ho with rfl | rfl | rfl | rfl <;> simp only [flarith, Ieee.Format.add, Ieee.Format.sub, Ieee.Format.mul, Ieee.Format.div, hb] <;> cases Ieee.double.read a <;> rfl
  | number s m e => rw [hb] at h; cases h
  | infinity s => rw [hb] at h; cases h

theorem run_arith {op : BinOp} (ho : op = .add ∨ op = .sub ∨ op = .mul ∨ op = .quo) {t : TypeId} {a b : Nat} (h : flarith op a b = none) (x y : Operand) (w : World) :
    ∃ r, (do eqGuard op t x y (.float .f64 a) (.float .f64 b); binOp op t (.float .f64 a) (.float .f64 b) : Sem Value).run P w = .ok (.float .f64 r) w.drew ∧ (Ieee.double.read r).isNaN = true := by
  refine ⟨(Question.nanBits .f64 a b).cut (w.tape w.drawn (.nanBits .f64 a b)), ?_, nan_cut _ _ _⟩
  have hf : (Question.nanBits FloatKind.f64 a b).forced = false := rfl
  rw [Sem.run_bind, run_eqGuard_plain op t x y (by simp) (by simp) w, Result.andThen_ok]
  rcases ho with rfl | rfl | rfl | rfl <;> simp only [flarith] at h <;> simp [binOp, Op.floatArith, FloatKind.format, h, hf]
theorem run_cmpnan {op : BinOp} {c : Bool} (ho : (op = .eql ∨ op = .lss ∨ op = .leq ∨ op = .gtr ∨ op = .geq) ∧ c = false ∨ op = .neq ∧ c = true) {t : TypeId} {a b : Nat} (h : Ieee.double.order a b = none) (x y : Operand) (w : World) :
    (do eqGuard op t x y (.float .f64 a) (.float .f64 b); binOp op t (.float .f64 a) (.float .f64 b) : Sem Value).run P w = .ok (.bool c) w := by
  have key : ∀ v, flbin op .f64 a b = some v → (do eqGuard op t x y (.float .f64 a) (.float .f64 b); binOp op t (.float .f64 a) (.float .f64 b) : Sem Value).run P w = .ok v w := fun v hv => run_sbin (P := P) (by simp [sbin, hv]) x y w
  have h' : FloatKind.f64.format.order a b = none := h
  rcases ho with ⟨ho, rfl⟩ | ⟨rfl, rfl⟩
  · rcases ho with rfl | rfl | rfl | rfl | rfl <;> exact key _ (by simp [flbin, h'])
  · exact key _ (by simp [flbin, h'])

/-- Numbers with a NaN among them. -/
theorem f_nan1 {op : BinOp} {t t' : TypeId} {x y : Operand} {zx zy : IV} {fr : FR} (ho : o.op = .binOp op t x y t') (hx : ρ x = some zx) (hy : ρ y = some zy) (h : fnan1 op = some fr)
    (hz : ∀ (M : Mem) (u v : Value), VRel M zx u → VRel M zy v → ∃ a b, u = .float .f64 a ∧ v = .float .f64 b ∧ ((Ieee.double.read a).isNaN = true ∨ (Ieee.double.read b).isNaN = true)) : fr.ok P o ρ ∧ fr.R = [] ∧ fr.F = [] ∧ fr.W = [] := by
  have arith : (op = .add ∨ op = .sub ∨ op = .mul ∨ op = .quo) → fr = { x := .p (.nan .f64) } → fr.ok P o ρ ∧ fr.R = [] ∧ fr.F = [] ∧ fr.W = [] := by
    rintro hop rfl
    refine ⟨FDoes.does fun M a hM _ _ hr => ?_, rfl, rfl, rfl⟩
    obtain ⟨ua, ub, e1, e2, hn⟩ := hz M _ _ (hr x (by simp [ho, Op.operands]) zx hx) (hr y (by simp [ho, Op.operands]) zy hy)
    obtain ⟨r, hrun, hr'⟩ := run_arith (P := P) hop (t := t) (a := ua) (b := ub) (hn.elim (nan_arith1 · hop) (nan_arith2 · hop)) x y M.w
    refine ⟨.float .f64 r, { M with w := M.w.drew }, ?_, .drew M, hM.drew, rfl, .p _ _ (.nan _ _ hr')⟩
    simp only [execOp, ho, e1, e2]
    rw [Sem.run_bind, hrun]
    rfl
  have cmp : ∀ c : Bool, ((op = .eql ∨ op = .lss ∨ op = .leq ∨ op = .gtr ∨ op = .geq) ∧ c = false ∨ op = .neq ∧ c = true) → fr = { x := scb c } → fr.ok P o ρ ∧ fr.R = [] ∧ fr.F = [] ∧ fr.W = [] := by
    rintro c hop rfl
    refine ⟨FDoes.read fun M a _ _ hr => ?_, rfl, rfl, rfl⟩
    obtain ⟨ua, ub, e1, e2, hn⟩ := hz M _ _ (hr x (by simp [ho, Op.operands]) zx hx) (hr y (by simp [ho, Op.operands]) zy hy)
    refine ⟨.bool c, ?_, .sc M _⟩
    have hrun := run_cmpnan (P := P) hop (t := t) (a := ua) (b := ub) (hn.elim nan_order1 nan_order2) x y M.w
    simp only [execOp, ho, e1, e2]
    rw [Sem.run_bind, hrun]
    rfl
  cases op <;> simp only [fnan1, Option.some.injEq, reduceCtorEq] at h
  all_goals first
    | exact arith (by simp) h.symm
    | exact cmp false (.inl ⟨by simp, rfl⟩) h.symm
    | exact cmp true (.inr ⟨rfl, rfl⟩) h.symm
theorem f_nanop {op : BinOp} {t t' : TypeId} {x y : Operand} {zx zy : IV} {fr : FR} (ho : o.op = .binOp op t x y t') (hx : ρ x = some zx) (hy : ρ y = some zy) (h : fnanop op zx zy = some fr) :
    fr.ok P o ρ ∧ fr.R = [] ∧ fr.F = [] ∧ fr.W = [] := by
  have sc : ∀ {M : Mem} {b : Nat} {u : Value}, VRel M (.p (.sc (.float .f64 b))) u → u = .float .f64 b := fun h => h.sc_inv
  have nn : ∀ {M : Mem} {u : Value}, VRel M (.p (.nan .f64)) u → ∃ b, u = .float .f64 b ∧ (Ieee.double.read b).isNaN = true := by
    intro M u h
    cases h with
    | p _ _ h => cases h with
      | nan k b hb => exact ⟨b, rfl, hb⟩
  unfold fnanop at h
  split at h
  · rename_i a b
    split at h
    · rename_i hn
      cases h
      refine ⟨FDoes.does fun M ac hM _ _ hr => ?_, rfl, rfl, rfl⟩
      have e1 := sc (hr x (by simp [ho, Op.operands]) _ hx)
      have e2 := sc (hr y (by simp [ho, Op.operands]) _ hy)
      have hop : op = .add ∨ op = .sub ∨ op = .mul ∨ op = .quo := by
        cases op <;> simp [flarith] at hn ⊢
      obtain ⟨r, hrun, hr'⟩ := run_arith (P := P) hop (t := t) hn x y M.w
      refine ⟨.float .f64 r, { M with w := M.w.drew }, ?_, .drew M, hM.drew, rfl, .p _ _ (.nan _ _ hr')⟩
      simp only [execOp, ho, e1, e2]
      rw [Sem.run_bind, hrun]
      rfl
    · cases h
  · exact f_nan1 ho hx hy h fun M u v h1 h2 => by
      obtain ⟨a, rfl, ha⟩ := nn h1
      exact ⟨a, _, rfl, sc h2, .inl ha⟩
  · exact f_nan1 ho hx hy h fun M u v h1 h2 => by
      obtain ⟨a, rfl, ha⟩ := nn h2
      exact ⟨_, a, sc h1, rfl, .inr ha⟩
  · exact f_nan1 ho hx hy h fun M u v h1 h2 => by
      obtain ⟨a, rfl, ha⟩ := nn h1
      obtain ⟨b, rfl, hb⟩ := nn h2
      exact ⟨a, b, rfl, rfl, .inl ha⟩
  · cases h
/-- The first, or else the second. -/
def orE (x y : Option FR) : Option FR :=
  match x with
  | some a => some a
  | none => y
theorem orE_some {a : FR} {y : Option FR} : orE (some a) y = some a := (rfl)
theorem orE_none {y : Option FR} : orE none y = y := (rfl)
theorem orE_congr {x x' y : Option FR} (h : x = x') : orE x y = orE x' y := by rw [h]
end Go.Idl
