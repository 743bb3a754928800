/-
  A walk by rewriting: 'vc' goes on as far as it can, and leaves what it cannot do.
-/
import Derived.Test.YtkbbafmaddkehaaIdP
namespace Go.Idl
variable {P : Program} {h0 : IH}

def onSome {α : Type} (x : Option α) (f : α → Prop) (d : Prop) : Prop :=
  match x with
  | some a => f a
  | none => d
theorem onSome_some {α : Type} (a : α) (f : α → Prop) (d : Prop) : onSome (some a) f d = f a := rfl
theorem onSome_none {α : Type} (f : α → Prop) (d : Prop) : onSome (none : Option α) f d = d := rfl
theorem onSome_congr {α : Type} {x x' : Option α} {f : α → Prop} {d : Prop} (h : x = x') : onSome x f d = onSome x' f d := by rw [h]

/-- What a pure function's end asks: its result tells of no block of its own, and all its blocks are dropped. -/
theorem leave_pure {h : IH} {S : IState} {x : IV} (hd : S.d = []) (hnx : h.nx ≤ S.nx) (hl : ∀ p ∈ S.l, h.nx ≤ p.1) (hb : bel h.nx x) : Leave h [] S x x h.nx [] :=
  ⟨⟨rfl, rfl, .inl hd, Nat.le_refl _, hnx, by simp, by simp, fun p hp => .inl (hl p hp), by simp⟩, .refl x, .inr hb⟩
theorem fin_ret {fn : Func} {h : IH} {Q : IEnd → Nat → List (Nat × IBlk) → Prop} {S : IState} (hd : S.d = []) (hnx : h.nx ≤ S.nx) (hl : ∀ p ∈ S.l, h.nx ≤ p.1)
    (hx : onSome (ires P S (S.l ++ h.m) fn.results.toList) (fun x => bel h.nx x ∧ Q (.ret x) h.nx []) False) : FinOk P fn h Q .ret S := by
  cases hi : ires P S (S.l ++ h.m) fn.results.toList with
  | none => rw [hi] at hx; exact hx.elim
  | some x => rw [hi] at hx; exact .ret S x x [] h.nx [] hd hi (leave_pure hd hnx hl hx.1) hx.2
theorem fin_norm {fn : Func} {h : IH} {Q : IEnd → Nat → List (Nat × IBlk) → Prop} {S : IState} (hd : S.d = []) (hnx : h.nx ≤ S.nx) (hl : ∀ p ∈ S.l, h.nx ≤ p.1)
    (hx : onSome (ires P S (S.l ++ h.m) fn.results.toList) (fun x => bel h.nx x ∧ Q (.ret x) h.nx []) False) : FinOk P fn h Q .normal S := by
  cases hi : ires P S (S.l ++ h.m) fn.results.toList with
  | none => rw [hi] at hx; exact hx.elim
  | some x => rw [hi] at hx; exact .norm S x x [] h.nx [] hd hi (leave_pure hd hnx hl hx.1) hx.2

def onBool (b : Bool) (x y : Prop) : Prop := if b then x else y

/-- A test, as far as it is decided. -/
def onCond (x : Option IV) (f : Bool → Prop) (d : Prop) : Prop :=
  match x with
  | some (.p (.sc (.bool t))) => f t
  | _ => d

def putS (dst : Option Tmp) (x : IV) (s : List (Nat × IV)) : List (Nat × IV) :=
  match dst with
  | some d => (d, x) :: s
  | none => s
def dOk (n : Nat) : Option Tmp → Bool
  | some d => decide (d < n)
  | none => true

/-- Where a jump to the block's end leads. -/
def toBlk (id : Nat) : List It → Option (List It)
  | [] => none
  | .blk i :: k => if id = i then some k else toBlk id k
  | .code _ :: k => toBlk id k
  | .ops _ _ :: k => toBlk id k

theorem after_exit {id : Nat} {Q : Exit → IState → Prop} {S : IState} : ∀ {k k' : List It}, toBlk id k = some k' → IRun P h0 k' S Q → after P h0 Q k (.exit id) S
  | [], k', h, _ => by cases h
  | .blk _ :: k, k', h, hr => by
    simp only [toBlk] at h
    simp only [after]
    split
    · rename_i e; rw [if_pos e] at h; cases h; exact hr
    · rename_i e; rw [if_neg e] at h; exact after_exit h hr
  | .code c :: k, k', h, hr => after_exit (k := k) h hr
  | .ops a l :: k, k', h, hr => after_exit (k := k) h hr
theorem after_exit_none {id : Nat} {Q : Exit → IState → Prop} {S : IState} : ∀ {k : List It}, toBlk id k = none → Q (.exit id) S → after P h0 Q k (.exit id) S
  | [], _, hr => hr
  | .blk i :: k, h, hr => by
    simp only [toBlk] at h
    simp only [after]
    split
    · rename_i e; rw [if_pos e] at h; cases h
    · rename_i e; rw [if_neg e] at h; exact after_exit_none h hr
  | .code c :: k, h, hr => after_exit_none (k := k) h hr
  | .ops a l :: k, h, hr => after_exit_none (k := k) h hr

def vc (P : Program) (h0 : IH) (Q : Exit → IState → Prop) : Nat → List It → IState → Prop
  | 0, k, S => IRun P h0 k S Q
  | _ + 1, [], S => Q .normal S
  | n + 1, .blk _ :: k, S => vc P h0 Q n k S
  | n + 1, .code .skip :: k, S => vc P h0 Q n k S
  | n + 1, .code (.label _) :: k, S => vc P h0 Q n k S
  | n + 1, .code (.seq x y) :: k, S => vc P h0 Q n (.code x :: .code y :: k) S
  | n + 1, .code (.block id c) :: k, S => vc P h0 Q n (.code c :: .blk id :: k) S
  | n + 1, .code (.exit id) :: k, S => onSome (toBlk id k) (fun k' => vc P h0 Q n k' S) (Q (.exit id) S)
  | _ + 1, .code .ret :: _, S => Q .ret S
  | n + 1, .code (.cond c x y) :: k, S => onCond (ev S.s c) (fun t => onBool t (vc P h0 Q n (.code x :: k) S) (vc P h0 Q n (.code y :: k) S)) (IRun P h0 (.code (.cond c x y) :: k) S Q)
  | n + 1, .code (.region _ ops false) :: k, S => vc P h0 Q n (.ops ops ops.toList :: k) S
  | _ + 1, .code c :: k, S => IRun P h0 (.code c :: k) S Q
  | n + 1, .ops _ [] :: k, S => vc P h0 Q n k S
  | n + 1, .ops all (⟨dst, op, ty, pos, aft, none⟩ :: r) :: k, S =>
    onSome (fop P (ev S.s) (look (S.l ++ h0.m)) S.nx op)
      (fun fr => if dOk S.n dst then vc P h0 Q n (.ops all r :: k) ⟨S.n, putS dst fr.x S.s, S.d, S.nx + fr.F.length, fr.W.reverse ++ S.l⟩ else False)
      (IRun P h0 (.ops all (⟨dst, op, ty, pos, aft, none⟩ :: r) :: k) S Q)
  | n + 1, .ops all (⟨dst, op, ty, pos, aft, some g⟩ :: r) :: k, S =>
    onSome (iwant all S.s ⟨dst, op, ty, pos, aft, some g⟩)
      (fun b => onBool b
        (onSome (fop P (ev S.s) (look (S.l ++ h0.m)) S.nx op)
          (fun fr => if dOk S.n dst then vc P h0 Q n (.ops all r :: k) ⟨S.n, putS dst fr.x S.s, S.d, S.nx + fr.F.length, fr.W.reverse ++ S.l⟩ else False)
          (IRun P h0 (.ops all (⟨dst, op, ty, pos, aft, some g⟩ :: r) :: k) S Q))
        (if dOk S.n dst then vc P h0 Q n (.ops all r :: k) ⟨S.n, putS dst (.tup []) S.s, S.d, S.nx, S.l⟩ else False))
      (IRun P h0 (.ops all (⟨dst, op, ty, pos, aft, some g⟩ :: r) :: k) S Q)

theorem put_eq (S : IState) (dst : Option Tmp) (x : IV) (nx : Nat) (W : List (Nat × IBlk)) : S.put dst x nx W = ⟨S.n, putS dst x S.s, S.d, nx, W ++ S.l⟩ := by
  cases dst <;> rfl

theorem vc_op {all : Array Oper} {o : Oper} {r : List Oper} {k : List It} {S : IState} {Q : Exit → IState → Prop} {n : Nat} (hw : iwant all S.s o = some true)
    (ih : ∀ k S, vc P h0 Q n k S → IRun P h0 k S Q)
    (h : onSome (fop P (ev S.s) (look (S.l ++ h0.m)) S.nx o.op)
      (fun fr => if dOk S.n o.dst then vc P h0 Q n (.ops all r :: k) ⟨S.n, putS o.dst fr.x S.s, S.d, S.nx + fr.F.length, fr.W.reverse ++ S.l⟩ else False)
      (IRun P h0 (.ops all (o :: r) :: k) S Q)) : IRun P h0 (.ops all (o :: r) :: k) S Q := by
  cases hf : fop P (ev S.s) (look (S.l ++ h0.m)) S.nx o.op with
  | none => rw [hf] at h; exact h
  | some fr =>
    rw [hf, onSome_some] at h
    split at h
    · rename_i hd
      have hd' : dstOk S o.dst = true := by cases hq : o.dst <;> simp_all [dOk, dstOk]
      have := ih _ _ h
      exact iops_op hw hf hd' (by rw [put_eq]; exact this)
    · exact h.elim

theorem vc_sound (Q : Exit → IState → Prop) : ∀ (n : Nat) (k : List It) (S : IState), vc P h0 Q n k S → IRun P h0 k S Q := by
  intro n
  induction n with
  | zero => intro k S h; cases k <;> exact h
  | succ n ih =>
    intro k S h
    cases k with
    | nil => exact h
    | cons x k =>
      cases x with
      | blk id => exact irun_blk (ih _ _ h)
      | code c =>
        cases c with
        | skip => exact irun_skip (ih _ _ h)
        | label l => exact irun_label (ih _ _ h)
        | seq x y => exact irun_seq (ih _ _ h)
        | block id c => exact irun_block (ih _ _ h)
        | exit id =>
          simp only [vc] at h
          cases hb : toBlk id k with
          | none => rw [hb, onSome_none] at h; exact irun_exit (after_exit_none hb h)
          | some k' => rw [hb, onSome_some] at h; exact irun_exit (after_exit hb (ih _ _ h))
        | ret => exact irun_ret (after_ret h)
        | cond c x y =>
          simp only [vc, onCond] at h
          split at h
          · rename_i t hc
            refine irun_cond hc (fun e => ?_) (fun e => ?_)
            · subst e; exact ih _ _ h
            · subst e; exact ih _ _ h
          · exact h
        | region id ops d =>
          cases d with
          | false => exact irun_region (ih _ _ h)
          | true => exact h
        | loop c => exact h
        | rangeFunc f p a b => exact h
        | scope c => exact h
        | goto l => exact h
        | refuse w => exact h
      | ops all l =>
        cases l with
        | nil => exact irun_ops_nil (ih _ _ h)
        | cons o r =>
          obtain ⟨dst, op, ty, pos, aft, g⟩ := o
          cases g with
          | none => exact vc_op rfl ih h
          | some g =>
            simp only [vc] at h
            cases hw : iwant all S.s ⟨dst, op, ty, pos, aft, some g⟩ with
            | none => rw [hw, onSome_none] at h; exact h
            | some b =>
              rw [hw, onSome_some] at h
              cases b with
              | true => exact vc_op hw ih h
              | false =>
                simp only [onBool, Bool.false_eq_true, if_false] at h
                split at h
                · rename_i hd
                  have hd' : dstOk S dst = true := by cases dst <;> simp_all [dOk, dstOk]
                  exact iops_skip hw hd' (by rw [put_eq]; exact ih _ _ h)
                · exact h.elim

end Go.Idl
