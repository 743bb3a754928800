/-
  The walk's plain rules, under one name.
-/
import Derived.Test.YtkbbafmaddkehaaIdBr
import Derived.Test.YtkbbafmaddkehaaIdFz
namespace Go.Idl
@[go_sem] theorem ir_last {α : Type} {f : α → List PV} {l : List α} {a : α} : (ir f (l ++ [a]))[l.length]? = some ((f a).map .p) := ir_get' (by simp)
@[go_sem] theorem pr_last {α : Type} {f : α → List PV} {l : List α} {a : α} : (pr f (l ++ [a]))[l.length]? = some (f a) := pr_get' (by simp)
@[go_sem] theorem ir_setI {l : List Int} {i : Nat} {n : Int} : (ir eI l).set i [.p (.sc (.int .i64 n))] = ir eI (l.set i n) := ir_set (f := eI) (a := n)
@[go_sem] theorem ir_setB {l : List Bool} {i : Nat} {n : Bool} : (ir eB l).set i [.p (.sc (.bool n))] = ir eB (l.set i n) := ir_set (f := eB) (a := n)
def rowsBel (n : Nat) : List (List IV) → Prop
  | [] => True
  | r :: rs => bels n r ∧ rowsBel n rs
theorem rowsBel_iff (n : Nat) : ∀ rows : List (List IV), rowsBel n rows ↔ ∀ row ∈ rows, bels n row
  | [] => by simp [rowsBel]
  | r :: rs => by simp [rowsBel, rowsBel_iff n rs]
@[go_sem] theorem blkBel_arr {n sz g : Nat} {rows : List (List IV)} : blkBel n (.arr sz g rows) = rowsBel n rows := propext (rowsBel_iff n rows).symm
theorem bels_p (n : Nat) : ∀ l : List PV, bels n (l.map .p)
  | [] => trivial
  | _ :: r => ⟨trivial, bels_p n r⟩
@[go_sem] theorem rowsBel_ir {n : Nat} {α : Type} {f : α → List PV} {l : List α} : rowsBel n (ir f l) = True :=
  eq_true ((rowsBel_iff n _).2 fun row h => by simp only [ir, List.mem_map] at h; obtain ⟨a, _, rfl⟩ := h; exact bels_p n _)
@[go_sem] theorem rowsBel_nil {n : Nat} : rowsBel n [] = True := (rfl)
@[go_sem] theorem rowsBel_cons {n : Nat} {r : List IV} {rs : List (List IV)} : rowsBel n (r :: rs) = (bels n r ∧ rowsBel n rs) := (rfl)
attribute [go_sem] Nat.sub_zero List.filter_cons List.filter_nil bne_self_eq_false Int.add_zero Int.zero_add Int.sub_zero List.mem_cons forall_eq forall_eq_or_imp not_false_eq_true false_or or_false Value.int.injEq Value.bool.injEq Value.string.injEq Value.float.injEq IV.p.injEq PV.sc.injEq PV.imm.injEq IBlk.arr.injEq Int.toNat_natCast Int.natCast_nonneg Int.natCast_add Int.cast_ofNat_Int Option.map_some Option.map_none Option.bind_some Option.bind_none Option.isSome_none Option.isSome_some
  List.map_cons List.map_nil List.length_cons List.take_length List.drop_length List.length_append List.length_take List.length_drop List.length_nil List.all_cons List.all_nil List.getElem?_cons_zero List.getElem?_cons_succ List.getElem?_nil
  List.drop_zero List.drop_succ_cons List.drop_nil List.take_zero List.take_succ_cons List.take_nil List.set_cons_zero List.set_cons_succ List.head?_cons List.cons_append List.nil_append List.append_nil List.reverse_cons List.reverse_nil
  List.flatten_cons List.flatten_nil List.replicate_zero List.drop_replicate Nat.sub_self List.replicate_succ List.range_zero List.getElem?_toArray List.toList_toArray Nat.zero_add Nat.add_zero Nat.zero_mul Nat.mul_zero Nat.mul_one Nat.one_mul
  Nat.add_eq_right Nat.add_eq_left Nat.left_eq_add Nat.right_eq_add Nat.add_left_cancel_iff Nat.add_right_cancel_iff Value.oneCell' Bool.not_not Bool.and_true Bool.true_and Bool.not_true Bool.not_false Bool.false_eq_true Bool.and_false Bool.false_and
  and_self and_true true_and true_or or_true ne_eq not_true_eq_false not_false_eq_true if_true if_false decide_true decide_false beq_self_eq_true Nat.le_refl Nat.le_add_right Nat.add_le_add_iff_left Nat.add_lt_add_iff_left Nat.lt_add_one Nat.zero_le Nat.min_self Nat.add_assoc
  implies_true List.length_replicate scalB scalB.goS List.not_mem_nil false_implies true_implies
/-! ### sums, products, quotients of numbers: never computed by the way -/
def fbop (P : Program) (op : BinOp) (t : TypeId) : Option IV → Option IV → Option FR
  | some zx, some zy => orE (fbin P op t zx zy) (fnanop op zx zy)
  | _, _ => none
@[go_sem ↓] theorem fop_bin {P : Program} {ρ : Operand → Option IV} {G : Nat → Option IBlk} {nx : Nat} {op : BinOp} {t t' : TypeId} {x y : Operand} :
    fop P ρ G nx (.binOp op t x y t') = fbop P op t (ρ x) (ρ y) := by
  unfold fbop
  simp only [fop]
  cases ρ x <;> cases ρ y <;> rfl
@[go_sem low] theorem fbop_some {P : Program} {op : BinOp} {t : TypeId} {zx zy : IV} : fbop P op t (some zx) (some zy) = orE (fbin P op t zx zy) (fnanop op zx zy) := (rfl)
@[go_sem] theorem fbop_none {P : Program} {op : BinOp} {t : TypeId} {z : Option IV} : fbop P op t none z = none := (rfl)
theorem fbop_arith {P : Program} {op : BinOp} {t : TypeId} {a b v : Nat} (ho : op = .add ∨ op = .sub ∨ op = .mul ∨ op = .quo) (h : flarith op a b = some v) :
    fbop P op t (some (.p (.sc (.float .f64 a)))) (some (.p (.sc (.float .f64 b)))) = some { x := .p (.sc (.float .f64 v)) } := by
  rw [fbop_some]
  have : fbin P op t (.p (.sc (.float .f64 a))) (.p (.sc (.float .f64 b))) = some { x := .p (.sc (.float .f64 v)) } := by
    rcases ho with rfl | rfl | rfl | rfl <;> simp only [flarith] at h <;> simp [fbin, sbin, flbin, FloatKind.format, h]
  rw [this]; rfl
theorem fbop_nan {P : Program} {op : BinOp} {t : TypeId} {a b : Nat} (ho : op = .add ∨ op = .sub ∨ op = .mul ∨ op = .quo) (h : flarith op a b = none) :
    fbop P op t (some (.p (.sc (.float .f64 a)))) (some (.p (.sc (.float .f64 b)))) = some { x := .p (.nan .f64) } := by
  rw [fbop_some]
  have e1 : fbin P op t (.p (.sc (.float .f64 a))) (.p (.sc (.float .f64 b))) = none := by
    rcases ho with rfl | rfl | rfl | rfl <;> simp only [flarith] at h <;> simp [fbin, sbin, flbin, FloatKind.format, h]
  have e2 : fnanop op (.p (.sc (.float .f64 a))) (.p (.sc (.float .f64 b))) = some { x := .p (.nan .f64) } := by
    simp [fnanop, h]
  rw [e1, e2]; rfl
end Go.Idl
