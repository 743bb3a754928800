/-
  What the operations do that only read: each gives one value of the ideal machine.
-/
import Derived.Test.YtkbbafmaddkehaaIdA
namespace Go.Idl

/-! ## types -/
def tsz (P : Program) (t : TypeId) : Option Nat := (P.info? t).map (·.size)
def tby (P : Program) (t : TypeId) : Option Nat := (P.info? t).map (·.bytes)
def tze (P : Program) (t : TypeId) : Option (List Value) := (P.info? t).bind fun i => i.zero.map fun z => z.cells.toList
def tag (P : Program) (t : TypeId) : Option Bool := (P.underlying t).map fun d => match d with | .struct _ | .array _ _ => true | _ => false
def tel (P : Program) (t : TypeId) : Option TypeId := match P.underlying t with | some (.slice e) => some e | _ => none
def tar (P : Program) (t : TypeId) : Option (Nat × TypeId) := match P.underlying t with | some (.array n e) => some (n, e) | _ => none
def tfo (P : Program) (t : TypeId) (f : Nat) : Option (Nat × TypeId) := match P.underlying t with | some (.struct fs) => (fs[f]?).map fun x => (x.offset, x.type) | _ => none
/-- What a type is, as far as operators and conversions ask. -/
inductive TK where
  | bool | int (k : IntKind) | float (k : FloatKind) | string | slice (e : TypeId) | map (k e : TypeId) | iface | other
  deriving DecidableEq
def tkd (P : Program) (t : TypeId) : Option TK := (P.underlying t).map fun d => match d with
  | .bool => .bool | .int k => .int k | .float k => .float k | .string => .string | .slice e => .slice e | .map k e => .map k e | .interface _ => .iface | _ => .other

section
variable {P : Program}
theorem run_sizeOf' {t : TypeId} {n : Nat} (h : tsz P t = some n) (w : World) : (sizeOf t).run P w = .ok n w := by
  unfold tsz at h
  cases hi : P.info? t with
  | none => simp [hi] at h
  | some i => simp [hi] at h; subst h; simp [sizeOf, typeInfo, hi]
theorem run_isAgg' {t : TypeId} {b : Bool} (h : tag P t = some b) (w : World) : (isAgg t).run P w = .ok b w := by
  unfold tag at h
  cases hu : P.underlying t with
  | none => simp [hu] at h
  | some d =>
    simp only [hu, Option.map_some, Option.some.injEq] at h
    unfold isAgg
    rw [Sem.run_bind, run_underlying hu w]
    cases d <;> simp_all
theorem und_tel {t e : TypeId} (h : tel P t = some e) : P.underlying t = some (.slice e) := by
  unfold tel at h
  split at h
  · rename_i e' hu; simp at h; subst h; exact hu
  · cases h
theorem und_tar {t e : TypeId} {n : Nat} (h : tar P t = some (n, e)) : P.underlying t = some (.array n e) := by
  unfold tar at h
  split at h
  · rename_i n' e' hu; simp at h; obtain ⟨rfl, rfl⟩ := h; exact hu
  · cases h
theorem und_tfo {t ft : TypeId} {f off : Nat} (h : tfo P t f = some (off, ft)) : ∃ fs x, P.underlying t = some (.struct fs) ∧ fs[f]? = some x ∧ x.offset = off ∧ x.type = ft := by
  unfold tfo at h
  split at h
  · rename_i fs hu
    cases hx : fs[f]? with
    | none => simp [hx] at h
    | some x => simp [hx] at h; exact ⟨fs, x, hu, hx, h.1, h.2⟩
  · cases h
end

/-! ## what an operation does, as far as it reaches -/
def AH.upd (H : AH) (W : List (Nat × IBlk)) : AH := W.foldl (fun H p => H.put p.1 p.2) H

/-- The operation gives x; it reads the blocks R, makes the blocks of the numbers F, and leaves W. -/
def FDoes (P : Program) (o : Oper) (ρ : Operand → Option IV) (R : List (Nat × IBlk)) (F : List Nat) (x : IV) (W : List (Nat × IBlk)) : Prop :=
  ∀ (M : Mem) (a : Act), MRel M → (∀ p ∈ R, M.H.G p.1 = some p.2) → (∀ b ∈ F, ¬ M.H.A b) →
    (∀ y ∈ o.op.operands, ∀ z, ρ y = some z → VRel M z (a.eval y)) →
    ∀ (K : Act → World → Prop) (Q : Exit → Act → World → Prop),
      (∀ v M', MStep M M' → MRel M' → M'.H = M.H.upd W → VRel M' x v → K (a.put o.dst v) M'.w) → o.wp P a M.w K Q

/-- It only reads: its run gives the value in the same world. -/
theorem FDoes.read {P : Program} {o : Oper} {ρ : Operand → Option IV} {R : List (Nat × IBlk)} {x : IV}
    (h : ∀ (M : Mem) (a : Act), MRel M → (∀ p ∈ R, M.H.G p.1 = some p.2) → (∀ y ∈ o.op.operands, ∀ z, ρ y = some z → VRel M z (a.eval y)) →
      ∃ v, (execOp a.eval o).run P M.w = .ok (.value v) M.w ∧ VRel M x v) : FDoes P o ρ R [] x [] := by
  intro M a hM hR _ hr K Q hK
  obtain ⟨v, hv, hx⟩ := h M a hM hR hr
  unfold Oper.wp
  rw [hv]
  exact hK v M (.refl M) hM rfl hx

/-- It gives a value and leaves another memory. -/
theorem FDoes.does {P : Program} {o : Oper} {ρ : Operand → Option IV} {R W : List (Nat × IBlk)} {F : List Nat} {x : IV}
    (h : ∀ (M : Mem) (a : Act), MRel M → (∀ p ∈ R, M.H.G p.1 = some p.2) → (∀ b ∈ F, ¬ M.H.A b) → (∀ y ∈ o.op.operands, ∀ z, ρ y = some z → VRel M z (a.eval y)) →
      ∃ v M', (execOp a.eval o).run P M.w = .ok (.value v) M'.w ∧ MStep M M' ∧ MRel M' ∧ M'.H = M.H.upd W ∧ VRel M' x v) : FDoes P o ρ R F x W := by
  intro M a hM hR hF hr K Q hK
  obtain ⟨v, M', hv, h1, h2, h3, h4⟩ := h M a hM hR hF hr
  unfold Oper.wp
  rw [hv]
  exact hK v M' h1 h2 h3 h4

/-- It gives no value. -/
theorem FDoes.skips {P : Program} {o : Oper} {ρ : Operand → Option IV} {R W : List (Nat × IBlk)} {F : List Nat}
    (h : ∀ (M : Mem) (a : Act), MRel M → (∀ p ∈ R, M.H.G p.1 = some p.2) → (∀ b ∈ F, ¬ M.H.A b) → (∀ y ∈ o.op.operands, ∀ z, ρ y = some z → VRel M z (a.eval y)) →
      ∃ M', (execOp a.eval o).run P M.w = .ok .skip M'.w ∧ MStep M M' ∧ MRel M' ∧ M'.H = M.H.upd W) : FDoes P o ρ R F .dead W := by
  intro M a hM hR hF hr K Q hK
  obtain ⟨M', hv, h1, h2, h3⟩ := h M a hM hR hF hr
  unfold Oper.wp
  rw [hv]
  exact hK undef M' h1 h2 h3 (.dead _)

structure FR where
  x : IV
  R : List (Nat × IBlk) := []
  F : List Nat := []
  W : List (Nat × IBlk) := []

def ldrow (P : Program) (t : TypeId) (row : List IV) : Option IV :=
  match tag P t with
  | some true => match tsz P t with
    | some n => if n ≤ row.length then some (.agg (row.take n)) else none
    | none => none
  | some false => row.head?
  | none => none

def sci (k : IntKind) (n : Int) : IV := .p (.sc (.int k n))
def scb (b : Bool) : IV := .p (.sc (.bool b))

theorem VRel.sc_inv {M : Mem} {v u : Value} (h : VRel M (.p (.sc v)) u) : u = v := by
  cases h with
  | p x v h => cases h; rfl

theorem VRel.sc (M : Mem) (v : Value) : VRel M (.p (.sc v)) v := .p _ _ (.sc v)

theorem VRel.agg_inv {M : Mem} {cs : List IV} {u : Value} (h : VRel M (.agg cs) u) :
    ∃ vs : List Value, u = .agg ⟨vs⟩ ∧ vs.length = cs.length ∧ (∀ v ∈ vs, v.oneCell' = true) ∧ ∀ (i : Nat) (x : IV) (v : Value), cs[i]? = some x → vs[i]? = some v → VRel M x v := by
  cases h with
  | agg cs vs hl h1 r => exact ⟨vs, rfl, hl, h1, r⟩

theorem VRel.tup_inv {M : Mem} {cs : List IV} {u : Value} (h : VRel M (.tup cs) u) :
    ∃ vs : List Value, u = .tuple ⟨vs⟩ ∧ vs.length = cs.length ∧ ∀ (i : Nat) (x : IV) (v : Value), cs[i]? = some x → vs[i]? = some v → VRel M x v := by
  cases h with
  | tup cs vs hl r => exact ⟨vs, rfl, hl, r⟩

/-! ### load -/
section
variable {P : Program} {w : World}

theorem add_none (c o i : Nat) : (⟨c, o, none⟩ : Addr).add i = ⟨c, o + i, none⟩ := by
  unfold Addr.add
  split
  · rename_i h; subst h; rfl
  · rfl

/-- A row of cells that hold what is known, read as a value of a type. -/
theorem load_row {M : Mem} {t : TypeId} {row : List IV} {x : IV} (h : ldrow P t row = some x) (c o : Nat)
    (hc : ∀ (j : Nat) (y : IV), row[j]? = some y → ∃ v, M.w.cell? ⟨c, o + j, none⟩ = some v ∧ v.oneCell' = true ∧ VRel M y v) :
    ∃ v, (loadVar t ⟨c, o, none⟩).run P M.w = .ok v M.w ∧ VRel M x v := by
  unfold ldrow at h
  split at h
  · rename_i ha
    split at h
    · rename_i n hn
      split at h
      · rename_i hle
        simp only [Option.some.injEq] at h
        subst h
        have hex : ∀ j, j < n → ∃ v, M.w.cell? ⟨c, o + j, none⟩ = some v ∧ v.oneCell' = true ∧ ∀ y, row[j]? = some y → VRel M y v := by
          intro j hj
          have hjl : j < row.length := by omega
          obtain ⟨v, h1, h2, h3⟩ := hc j row[j] (List.getElem?_eq_getElem hjl)
          refine ⟨v, h1, h2, fun y hy => ?_⟩
          rw [List.getElem?_eq_getElem hjl] at hy
          simp at hy; subst hy; exact h3
        have hf : ∃ f : Nat → Value, ∀ j, j < n → M.w.cell? ⟨c, o + j, none⟩ = some (f j) ∧ (f j).oneCell' = true ∧ ∀ y, row[j]? = some y → VRel M y (f j) := by
          refine ⟨fun j => if hj : j < n then Classical.choose (hex j hj) else undef, fun j hj => ?_⟩
          have := Classical.choose_spec (hex j hj)
          simp only [hj, dif_pos]
          exact this
        obtain ⟨f, hf⟩ := hf
        have hl := run_loadCells (P := P) M.w ⟨c, o, none⟩ n f (fun j hj => by rw [add_none]; exact (hf j hj).1)
        refine ⟨.agg ((List.range n).map f).toArray, ?_, ?_⟩
        · unfold loadVar
          rw [Sem.run_bind, run_isAgg' ha]
          simp only [Result.andThen_ok, if_true, Sem.run_bind, run_sizeOf' hn, hl, Sem.run_pure]
        · refine .agg _ _ (by simp; omega) ?_ ?_
          · intro v hv
            simp only [List.mem_map, List.mem_range] at hv
            obtain ⟨j, hj, rfl⟩ := hv
            exact (hf j hj).2.1
          · intro i y v hy hv
            rw [List.getElem?_take] at hy
            split at hy
            · rename_i hin
              simp only [List.getElem?_map, List.getElem?_range hin, Option.map_some, Option.some.injEq] at hv
              subst hv
              exact (hf i hin).2.2 y hy
            · cases hy
      · cases h
    · cases h
  · rename_i ha
    obtain ⟨v, h1, h2, h3⟩ := hc 0 x (by rw [← List.head?_eq_getElem?]; exact h)
    refine ⟨v, ?_, h3⟩
    unfold loadVar
    rw [Sem.run_bind, run_isAgg' ha]
    simp only [Nat.add_zero] at h1
    simp [h1]
  · cases h

theorem BRel.row {M : Mem} {b sz g : Nat} {rows : List (List IV)} (h : BRel M b (.arr sz g rows)) {r : Nat} {row : List IV} (hr : rows[r]? = some row)
    {c o n : Nat} (hc : M.β b = some (c, o, n)) (j : Nat) (y : IV) (hy : row[j]? = some y) :
    ∃ v, M.w.cell? ⟨c, o + (r * sz + j), none⟩ = some v ∧ v.oneCell' = true ∧ VRel M y v := by
  obtain ⟨cs, ty, q1, _, _, _, q5⟩ := h.2.2 c o n hc
  obtain ⟨v, v1, v2, v3⟩ := q5 r row j y hr hy
  exact ⟨v, by rw [cell_of_row M.w c _ cs ty (0, 0) q1]; exact v1, v2, v3⟩
end

end Go.Idl
