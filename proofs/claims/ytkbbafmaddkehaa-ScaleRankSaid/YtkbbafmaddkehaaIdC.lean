/-
  The operations of the ideal machine, one by one.
-/
import Derived.Test.YtkbbafmaddkehaaIdB
namespace Go.Idl
variable {P : Program} {o : Oper} {ρ : Operand → Option IV} {G : Nat → Option IBlk}

abbrev FR.ok (fr : FR) (P : Program) (o : Oper) (ρ : Operand → Option IV) : Prop := FDoes P o ρ fr.R fr.F fr.x fr.W

/-! ### what a value is -/
theorem VRel.ptr_inv {M : Mem} {b g r j : Nat} {v : Value} (h : VRel M (.ptr b g r j) v) {blk : IBlk} (hb : M.H.G b = some blk) (hg : g = blk.gen) :
    ptrOk (M.β b) blk.sz r j v := by
  cases h with
  | ptr b g r j v hA hv h => exact (h blk hb).2 hg
theorem VRel.ref_inv {M : Mem} {b g off len : Nat} {v : Value} (h : VRel M (.ref b g off len) v) {blk : IBlk} (hb : M.H.G b = some blk) (hg : g = blk.gen) :
    refOk (M.β b) blk.sz blk.len off len v := by
  cases h with
  | ref b g off len v hA hv h => exact (h blk hb).2 hg
theorem VRel.rp_inv {M : Mem} {cells : List PV} {v : Value} (h : VRel M (.p (.rp cells)) v) :
    ∃ c o, v = .pointer (some ⟨c, o, none⟩) ∧ c < M.w.heap.size ∧ ¬ M.own c ∧
      ∀ (j : Nat) (x : PV), cells[j]? = some x → ∃ u, M.w.cell? ⟨c, o + j, none⟩ = some u ∧ u.oneCell' = true ∧ PRel M.w M.own x u := by
  cases h with
  | p x v h =>
    cases h with
    | rp cells c o f ha hc hr => exact ⟨c, o, rfl, ha.1, ha.2, fun j x hj => ⟨f j, (hc j x hj).1, (hc j x hj).2, hr j x hj⟩⟩
theorem VRel.imm_inv {M : Mem} {sz : Nat} {rows : List (List PV)} {v : Value} (h : VRel M (.p (.imm sz rows)) v) :
    ∃ a cap c o, v = .slice a rows.length cap ∧ rows.length ≤ cap ∧ cap ≤ maxLen ∧ (0 < rows.length → a = some ⟨c, o, none⟩ ∧ c < M.w.heap.size ∧ ¬ M.own c) ∧
      (∀ (i : Nat) (row : List PV), rows[i]? = some row → row.length = sz) ∧
      ∀ (i : Nat) (row : List PV) (j : Nat) (x : PV), rows[i]? = some row → row[j]? = some x →
        ∃ u, M.w.cell? ⟨c, o + (i * sz + j), none⟩ = some u ∧ u.oneCell' = true ∧ PRel M.w M.own x u := by
  cases h with
  | p x v h =>
    cases h with
    | imm sz rows a cap c o f hl hm ha hs hc hr =>
      exact ⟨a, cap, c, o, rfl, hl, hm, ha, hs, fun i row j x hi hj => ⟨f i j, (hc i row j x hi hj).1, (hc i row j x hi hj).2, hr i row j x hi hj⟩⟩

/-- A pure slice out of what its cells hold. -/
theorem PRel.mk_imm {w : World} {own : Nat → Prop} {rows : List (List PV)} {a : Option Addr} {cap sz c o : Nat}
    (hl : rows.length ≤ cap) (hm : cap ≤ maxLen) (ha : 0 < rows.length → a = some ⟨c, o, none⟩ ∧ c < w.heap.size ∧ ¬ own c)
    (hs : ∀ (i : Nat) (row : List PV), rows[i]? = some row → row.length = sz)
    (hr : ∀ (i : Nat) (row : List PV) (j : Nat) (x : PV), rows[i]? = some row → row[j]? = some x →
      ∃ u, w.cell? ⟨c, o + (i * sz + j), none⟩ = some u ∧ u.oneCell' = true ∧ PRel w own x u) :
    PRel w own (.imm sz rows) (.slice a rows.length cap) := by
  have hf : ∀ i j, ∃ u, ∀ row x, rows[i]? = some row → row[j]? = some x → w.cell? ⟨c, o + (i * sz + j), none⟩ = some u ∧ u.oneCell' = true ∧ PRel w own x u := by
    intro i j
    cases hi : rows[i]? with
    | none => exact ⟨undef, by simp⟩
    | some row =>
      cases hj : row[j]? with
      | none => exact ⟨undef, by rintro row x h1 h2; cases h1; rw [hj] at h2; cases h2⟩
      | some x =>
        obtain ⟨u, h⟩ := hr i row j x hi hj
        exact ⟨u, by rintro row x h1 h2; cases h1; rw [hj] at h2; cases h2; exact h⟩
  exact .imm sz rows a cap c o (fun i j => Classical.choose (hf i j)) hl hm ha hs
    (fun i row j x hi hj => ⟨(Classical.choose_spec (hf i j) row x hi hj).1, (Classical.choose_spec (hf i j) row x hi hj).2.1⟩)
    (fun i row j x hi hj => (Classical.choose_spec (hf i j) row x hi hj).2.2)
theorem PRel.mk_rp {w : World} {own : Nat → Prop} {cells : List PV} {c o : Nat} (ha : c < w.heap.size ∧ ¬ own c)
    (hr : ∀ (j : Nat) (x : PV), cells[j]? = some x → ∃ u, w.cell? ⟨c, o + j, none⟩ = some u ∧ u.oneCell' = true ∧ PRel w own x u) :
    PRel w own (.rp cells) (.pointer (some ⟨c, o, none⟩)) := by
  have hf : ∀ j, ∃ u, ∀ x, cells[j]? = some x → w.cell? ⟨c, o + j, none⟩ = some u ∧ u.oneCell' = true ∧ PRel w own x u := by
    intro j
    cases hj : cells[j]? with
    | none => exact ⟨undef, by simp⟩
    | some x =>
      obtain ⟨u, h⟩ := hr j x hj
      exact ⟨u, by rintro x h2; cases h2; exact h⟩
  exact .rp cells c o (fun j => Classical.choose (hf j)) ha
    (fun j x hj => ⟨(Classical.choose_spec (hf j) x hj).1, (Classical.choose_spec (hf j) x hj).2.1⟩) (fun j x hj => (Classical.choose_spec (hf j) x hj).2.2)

/-! ### move, assign -/
theorem f_move {y : Operand} {z : IV} (ho : o.op = .move y ∨ o.op = .assign y) (hz : ρ y = some z) : FDoes P o ρ [] [] z [] := by
  refine .read fun M a _ _ hr => ⟨a.eval y, ?_, ?_⟩
  · rcases ho with ho | ho <;> simp [execOp, ho]
  · exact hr y (by rcases ho with ho | ho <;> simp [ho, Op.operands]) z hz

/-! ### pick -/
theorem f_pick {c x y : Operand} {t : Bool} {u v : IV} (ho : o.op = .pick c x y) (hc : ρ c = some (scb t)) (hx : ρ x = some u) (hy : ρ y = some v) :
    FDoes P o ρ [] [] (if t then u else v) [] := by
  refine .read fun M a _ _ hr => ⟨if t then a.eval x else a.eval y, ?_, ?_⟩
  · have := (hr c (by simp [ho, Op.operands]) _ hc).sc_inv
    simp [execOp, ho, this, asBool]
  · cases t
    · exact hr y (by simp [ho, Op.operands]) v hy
    · exact hr x (by simp [ho, Op.operands]) u hx

/-! ### load -/
def fload (P : Program) (G : Nat → Option IBlk) (t : TypeId) : IV → Option FR
  | .ptr b g r j => match G b with
    | some (.arr sz g' rows) => if g = g' then match rows[r]? with
        | some row => (ldrow P t (row.drop j)).map fun x => { x, R := [(b, .arr sz g' rows)] }
        | none => none
      else none
    | _ => none
  | .p (.rp cells) => (ldrow P t (cells.map .p)).map fun x => { x }
  | _ => none

theorem f_load {t : TypeId} {y : Operand} {z : IV} {fr : FR} (ho : o.op = .load t y) (hz : ρ y = some z) (h : fload P G t z = some fr) : fr.ok P o ρ := by
  unfold fload at h
  split at h
  · rename_i b g r j
    split at h
    · rename_i sz g' rows hb
      split at h
      · rename_i hg
        subst hg
        split at h
        · rename_i row hrow
          cases hl : ldrow P t (row.drop j) with
          | none => simp [hl] at h
          | some x =>
            simp only [hl, Option.map_some, Option.some.injEq] at h
            subst h
            refine .read fun M a hM hR hr => ?_
            have hb' : M.H.G b = some (.arr sz g rows) := hR (b, _) (by simp)
            obtain ⟨c, o', n, hc, hv⟩ := (hr y (by simp [ho, Op.operands]) _ hz).ptr_inv hb' rfl
            obtain ⟨v, h1, h2⟩ := load_row (P := P) (M := M) hl c (o' + (r * sz + j)) (fun k y' hk => by
              rw [List.getElem?_drop] at hk
              obtain ⟨u, u1, u2, u3⟩ := (hM.blk b _ hb').row hrow hc (j + k) y' hk
              exact ⟨u, by rw [← u1]; congr 2; omega, u2, u3⟩)
            refine ⟨v, ?_, h2⟩
            simp only [IBlk.sz] at hv
            simp [execOp, ho, Instr.loadAt, hv, Instr.sureAddr, h1]
        · cases h
      · cases h
    · cases h
  · rename_i cells
    cases hl : ldrow P t (cells.map .p) with
    | none => simp [hl] at h
    | some x =>
      simp only [hl, Option.map_some, Option.some.injEq] at h
      subst h
      refine .read fun M a hM hR hr => ?_
      obtain ⟨c, o', hv, h1, h2, h3⟩ := (hr y (by simp [ho, Op.operands]) _ hz).rp_inv
      obtain ⟨v, g1, g2⟩ := load_row (P := P) (M := M) hl c o' (fun k y' hk => by
        rw [List.getElem?_map] at hk
        cases hx : cells[k]? with
        | none => simp [hx] at hk
        | some x =>
          simp [hx] at hk
          subst hk
          obtain ⟨u, u1, u2, u3⟩ := h3 k x hx
          exact ⟨u, u1, u2, .p _ _ u3⟩)
      refine ⟨v, ?_, g2⟩
      simp [execOp, ho, Instr.loadAt, hv, Instr.sureAddr, g1]
  · cases h

/-! ### fieldAddr, indexAddr -/
def ffaddr (P : Program) (s : TypeId) (f : Nat) : IV → Option FR
  | .ptr b g r j => match tfo P s f with
    | some (off, ft) => match tsz P ft with
      | some (_ + 1) => some { x := .ptr b g r (j + off) }
      | _ => none
    | none => none
  | .p (.rp cells) => match tfo P s f with
    | some (off, ft) => match tsz P ft with
      | some (_ + 1) => some { x := .p (.rp (cells.drop off)) }
      | _ => none
    | none => none
  | _ => none

theorem run_fieldAt {s ft : TypeId} {f off n : Nat} (hf : tfo P s f = some (off, ft)) (hn : tsz P ft = some (n + 1)) (c o' : Nat) (w : World) :
    (Instr.fieldAt s (.pointer (some ⟨c, o', none⟩)) f).run P w = .ok (.pointer (some ⟨c, o' + off, none⟩)) w := by
  obtain ⟨fs, x, hu, hx, rfl, rfl⟩ := und_tfo hf
  simp only [Instr.fieldAt, Sem.run_bind, run_underlying hu, Result.andThen_ok, hx, Instr.sureAddr, Sem.run_pure, fieldPlace, run_sizeOf' hn]
  simp [add_none]

theorem VRel.ptr_any {M : Mem} {b g r j : Nat} {v : Value} (h : VRel M (.ptr b g r j) v) : ∃ c o', v = .pointer (some ⟨c, o', none⟩) := by
  cases h with
  | ptr b g r j v hA hv h => exact hv
theorem VRel.ref_any {M : Mem} {b g off len : Nat} {v : Value} (h : VRel M (.ref b g off len) v) : ∃ a cap, v = .slice a len cap := by
  cases h with
  | ref b g off len v hA hv h => exact hv

theorem VRel.ptr_add {M : Mem} {b g r j c o' : Nat} (h : VRel M (.ptr b g r j) (.pointer (some ⟨c, o', none⟩))) (k : Nat) :
    VRel M (.ptr b g r (j + k)) (.pointer (some ⟨c, o' + k, none⟩)) := by
  cases h with
  | ptr b g r j v hA hv h =>
    refine .ptr b g r (j + k) _ hA ⟨_, _, rfl⟩ fun blk hb => ?_
    obtain ⟨h1, h2⟩ := h blk hb
    refine ⟨h1, fun hg => ?_⟩
    obtain ⟨c', o, n, hβ, hv⟩ := h2 hg
    simp only [Value.pointer.injEq, Option.some.injEq, Addr.mk.injEq] at hv
    obtain ⟨rfl, rfl, _⟩ := hv
    exact ⟨c, o, n, hβ, by congr 3; omega⟩

theorem f_faddr {s : TypeId} {f : Nat} {y : Operand} {z : IV} {fr : FR} (ho : o.op = .fieldAddr s y f) (hz : ρ y = some z) (h : ffaddr P s f z = some fr) : fr.ok P o ρ := by
  unfold ffaddr at h
  split at h
  · rename_i b g r j
    split at h
    · rename_i off ft hf
      split at h
      · rename_i n hn
        simp only [Option.some.injEq] at h
        subst h
        refine .read fun M a hM hR hr => ?_
        have hv := hr y (by simp [ho, Op.operands]) _ hz
        obtain ⟨c, o', e⟩ := hv.ptr_any
        rw [e] at hv
        exact ⟨_, by simp [execOp, ho, e, run_fieldAt hf hn], hv.ptr_add off⟩
      · cases h
    · cases h
  · rename_i cells
    split at h
    · rename_i off ft hf
      split at h
      · rename_i n hn
        simp only [Option.some.injEq] at h
        subst h
        refine .read fun M a hM hR hr => ?_
        obtain ⟨c, o', e, h1, h2, h3⟩ := (hr y (by simp [ho, Op.operands]) _ hz).rp_inv
        refine ⟨.pointer (some ⟨c, o' + off, none⟩), by simp [execOp, ho, e, run_fieldAt hf hn], .p _ _ (.mk_rp ⟨h1, h2⟩ fun j x hj => ?_)⟩
        rw [List.getElem?_drop] at hj
        obtain ⟨u, u1, u2, u3⟩ := h3 (off + j) x hj
        exact ⟨u, by rw [← u1]; congr 2; omega, u2, u3⟩
      · cases h
    · cases h
  · cases h

/-- An index, read as a place. -/
def idx (i : IV) (len : Nat) : Option Nat :=
  match i with
  | .p (.sc (.int _ n)) => if 0 ≤ n ∧ n.toNat < len then some n.toNat else none
  | _ => none

theorem idx_inv {M : Mem} {i : IV} {len k : Nat} {v : Value} (h : idx i len = some k) (hv : VRel M i v) : ∃ kd n, v = .int kd n ∧ 0 ≤ n ∧ n < len ∧ n.toNat = k ∧ k < len := by
  unfold idx at h
  split at h
  · rename_i kd n
    split at h
    · rename_i hc
      simp only [Option.some.injEq] at h
      exact ⟨kd, n, hv.sc_inv, hc.1, by omega, h, by omega⟩
    · cases h
  · cases h

def fiaddr (P : Program) (G : Nat → Option IBlk) (t : TypeId) (x i : IV) : Option FR :=
  match x with
  | .p (.imm sz rows) => match tel P t with
    | some e => match tsz P e, idx i rows.length with
      | some n, some k => match rows[k]? with
        | some row => if n = sz then some { x := .p (.rp row) } else none
        | none => none
      | _, _ => none
    | none => none
  | .ref b g off len => match tel P t with
    | some e => match tsz P e, idx i len, G b with
      | some n, some k, some (.arr sz g' rows) => if g = g' ∧ n = sz then some { x := .ptr b g (off + k) 0, R := [(b, .arr sz g' rows)] } else none
      | _, _, _ => none
    | none => none
  | .ptr b g r j => match tar P t with
    | some (len, e) => match tsz P e, idx i len with
      | some n, some k => some { x := .ptr b g r (j + k * n) }
      | _, _ => none
    | none => none
  | .p (.rp cells) => match tar P t with
    | some (len, e) => match tsz P e, idx i len with
      | some n, some k => some { x := .p (.rp (cells.drop (k * n))) }
      | _, _ => none
    | none => none
  | _ => none

theorem f_iaddr {t : TypeId} {x i : Operand} {zx zi : IV} {fr : FR} (ho : o.op = .indexAddr t x i) (hx : ρ x = some zx) (hi : ρ i = some zi)
    (h : fiaddr P G t zx zi = some fr) : fr.ok P o ρ := by
  unfold fiaddr at h
  split at h
  · rename_i sz rows
    split at h
    · rename_i e he
      split at h
      · rename_i n k hn hk
        split at h
        · rename_i row hrow
          split at h
          · rename_i hl
            simp only [Option.some.injEq] at h
            subst h
            refine .read fun M a hM hR hr => ?_
            obtain ⟨a0, cap, c, o', e1, h1, h2, h3, h4, h5⟩ := (hr x (by simp [ho, Op.operands]) _ hx).imm_inv
            obtain ⟨kd, m, e2, h6, h7, h8, h9⟩ := idx_inv hk (hr i (by simp [ho, Op.operands]) _ hi)
            obtain ⟨e3, h10, h11⟩ := h3 (by omega)
            subst e3
            subst hl
            refine ⟨.pointer (some ⟨c, o' + k * n, none⟩), ?_, .p _ _ (.mk_rp ⟨h10, h11⟩ fun j y hj => ?_)⟩
            · have hu := und_tel he
              simp only [execOp, ho, e1, e2]
              simp only [Instr.indexAt, asIntOf, Sem.run_bind, Sem.run_pure, Result.andThen_ok, run_underlying hu, h6, h7, and_self, if_true, run_sizeOf' hn, h8, add_none]
            · obtain ⟨u, u1, u2, u3⟩ := h5 k row j y hrow hj
              exact ⟨u, by rw [← u1]; congr 2; omega, u2, u3⟩
          · cases h
        · cases h
      · cases h
    · cases h
  · rename_i b g off len
    split at h
    · rename_i e he
      split at h
      · rename_i n k sz g' rows hn hk hb
        split at h
        · rename_i hg
          obtain ⟨rfl, rfl⟩ := hg
          simp only [Option.some.injEq] at h
          subst h
          refine .read fun M a hM hR hr => ?_
          have hb' : M.H.G b = some (.arr n g rows) := hR (b, _) (by simp)
          have hvx := hr x (by simp [ho, Op.operands]) _ hx
          obtain ⟨a0, cap, e1, h1, h2, h3, h4⟩ := hvx.ref_inv hb' rfl
          obtain ⟨kd, m, e2, h6, h7, h8, h9⟩ := idx_inv hk (hr i (by simp [ho, Op.operands]) _ hi)
          rcases h4 with h4 | ⟨c, o', n', hβ, e3, h5⟩
          · omega
          · subst e3
            simp only [IBlk.sz] at e1
            refine ⟨.pointer (some ⟨c, o' + off * n + k * n, none⟩), ?_, ?_⟩
            · have hu := und_tel he
              simp only [execOp, ho, e1, e2]
              simp only [Instr.indexAt, asIntOf, Sem.run_bind, Sem.run_pure, Result.andThen_ok, run_underlying hu, h6, h7, and_self, if_true, run_sizeOf' hn, h8, add_none]
            · have hA : M.H.A b := hM.dom b _ hb'
              refine .ptr b g (off + k) 0 _ hA ⟨_, _, rfl⟩ fun blk hblk => ?_
              rw [hb'] at hblk
              cases hblk
              refine ⟨Nat.le_refl _, fun _ => ⟨c, o', n', hβ, ?_⟩⟩
              simp only [IBlk.sz]
              congr 3
              rw [Nat.add_mul]; omega
        · cases h
      · cases h
    · cases h
  · rename_i b g r j
    split at h
    · rename_i len e he
      split at h
      · rename_i n k hn hk
        simp only [Option.some.injEq] at h
        subst h
        refine .read fun M a hM hR hr => ?_
        have hv := hr x (by simp [ho, Op.operands]) _ hx
        obtain ⟨c, o', e1⟩ := hv.ptr_any
        rw [e1] at hv
        obtain ⟨kd, m, e2, h6, h7, h8, h9⟩ := idx_inv hk (hr i (by simp [ho, Op.operands]) _ hi)
        refine ⟨_, ?_, hv.ptr_add (k * n)⟩
        have hu := und_tar he
        simp only [execOp, ho, e1, e2]
        simp only [Instr.indexAt, Instr.sureAddr, asIntOf, Sem.run_bind, Sem.run_pure, Result.andThen_ok, run_underlying hu, h6, h7, and_self, if_true, run_sizeOf' hn, h8, add_none]
      · cases h
    · cases h
  · rename_i cells
    split at h
    · rename_i len e he
      split at h
      · rename_i n k hn hk
        simp only [Option.some.injEq] at h
        subst h
        refine .read fun M a hM hR hr => ?_
        obtain ⟨c, o', e1, h1, h2, h3⟩ := (hr x (by simp [ho, Op.operands]) _ hx).rp_inv
        obtain ⟨kd, m, e2, h6, h7, h8, h9⟩ := idx_inv hk (hr i (by simp [ho, Op.operands]) _ hi)
        refine ⟨.pointer (some ⟨c, o' + k * n, none⟩), ?_, .p _ _ (.mk_rp ⟨h1, h2⟩ fun j y hj => ?_)⟩
        · have hu := und_tar he
          simp only [execOp, ho, e1, e2]
          simp only [Instr.indexAt, Instr.sureAddr, asIntOf, Sem.run_bind, Sem.run_pure, Result.andThen_ok, run_underlying hu, h6, h7, and_self, if_true, run_sizeOf' hn, h8, add_none]
        · rw [List.getElem?_drop] at hj
          obtain ⟨u, u1, u2, u3⟩ := h3 _ y hj
          exact ⟨u, by rw [← u1]; congr 2; omega, u2, u3⟩
      · cases h
    · cases h
  · cases h

end Go.Idl
