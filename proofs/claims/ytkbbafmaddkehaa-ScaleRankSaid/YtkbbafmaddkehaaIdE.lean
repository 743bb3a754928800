/-
  Slices, lengths, builds.
-/
import Derived.Test.YtkbbafmaddkehaaIdD
namespace Go.Idl
variable {P : Program} {o : Oper} {ρ : Operand → Option IV} {G : Nat → Option IBlk}

/-! ### a rectangle of cells as one list -/
theorem flat_ex {p : Nat → Nat → Value → Prop} (n sz : Nat) (h : ∀ i, i < n → ∀ j, j < sz → ∃ u, p i j u) :
    ∃ f : Nat → Value, ∀ i, i < n → ∀ j, j < sz → p i j (f (i * sz + j)) := by
  have hh : ∀ k, ∃ u, k < n * sz → p (k / sz) (k % sz) u := by
    intro k
    by_cases hk : k < n * sz
    · have hs : 0 < sz := by
        rcases Nat.eq_zero_or_pos sz with h0 | h0
        · subst h0; simp at hk
        · exact h0
      obtain ⟨u, hu⟩ := h (k / sz) (Nat.div_lt_of_lt_mul (by rw [Nat.mul_comm]; exact hk)) (k % sz) (Nat.mod_lt _ hs)
      exact ⟨u, fun _ => hu⟩
    · exact ⟨undef, fun h => absurd h hk⟩
  refine ⟨fun k => Classical.choose (hh k), fun i hi j hj => ?_⟩
  have hs : 0 < sz := by omega
  have hlt : i * sz + j < n * sz := by
    calc i * sz + j < i * sz + sz := by omega
      _ = (i + 1) * sz := by rw [Nat.add_mul, Nat.one_mul]
      _ ≤ n * sz := Nat.mul_le_mul_right _ hi
  have e1 : (i * sz + j) / sz = i := by
    rw [Nat.mul_comm, Nat.mul_add_div hs, Nat.div_eq_of_lt hj, Nat.add_zero]
  have e2 : (i * sz + j) % sz = j := by
    rw [Nat.mul_comm, Nat.mul_add_mod, Nat.mod_eq_of_lt hj]
  have := Classical.choose_spec (hh (i * sz + j)) hlt
  show p i j (Classical.choose (hh (i * sz + j)))
  generalize Classical.choose (hh (i * sz + j)) = u at this ⊢
  rw [e1, e2] at this
  exact this

theorem flat_lt {i j n sz : Nat} (hi : i < n) (hj : j < sz) : i * sz + j < n * sz := by
  calc i * sz + j < i * sz + sz := by omega
    _ = (i + 1) * sz := by rw [Nat.add_mul, Nat.one_mul]
    _ ≤ n * sz := Nat.mul_le_mul_right _ hi
theorem flat_split {k n sz : Nat} (hk : k < n * sz) : ∃ i j, i < n ∧ j < sz ∧ k = i * sz + j := by
  have hs : 0 < sz := by
    rcases Nat.eq_zero_or_pos sz with h0 | h0
    · subst h0; simp at hk
    · exact h0
  refine ⟨k / sz, k % sz, Nat.div_lt_of_lt_mul (by rw [Nat.mul_comm]; exact hk), Nat.mod_lt _ hs, ?_⟩
  rw [Nat.mul_comm]; exact (Nat.div_add_mod k sz).symm

/-! ### what lies in a slice -/
/-- The rows of a slice whose elements have sz cells, and the blocks that were looked at. -/
def irows (G : Nat → Option IBlk) (sz : Nat) : IV → Option (List (List IV) × List (Nat × IBlk))
  | .p (.imm s rows) => if s = sz then some (rows.map (·.map .p), []) else none
  | .p .emp => some ([], [])
  | .p (.sc (.slice none 0 0)) => some ([], [])
  | .ref b g off len => match G b with
    | some (.arr s g' rows) => if g = g' ∧ s = sz then some ((rows.drop off).take len, [(b, .arr s g' rows)]) else none
    | _ => none
  | _ => none

structure RowsAre (P : Program) (M : Mem) (sz : Nat) (rs : List (List IV)) (v : Value) (a : Option Addr) (cap : Nat) (f : Nat → Value) : Prop where
  val : v = .slice a rs.length cap
  cap_le : rs.length ≤ cap
  max : cap ≤ maxLen
  wid : ∀ row ∈ rs, row.length = sz
  pre : ∀ n, n ≤ rs.length → (Builtin.firstCells sz n v).run P M.w = .ok ((List.range (n * sz)).map f).toArray M.w
  rel : ∀ (i : Nat) (row : List IV) (j : Nat) (x : IV), rs[i]? = some row → row[j]? = some x → (f (i * sz + j)).oneCell' = true ∧ VRel M x (f (i * sz + j))

theorem mul_pos_of {n sz : Nat} (h : 0 < n * sz) : 0 < n ∧ 0 < sz := by
  rcases Nat.eq_zero_or_pos n with h0 | h0
  · subst h0; simp at h
  · rcases Nat.eq_zero_or_pos sz with h1 | h1
    · subst h1; simp at h
    · exact ⟨h0, h1⟩

theorem rows_cells {M : Mem} {sz : Nat} {rs : List (List IV)} {c o : Nat} (wid : ∀ row ∈ rs, row.length = sz)
    (hc : ∀ (i : Nat) (row : List IV) (j : Nat) (x : IV), rs[i]? = some row → row[j]? = some x →
      ∃ u, M.w.cell? ⟨c, o + (i * sz + j), none⟩ = some u ∧ u.oneCell' = true ∧ VRel M x u) :
    ∃ f : Nat → Value, (∀ k, k < rs.length * sz → M.w.cell? ⟨c, o + k, none⟩ = some (f k)) ∧
      ∀ (i : Nat) (row : List IV) (j : Nat) (x : IV), rs[i]? = some row → row[j]? = some x → (f (i * sz + j)).oneCell' = true ∧ VRel M x (f (i * sz + j)) := by
  obtain ⟨f, hf⟩ := flat_ex (p := fun i j u => M.w.cell? ⟨c, o + (i * sz + j), none⟩ = some u ∧ u.oneCell' = true ∧ ∀ row x, rs[i]? = some row → row[j]? = some x → VRel M x u) rs.length sz (by
    intro i hi j hj
    have hrow := List.getElem?_eq_getElem hi
    have hw := wid _ (List.getElem_mem hi)
    have hjl : j < (rs[i]).length := by omega
    obtain ⟨u, u1, u2, u3⟩ := hc i _ j _ hrow (List.getElem?_eq_getElem hjl)
    refine ⟨u, u1, u2, fun row x h1 h2 => ?_⟩
    rw [hrow] at h1; cases h1
    rw [List.getElem?_eq_getElem hjl] at h2; cases h2
    exact u3)
  refine ⟨f, fun k hk => ?_, fun i row j x hi hj => ?_⟩
  · obtain ⟨i, j, hi, hj, rfl⟩ := flat_split hk
    exact (hf i hi j hj).1
  · have hil : i < rs.length := by
      rcases Nat.lt_or_ge i rs.length with h | h
      · exact h
      · rw [List.getElem?_eq_none h] at hi; cases hi
    have hw := wid row (List.mem_of_getElem? hi)
    have hjl : j < sz := by
      rw [← hw]
      rcases Nat.lt_or_ge j row.length with h | h
      · exact h
      · rw [List.getElem?_eq_none h] at hj; cases hj
    exact ⟨(hf i hil j hjl).2.1, (hf i hil j hjl).2.2 row x hi hj⟩

theorem irows_sound {sz : Nat} {z : IV} {rs : List (List IV)} {R : List (Nat × IBlk)} (h : irows G sz z = some (rs, R)) {M : Mem} (hM : MRel M)
    (hR : ∀ p ∈ R, M.H.G p.1 = some p.2) {v : Value} (hv : VRel M z v) : ∃ a cap f, RowsAre P M sz rs v a cap f := by
  unfold irows at h
  split at h
  · rename_i s rows
    split at h
    · rename_i hs
      subst hs
      simp only [Option.some.injEq, Prod.mk.injEq] at h
      obtain ⟨rfl, rfl⟩ := h
      obtain ⟨a, cap, c, o', e, h1, h2, h3, h4, h5⟩ := hv.imm_inv
      have wid : ∀ row ∈ rows.map (·.map IV.p), row.length = s := by
        intro row hrow
        obtain ⟨r, hr, rfl⟩ := List.mem_map.1 hrow
        obtain ⟨i, hi, e⟩ := List.getElem_of_mem hr
        simpa using h4 i r (by rw [List.getElem?_eq_getElem hi, e])
      obtain ⟨f, f1, f2⟩ := rows_cells (M := M) (c := c) (o := o') wid (by
        intro i row j x hi hj
        rw [List.getElem?_map] at hi
        cases hr : rows[i]? with
        | none => simp [hr] at hi
        | some r =>
          simp [hr] at hi; subst hi
          rw [List.getElem?_map] at hj
          cases hx : r[j]? with
          | none => simp [hx] at hj
          | some y =>
            simp [hx] at hj; subst hj
            obtain ⟨u, u1, u2, u3⟩ := h5 i r j y hr hx
            exact ⟨u, u1, u2, .p _ _ u3⟩)
      refine ⟨a, cap, f, by simpa using e, by simpa using h1, h2, wid, ?_, f2⟩
      intro n hn
      simp only [List.length_map] at f1 hn
      subst e
      rcases Nat.eq_zero_or_pos rows.length with h0 | h0
      · have : n = 0 := by omega
        subst this
        cases a with
        | none => simp [Builtin.firstCells]
        | some a => simp [Builtin.firstCells, loadCells, loadCellsFrom]
      · obtain ⟨e3, _, _⟩ := h3 h0
        subst e3
        have hmul : n * s ≤ rows.length * s := Nat.mul_le_mul_right _ hn
        exact run_loadCells (P := P) M.w ⟨c, o', none⟩ (n * s) f (fun k hk => by rw [add_none]; exact f1 k (by omega))
    · cases h
  · simp only [Option.some.injEq, Prod.mk.injEq] at h
    obtain ⟨rfl, rfl⟩ := h
    cases hv with
    | p x v h =>
      cases h with
      | emp a => exact ⟨a, 0, fun _ => undef, rfl, Nat.le_refl _, Nat.zero_le _, by simp, fun n hn => (by have h0 : n = 0 := (by simpa using hn); subst h0; cases a <;> simp [Builtin.firstCells, loadCells, loadCellsFrom]), by simp⟩
  · simp only [Option.some.injEq, Prod.mk.injEq] at h
    obtain ⟨rfl, rfl⟩ := h
    have e := hv.sc_inv
    subst e
    exact ⟨none, 0, fun _ => undef, rfl, Nat.le_refl _, Nat.zero_le _, by simp, fun n hn => (by have h0 : n = 0 := (by simpa using hn); subst h0; simp [Builtin.firstCells]), by simp⟩
  · rename_i b g off len
    split at h
    · rename_i s g' rows hb
      split at h
      · rename_i hg
        obtain ⟨rfl, rfl⟩ := hg
        simp only [Option.some.injEq, Prod.mk.injEq] at h
        obtain ⟨rfl, rfl⟩ := h
        have hb' : M.H.G b = some (.arr s g rows) := hR (b, _) (by simp)
        obtain ⟨a, cap, e, h1, h2, h3, h4⟩ := hv.ref_inv hb' rfl
        simp only [IBlk.len] at h2 h3
        simp only [IBlk.sz] at h4
        have hlen : ((rows.drop off).take len).length = len := by rw [List.length_take, List.length_drop]; omega
        have hbr := hM.blk b _ hb'
        have wid : ∀ row ∈ (rows.drop off).take len, row.length = s := fun row hrow => hbr.1 row (List.mem_of_mem_drop (List.mem_of_mem_take hrow))
        rcases h4 with h4 | ⟨c, o', n, hβ, e3, h5⟩
        · have : len = 0 := by omega
          subst this
          exact ⟨a, cap, fun _ => undef, by simpa using e, by simp, by rw [h4]; exact Nat.zero_le _, by simp, fun n hn => (by have h0 : n = 0 := (by simpa using hn); subst h0; subst e; cases a <;> simp [Builtin.firstCells, loadCells, loadCellsFrom]), by simp⟩
        · subst e3
          obtain ⟨f, f1, f2⟩ := rows_cells (M := M) (c := c) (o := o' + off * s) wid (by
            intro i row j x hi hj
            rw [List.getElem?_take] at hi
            split at hi
            · rw [List.getElem?_drop] at hi
              obtain ⟨u, u1, u2, u3⟩ := hbr.row hi hβ j x hj
              exact ⟨u, by rw [← u1]; congr 2; rw [Nat.add_mul]; omega, u2, u3⟩
            · cases hi)
          obtain ⟨_, _, _, _, hmx, _⟩ := hbr.2.2 c o' n hβ
          refine ⟨_, cap, f, by rw [hlen]; exact e, by rw [hlen]; exact h1, by unfold maxLen at *; omega, wid, ?_, f2⟩
          intro n hn
          subst e
          have hmul : n * s ≤ ((rows.drop off).take len).length * s := Nat.mul_le_mul_right _ hn
          exact run_loadCells (P := P) M.w ⟨c, o' + off * s, none⟩ _ f (fun k hk => by rw [add_none]; exact f1 k (by omega))
      · cases h
    · cases h
  · cases h

/-! ### len -/
def flen (G : Nat → Option IBlk) : IV → Option FR
  | .p (.imm _ rows) => some { x := sci .i64 rows.length }
  | .p .emp => some { x := sci .i64 0 }
  | .p (.sc (.slice none n _)) => some { x := sci .i64 n }
  | .p (.sc (.string s)) => some { x := sci .i64 s.size }
  | .p (.sc (.map none)) => some { x := sci .i64 0 }
  | .ref _ _ _ len => some { x := sci .i64 len }
  | .mp b => match G b with
    | some (.mp es) => some { x := sci .i64 es.length, R := [(b, .mp es)] }
    | _ => none
  | _ => none
def flenOk (P : Program) (t : TypeId) : IV → Bool
  | .p (.imm ..) | .p .emp | .ref .. | .p (.sc (.slice ..)) => match tkd P t with | some (.slice _) => true | _ => false
  | .p (.sc (.string _)) => tkd P t == some .string
  | .mp _ | .p (.sc (.map _)) => match tkd P t with | some (.map _ _) => true | _ => false
  | _ => false
theorem run_lenS {t e : TypeId} (h : tkd P t = some (.slice e)) (ty : TypeId) (a : Option Addr) (n c : Nat) (w : World) :
    (Builtin.len_ #[t] ty #[.slice a n c]).run P w = .ok (.int .i64 n) w := by
  obtain ⟨d, hu, hd⟩ := und_tkd h
  simp only at hd; subst hd
  simp [Builtin.len_, run_underlying hu, goInt]
theorem f_len {x : Operand} {t : TypeId} {zx : IV} {fr : FR} (ho : o.op = .call { callee := .builtin .len, args := #[x], argTypes := #[t] }) (hx : ρ x = some zx)
    (hk : flenOk P t zx = true) (h : flen G zx = some fr) : fr.ok P o ρ := by
  have hsl : ∀ (a : Option Addr) (n c : Nat), (∃ e, tkd P t = some (.slice e)) → ∀ (ac : Act) (w : World), ac.eval x = .slice a n c →
      (execOp ac.eval o).run P w = .ok (.value (.int .i64 n)) w := by
    intro a n c ⟨e, he⟩ ac w hv
    have := run_lenS he o.type a n c w
    simp [execOp, ho, resolve, invoke, builtin, hv, this]
  have hkd : ∀ b : Bool, (match tkd P t with | some (.slice _) => true | _ => false) = true → ∃ e, tkd P t = some (.slice e) := by
    intro _ h
    split at h
    · rename_i e he; exact ⟨e, he⟩
    · cases h
  unfold flen at h
  split at h
  · rename_i s rows
    simp only [Option.some.injEq] at h; subst h
    refine .read fun M ac hM hR hr => ⟨_, ?_, .sc M _⟩
    obtain ⟨a, cap, c, o', e, _⟩ := (hr x (by simp [ho, Op.operands, Call.operands]) _ hx).imm_inv
    exact hsl a _ cap (hkd true hk) ac M.w e
  · simp only [Option.some.injEq] at h; subst h
    refine .read fun M ac hM hR hr => ⟨_, ?_, .sc M _⟩
    have hv := hr x (by simp [ho, Op.operands, Call.operands]) _ hx
    generalize hq : ac.eval x = q at hv
    cases hv with
    | p y v h =>
      cases h with
      | emp a => exact hsl a 0 0 (hkd true hk) ac M.w hq
  · rename_i n c
    simp only [Option.some.injEq] at h; subst h
    refine .read fun M ac hM hR hr => ⟨_, ?_, .sc M _⟩
    exact hsl none n c (hkd true hk) ac M.w (hr x (by simp [ho, Op.operands, Call.operands]) _ hx).sc_inv
  · rename_i s
    simp only [Option.some.injEq] at h; subst h
    refine .read fun M ac hM hR hr => ⟨_, ?_, .sc M _⟩
    have e := (hr x (by simp [ho, Op.operands, Call.operands]) _ hx).sc_inv
    have hk' : tkd P t = some .string := by simpa [flenOk] using hk
    obtain ⟨d, hu, hd⟩ := und_tkd hk'
    simp only at hd; subst hd
    simp [execOp, ho, resolve, invoke, builtin, e, Builtin.len_, run_underlying hu, goInt]
  · simp only [Option.some.injEq] at h; subst h
    refine .read fun M ac hM hR hr => ⟨_, ?_, .sc M _⟩
    have e := (hr x (by simp [ho, Op.operands, Call.operands]) _ hx).sc_inv
    simp only [flenOk] at hk
    split at hk
    · rename_i k1 e1 ht
      obtain ⟨d, hu, hd⟩ := und_tkd ht
      simp only at hd; subst hd
      simp [execOp, ho, resolve, invoke, builtin, e, Builtin.len_, run_underlying hu, goInt]
    · cases hk
  · rename_i b g off len
    simp only [Option.some.injEq] at h; subst h
    refine .read fun M ac hM hR hr => ⟨_, ?_, .sc M _⟩
    obtain ⟨a, cap, e⟩ := (hr x (by simp [ho, Op.operands, Call.operands]) _ hx).ref_any
    exact hsl a len cap (hkd true hk) ac M.w e
  · rename_i b
    split at h
    · rename_i es hb
      simp only [Option.some.injEq] at h; subst h
      refine .read fun M ac hM hR hr => ⟨_, ?_, .sc M _⟩
      have hb' : M.H.G b = some (.mp es) := hR (b, _) (by simp)
      obtain ⟨c, o', n, hβ, es', clock, h1, h2, _⟩ := hM.blk b _ hb'
      have hv := hr x (by simp [ho, Op.operands, Call.operands]) _ hx
      have e : ac.eval x = .map (some c) := by
        generalize ac.eval x = q at hv
        cases hv with
        | mp b v hA hv h =>
          obtain ⟨_, c', o2, n2, hβ', hv'⟩ := h _ hb'
          rw [hβ] at hβ'; cases hβ'
          exact hv'
      simp only [flenOk] at hk
      split at hk
      · rename_i k1 e1 ht
        obtain ⟨d, hu, hd⟩ := und_tkd ht
        simp only at hd; subst hd
        have hg : (getObj c).run P M.w = .ok (.map es' clock) M.w := by simp [getObj, Sem.run, h1]
        simp [execOp, ho, resolve, invoke, builtin, e, Builtin.len_, run_underlying hu, goInt, hg, h2]
      · cases hk
    · cases h
  · cases h

end Go.Idl
