/-
  The operations that make memory or write it: box, alloc, make, store, append, copy; builds of structs and slices.
-/
import Derived.Test.YtkbbafmaddkehaaIdF
namespace Go.Idl
variable {P : Program} {o : Oper} {ρ : Operand → Option IV} {G : Nat → Option IBlk}

/-! ### the cells of a value -/
def icells : IV → Option (List IV)
  | .agg cs => some cs
  | .p (.sc v) => if v.oneCell' then some [.p (.sc v)] else none
  | .tup _ => none
  | .dead => none
  | x => some [x]

structure CellsAre (M : Mem) (cs : List IV) (vs : List Value) : Prop where
  len : vs.length = cs.length
  one : ∀ v ∈ vs, v.oneCell' = true
  rel : ∀ (i : Nat) (x : IV) (v : Value), cs[i]? = some x → vs[i]? = some v → VRel M x v
theorem CellsAre.get {M : Mem} {cs : List IV} {vs : List Value} (h : CellsAre M cs vs) {i : Nat} {x : IV} (hi : cs[i]? = some x) : ∃ v, vs[i]? = some v ∧ v.oneCell' = true ∧ VRel M x v := by
  have hlt : i < vs.length := by
    rw [h.len]
    rcases Nat.lt_or_ge i cs.length with h' | h'
    · exact h'
    · rw [List.getElem?_eq_none h'] at hi; cases hi
  exact ⟨vs[i], List.getElem?_eq_getElem hlt, h.one _ (List.getElem_mem hlt), h.rel i x _ hi (List.getElem?_eq_getElem hlt)⟩
theorem CellsAre.step {M M' : Mem} {cs : List IV} {vs : List Value} (h : CellsAre M cs vs) (s : MStep M M') : CellsAre M' cs vs :=
  ⟨h.len, h.one, fun i x v hi hv => (h.rel i x v hi hv).step s⟩
theorem CellsAre.one_ {M : Mem} {x : IV} {v : Value} (h1 : v.oneCell' = true) (hv : VRel M x v) : CellsAre M [x] [v] :=
  ⟨rfl, by simpa using h1, fun i y u hi hu => by
    cases i with
    | zero => simp at hi hu; subst hi; subst hu; exact hv
    | succ i => simp at hi⟩

theorem cells_of {M : Mem} {x : IV} {cs : List IV} {v : Value} (h : icells x = some cs) (hv : VRel M x v) : ∃ vs : List Value, v.cells = ⟨vs⟩ ∧ CellsAre M cs vs := by
  have one : v.oneCell' = true → cs = [x] → ∃ vs : List Value, v.cells = ⟨vs⟩ ∧ CellsAre M cs vs := by
    intro h1 e
    subst e
    refine ⟨[v], ?_, .one_ h1 hv⟩
    cases v <;> first | rfl | (simp [Value.oneCell'] at h1)
  cases hv with
  | p y v h' =>
    cases h' with
    | sc v =>
      simp only [icells] at h
      split at h
      · rename_i h1; simp only [Option.some.injEq] at h; exact one h1 h.symm
      · cases h
    | emp a => simp only [icells, Option.some.injEq] at h; exact one rfl h.symm
    | imm sz rows a cap c o f hl hm ha hs hc hr => simp only [icells, Option.some.injEq] at h; exact one rfl h.symm
    | rp cells c o f ha hc hr => simp only [icells, Option.some.injEq] at h; exact one rfl h.symm
    | nan k b hb => simp only [icells, Option.some.injEq] at h; exact one rfl h.symm
  | ref b g off len v hA hv' h' => obtain ⟨a, cap, rfl⟩ := hv'; simp only [icells, Option.some.injEq] at h; exact one rfl h.symm
  | ptr b g r j v hA hv' h' => obtain ⟨c, o', rfl⟩ := hv'; simp only [icells, Option.some.injEq] at h; exact one rfl h.symm
  | mp b v hA hv' h' => obtain ⟨c, rfl⟩ := hv'; simp only [icells, Option.some.injEq] at h; exact one rfl h.symm
  | clo fn first cap vf vc hf hc rf rc => simp only [icells, Option.some.injEq] at h; exact one rfl h.symm
  | agg cs' vs hl h1 r => simp only [icells, Option.some.injEq] at h; subst h; exact ⟨vs, rfl, hl, h1, r⟩
  | tup cs' vs hl r => simp [icells] at h
  | dead v => simp [icells] at h

/-! ### box, alloc -/
theorem upd_one (H : AH) (b : Nat) (blk : IBlk) : H.upd [(b, blk)] = H.put b blk := rfl

/-- A new variable. -/
theorem new_var {M : Mem} (hM : MRel M) {b : Nat} (hb : ¬ M.H.A b) {cs : List IV} {vs : List Value} (h : CellsAre M cs vs) (ty : TypeId) :
    ∃ M' : Mem, M'.w = M.w.alloc (.cells ⟨vs⟩ ty) ∧ MStep M M' ∧ MRel M' ∧ M'.H = M.H.put b (.arr cs.length 0 [cs]) ∧ VRel M' (.ptr b 0 0 0) (.pointer (some ⟨M.w.heap.size, 0, none⟩)) := by
  obtain ⟨s, r⟩ := mem_new hM b hb cs.length 0 1 [cs] ⟨vs⟩ ty (by simp) (by simp) (by unfold maxLen; omega) (by simp [h.len]) (by
    intro i row j x hi hj
    cases i with
    | zero =>
      simp at hi; subst hi
      obtain ⟨v, v1, v2, v3⟩ := h.get hj
      exact ⟨v, by simpa using v1, v2, v3⟩
    | succ i => simp at hi)
  refine ⟨_, rfl, s, r, rfl, .ptr b 0 0 0 _ (.inr rfl) ⟨_, _, rfl⟩ fun blk hblk => ?_⟩
  simp only [AH.put, if_true, Option.some.injEq] at hblk
  subst hblk
  exact ⟨Nat.le_refl _, fun _ => ⟨M.w.heap.size, 0, 1, by simp [putβ], by simp⟩⟩

def fbox (nx : Nat) (x : IV) : Option FR := (icells x).map fun cs => { x := .ptr nx 0 0 0, F := [nx], W := [(nx, .arr cs.length 0 [cs])] }
theorem f_box {t : TypeId} {x : Operand} {zx : IV} {nx : Nat} {fr : FR} (ho : o.op = .box t x) (hx : ρ x = some zx) (h : fbox nx zx = some fr) : fr.ok P o ρ := by
  unfold fbox at h
  cases hc : icells zx with
  | none => simp [hc] at h
  | some cs =>
    simp only [hc, Option.map_some, Option.some.injEq] at h; subst h
    refine .does fun M a hM _ hF hr => ?_
    obtain ⟨vs, e, hcs⟩ := cells_of hc (hr x (by simp [ho, Op.operands]) _ hx)
    obtain ⟨M', h0, h1, h2, h3, h4⟩ := new_var hM (hF nx (by simp)) hcs t
    refine ⟨_, M', ?_, h1, h2, h3, h4⟩
    rw [h0]
    simp [execOp, ho, Instr.box, newVar, newRow, e]

theorem zero_of {t : TypeId} {zs : List Value} (h : tze P t = some zs) : ∃ z, z.cells = ⟨zs⟩ ∧ ∀ w, (zeroValue t).run P w = .ok z w := by
  unfold tze at h
  cases hi : P.info? t with
  | none => simp [hi] at h
  | some i =>
    cases hz : i.zero with
    | none => simp [hi, hz] at h
    | some z =>
      simp [hi, hz] at h
      exact ⟨z, by rw [← h], fun w => by simp [zeroValue, typeInfo, hi, hz]⟩
def zcs (zs : List Value) : List IV := zs.map fun v => .p (.sc v)
theorem zcs_are (M : Mem) {zs : List Value} (h : zs.all (·.oneCell') = true) : CellsAre M (zcs zs) zs :=
  ⟨by simp [zcs], by simpa using h, fun i x v hi hv => by
    simp only [zcs, List.getElem?_map, hv, Option.map_some, Option.some.injEq] at hi
    subst hi; exact .sc M v⟩
def falloc (P : Program) (nx : Nat) (t : TypeId) : Option FR :=
  match tze P t with
  | some zs => if zs.all (·.oneCell') then some { x := .ptr nx 0 0 0, F := [nx], W := [(nx, .arr zs.length 0 [zcs zs])] } else none
  | none => none
theorem f_alloc {t : TypeId} {nx : Nat} {fr : FR} (ho : o.op = .alloc t) (h : falloc P nx t = some fr) : fr.ok P o ρ := by
  unfold falloc at h
  split at h
  · rename_i zs hz
    split at h
    · rename_i h1
      simp only [Option.some.injEq] at h; subst h
      obtain ⟨z, e, hrun⟩ := zero_of hz
      refine .does fun M a hM _ hF hr => ?_
      obtain ⟨M', g0, g1, g2, g3, g4⟩ := new_var hM (hF nx (by simp)) (zcs_are M h1) t
      refine ⟨_, M', ?_, g1, g2, by rw [upd_one]; simpa [zcs] using g3, g4⟩
      rw [g0]
      simp [execOp, ho, Instr.alloc, hrun, newVar, newRow, e]
    · cases h
  · cases h

/-! ### make -/
def fmake (P : Program) (nx : Nat) (t : TypeId) (l c : IV) : Option FR :=
  match l, c with
  | .p (.sc (.int _ l)), .p (.sc (.int _ c)) => match tel P t with
    | some e => match tze P e, tsz P e, tby P e with
      | some zs, some sz, some by_ =>
        if 0 ≤ l ∧ l ≤ c ∧ c ≤ 9223372036854775807 ∧ by_ * c ≤ 281474976710656 ∧ zs.length = sz ∧ zs.all (·.oneCell') then
          some { x := .ref nx 0 0 l.toNat, F := [nx], W := [(nx, .arr sz 0 (List.replicate l.toNat (zcs zs)))] }
        else none
      | _, _, _ => none
    | none => none
  | _, _ => none
theorem f_make {t : TypeId} {l c : Operand} {zl zc : IV} {nx : Nat} {fr : FR} (ho : o.op = .makeSlice t l c) (hl : ρ l = some zl) (hc : ρ c = some zc)
    (h : fmake P nx t zl zc = some fr) : fr.ok P o ρ := by
  unfold fmake at h
  split at h
  · rename_i kl l' kc c'
    split at h
    · rename_i e he
      split at h
      · rename_i zs sz by_ hz hs hb
        split at h
        · rename_i hcd
          obtain ⟨c1, c2, c3, c4, c5, c6⟩ := hcd
          simp only [Option.some.injEq] at h; subst h
          subst c5
          cases hi : P.info? e with
          | none => simp [tsz, hi] at hs
          | some i =>
            simp only [tsz, tby, tze, hi, Option.map_some, Option.some.injEq, Option.bind_some] at hs hb hz
            cases hiz : i.zero with
            | none => simp [hiz] at hz
            | some z =>
              simp only [hiz, Option.map_some, Option.some.injEq] at hz
              refine .does fun M a hM _ hF hr => ?_
              have e1 := (hr l (by simp [ho, Op.operands]) _ hl).sc_inv
              have e2 := (hr c (by simp [ho, Op.operands]) _ hc).sc_inv
              have hrun := run_make (P := P) M.w t e i z (und_tel he) hi hiz kl kc l' c' c1 c2 (by rw [hb]; exact c4) c3
              obtain ⟨n, rfl⟩ := Int.eq_ofNat_of_zero_le c1
              obtain ⟨m, rfl⟩ := Int.eq_ofNat_of_zero_le (show 0 ≤ c' by omega)
              simp only [Int.toNat_natCast] at *
              have hzc : z.cells.toList = zs := hz
              have hzl : z.cells.size = zs.length := by rw [← hzc]; simp
              have hget : ∀ k, k < m * zs.length → (madeCells z.cells (m * i.size))[k]? = zs[k % zs.length]? := by
                intro k hk
                rw [hs]
                have hp := (mul_pos_of (Nat.lt_of_le_of_lt (Nat.zero_le k) hk)).2
                have hm : k % zs.length < zs.length := Nat.mod_lt _ hp
                simp only [madeCells, Array.getElem?_map, Array.getElem?_range, hk, if_true, Option.map_some, hzl]
                rw [List.getElem?_eq_getElem hm, getElem!_pos z.cells (k % zs.length) (by rw [hzl]; exact hm)]
                congr 1
                have : z.cells.toList[k % zs.length]'(by simp [hzl]; exact hm) = zs[k % zs.length] := by simp [hzc]
                rw [← this]; simp
              have hza := zcs_are M c6
              obtain ⟨s, r⟩ := mem_new hM nx (hF nx (by simp)) zs.length 0 m (List.replicate n (zcs zs)) (madeCells z.cells (m * i.size)) e
                (by intro row hrow; rw [List.eq_of_mem_replicate hrow]; simp [zcs]) (by simp; omega) (by unfold maxLen; omega) (by rw [size_madeCells, hs]; exact Nat.le_refl _) (by
                  intro a' row j x hi' hj
                  have ha' : a' < n := by
                    rcases Nat.lt_or_ge a' n with h' | h'
                    · exact h'
                    · rw [List.getElem?_eq_none (by simpa using h')] at hi'; cases hi'
                  rw [List.getElem?_replicate, if_pos ha'] at hi'
                  cases hi'
                  obtain ⟨v, v1, v2, v3⟩ := hza.get hj
                  have hjl : j < zs.length := by
                    rcases Nat.lt_or_ge j zs.length with h' | h'
                    · exact h'
                    · rw [List.getElem?_eq_none h'] at v1; cases v1
                  refine ⟨v, ?_, v2, v3⟩
                  rw [hget _ (flat_lt (by omega) hjl), Nat.mul_comm, Nat.mul_add_mod, Nat.mod_eq_of_lt hjl]
                  exact v1)
              refine ⟨.slice (some ⟨M.w.heap.size, 0, none⟩) n m, _, ?_, s, r, rfl, ?_⟩
              · simp only [execOp, ho, e1, e2]
                rw [Sem.run_bind, hrun]
                rfl
              · refine .ref nx 0 0 n _ (.inr rfl) ⟨_, _, rfl⟩ fun blk hblk => ?_
                simp only [AH.put, if_true, Option.some.injEq] at hblk
                subst hblk
                refine ⟨Nat.le_refl _, fun _ => ⟨_, _, rfl, by omega, by simp [IBlk.len], by simp [IBlk.len]; omega, .inr ⟨M.w.heap.size, 0, m, by simp [putβ], by simp, by omega⟩⟩⟩
        · cases h
      · cases h
    · cases h
  · cases h

/-! ### store -/
def fstore (P : Program) (G : Nat → Option IBlk) (t : TypeId) (p x : IV) : Option FR :=
  match p with
  | .ptr b g r j => match icells x, G b, tsz P t with
    | some cs, some (.arr sz g' rows), some n => if g = g' ∧ cs.length = n then match rows[r]? with
        | some row => if j + n ≤ row.length then
            some { x := .dead, R := [(b, .arr sz g' rows)], W := [(b, .arr sz g' (rows.set r (row.take j ++ cs ++ row.drop (j + n))))] }
          else none
        | none => none
      else none
    | _, _, _ => none
  | _ => none

theorem f_store {t : TypeId} {p x : Operand} {zp zx : IV} {fr : FR} (ho : o.op = .store t p x) (hp : ρ p = some zp) (hx : ρ x = some zx)
    (h : fstore P G t zp zx = some fr) : fr.ok P o ρ := by
  unfold fstore at h
  split at h
  · rename_i b g r j
    split at h
    · rename_i cs sz g' rows n hcs hG hn
      split at h
      · rename_i hg
        obtain ⟨rfl, rfl⟩ := hg
        split at h
        · rename_i row hrow
          split at h
          · rename_i hfit
            simp only [Option.some.injEq] at h; subst h
            refine .skips fun M a hM hR _ hr => ?_
            have hb : M.H.G b = some (.arr sz g rows) := hR (b, _) (by simp)
            obtain ⟨c, o', n', hβ, ep⟩ := (hr p (by simp [ho, Op.operands]) _ hp).ptr_inv hb rfl
            obtain ⟨vs, e, hv⟩ := cells_of hcs (hr x (by simp [ho, Op.operands]) _ hx)
            have hbr := hM.blk b _ hb
            obtain ⟨cur, ty, q1, q2, q3, q4, q5⟩ := hbr.2.2 c o' n' hβ
            have hrl : row.length = sz := hbr.1 row (List.mem_of_getElem? hrow)
            have hrlt : r < rows.length := by
              rcases Nat.lt_or_ge r rows.length with h' | h'
              · exact h'
              · rw [List.getElem?_eq_none h'] at hrow; cases hrow
            have hbound : o' + (r * sz + j) + vs.length ≤ cur.size := by
              have h1 : r * sz + sz ≤ n' * sz := by
                have : (r + 1) * sz ≤ n' * sz := Nat.mul_le_mul_right _ (by omega)
                rwa [Nat.add_mul, Nat.one_mul] at this
              rw [hv.len]; omega
            simp only [IBlk.sz] at ep
            have hrun := run_storeCells_at P c (o' + (r * sz + j)) ty vs 0 cur M.w q1 (by simpa using hbound) hv.one
            simp only [Nat.add_zero] at hrun
            obtain ⟨s, rr⟩ := mem_chg hM hb hβ q1 g o' n' (rows.set r (row.take j ++ cs ++ row.drop (j + cs.length)))
              (cur.toList.take (o' + (r * sz + j)) ++ vs ++ cur.toList.drop (o' + (r * sz + j) + vs.length)).toArray
              (Nat.le_refl _) (fun _ => ⟨rfl, rfl, by simp⟩) (by
                intro row' hr'
                rcases List.mem_or_eq_of_mem_set hr' with h' | h'
                · exact hbr.1 row' h'
                · subst h'; simp only [List.length_append, List.length_take, List.length_drop]; omega)
              (by simpa using q2) q3 (by simp only [List.size_toArray, List.length_append, List.length_take, List.length_drop, Array.length_toList]; omega) (by
                intro i row' k y hi hk
                rw [List.getElem?_set] at hi
                have hcl : cur.toList.length = cur.size := Array.length_toList
                split at hi
                · rename_i hri
                  subst hri
                  first | (rw [if_pos hrlt] at hi; cases hi) | cases hi
                  rw [List.getElem?_append, List.length_append, List.length_take] at hk
                  have hmin : min j row.length = j := by omega
                  rw [hmin] at hk
                  split at hk
                  · rw [List.getElem?_append, List.length_take, hmin] at hk
                    split at hk
                    · rename_i h1 h2
                      rw [List.getElem?_take, if_pos h2] at hk
                      obtain ⟨v, v1, v2, v3⟩ := q5 r row k y hrow hk
                      refine ⟨v, ?_, v2, v3⟩
                      rw [List.getElem?_toArray, List.append_assoc, List.getElem?_append, List.length_take, if_pos (by omega), List.getElem?_take, if_pos (by omega), Array.getElem?_toList]
                      exact v1
                    · rename_i h1 h2
                      obtain ⟨v, v1, v2, v3⟩ := hv.get hk
                      refine ⟨v, ?_, v2, v3⟩
                      have hvl := hv.len
                      rw [List.getElem?_toArray, List.getElem?_append, List.length_append, List.length_take, if_pos (by omega), List.getElem?_append, List.length_take, if_neg (by omega)]
                      rw [← v1]; congr 1; omega
                  · rename_i h1
                    rw [List.getElem?_drop] at hk
                    have hkk : k - (j + cs.length) + (j + cs.length) = k := by omega
                    rw [show j + cs.length + (k - (j + cs.length)) = k by omega] at hk
                    obtain ⟨v, v1, v2, v3⟩ := q5 r row k y hrow hk
                    refine ⟨v, ?_, v2, v3⟩
                    have hvl := hv.len
                    rw [List.getElem?_toArray, List.getElem?_append, List.length_append, List.length_take, if_neg (by omega), List.getElem?_drop, Array.getElem?_toList]
                    rw [← v1]; congr 1; omega
                · rename_i hri
                  obtain ⟨v, v1, v2, v3⟩ := q5 i row' k y hi hk
                  refine ⟨v, ?_, v2, v3⟩
                  have hkl : k < sz := by
                    rw [← hbr.1 row' (List.mem_of_getElem? hi)]
                    rcases Nat.lt_or_ge k row'.length with h' | h'
                    · exact h'
                    · rw [List.getElem?_eq_none h'] at hk; cases hk
                  have hvl := hv.len
                  have hne : i * sz + k < r * sz + j ∨ r * sz + j + vs.length ≤ i * sz + k := by
                    rcases Nat.lt_or_ge i r with h1 | h1
                    · have : (i + 1) * sz ≤ r * sz := Nat.mul_le_mul_right _ h1
                      rw [Nat.add_mul, Nat.one_mul] at this
                      left; omega
                    · have : (r + 1) * sz ≤ i * sz := Nat.mul_le_mul_right _ (by omega)
                      rw [Nat.add_mul, Nat.one_mul] at this
                      right; omega
                  rcases hne with h1 | h1
                  · rw [List.getElem?_toArray, List.append_assoc, List.getElem?_append, List.length_take, if_pos (by
                      have : o' + (i * sz + k) < cur.size := by
                        rcases Nat.lt_or_ge (o' + (i * sz + k)) cur.size with h' | h'
                        · exact h'
                        · rw [Array.getElem?_eq_none h'] at v1; cases v1
                      omega), List.getElem?_take, if_pos (by omega), Array.getElem?_toList]
                    exact v1
                  · rw [List.getElem?_toArray, List.getElem?_append, List.length_append, List.length_take, if_neg (by omega), List.getElem?_drop, Array.getElem?_toList]
                    rw [← v1]; congr 1; omega)
            refine ⟨_, ?_, s, rr, ?_⟩
            · have hvl := hv.len
              simp only [execOp, ho, Instr.storeAt, ep, Instr.sureAddr, storeVar, Sem.run_bind, Sem.run_pure, Result.andThen_ok, run_sizeOf' hn, e, List.size_toArray, hvl, ne_eq, not_true_eq_false, if_false, hrun]
            · rfl
          · cases h
        · cases h
      · cases h
    · cases h
  · cases h

end Go.Idl
