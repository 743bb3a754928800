/-
  append and copy.
-/
import Derived.Test.YtkbbafmaddkehaaIdG
namespace Go.Idl
variable {P : Program} {o : Oper} {ρ : Operand → Option IV} {G : Nat → Option IBlk}

/-- An existing block that owns nothing any more. -/
theorem mem_void {M : Mem} (h : MRel M) {b sz g : Nat} {rows : List (List IV)} (hb : M.H.G b = some (.arr sz g rows)) (g' : Nat) (hg : g < g') :
    MStep M ⟨M.w, M.H.put b (.arr sz g' []), putβ M.β b none⟩ ∧ MRel ⟨M.w, M.H.put b (.arr sz g' []), putβ M.β b none⟩ := by
  have s : MStep M ⟨M.w, M.H.put b (.arr sz g' []), putβ M.β b none⟩ := by
    refine ⟨rfl, rfl, rfl, Nat.le_refl _, fun c _ ho => ⟨rfl, ?_⟩, fun _ h => .inl h, fun b' blk' hA' hb' => ?_, rfl, fun _ _ => rfl⟩
    · rintro (hO | ⟨b', blk, o, n', hb', hc'⟩)
      · exact ho (.inl hO)
      by_cases e : b' = b
      · simp [putβ, e] at hc'
      · simp only [AH.put, putβ, e, if_false] at hb' hc'
        exact ho (.inr ⟨b', blk, o, n', hb', hc'⟩)
    · by_cases e : b' = b
      · subst e
        simp only [AH.put, if_true, Option.some.injEq] at hb'
        subst hb'
        refine ⟨_, hb, rfl, rfl, Nat.le_of_lt hg, fun e => ?_⟩
        simp only [IBlk.gen] at e
        omega
      · simp only [AH.put, e, if_false] at hb'
        exact ⟨blk', hb', rfl, rfl, Nat.le_refl _, fun _ => ⟨by simp [putβ, e], rfl⟩⟩
  refine ⟨s, h.change s b (.inr rfl) ?_ ?_ ?_ ?_ ?_ ?_⟩
  · intro b' e; simp [AH.put, e]
  · intro b' e; simp [putβ, e]
  · intro b' blk c o n' e hb' hc'; rfl
  · intro blk' hb'
    simp only [AH.put, if_true, Option.some.injEq] at hb'
    subst hb'
    exact ⟨by simp, by simp, fun c o n' hc' => by simp [putβ] at hc'⟩
  · intro blk' c o n' hb' hc'; simp [putβ] at hc'
  · intro blk' c o n' hb' hc'; simp [putβ] at hc'

/-- The rows that an append puts behind: a slice's, or a string's bytes. -/
def iapp (G : Nat → Option IBlk) (sz : Nat) : IV → Option (List (List IV) × List (Nat × IBlk))
  | .p (.sc (.string s)) => if sz = 1 then some (s.data.toList.map fun b => [sci .u8 b.toNat], []) else none
  | z => irows G sz z

structure AppArg (P : Program) (M : Mem) (sz : Nat) (rs : List (List IV)) (v : Value) (news : List Value) : Prop where
  len : ∀ w, (Builtin.lenOf v).run P w = .ok rs.length w
  wid : ∀ row ∈ rs, row.length = sz
  nl : news.length = rs.length * sz
  get : (Builtin.firstCells sz rs.length v).run P M.w = .ok ⟨news⟩ M.w
  pre : ∀ n, n ≤ rs.length → (Builtin.firstCells sz n v).run P M.w = .ok ⟨news.take (n * sz)⟩ M.w
  one : ∀ u ∈ news, u.oneCell' = true
  rel : ∀ (i : Nat) (row : List IV) (j : Nat) (x : IV), rs[i]? = some row → row[j]? = some x → ∃ u, news[i * sz + j]? = some u ∧ u.oneCell' = true ∧ VRel M x u

theorem lt_of_get {α : Type} {l : List α} {i : Nat} {x : α} (h : l[i]? = some x) : i < l.length := by
  rcases Nat.lt_or_ge i l.length with h' | h'
  · exact h'
  · rw [List.getElem?_eq_none h'] at h; cases h
theorem RowsAre.arg {M : Mem} {sz : Nat} {rs : List (List IV)} {v : Value} {a : Option Addr} {cap : Nat} {f : Nat → Value} (h : RowsAre P M sz rs v a cap f) :
    AppArg P M sz rs v ((List.range (rs.length * sz)).map f) := by
  have lt : ∀ (i : Nat) (row : List IV) (j : Nat) (x : IV), rs[i]? = some row → row[j]? = some x → i * sz + j < rs.length * sz := by
    intro i row j x hi hj
    have hjl := lt_of_get hj
    rw [h.wid row (List.mem_of_getElem? hi)] at hjl
    exact flat_lt (lt_of_get hi) hjl
  refine ⟨fun w => by rw [h.val]; rfl, h.wid, by simp, h.pre _ (Nat.le_refl _), fun n hn => ?_, ?_, ?_⟩
  · rw [h.pre n hn]
    have hmul : n * sz ≤ rs.length * sz := Nat.mul_le_mul_right _ hn
    congr 1
    apply Array.ext'
    rw [← List.map_take, List.take_range, Nat.min_eq_left hmul]
  · intro u hu
    simp only [List.mem_map, List.mem_range] at hu
    obtain ⟨k, hk, rfl⟩ := hu
    obtain ⟨i, j, hi, hj, rfl⟩ := flat_split hk
    have hrow := List.getElem?_eq_getElem hi
    have hw := h.wid _ (List.getElem_mem hi)
    exact (h.rel i _ j _ hrow (List.getElem?_eq_getElem (show j < (rs[i]).length by omega))).1
  · intro i row j x hi hj
    refine ⟨f (i * sz + j), ?_, h.rel i row j x hi hj⟩
    rw [List.getElem?_map, List.getElem?_range (lt i row j x hi hj)]
    rfl

theorem iapp_sound {sz : Nat} {z : IV} {rs : List (List IV)} {R : List (Nat × IBlk)} (h : iapp G sz z = some (rs, R)) {M : Mem} (hM : MRel M)
    (hR : ∀ p ∈ R, M.H.G p.1 = some p.2) {v : Value} (hv : VRel M z v) : ∃ news, AppArg P M sz rs v news := by
  unfold iapp at h
  split at h
  · rename_i s
    split at h
    · rename_i hs
      subst hs
      simp only [Option.some.injEq, Prod.mk.injEq] at h
      obtain ⟨rfl, rfl⟩ := h
      have e := hv.sc_inv
      subst e
      have hsz : s.data.toList.length = s.size := by rw [Array.length_toList]; rfl
      refine ⟨s.data.toList.map fun b => .int .u8 b.toNat, ?_, ?_, ?_, ?_, ?_, ?_, ?_⟩
      · intro w; simp only [Builtin.lenOf, Sem.run_pure, List.length_map, hsz]
      · intro row hrow; obtain ⟨b, _, rfl⟩ := List.mem_map.1 hrow; rfl
      · simp
      · simp only [Builtin.firstCells, Sem.run_pure, List.length_map, hsz]
        congr 1
        have : s.extract 0 s.size = s := by simp
        rw [this]
        apply Array.ext'
        simp
      · intro n hn
        simp only [Builtin.firstCells, Sem.run_pure]
        congr 1
        apply Array.ext'
        simp
      · intro u hu; obtain ⟨b, _, rfl⟩ := List.mem_map.1 hu; rfl
      · intro i row j x hi hj
        rw [List.getElem?_map] at hi
        cases hb : s.data.toList[i]? with
        | none => simp [hb] at hi
        | some b =>
          rw [hb] at hi
          simp only [Option.map_some, Option.some.injEq] at hi
          subst hi
          cases j with
          | zero =>
            simp at hj; subst hj
            exact ⟨.int .u8 b.toNat, by rw [List.getElem?_map]; simp [hb], rfl, .sc M _⟩
          | succ j => simp at hj
    · cases h
  · obtain ⟨a, cap, f, hr⟩ := irows_sound (P := P) h hM hR hv
    exact ⟨_, hr.arg⟩

/-- The argument types of an append, as far as they matter. -/
def appTy (P : Program) (t1 t2 : TypeId) : Option (TypeId × Nat × Nat × List Value) :=
  match tel P t1, tkd P t2 with
  | some e, some (.slice _) | some e, some .string => match tsz P e, tby P e, tze P e with
    | some sz, some by_, some zs => if zs.length = sz then some (e, sz, by_, zs) else none
    | _, _, _ => none
  | _, _ => none

structure AppTy (P : Program) (t1 t2 e : TypeId) (sz by_ : Nat) (zs : List Value) (i : TypeInfo) (z : Value) : Prop where
  u1 : P.underlying t1 = some (.slice e)
  u2 : (∃ e2, P.underlying t2 = some (.slice e2)) ∨ P.underlying t2 = some .string
  inf : P.info? e = some i
  size : i.size = sz
  bytes : i.bytes = by_
  zero : i.zero = some z
  zcl : z.cells = ⟨zs⟩
  zl : zs.length = sz
theorem appTy_inv {t1 t2 e : TypeId} {sz by_ : Nat} {zs : List Value} (h : appTy P t1 t2 = some (e, sz, by_, zs)) : ∃ i z, AppTy P t1 t2 e sz by_ zs i z := by
  have fin : tel P t1 = some e → ((∃ e2, P.underlying t2 = some (.slice e2)) ∨ P.underlying t2 = some .string) → tsz P e = some sz → tby P e = some by_ → tze P e = some zs → zs.length = sz → ∃ i z, AppTy P t1 t2 e sz by_ zs i z := by
    intro he h2 hs hb hz hzl
    cases hi : P.info? e with
    | none => simp [tsz, hi] at hs
    | some i =>
      simp only [tsz, tby, tze, hi, Option.map_some, Option.some.injEq, Option.bind_some] at hs hb hz
      cases hiz : i.zero with
      | none => simp [hiz] at hz
      | some z =>
        simp only [hiz, Option.map_some, Option.some.injEq] at hz
        exact ⟨i, z, und_tel he, h2, hi, hs, hb, hiz, by rw [← hz], hzl⟩
  unfold appTy at h
  split at h
  · rename_i e' e2 he hk
    obtain ⟨d, hu, hd⟩ := und_tkd hk
    simp only at hd; subst hd
    split at h
    · rename_i s b z hs hb hz
      split at h
      · rename_i hzl
        simp only [Option.some.injEq, Prod.mk.injEq] at h
        obtain ⟨rfl, rfl, rfl, rfl⟩ := h
        exact fin he (.inl ⟨_, hu⟩) hs hb hz hzl
      · cases h
    · cases h
  · rename_i e' he hk
    obtain ⟨d, hu, hd⟩ := und_tkd hk
    simp only at hd; subst hd
    split at h
    · rename_i s b z hs hb hz
      split at h
      · rename_i hzl
        simp only [Option.some.injEq, Prod.mk.injEq] at h
        obtain ⟨rfl, rfl, rfl, rfl⟩ := h
        exact fin he (.inr hu) hs hb hz hzl
      · cases h
    · cases h
  · cases h

theorem run_append_fits' {t1 t2 ty e : TypeId} {sz by_ : Nat} {zs : List Value} {i : TypeInfo} {z : Value} (hT : AppTy P t1 t2 e sz by_ zs i z)
    {base : Option Addr} {sLen sCap n : Nat} {x : Value} {news : List Value} {w w' : World} (hl : (Builtin.lenOf x).run P w = .ok n w)
    (hg : (Builtin.firstCells sz n x).run P w = .ok ⟨news⟩ w) (hfit : sLen + n ≤ sCap)
    (hst : match base with | some a => (storeCells (a.add (sLen * sz)) news).run P w = .ok () w' | none => w' = w) :
    (Builtin.append_ #[t1, t2] ty #[.slice base sLen sCap, x]).run P w = .ok (.slice base (sLen + n) sCap) w' := by
  have hs : ∀ w, (sizeOf e).run P w = .ok sz w := run_sizeOf' (show tsz P e = some sz by simp [tsz, hT.inf, hT.size])
  rcases hT.u2 with ⟨e2, hu2⟩ | hu2
  all_goals
    unfold Builtin.append_
    simp only [List.getElem?_toArray, List.getElem?_cons_zero, List.getElem?_cons_succ, Sem.run_bind, run_underlying hT.u1, Result.andThen_ok, run_underlying hu2, Sem.run_pure, hs,
      Bool.false_eq_true, if_false, hl, hfit, if_true, Bool.not_false, hg]
    cases base with
    | none => simp only at hst; subst hst; rfl
    | some a => simp only at hst; simp only [Sem.run_bind, hst, Result.andThen_ok, Sem.run_pure]

theorem run_append_grows' {t1 t2 ty e : TypeId} {sz by_ : Nat} {zs : List Value} {i : TypeInfo} {z : Value} (hT : AppTy P t1 t2 e sz by_ zs i z)
    {base : Option Addr} {sLen sCap n : Nat} {x : Value} {olds news : List Value} {w : World} (hl : (Builtin.lenOf x).run P w = .ok n w)
    (ho : (Builtin.firstCells sz sLen (.slice base sLen sCap)).run P w.drew = .ok ⟨olds⟩ w.drew)
    (hg : (Builtin.firstCells sz n x).run P w.drew = .ok ⟨news⟩ w.drew) (hgr : sCap < sLen + n) (h63 : sLen + n ≤ maxLen) (hby : (sLen + n) * by_ ≤ 140737488355328) :
    (Builtin.append_ #[t1, t2] ty #[.slice base sLen sCap, x]).run P w =
      .ok (.slice (some ⟨w.heap.size, 0, none⟩) (sLen + n) (grownCap w (sLen + n) sCap e))
        (w.drew.alloc (.cells (⟨olds⟩ ++ ⟨news⟩ ++ Builtin.zeroCells z.cells (grownCap w (sLen + n) sCap e - (sLen + n))) e)) := by
  have hs : ∀ w, (sizeOf e).run P w = .ok sz w := run_sizeOf' (show tsz P e = some sz by simp [tsz, hT.inf, hT.size])
  have hn : ¬ (sLen + n ≤ sCap) := by omega
  have hfit := growslice_fits hgr hby
  have h48 : ¬ (Builtin.nextslicecap (sLen + n) sCap * by_ > 2 ^ 48) := by simp only [Nat.reducePow]; omega
  have h63' : ¬ (((sLen + n : Nat) : Int) > IntKind.i64.max ∧ (False ∨ by_ = 0)) := by
    have : IntKind.i64.max = 9223372036854775807 := by decide
    rw [this]; unfold maxLen at h63; omega
  have hti : ∀ w, (typeInfo e).run P w = .ok i w := fun w => by simp [typeInfo, hT.inf]
  have hze : ∀ w, (zeroValue e).run P w = .ok z w := fun w => by simp [zeroValue, typeInfo, hT.inf, hT.zero]
  have hch : ∀ w, (choose (.appendCap (sLen + n) sCap e)).run P w = .ok (grownCap w (sLen + n) sCap e) w.drew := fun w => by simp [Question.forced, grownCap]
  rcases hT.u2 with ⟨e2, hu2⟩ | hu2
  all_goals
    unfold Builtin.append_
    simp only [List.getElem?_toArray, List.getElem?_cons_zero, List.getElem?_cons_succ, Sem.run_bind, run_underlying hT.u1, Result.andThen_ok, run_underlying hu2, Sem.run_pure, hs,
      Bool.false_eq_true, if_false, hl, hn, Bool.not_false, if_true, hti, hT.bytes, h63', h48, hch, run_askRoom, ho, hg, hze, newRow, run_newObj, World.alloc_eq, World.size_drew]

end Go.Idl
