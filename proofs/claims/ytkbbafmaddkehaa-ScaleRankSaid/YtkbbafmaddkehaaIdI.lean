/-
  append, the operation.
-/
import Derived.Test.YtkbbafmaddkehaaIdH
namespace Go.Idl
variable {P : Program} {o : Oper} {ρ : Operand → Option IV} {G : Nat → Option IBlk}

def fapp (P : Program) (G : Nat → Option IBlk) (nx : Nat) (t1 t2 : TypeId) (s x : IV) : Option FR :=
  match appTy P t1 t2 with
  | some (_, sz, by_, _) => match iapp G sz x with
    | some (rx, Rx) => match s with
      | .p (.sc (.slice none 0 0)) | .p .emp =>
        if rx.length * by_ ≤ 140737488355328 ∧ rx.length ≤ 9223372036854775807 then some { x := .ref nx 0 0 rx.length, R := Rx, F := [nx], W := [(nx, .arr sz 0 rx)] } else none
      | .ref b g off len => match irows G sz (.ref b g off len) with
        | some (rs, Rs) =>
          if (rs.length + rx.length) * by_ ≤ 140737488355328 ∧ rs.length + rx.length ≤ 9223372036854775807 then
            some { x := .ref b (g + 1) 0 (rs.length + rx.length), R := Rs ++ Rx, W := [(b, .arr sz (g + 1) (rs ++ rx))] }
          else none
        | none => none
      | _ => none
    | none => none
  | none => none

theorem app_cells {M : Mem} {sz : Nat} {rs rx : List (List IV)} {a : Array Value} {o' : Nat}
    (h1 : ∀ (i : Nat) (row : List IV) (j : Nat) (x : IV), rs[i]? = some row → row[j]? = some x → ∃ v, a[o' + (i * sz + j)]? = some v ∧ v.oneCell' = true ∧ VRel M x v)
    (h2 : ∀ (i : Nat) (row : List IV) (j : Nat) (x : IV), rx[i]? = some row → row[j]? = some x → ∃ v, a[o' + (rs.length * sz + (i * sz + j))]? = some v ∧ v.oneCell' = true ∧ VRel M x v) :
    ∀ (i : Nat) (row : List IV) (j : Nat) (x : IV), (rs ++ rx)[i]? = some row → row[j]? = some x → ∃ v, a[o' + (i * sz + j)]? = some v ∧ v.oneCell' = true ∧ VRel M x v := by
  intro i row j x hi hj
  rw [List.getElem?_append] at hi
  split at hi
  · exact h1 i row j x hi hj
  · rename_i hge
    obtain ⟨v, v1, v2, v3⟩ := h2 _ row j x hi hj
    refine ⟨v, ?_, v2, v3⟩
    rw [← v1]
    congr 2
    have : i * sz = rs.length * sz + (i - rs.length) * sz := by rw [← Nat.add_mul]; congr 1; omega
    omega

/-- Onto nothing. -/
theorem app_new {t1 t2 ty e : TypeId} {sz by_ : Nat} {zs : List Value} {i : TypeInfo} {z : Value} (hT : AppTy P t1 t2 e sz by_ zs i z)
    {M : Mem} (hM : MRel M) {nx : Nat} (hnx : ¬ M.H.A nx) {a : Option Addr} {x : Value} {rx : List (List IV)} {zx : IV} {Rx : List (Nat × IBlk)} (hx : iapp G sz zx = some (rx, Rx))
    (hR : ∀ p ∈ Rx, M.H.G p.1 = some p.2) (hvx : VRel M zx x) (hby : rx.length * by_ ≤ 140737488355328) (h63 : rx.length ≤ 9223372036854775807) :
    ∃ v M', (Builtin.append_ #[t1, t2] ty #[.slice a 0 0, x]).run P M.w = .ok v M'.w ∧ MStep M M' ∧ MRel M' ∧ M'.H = M.H.put nx (.arr sz 0 rx) ∧ VRel M' (.ref nx 0 0 rx.length) v := by
  rcases Nat.eq_zero_or_pos rx.length with h0 | h0
  · have e0 : rx = [] := List.eq_nil_of_length_eq_zero h0
    subst e0
    obtain ⟨news, hA⟩ := iapp_sound (P := P) hx hM hR hvx
    have hn : news = [] := List.eq_nil_of_length_eq_zero (by simpa using hA.nl)
    subst hn
    have hrun := run_append_fits' (P := P) (ty := ty) hT (base := a) (sLen := 0) (sCap := 0) (n := 0) (hA.len M.w) (by simpa using hA.get) (Nat.le_refl _) (w' := M.w) (by cases a <;> rfl)
    obtain ⟨s, r⟩ := mem_virtual hM nx hnx sz 0
    refine ⟨_, ⟨M.w, M.H.put nx (.arr sz 0 []), putβ M.β nx none⟩, hrun, s, r, rfl, .ref nx 0 0 0 _ (.inr rfl) ⟨_, _, rfl⟩ fun blk hblk => ?_⟩
    simp only [AH.put, if_true, Option.some.injEq] at hblk
    subst hblk
    exact ⟨Nat.le_refl _, fun _ => ⟨a, 0, rfl, by simp, by simp, by simp [IBlk.len], .inl rfl⟩⟩
  · have s1 := MStep.drew M
    have hM1 := hM.drew
    obtain ⟨news, hA⟩ := iapp_sound (P := P) hx hM1 hR (hvx.step s1)
    obtain ⟨_, hA0⟩ := iapp_sound (P := P) hx hM hR hvx
    have hrun := run_append_grows' (P := P) (ty := ty) hT (base := a) (sLen := 0) (sCap := 0) (n := rx.length) (w := M.w) (olds := []) (hA0.len M.w)
      (by cases a <;> simp [Builtin.firstCells, loadCells, loadCellsFrom]) hA.get (by omega) (by unfold maxLen; omega) (by simpa using hby)
    simp only [Nat.zero_add] at hrun
    have hge := grownCap_ge M.w rx.length 0 e
    have hmx := grownCap_le_maxLen M.w rx.length 0 e (by unfold maxLen; omega)
    have hzl : z.cells.size = sz := by rw [hT.zcl]; exact hT.zl
    generalize grownCap M.w rx.length 0 e = C at *
    obtain ⟨s2, r2⟩ := mem_new hM1 nx hnx sz 0 C rx (⟨[]⟩ ++ ⟨news⟩ ++ Builtin.zeroCells z.cells (C - rx.length)) e
      hA.wid hge hmx (by
        simp only [Array.size_append, List.size_toArray, List.length_nil, Nat.zero_add, hA.nl, size_zeroCells, hzl, ← Nat.add_mul]
        exact Nat.mul_le_mul_right _ (by omega)) (by
        intro i' row j y hi hj
        obtain ⟨u, u1, u2, u3⟩ := hA.rel i' row j y hi hj
        refine ⟨u, ?_, u2, u3⟩
        have hlt := lt_of_get u1
        rw [Array.getElem?_append]
        simp only [Array.size_append, List.size_toArray, List.length_nil, Nat.zero_add, hlt, if_true]
        rw [Array.getElem?_append]
        simpa using u1)
    refine ⟨_, ⟨_, _, _⟩, hrun, s1.trans s2, r2, rfl, .ref nx 0 0 rx.length _ (.inr rfl) ⟨_, _, rfl⟩ fun blk hblk => ?_⟩
    simp only [AH.put, if_true, Option.some.injEq] at hblk
    subst hblk
    exact ⟨Nat.le_refl _, fun _ => ⟨_, _, rfl, hge, by simp [IBlk.len], by simp [IBlk.len]; exact hge, .inr ⟨M.w.heap.size, 0, C, by simp [putβ], by simp, by omega⟩⟩⟩

/-- Onto a slice of the call's own. -/
theorem app_own {t1 t2 ty e : TypeId} {sz by_ : Nat} {zs : List Value} {i : TypeInfo} {z : Value} (hT : AppTy P t1 t2 e sz by_ zs i z)
    {M : Mem} (hM : MRel M) {b g off len : Nat} {v x : Value} {rs rx : List (List IV)} {zx : IV} {Rs Rx : List (Nat × IBlk)}
    (hs : irows G sz (.ref b g off len) = some (rs, Rs)) (hRs : ∀ p ∈ Rs, M.H.G p.1 = some p.2) (hv : VRel M (.ref b g off len) v)
    (hx : iapp G sz zx = some (rx, Rx)) (hR : ∀ p ∈ Rx, M.H.G p.1 = some p.2) (hvx : VRel M zx x)
    (hby : (rs.length + rx.length) * by_ ≤ 140737488355328) (h63 : rs.length + rx.length ≤ 9223372036854775807) :
    ∃ v' M', (Builtin.append_ #[t1, t2] ty #[v, x]).run P M.w = .ok v' M'.w ∧ MStep M M' ∧ MRel M' ∧ M'.H = M.H.put b (.arr sz (g + 1) (rs ++ rx)) ∧
      VRel M' (.ref b (g + 1) 0 (rs.length + rx.length)) v' := by
  obtain ⟨rows, hG, hrs, hRs'⟩ : ∃ rows, G b = some (.arr sz g rows) ∧ rs = (rows.drop off).take len ∧ Rs = [(b, .arr sz g rows)] := by
    unfold irows at hs
    simp only at hs
    split at hs
    · rename_i s g' rows hb
      split at hs
      · rename_i hg
        obtain ⟨rfl, rfl⟩ := hg
        simp only [Option.some.injEq, Prod.mk.injEq] at hs
        exact ⟨rows, hb, hs.1.symm, hs.2.symm⟩
      · cases hs
    · cases hs
  have hb : M.H.G b = some (.arr sz g rows) := hRs (b, _) (by simp [hRs'])
  have hbr := hM.blk b _ hb
  obtain ⟨a, cap, ev, h1, h2, h3, h4⟩ := hv.ref_inv hb rfl
  simp only [IBlk.len, IBlk.sz] at h2 h3 h4
  have hlen : rs.length = len := by rw [hrs, List.length_take, List.length_drop]; omega
  have hzl : z.cells.size = sz := by rw [hT.zcl]; exact hT.zl
  have wids : ∀ row ∈ rs, row.length = sz := fun row hrow => hbr.1 row (by rw [hrs] at hrow; exact List.mem_of_mem_drop (List.mem_of_mem_take hrow))
  subst ev
  by_cases hfit : len + rx.length ≤ cap
  · -- there is room
    obtain ⟨news, hA⟩ := iapp_sound (P := P) hx hM hR hvx
    have wid : ∀ row ∈ rs ++ rx, row.length = sz := by
      intro row hrow
      rcases List.mem_append.1 hrow with h | h
      · exact wids row h
      · exact hA.wid row h
    rcases h4 with h4 | ⟨c, o', n, hβ, ea, h5⟩
    · -- no capacity at all
      subst h4
      have e1 : len = 0 := by omega
      have e2 : rx = [] := List.eq_nil_of_length_eq_zero (by omega)
      have e3 : rs = [] := List.eq_nil_of_length_eq_zero (by omega)
      subst e2
      have hn : news = [] := List.eq_nil_of_length_eq_zero (by simpa using hA.nl)
      subst hn
      have hrun := run_append_fits' (P := P) (ty := ty) hT (base := a) (sLen := len) (sCap := 0) (n := 0) (hA.len M.w) (by simpa using hA.get) (by omega) (w' := M.w) (by cases a <;> rfl)
      obtain ⟨s, r⟩ := mem_void hM hb (g + 1) (by omega)
      refine ⟨_, ⟨M.w, M.H.put b (.arr sz (g + 1) []), putβ M.β b none⟩, hrun, s, r, by rw [e3]; rfl, ?_⟩
      rw [e3]
      refine .ref b (g + 1) 0 0 _ (.inr rfl) ⟨_, _, by rw [e1]⟩ fun blk hblk => ?_
      simp only [AH.put, if_true, Option.some.injEq] at hblk
      subst hblk
      exact ⟨Nat.le_refl _, fun _ => ⟨a, 0, by rw [e1], by simp, by simp, by simp [IBlk.len], .inl rfl⟩⟩
    · subst ea
      obtain ⟨cur, tyb, q1, q2, q3, q4, q5⟩ := hbr.2.2 c o' n hβ
      have hnl := hA.nl
      have hwin : o' + off * sz + (n - off) * sz ≤ cur.size := by
        have : off * sz + (n - off) * sz = n * sz := by rw [← Nat.add_mul]; congr 1; omega
        omega
      have hk : (off * sz + len * sz) + news.length ≤ n * sz := by
        rw [hnl, ← Nat.add_mul, ← Nat.add_mul]
        exact Nat.mul_le_mul_right _ (by omega)
      have hst := run_storeCells_at P c (o' + off * sz + len * sz) tyb news 0 cur M.w q1 (by omega) hA.one
      simp only [Nat.add_zero] at hst
      have hrun := run_append_fits' (P := P) (ty := ty) hT (base := some ⟨c, o' + off * sz, none⟩) (sLen := len) (sCap := cap) (n := rx.length) (hA.len M.w) hA.get hfit
        (w' := M.w.setRow c (cur.toList.take (o' + off * sz + len * sz) ++ news ++ cur.toList.drop (o' + off * sz + len * sz + news.length)).toArray) (by simp only [add_none]; exact hst)
      have hcl : cur.toList.length = cur.size := Array.length_toList
      obtain ⟨s, r⟩ := mem_chg hM hb hβ q1 (g + 1) (o' + off * sz) (n - off) (rs ++ rx)
        (cur.toList.take (o' + off * sz + len * sz) ++ news ++ cur.toList.drop (o' + off * sz + len * sz + news.length)).toArray
        (by omega) (fun e => absurd e (by omega)) wid (by rw [List.length_append]; omega) (by omega) (by
          simp only [List.size_toArray, List.length_append, List.length_take, List.length_drop]; omega) (by
          refine app_cells ?_ ?_
          · intro i' row j y hi hj
            have hil := lt_of_get hi
            have hjl := lt_of_get hj
            rw [wids row (List.mem_of_getElem? hi)] at hjl
            rw [hrs, List.getElem?_take, if_pos (by omega), List.getElem?_drop] at hi
            obtain ⟨u, u1, u2, u3⟩ := q5 _ row j y hi hj
            refine ⟨u, ?_, u2, u3⟩
            have hlt : i' * sz + j < len * sz := flat_lt (by omega) hjl
            rw [List.getElem?_toArray, List.append_assoc, List.getElem?_append, List.length_take, if_pos (by omega), List.getElem?_take, if_pos (by omega), Array.getElem?_toList, ← u1]
            congr 1
            rw [Nat.add_mul]; omega
          · intro i' row j y hi hj
            obtain ⟨u, u1, u2, u3⟩ := hA.rel i' row j y hi hj
            refine ⟨u, ?_, u2, u3⟩
            have hlt := lt_of_get u1
            rw [hlen, List.getElem?_toArray, List.getElem?_append, List.length_append, List.length_take, if_pos (by omega), List.getElem?_append, List.length_take, if_neg (by omega), ← u1]
            congr 1
            omega)
      refine ⟨_, ⟨_, _, _⟩, hrun, s, r, rfl, ?_⟩
      rw [hlen]
      refine .ref b (g + 1) 0 (len + rx.length) _ (.inr rfl) ⟨_, _, rfl⟩ fun blk hblk => ?_
      simp only [AH.put, if_true, Option.some.injEq] at hblk
      subst hblk
      exact ⟨Nat.le_refl _, fun _ => ⟨_, cap, rfl, hfit, by simp [IBlk.len]; omega, by simp [IBlk.len]; omega, .inr ⟨c, o' + off * sz, n - off, by simp [putβ], by simp, by omega⟩⟩⟩
  · -- it moves
    have s1 := MStep.drew M
    have hM1 := hM.drew
    obtain ⟨news, hA⟩ := iapp_sound (P := P) hx hM1 hR (hvx.step s1)
    obtain ⟨_, hA0⟩ := iapp_sound (P := P) hx hM hR hvx
    obtain ⟨a', cap', f, hB⟩ := irows_sound (P := P) hs hM1 hRs (hv.step s1)
    have hB := hB.arg
    generalize (List.range (rs.length * sz)).map f = olds at hB
    have wid : ∀ row ∈ rs ++ rx, row.length = sz := by
      intro row hrow
      rcases List.mem_append.1 hrow with h | h
      · exact wids row h
      · exact hA.wid row h
    have hold := hB.get
    rw [hlen] at hold hby h63
    have hrun := run_append_grows' (P := P) (ty := ty) hT (base := a) (sLen := len) (sCap := cap) (n := rx.length) (w := M.w) (olds := olds) (hA0.len M.w)
      hold hA.get (by omega) (by unfold maxLen; omega) hby
    have hge := grownCap_ge M.w (len + rx.length) cap e
    have hmx := grownCap_le_maxLen M.w (len + rx.length) cap e (by unfold maxLen; omega)
    generalize grownCap M.w (len + rx.length) cap e = C at *
    have hol := hB.nl
    have hnl := hA.nl
    rw [hlen] at hol
    obtain ⟨s2, r2⟩ := mem_renew hM1 hb (g + 1) C (rs ++ rx) (⟨olds⟩ ++ ⟨news⟩ ++ Builtin.zeroCells z.cells (C - (len + rx.length))) e
      (by omega) wid (by rw [List.length_append]; omega) hmx (by
        simp only [Array.size_append, List.size_toArray, hol, hnl, size_zeroCells, hzl, ← Nat.add_mul]
        exact Nat.mul_le_mul_right _ (by omega)) (by
        have key := app_cells (M := { M with w := M.w.drew }) (rs := rs) (rx := rx) (sz := sz) (o' := 0) (a := ⟨olds⟩ ++ ⟨news⟩ ++ Builtin.zeroCells z.cells (C - (len + rx.length)))
          (by
            intro i' row j y hi hj
            obtain ⟨u, u1, u2, u3⟩ := hB.rel i' row j y hi hj
            refine ⟨u, ?_, u2, u3⟩
            have hlt := lt_of_get u1
            rw [Nat.zero_add, Array.getElem?_append, if_pos (by simp only [Array.size_append, List.size_toArray]; omega), Array.getElem?_append, if_pos (by simpa using hlt)]
            simpa using u1)
          (by
            intro i' row j y hi hj
            obtain ⟨u, u1, u2, u3⟩ := hA.rel i' row j y hi hj
            refine ⟨u, ?_, u2, u3⟩
            have hlt := lt_of_get u1
            rw [Nat.zero_add, hlen, Array.getElem?_append, if_pos (by simp only [Array.size_append, List.size_toArray]; omega), Array.getElem?_append, if_neg (by simp only [List.size_toArray]; omega)]
            simp only [List.size_toArray, List.getElem?_toArray]
            rw [← u1]; congr 1; omega)
        intro i' row j y hi hj
        have := key i' row j y hi hj
        simpa using this)
    refine ⟨_, ⟨_, _, _⟩, hrun, s1.trans s2, r2, rfl, ?_⟩
    rw [hlen]
    refine .ref b (g + 1) 0 (len + rx.length) _ (.inr rfl) ⟨_, _, rfl⟩ fun blk hblk => ?_
    simp only [AH.put, if_true, Option.some.injEq] at hblk
    subst hblk
    exact ⟨Nat.le_refl _, fun _ => ⟨_, _, rfl, hge, by simp [IBlk.len]; omega, by simp [IBlk.len]; omega, .inr ⟨M.w.heap.size, 0, C, by simp [putβ], by simp, by omega⟩⟩⟩

theorem f_app {t1 t2 : TypeId} {s x : Operand} {zs zx : IV} {nx : Nat} {fr : FR} (ho : o.op = .call { callee := .builtin .append, args := #[s, x], argTypes := #[t1, t2] })
    (hs : ρ s = some zs) (hx : ρ x = some zx) (h : fapp P G nx t1 t2 zs zx = some fr) : fr.ok P o ρ := by
  unfold fapp at h
  have fin : ∀ (M : Mem) (a : Act) v M', (Builtin.append_ #[t1, t2] o.type #[a.eval s, a.eval x]).run P M.w = .ok v (M' : Mem).w → (execOp a.eval o).run P M.w = .ok (.value v) M'.w := by
    intro M a v M' hrun
    simp only [execOp, ho, resolve, invoke, builtin, Sem.run_bind, Sem.run_pure, Result.andThen_ok, List.map_toArray, List.map_cons, List.map_nil, hrun]
  split at h
  · rename_i e sz by_ zz hT
    obtain ⟨i, z, hT⟩ := appTy_inv hT
    split at h
    · rename_i rx Rx hrx
      split at h
      · split at h
        · rename_i hc
          simp only [Option.some.injEq] at h; subst h
          refine .does fun M a hM hR hF hr => ?_
          have e1 := (hr s (by simp [ho, Op.operands, Call.operands]) _ hs).sc_inv
          obtain ⟨v, M', g1, g2, g3, g4, g5⟩ := app_new (P := P) (ty := o.type) hT hM (hF nx (by simp)) (a := none) hrx hR (hr x (by simp [ho, Op.operands, Call.operands]) _ hx) hc.1 hc.2
          exact ⟨v, M', fin M a v M' (by rw [e1]; exact g1), g2, g3, g4, g5⟩
        · cases h
      · split at h
        · rename_i hc
          simp only [Option.some.injEq] at h; subst h
          refine .does fun M a hM hR hF hr => ?_
          have hv := hr s (by simp [ho, Op.operands, Call.operands]) _ hs
          generalize hq : a.eval s = q at hv
          cases hv with
          | p y v h =>
            cases h with
            | emp a0 =>
              obtain ⟨v, M', g1, g2, g3, g4, g5⟩ := app_new (P := P) (ty := o.type) hT hM (hF nx (by simp)) (a := a0) hrx hR (hr x (by simp [ho, Op.operands, Call.operands]) _ hx) hc.1 hc.2
              exact ⟨v, M', fin M a v M' (by rw [hq]; exact g1), g2, g3, g4, g5⟩
        · cases h
      · rename_i b g off len
        split at h
        · rename_i rs Rs hrs
          split at h
          · rename_i hc
            simp only [Option.some.injEq] at h; subst h
            refine .does fun M a hM hR hF hr => ?_
            obtain ⟨v, M', g1, g2, g3, g4, g5⟩ := app_own (P := P) (ty := o.type) hT hM hrs (fun p hp => hR p (List.mem_append.2 (.inl hp))) (hr s (by simp [ho, Op.operands, Call.operands]) _ hs)
              hrx (fun p hp => hR p (List.mem_append.2 (.inr hp))) (hr x (by simp [ho, Op.operands, Call.operands]) _ hx) hc.1 hc.2
            exact ⟨v, M', fin M a v M' g1, g2, g3, g4, g5⟩
          · cases h
        · cases h
      · cases h
    · cases h
  · cases h

end Go.Idl
