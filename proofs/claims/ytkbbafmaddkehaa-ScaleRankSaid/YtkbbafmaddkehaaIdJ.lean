/-
  copy; structs, arrays and slices that are written out.
-/
import Derived.Test.YtkbbafmaddkehaaIdI
namespace Go.Idl
variable {P : Program} {o : Oper} {ρ : Operand → Option IV} {G : Nat → Option IBlk}

/-! ### copy -/
def fcopy (P : Program) (G : Nat → Option IBlk) (t1 : TypeId) (d x : IV) : Option FR :=
  match (tel P t1).bind (tsz P ·) with
  | some sz => match d with
    | .ref b g off len => match G b, iapp G sz x with
      | some (.arr s g' rows), some (rx, Rx) =>
        if g = g' ∧ s = sz then
          some { x := sci .i64 (Nat.min rx.length len), R := (b, .arr s g' rows) :: Rx,
                 W := [(b, .arr s g (rows.take off ++ rx.take (Nat.min rx.length len) ++ rows.drop (off + Nat.min rx.length len)))] }
        else none
      | _, _ => none
    | _ => none
  | none => none

theorem run_copy' {t1 e ty : TypeId} {sz : Nat} (he : tel P t1 = some e) (hs : tsz P e = some sz) {ts : Array TypeId} (ht : ts[0]? = some t1) {base : Option Addr} {dLen dCap n : Nat} {x : Value} {news : List Value} {w w' : World}
    (hl : (Builtin.lenOf x).run P w = .ok n w) (hg : (Builtin.firstCells sz (Nat.min n dLen) x).run P w = .ok ⟨news⟩ w)
    (hst : match base with | some a => (storeCells a news).run P w = .ok () w' | none => w' = w) :
    (Builtin.copy_ ts ty #[.slice base dLen dCap, x]).run P w = .ok (goInt (Nat.min n dLen)) w' := by
  unfold Builtin.copy_
  simp only [ht, List.getElem?_toArray, List.getElem?_cons_zero, List.getElem?_cons_succ, Sem.run_bind, run_underlying (und_tel he), Result.andThen_ok, hl, run_sizeOf' hs, hg]
  cases base with
  | none => simp only at hst; subst hst; rfl
  | some a => simp only at hst; simp only [Sem.run_bind, hst, Result.andThen_ok, Sem.run_pure]

theorem f_copy {ts : Array TypeId} {t1 : TypeId} {d x : Operand} {zd zx : IV} {fr : FR} (ho : o.op = .call { callee := .builtin .copy, args := #[d, x], argTypes := ts }) (ht : ts[0]? = some t1)
    (hd : ρ d = some zd) (hx : ρ x = some zx) (h : fcopy P G t1 zd zx = some fr) : fr.ok P o ρ := by
  unfold fcopy at h
  split at h
  · rename_i sz hsz
    obtain ⟨e, he, hs⟩ := tel_tsz hsz
    split at h
    · rename_i b g off len
      split at h
      · rename_i s g' rows rx Rx hG hrx
        split at h
        · rename_i hg
          obtain ⟨rfl, rfl⟩ := hg
          simp only [Option.some.injEq] at h; subst h
          refine .does fun M a hM hR _ hr => ?_
          have hb : M.H.G b = some (.arr s g rows) := hR (b, _) (by simp)
          have hbr := hM.blk b _ hb
          obtain ⟨a0, cap, ev, h1, h2, h3, h4⟩ := (hr d (by simp [ho, Op.operands, Call.operands]) _ hd).ref_inv hb rfl
          simp only [IBlk.len, IBlk.sz] at h2 h3 h4
          obtain ⟨news, hA⟩ := iapp_sound (P := P) hrx hM (fun p hp => hR p (List.mem_cons_of_mem _ hp)) (hr x (by simp [ho, Op.operands, Call.operands]) _ hx)
          have hmin : Nat.min rx.length len ≤ rx.length := Nat.min_le_left _ _
          have hmin2 : Nat.min rx.length len ≤ len := Nat.min_le_right _ _
          generalize hm : Nat.min rx.length len = m at *
          have hnl := hA.nl
          have hmul : m * s ≤ rx.length * s := Nat.mul_le_mul_right _ hmin
          have fin : ∀ w', (Builtin.copy_ ts o.type #[a.eval d, a.eval x]).run P M.w = .ok (goInt m) w' → (execOp a.eval o).run P M.w = .ok (.value (.int .i64 m)) w' := by
            intro w' hrun
            simp only [execOp, ho, resolve, invoke, builtin, Sem.run_bind, Sem.run_pure, Result.andThen_ok, List.map_toArray, List.map_cons, List.map_nil, hrun, goInt]
          have widr : ∀ row ∈ rows.take off ++ rx.take m ++ rows.drop (off + m), row.length = s := by
            intro row hrow
            simp only [List.mem_append] at hrow
            rcases hrow with (h | h) | h
            · exact hbr.1 row (List.mem_of_mem_take h)
            · exact hA.wid row (List.mem_of_mem_take h)
            · exact hbr.1 row (List.mem_of_mem_drop h)
          have hlen : (rows.take off ++ rx.take m ++ rows.drop (off + m)).length = rows.length := by
            simp only [List.length_append, List.length_take, List.length_drop]; omega
          rcases h4 with h4 | ⟨c, o', n, hβ, ea, h5⟩
          · -- nothing is copied
            have hm0 : m = 0 := by omega
            subst hm0
            have hsame : rows.take off ++ rx.take 0 ++ rows.drop (off + 0) = rows := by simp
            rw [hsame]
            have hpre := hA.pre 0 (Nat.zero_le _)
            simp only [Nat.zero_mul, List.take_zero] at hpre
            have hrun := run_copy' (P := P) (ty := o.type) he hs ht (base := a0) (dLen := len) (dCap := cap) (w' := M.w) (hA.len M.w) (by rw [hm]; exact hpre) (by cases a0 <;> rfl)
            rw [hm] at hrun
            refine ⟨_, ⟨M.w, M.H.put b (.arr s g rows), M.β⟩, fin M.w (by rw [ev]; exact hrun), ?_⟩
            have hHG : (M.H.put b (.arr s g rows)).G = M.H.G := by funext k; simp only [AH.put]; split <;> simp_all
            have hHA : (M.H.put b (.arr s g rows)).A = M.H.A := by
              funext k
              simp only [AH.put]
              exact propext ⟨fun h => h.elim id (fun e => e ▸ hM.dom b _ hb), .inl⟩
            have hH : M.H.put b (.arr s g rows) = M.H := by
              have hHO : (M.H.put b (.arr s g rows)).O = M.H.O := rfl
              show AH.mk _ _ _ = _
              cases hMH : M.H with
              | mk A G' O' =>
                rw [hMH] at hHG hHA hHO
                exact AH.mk.injEq .. ▸ ⟨hHA, hHG, hHO⟩
            have hMM : (⟨M.w, M.H.put b (.arr s g rows), M.β⟩ : Mem) = M := by rw [hH]
            rw [hMM]
            exact ⟨.refl M, hM, by rw [upd_one, hH], .sc M _⟩
          · subst ea
            obtain ⟨cur, tyb, q1, q2, q3, q4, q5⟩ := hbr.2.2 c o' n hβ
            have hk : off * s + m * s ≤ n * s := by
              rw [← Nat.add_mul]; exact Nat.mul_le_mul_right _ (by omega)
            have htl : (news.take (m * s)).length = m * s := by rw [List.length_take]; omega
            have hst := run_storeCells_at P c (o' + off * s) tyb (news.take (m * s)) 0 cur M.w q1 (by omega) (fun u hu => hA.one u (List.mem_of_mem_take hu))
            simp only [Nat.add_zero, htl] at hst
            have hrun := run_copy' (P := P) (ty := o.type) he hs ht (base := some ⟨c, o' + off * s, none⟩) (dLen := len) (dCap := cap)
              (w' := M.w.setRow c (cur.toList.take (o' + off * s) ++ news.take (m * s) ++ cur.toList.drop (o' + off * s + m * s)).toArray) (hA.len M.w) (by rw [hm]; exact hA.pre m hmin) hst
            rw [hm] at hrun
            have hcl : cur.toList.length = cur.size := Array.length_toList
            obtain ⟨st, r⟩ := mem_chg hM hb hβ q1 g o' n (rows.take off ++ rx.take m ++ rows.drop (off + m))
              (cur.toList.take (o' + off * s) ++ news.take (m * s) ++ cur.toList.drop (o' + off * s + m * s)).toArray
              (Nat.le_refl _) (fun _ => ⟨rfl, rfl, hlen⟩) widr (by rw [hlen]; exact q2) q3 (by
                simp only [List.size_toArray, List.length_append, List.length_take, List.length_drop, htl]; omega) (by
                intro i row j y hi hj
                have hjl := lt_of_get hj
                rw [widr row (List.mem_of_getElem? hi)] at hjl
                rw [List.getElem?_append, List.length_append, List.length_take, List.length_take, Nat.min_eq_left (show off ≤ rows.length by omega), Nat.min_eq_left hmin] at hi
                split at hi
                · rw [List.getElem?_append, List.length_take, Nat.min_eq_left (show off ≤ rows.length by omega)] at hi
                  split at hi
                  · rename_i g1 g2
                    rw [List.getElem?_take, if_pos g2] at hi
                    obtain ⟨u, u1, u2, u3⟩ := q5 i row j y hi hj
                    refine ⟨u, ?_, u2, u3⟩
                    have hlt := flat_lt (sz := s) g2 hjl
                    rw [List.getElem?_toArray, List.append_assoc, List.getElem?_append, List.length_take, if_pos (by omega), List.getElem?_take, if_pos (by omega), Array.getElem?_toList]
                    exact u1
                  · rename_i g1 g2
                    rw [List.getElem?_take, if_pos (by omega)] at hi
                    obtain ⟨u, u1, u2, u3⟩ := hA.rel _ row j y hi hj
                    refine ⟨u, ?_, u2, u3⟩
                    have hlt : (i - off) * s + j < m * s := flat_lt (by omega) hjl
                    have e : i * s = off * s + (i - off) * s := by rw [← Nat.add_mul]; congr 1; omega
                    rw [List.getElem?_toArray, List.getElem?_append, List.length_append, List.length_take, htl, if_pos (by omega), List.getElem?_append, List.length_take, if_neg (by omega),
                      List.getElem?_take, if_pos (by omega), ← u1]
                    congr 1; omega
                · rename_i g1
                  rw [List.getElem?_drop] at hi
                  rw [show off + m + (i - (off + m)) = i by omega] at hi
                  obtain ⟨u, u1, u2, u3⟩ := q5 i row j y hi hj
                  refine ⟨u, ?_, u2, u3⟩
                  have hle : (off + m) * s ≤ i * s := Nat.mul_le_mul_right _ (by omega)
                  rw [Nat.add_mul] at hle
                  rw [List.getElem?_toArray, List.getElem?_append, List.length_append, List.length_take, htl, if_neg (by omega), List.getElem?_drop, Array.getElem?_toList, ← u1]
                  congr 1; omega)
            have hββ : putβ M.β b (some (c, o', n)) = M.β := by funext k; simp only [putβ]; split <;> simp_all
            rw [hββ] at st r
            exact ⟨_, ⟨_, _, M.β⟩, fin _ (by rw [ev]; exact hrun), st, r, rfl, .sc _ _⟩
        · cases h
      · cases h
    · cases h
  · cases h

/-! ### structs and arrays that are written out -/
/-- The places of a struct's fields: offset and size. -/
def tpl (P : Program) (t : TypeId) : Option (List (Nat × Nat)) :=
  match P.underlying t with
  | some (.struct fs) => fs.toList.mapM fun f => (P.info? f.type).map fun i => (f.offset, i.size)
  | _ => none

def iset (off : Nat) : List IV → Nat → List IV → List IV
  | [], _, cs => cs
  | x :: r, j, cs => iset off r (j + 1) (cs.set (off + j) x)
def ifill (place : Nat → Option (Nat × Nat)) (cs : List IV) : List (Nat × IV) → Option (List IV)
  | [] => some cs
  | (i, x) :: rest => match place i, icells x with
    | some (off, size), some xs => if xs.length = size ∧ off + size ≤ cs.length then ifill place (iset off xs 0 cs) rest else none
    | _, _ => none

def fbuild (P : Program) (t : TypeId) (parts : List (Nat × IV)) : Option FR :=
  match tze P t with
  | some zs => if zs.all (·.oneCell') then
      match tpl P t, tar P t with
      | some pl, _ => (ifill (pl[·]?) (zcs zs) parts).map fun cs => { x := .agg cs }
      | none, some (_, e) => match tsz P e with
        | some n => (ifill (fun i => some (i * n, n)) (zcs zs) parts).map fun cs => { x := .agg cs }
        | none => none
      | _, _ => none
    else none
  | none => none

theorem CellsAre.set {M : Mem} {cs : List IV} {vs : List Value} (h : CellsAre M cs vs) (k : Nat) {x : IV} {v : Value} (h1 : v.oneCell' = true) (hv : VRel M x v) : CellsAre M (cs.set k x) (vs.set k v) := by
  refine ⟨by simp [h.len], fun u hu => ?_, fun i y u hi hu => ?_⟩
  · rcases List.mem_or_eq_of_mem_set hu with h' | h'
    · exact h.one u h'
    · subst h'; exact h1
  · rw [List.getElem?_set] at hi hu
    split at hi
    · rename_i e
      rw [if_pos e] at hu
      split at hi
      · split at hu
        · cases hi; cases hu; exact hv
        · cases hu
      · cases hi
    · rename_i e
      rw [if_neg e] at hu
      exact h.rel i y u hi hu

/-- The model's way to lay a part among the cells. -/
def vset (off : Nat) : List Value → Nat → List Value → List Value
  | [], _, cs => cs
  | x :: r, j, cs => vset off r (j + 1) (cs.set (off + j) x)
theorem vset_are {M : Mem} (off : Nat) : ∀ {xs : List IV} {us : List Value} (j : Nat) {cs : List IV} {vs : List Value}, CellsAre M xs us → CellsAre M cs vs → CellsAre M (iset off xs j cs) (vset off us j vs)
  | [], us, j, cs, vs, hx, h => by
    have : us = [] := List.eq_nil_of_length_eq_zero (by simpa using hx.len)
    subst this; exact h
  | x :: xs, us, j, cs, vs, hx, h => by
    cases us with
    | nil => have := hx.len; simp at this
    | cons u us =>
      have h0 := hx.rel 0 x u rfl rfl
      have h1 := hx.one u (by simp)
      exact vset_are off (j + 1) ⟨by simpa using hx.len, fun v hv => hx.one v (List.mem_cons_of_mem _ hv), fun i y v hi hv => hx.rel (i + 1) y v (by simpa using hi) (by simpa using hv)⟩ (h.set _ h1 h0)
theorem fold_vset (off : Nat) : ∀ (us : List Value) (j : Nat) (a : Array Value), ((us.zipIdx j).foldl (fun cs p => cs.setIfInBounds (off + p.2) p.1) a) = ⟨vset off us j a.toList⟩
  | [], j, a => by simp [vset]
  | u :: us, j, a => by
    simp only [List.zipIdx_cons, List.foldl_cons, vset]
    rw [fold_vset off us (j + 1)]
    simp
theorem vset_len (off : Nat) : ∀ (us : List Value) (j : Nat) (cs : List Value), (vset off us j cs).length = cs.length
  | [], _, _ => rfl
  | u :: us, j, cs => by simp only [vset]; rw [vset_len off us (j + 1)]; simp

theorem fill_are {M : Mem} {place : Nat → Option (Nat × Nat)} : ∀ {ps : List (Nat × IV)} {us : List (Nat × Value)} {cs cs' : List IV} {vs : List Value}, ifill place cs ps = some cs' → us.length = ps.length →
    (∀ (k : Nat) p u, ps[k]? = some p → us[k]? = some u → u.1 = p.1 ∧ VRel M p.2 u.2) → CellsAre M cs vs → ∃ vs' : List Value, Instr.fill place ⟨vs⟩ us = some ⟨vs'⟩ ∧ CellsAre M cs' vs'
  | [], us, cs, cs', vs, h, hl, _, hc => by
    have : us = [] := List.eq_nil_of_length_eq_zero (by simpa using hl)
    subst this
    simp only [ifill, Option.some.injEq] at h; subst h
    exact ⟨vs, rfl, hc⟩
  | (i, x) :: ps, us, cs, cs', vs, h, hl, hr, hc => by
    cases us with
    | nil => simp at hl
    | cons u us =>
      obtain ⟨e1, hv⟩ := hr 0 (i, x) u rfl rfl
      unfold ifill at h
      split at h
      · rename_i off size xs hp hx
        split at h
        · rename_i hcd
          obtain ⟨ws, hw, hA⟩ := cells_of hx hv
          obtain ⟨vs', g1, g2⟩ := fill_are (us := us) (vs := vset off ws 0 vs) h (by simpa using hl) (fun k p v hp hv => hr (k + 1) p v (by simpa using hp) (by simpa using hv)) (vset_are off 0 hA hc)
          refine ⟨vs', ?_, g2⟩
          obtain ⟨ui, uv⟩ := u
          simp only at e1 hw
          subst e1
          have hwl := hA.len
          have hcl := hc.len
          unfold Instr.fill
          simp only [hp, hw, List.size_toArray]
          rw [if_neg (by simp; omega)]
          rw [← g1]
          congr 1
          rw [show (⟨ws⟩ : Array Value).zipIdx = (ws.zipIdx).toArray from by simp]
          rw [← Array.foldl_toList]
          have := fold_vset off ws 0 ⟨vs⟩
          simpa using this
        · cases h
      · cases h

/-- The operands of a build with their values. -/
def rparts (ρ : Operand → Option IV) : List (Nat × Operand) → Option (List (Nat × IV))
  | [] => some []
  | (i, y) :: r => match ρ y, rparts ρ r with
    | some z, some zs => some ((i, z) :: zs)
    | _, _ => none
theorem rparts_rel {M : Mem} {a : Act} : ∀ {ps : List (Nat × Operand)} {zs : List (Nat × IV)}, rparts ρ ps = some zs → (∀ p ∈ ps, ∀ z, ρ p.2 = some z → VRel M z (a.eval p.2)) →
    (ps.map fun p => (p.1, a.eval p.2)).length = zs.length ∧ ∀ (k : Nat) p u, zs[k]? = some p → (ps.map fun p => (p.1, a.eval p.2))[k]? = some u → u.1 = p.1 ∧ VRel M p.2 u.2
  | [], zs, h, _ => by simp only [rparts, Option.some.injEq] at h; subst h; simp
  | (i, y) :: r, zs, h, hr => by
    unfold rparts at h
    split at h
    · rename_i z zs' hz hzs
      simp only [Option.some.injEq] at h; subst h
      obtain ⟨h1, h2⟩ := rparts_rel (M := M) (a := a) hzs fun p hp => hr p (List.mem_cons_of_mem _ hp)
      refine ⟨by simp at h1 ⊢; exact h1, fun k p u hp hu => ?_⟩
      cases k with
      | zero => simp at hp hu; subst hp; subst hu; exact ⟨rfl, hr (i, y) (by simp) z hz⟩
      | succ k => exact h2 k p u (by simpa using hp) (by simpa using hu)
    · cases h

theorem f_build {t : TypeId} {parts : List (Nat × Operand)} {zs : List (Nat × IV)} {fr : FR} (ho : o.op = .build t ⟨parts⟩) (hz : rparts ρ parts = some zs) (h : fbuild P t zs = some fr) : fr.ok P o ρ := by
  unfold fbuild at h
  split at h
  · rename_i zv hzv
    split at h
    · rename_i h1
      have hzv' := hzv
      unfold tze at hzv'
      cases hi : P.info? t with
      | none => simp [hi] at hzv'
      | some it =>
        cases hiz : it.zero with
        | none => simp [hi, hiz] at hzv'
        | some z =>
          simp only [hi, hiz, Option.bind_some, Option.map_some, Option.some.injEq] at hzv'
          have hzc : z.cells = ⟨zv⟩ := by rw [← hzv']
          have key : ∀ (place : Nat → Option (Nat × Nat)) (cs : List IV), ifill place (zcs zv) zs = some cs → (∀ ps cells, Instr.fill place ⟨zv⟩ ps = some cells → P.built t ps = some cells) → FDoes P o ρ [] [] (.agg cs) [] := by
            intro place cs hf hb
            refine .read fun M a _ _ hr => ?_
            obtain ⟨l1, l2⟩ := rparts_rel (M := M) (a := a) hz fun p hp => hr p.2 (by
              simp only [ho, Op.operands]; simp; exact ⟨p.1, hp⟩)
            obtain ⟨vs', g1, g2⟩ := fill_are hf l1 l2 (zcs_are M h1)
            have hrun := run_build (P := P) M.w t ⟨parts.map fun p => (p.1, a.eval p.2)⟩ ⟨vs'⟩ (hb _ _ g1)
            refine ⟨.agg ⟨vs'⟩, ?_, .agg _ _ g2.len g2.one g2.rel⟩
            simp only [execOp, ho, Sem.run_bind]
            have e : (Array.map (fun x => (x.1, a.eval x.2)) ⟨parts⟩ : Array (Nat × Value)) = ⟨parts.map fun p => (p.1, a.eval p.2)⟩ := by simp
            rw [show (Array.map (fun x : Nat × Operand => match x with | (i, x) => (i, a.eval x)) ⟨parts⟩ : Array (Nat × Value)) = ⟨parts.map fun p => (p.1, a.eval p.2)⟩ from e, hrun]
            rfl
          split at h
          · rename_i pl hpl
            cases hf : ifill (pl[·]?) (zcs zv) zs with
            | none => simp [hf] at h
            | some cs =>
              simp only [hf, Option.map_some, Option.some.injEq] at h; subst h
              refine key _ cs hf fun ps cells hfill => ?_
              unfold tpl at hpl
              split at hpl
              · rename_i fs hu
                unfold Program.built
                simp only [hi, hu, hiz, hpl, hzc]
                simpa using hfill
              · cases hpl
          · rename_i e hpl hta
            split at h
            · rename_i n hn
              cases hf : ifill (fun i => some (i * n, n)) (zcs zv) zs with
              | none => simp [hf] at h
              | some cs =>
                simp only [hf, Option.map_some, Option.some.injEq] at h; subst h
                refine key _ cs hf fun ps cells hfill => ?_
                have hu := und_tar hta
                unfold tsz at hn
                cases hie : P.info? e with
                | none => simp [hie] at hn
                | some ie =>
                  simp only [hie, Option.map_some, Option.some.injEq] at hn
                  unfold Program.built
                  simp only [hi, hu, hiz, hie, hzc, hn]
                  exact hfill
            · cases h
          · cases h
    · cases h
  · cases h

end Go.Idl
