/-
  Reslicing, builds of values, closures, min and max.
-/
import Derived.Test.YtkbbafmaddkehaaIdE
namespace Go.Idl
variable {P : Program} {o : Oper} {ρ : Operand → Option IV} {G : Nat → Option IBlk}

/-! ### slice -/
def sbd (i : Option IV) (y dflt : Nat) : Option Nat :=
  match i with
  | none => some dflt
  | some (.p (.sc (.int _ n))) => if 0 ≤ n ∧ n ≤ y then some n.toNat else none
  | _ => none

/-- The bounds of x[lo:hi], hi up to y. -/
def sbds (lo hi : Option IV) (y : Nat) : Option (Nat × Nat) :=
  match sbd hi y y with
  | some h => (sbd lo h 0).map fun l => (l, h)
  | none => none

def fslice (P : Program) (G : Nat → Option IBlk) (t : TypeId) (x : IV) (lo hi mx : Option IV) : Option FR :=
  match mx with
  | none => match x with
    | .p (.imm s rows) => match (tel P t).bind (tsz P ·), sbds lo hi rows.length with
      | some n, some (l, h) => if n = s then some { x := .p (.imm s ((rows.drop l).take (h - l))) } else none
      | _, _ => none
    | .ref b g off len => match (tel P t).bind (tsz P ·), sbds lo hi len, G b with
      | some n, some (l, h), some (.arr s g' rows) => if g = g' ∧ n = s then some { x := .ref b g (off + l) (h - l), R := [(b, .arr s g' rows)] } else none
      | _, _, _ => none
    | .p .emp => match (tel P t).bind (tsz P ·), sbds lo hi 0 with
      | some _, some _ => some { x := .p .emp }
      | _, _ => none
    | .p (.sc (.slice none 0 0)) => match (tel P t).bind (tsz P ·), sbds lo hi 0 with
      | some _, some _ => some { x := .p (.sc (.slice none 0 0)) }
      | _, _ => none
    | .p (.sc (.string s)) => match tkd P t, sbds lo hi s.size with
      | some .string, some (l, h) => some { x := .p (.sc (.string (s.extract l h))) }
      | _, _ => none
    | _ => none
  | some m => match (tel P t).bind (tsz P ·), x, sbd (some m) 0 0, sbd hi 0 1, sbd lo 0 0 with
    | some _, .p (.imm ..), some 0, some 0, some 0 | some _, .ref .., some 0, some 0, some 0 | some _, .p .emp, some 0, some 0, some 0 => some { x := .p .emp }
    | some _, .p (.sc (.slice none 0 0)), some 0, some 0, some 0 => some { x := .p (.sc (.slice none 0 0)) }
    | _, _, _, _, _ => none

theorem run_sliceBound {M : Mem} {i : IV} {v : Value} {y d k : Nat} {code : BoundsCode} (h : sbd (some i) y d = some k) (hv : VRel M i v) (z : Nat) (hz : y ≤ z) (w : World) :
    (Instr.sliceBound v z code).run P w = .ok k w ∧ k ≤ y := by
  unfold sbd at h
  split at h
  · cases ‹some i = none›
  · rename_i kd n e
    injection e with e
    subst e
    split at h
    · rename_i hc
      simp only [Option.some.injEq] at h
      have := hv.sc_inv; subst this
      refine ⟨?_, by omega⟩
      have hc' : 0 ≤ n ∧ n ≤ (z : Int) := by omega
      simp only [Instr.sliceBound, asIntOf, Sem.run_bind, Sem.run_pure, Result.andThen_ok, hc', and_self, if_true, h]
    · cases h
  · cases h

/-- x[lo:hi] with hi up to y, of something of capacity c. -/
theorem run_bounds {M : Mem} {lo hi : Option IV} {vlo vhi : Option Value} {y l h : Nat} (hb : sbds lo hi y = some (l, h)) (isS : Bool) (c : Nat) (hc : y ≤ c)
    (rlo : ∀ i, lo = some i → ∃ v, vlo = some v ∧ VRel M i v) (nlo : lo = none → vlo = none)
    (rhi : ∀ i, hi = some i → ∃ v, vhi = some v ∧ VRel M i v) (nhi : hi = none → vhi = none) (w : World) :
    (Instr.sliceBounds isS y c vlo vhi none).run P w = .ok (l, h, c) w ∧ l ≤ h ∧ h ≤ y := by
  unfold sbds at hb
  cases hh : sbd hi y y with
  | none => simp [hh] at hb
  | some h' =>
    cases hl : sbd lo h' 0 with
    | none => simp [hh, hl] at hb
    | some l' =>
      simp only [hh, hl, Option.map_some, Option.some.injEq, Prod.mk.injEq] at hb
      obtain ⟨rfl, rfl⟩ := hb
      have H1 : h' ≤ y ∧ ((vhi = none ∧ h' = y) ∨ ∃ v, vhi = some v ∧ ∀ code, (Instr.sliceBound v c code).run P w = .ok h' w) := by
        cases hi with
        | none =>
          simp only [sbd, Option.some.injEq] at hh
          exact ⟨by omega, .inl ⟨nhi rfl, hh.symm⟩⟩
        | some i =>
          obtain ⟨v, e, hv⟩ := rhi i rfl
          exact ⟨(run_sliceBound (P := P) (code := .index) hh hv c hc w).2, .inr ⟨v, e, fun code => (run_sliceBound hh hv c hc w).1⟩⟩
      have H2 : l' ≤ h' ∧ ((vlo = none ∧ l' = 0) ∨ ∃ v, vlo = some v ∧ ∀ code, (Instr.sliceBound v h' code).run P w = .ok l' w) := by
        cases lo with
        | none =>
          simp only [sbd, Option.some.injEq] at hl
          exact ⟨by omega, .inl ⟨nlo rfl, hl.symm⟩⟩
        | some i =>
          obtain ⟨v, e, hv⟩ := rlo i rfl
          exact ⟨(run_sliceBound (P := P) (code := .index) hl hv h' (Nat.le_refl _) w).2, .inr ⟨v, e, fun code => (run_sliceBound hl hv h' (Nat.le_refl _) w).1⟩⟩
      refine ⟨?_, H2.1, H1.1⟩
      unfold Instr.sliceBounds
      rcases H1.2 with ⟨e1, e2⟩ | ⟨v1, e1, e2⟩ <;> rcases H2.2 with ⟨e3, e4⟩ | ⟨v2, e3, e4⟩ <;> subst e1 <;> subst e3
      · subst e2; subst e4; rfl
      · subst e2; simp [e4]
      · subst e4; simp [e2]
      · simp [e2, e4]

theorem tel_tsz {t : TypeId} {n : Nat} (h : (tel P t).bind (tsz P ·) = some n) : ∃ e, tel P t = some e ∧ tsz P e = some n := by
  cases he : tel P t with
  | none => simp [he] at h
  | some e => exact ⟨e, rfl, by simpa [he] using h⟩

theorem run_slice_slice {t e : TypeId} {n : Nat} (he : tel P t = some e) (hn : tsz P e = some n) {a : Option Addr} {len cap l h m : Nat} {vlo vhi vmx : Option Value} {w : World}
    (hb : (Instr.sliceBounds true len cap vlo vhi vmx).run P w = .ok (l, h, m) w) :
    (Instr.sliceAt t (.slice a len cap) vlo vhi vmx).run P w = .ok (.slice (if m = l then a else a.map (·.add (l * n))) (h - l) (m - l)) w := by
  have hu := und_tel he
  simp only [Instr.sliceAt, Instr.slice, Sem.run_bind, run_underlying hu, Result.andThen_ok, hb, run_sizeOf' hn, Sem.run_pure]

/-- How the optional operands stand to their values. -/
theorem opt_rel {M : Mem} (a : Act) {x : Option Operand} {z : Option IV} (hz : ∀ y, x = some y → ∃ i, z = some i ∧ ρ y = some i) (hn : x = none → z = none)
    (hr : ∀ y, x = some y → ∀ i, ρ y = some i → VRel M i (a.eval y)) :
    (∀ i, z = some i → ∃ v, x.map a.eval = some v ∧ VRel M i v) ∧ (z = none → x.map a.eval = none) := by
  cases x with
  | none => exact ⟨fun i hi => (by rw [hn rfl] at hi; cases hi), fun _ => rfl⟩
  | some y =>
    obtain ⟨i, rfl, hy⟩ := hz y rfl
    exact ⟨fun i' hi => (by cases hi; exact ⟨_, rfl, hr y rfl i hy⟩), fun h => (by cases h)⟩

/-- The optional operand's value. -/
def ropt (ρ : Operand → Option IV) : Option Operand → Option (Option IV)
  | none => some none
  | some y => (ρ y).map some
theorem ropt_some {x : Option Operand} {z : Option IV} (h : ropt ρ x = some z) : (∀ y, x = some y → ∃ i, z = some i ∧ ρ y = some i) ∧ (x = none → z = none) := by
  cases x with
  | none => simp only [ropt, Option.some.injEq] at h; subst h; exact ⟨fun y hy => (by cases hy), fun _ => rfl⟩
  | some y =>
    cases hy : ρ y with
    | none => simp [ropt, hy] at h
    | some i => simp only [ropt, hy, Option.map_some, Option.some.injEq] at h; subst h; exact ⟨fun y' hy' => (by cases hy'; exact ⟨i, rfl, hy⟩), fun h => (by cases h)⟩

theorem f_slice {t : TypeId} {x : Operand} {lo hi mx : Option Operand} {zx : IV} {zlo zhi zmx : Option IV} {fr : FR} (ho : o.op = .slice t x lo hi mx)
    (hx : ρ x = some zx) (hlo : ropt ρ lo = some zlo) (hhi : ropt ρ hi = some zhi) (hmx : ropt ρ mx = some zmx) (h : fslice P G t zx zlo zhi zmx = some fr) : fr.ok P o ρ := by
  have ops : ∀ (M : Mem) (a : Act), (∀ y ∈ o.op.operands, ∀ z, ρ y = some z → VRel M z (a.eval y)) →
      VRel M zx (a.eval x) ∧ ((∀ i, zlo = some i → ∃ v, lo.map a.eval = some v ∧ VRel M i v) ∧ (zlo = none → lo.map a.eval = none)) ∧
      ((∀ i, zhi = some i → ∃ v, hi.map a.eval = some v ∧ VRel M i v) ∧ (zhi = none → hi.map a.eval = none)) ∧
      ((∀ i, zmx = some i → ∃ v, mx.map a.eval = some v ∧ VRel M i v) ∧ (zmx = none → mx.map a.eval = none)) := by
    intro M a hr
    refine ⟨hr x (by simp [ho, Op.operands]) _ hx, ?_, ?_, ?_⟩
    · exact opt_rel a (ropt_some hlo).1 (ropt_some hlo).2 fun y hy i hi => hr y (by simp [ho, Op.operands, hy]) i hi
    · exact opt_rel a (ropt_some hhi).1 (ropt_some hhi).2 fun y hy i hi => hr y (by simp [ho, Op.operands, hy]) i hi
    · exact opt_rel a (ropt_some hmx).1 (ropt_some hmx).2 fun y hy i hi => hr y (by simp [ho, Op.operands, hy]) i hi
  unfold fslice at h
  split at h
  · -- no third bound
    split at h
    · rename_i s rows
      split at h
      · rename_i n l hh hn hb
        split at h
        · rename_i hs
          subst hs
          simp only [Option.some.injEq] at h; subst h
          obtain ⟨e, he, hn⟩ := tel_tsz hn
          refine .read fun M a hM hR hr => ?_
          obtain ⟨hvx, ⟨l1, l2⟩, ⟨h1, h2⟩, ⟨m1, m2⟩⟩ := ops M a hr
          obtain ⟨a0, cap, c, o', e1, g1, g2, g3, g4, g5⟩ := hvx.imm_inv
          obtain ⟨hrun, hle, hle2⟩ := run_bounds (P := P) hb true cap g1 l1 l2 h1 h2 M.w
          have hrun2 := run_slice_slice (P := P) he hn (a := a0) (len := rows.length) hrun
          refine ⟨_, by simp only [execOp, ho, e1, m2 rfl]; rw [Sem.run_bind, hrun2]; rfl, ?_⟩
          have hlen : ((rows.drop l).take (hh - l)).length = hh - l := by rw [List.length_take, List.length_drop]; omega
          have key : PRel M.w M.own (.imm n ((rows.drop l).take (hh - l))) (.slice (if cap = l then a0 else a0.map (·.add (l * n))) ((rows.drop l).take (hh - l)).length (cap - l)) := by
            refine .mk_imm (c := c) (o := o' + l * n) (by rw [hlen]; omega) (by omega) ?_ ?_ ?_
            · intro h0
              rw [hlen] at h0
              obtain ⟨q1, q2, q3⟩ := g3 (by omega)
              rw [if_neg (by omega), q1]
              exact ⟨by simp [add_none], q2, q3⟩
            · intro i row hi
              rw [List.getElem?_take] at hi
              split at hi
              · rw [List.getElem?_drop] at hi; exact g4 _ row hi
              · cases hi
            · intro i row j x hi hj
              rw [List.getElem?_take] at hi
              split at hi
              · rw [List.getElem?_drop] at hi
                obtain ⟨u, u1, u2, u3⟩ := g5 _ row j x hi hj
                exact ⟨u, by rw [← u1]; congr 2; rw [Nat.add_mul]; omega, u2, u3⟩
              · cases hi
          rw [hlen] at key
          exact .p _ _ key
        · cases h
      · cases h
    · rename_i b g off len
      split at h
      · rename_i n l hh s g' rows hn hb hG
        split at h
        · rename_i hg
          obtain ⟨rfl, rfl⟩ := hg
          simp only [Option.some.injEq] at h; subst h
          obtain ⟨e, he, hn⟩ := tel_tsz hn
          refine .read fun M a hM hR hr => ?_
          obtain ⟨hvx, ⟨l1, l2⟩, ⟨h1, h2⟩, ⟨m1, m2⟩⟩ := ops M a hr
          have hb' : M.H.G b = some (.arr n g rows) := hR (b, _) (by simp)
          obtain ⟨a0, cap, e1, q1, q2, q3, q4⟩ := hvx.ref_inv hb' rfl
          simp only [IBlk.len, IBlk.sz] at q2 q3 q4
          obtain ⟨hrun, hle, hle2⟩ := run_bounds (P := P) hb true cap q1 l1 l2 h1 h2 M.w
          have hrun2 := run_slice_slice (P := P) he hn (a := a0) (len := len) hrun
          refine ⟨_, by simp only [execOp, ho, e1, m2 rfl]; rw [Sem.run_bind, hrun2]; rfl, ?_⟩
          refine .ref b g (off + l) (hh - l) _ (hM.dom b _ hb') ⟨_, _, rfl⟩ fun blk hblk => ?_
          rw [hb'] at hblk; cases hblk
          refine ⟨Nat.le_refl _, fun _ => ⟨_, _, rfl, by omega, by simp only [IBlk.len]; omega, by simp only [IBlk.len]; omega, ?_⟩⟩
          rcases q4 with q4 | ⟨c, o', n', q5, q6, q7⟩
          · exact .inl (by omega)
          · by_cases hcl : cap = l
            · exact .inl (by omega)
            · refine .inr ⟨c, o', n', q5, ?_, by omega⟩
              rw [if_neg hcl, q6]
              simp only [Option.map_some, add_none, IBlk.sz]
              congr 2
              rw [Nat.add_mul]; omega
        · cases h
      · cases h
    · split at h
      · rename_i n lh hn hb
        obtain ⟨l, hh⟩ := lh
        simp only [Option.some.injEq] at h; subst h
        obtain ⟨e, he, hn⟩ := tel_tsz hn
        refine .read fun M a hM hR hr => ?_
        obtain ⟨hvx, ⟨l1, l2⟩, ⟨h1, h2⟩, ⟨m1, m2⟩⟩ := ops M a hr
        generalize hq : a.eval x = q at hvx
        cases hvx with
        | p y v h =>
          cases h with
          | emp a0 =>
            obtain ⟨hrun, hle, hle2⟩ := run_bounds (P := P) hb true 0 (Nat.le_refl _) l1 l2 h1 h2 M.w
            have hrun2 := run_slice_slice (P := P) he hn (a := a0) (len := 0) hrun
            have e0 : hh = 0 := by omega
            have e1 : l = 0 := by omega
            subst e0; subst e1
            refine ⟨.slice a0 0 0, by simp only [execOp, ho, hq, m2 rfl]; rw [Sem.run_bind, hrun2]; rfl, .p _ _ (.emp a0)⟩
      · cases h
    · split at h
      · rename_i n lh hn hb
        obtain ⟨l, hh⟩ := lh
        simp only [Option.some.injEq] at h; subst h
        obtain ⟨e, he, hn⟩ := tel_tsz hn
        refine .read fun M a hM hR hr => ?_
        obtain ⟨hvx, ⟨l1, l2⟩, ⟨h1, h2⟩, ⟨m1, m2⟩⟩ := ops M a hr
        have hq := hvx.sc_inv
        obtain ⟨hrun, hle, hle2⟩ := run_bounds (P := P) hb true 0 (Nat.le_refl _) l1 l2 h1 h2 M.w
        have hrun2 := run_slice_slice (P := P) he hn (a := none) (len := 0) hrun
        have e0 : hh = 0 := by omega
        have e1 : l = 0 := by omega
        subst e0; subst e1
        refine ⟨.slice none 0 0, by simp only [execOp, ho, hq, m2 rfl]; rw [Sem.run_bind, hrun2]; rfl, .sc M _⟩
      · cases h
    · rename_i s
      split at h
      · rename_i l hh ht hb
        simp only [Option.some.injEq] at h; subst h
        obtain ⟨d, hu, hd⟩ := und_tkd ht
        simp only at hd; subst hd
        refine .read fun M a hM hR hr => ?_
        obtain ⟨hvx, ⟨l1, l2⟩, ⟨h1, h2⟩, ⟨m1, m2⟩⟩ := ops M a hr
        have hq := hvx.sc_inv
        obtain ⟨hrun, hle, hle2⟩ := run_bounds (P := P) hb false s.size (Nat.le_refl _) l1 l2 h1 h2 M.w
        refine ⟨.string (s.extract l hh), ?_, .sc M _⟩
        simp only [execOp, ho, hq, m2 rfl]
        simp only [Instr.sliceAt, Instr.slice, Sem.run_bind, run_underlying hu, Result.andThen_ok, Option.isSome_none, Bool.false_eq_true, if_false, hrun, Sem.run_pure]
      · cases h
    · cases h
  · -- x[:0:0]
    rename_i m
    have emp3 : ∀ (n : Nat) (hn : (tel P t).bind (tsz P ·) = some n) (hm : sbd (some m) 0 0 = some 0) (hhi : sbd zhi 0 1 = some 0) (hlo : sbd zlo 0 0 = some 0) (M : Mem) (a : Act) (a0 : Option Addr) (len cap : Nat),
        (∀ y ∈ o.op.operands, ∀ z, ρ y = some z → VRel M z (a.eval y)) → a.eval x = .slice a0 len cap →
        ∃ a1, (a0 = none → a1 = none) ∧ (execOp a.eval o).run P M.w = .ok (.value (.slice a1 0 0)) M.w := by
      intro n hn hm hhi hlo M a a0 len cap hr hq
      obtain ⟨e, he, hn⟩ := tel_tsz hn
      obtain ⟨_, ⟨l1, l2⟩, ⟨h1, h2⟩, ⟨m1, m2⟩⟩ := ops M a hr
      obtain ⟨vm, e1, r1⟩ := m1 m rfl
      cases zhi with
      | none => simp [sbd] at hhi
      | some ih =>
        obtain ⟨vh, e2, r2⟩ := h1 ih rfl
        have b1 := (run_sliceBound (P := P) (code := .slice3Acap) hm r1 cap (Nat.zero_le _) M.w).1
        have b2 := (run_sliceBound (P := P) (code := .slice3B) hhi r2 0 (Nat.le_refl _) M.w).1
        have b3 : (lo.map a.eval = none) ∨ ∃ v, lo.map a.eval = some v ∧ ∀ code, (Instr.sliceBound v 0 code).run P M.w = .ok 0 M.w := by
          cases zlo with
          | none => exact .inl (l2 rfl)
          | some il =>
            obtain ⟨vl, e3, r3⟩ := l1 il rfl
            exact .inr ⟨vl, e3, fun code => (run_sliceBound (P := P) hlo r3 0 (Nat.le_refl _) M.w).1⟩
        have hbs : (Instr.sliceBounds true len cap (lo.map a.eval) (some vh) (some vm)).run P M.w = .ok (0, 0, 0) M.w := by
          unfold Instr.sliceBounds
          rcases b3 with e3 | ⟨vl, e3, e4⟩
          · rw [e3]; simp [b1, b2]
          · rw [e3]; simp [b1, b2, e4]
        have hrun2 := run_slice_slice (P := P) he hn (a := a0) (len := len) hbs
        refine ⟨a0, fun h => h, ?_⟩
        simp only [execOp, ho, hq, e1, e2]
        rw [Sem.run_bind, hrun2]
        rfl
    split at h
    · rename_i n s rows hn hm hhi hlo
      simp only [Option.some.injEq] at h; subst h
      refine .read fun M a hM hR hr => ?_
      obtain ⟨a0, cap, c, o', e1, _⟩ := ((ops M a hr).1).imm_inv
      obtain ⟨a1, _, hrun⟩ := emp3 n hn hm hhi hlo M a a0 _ cap hr e1
      exact ⟨_, hrun, .p _ _ (.emp a1)⟩
    · rename_i n b g off len hn hm hhi hlo
      simp only [Option.some.injEq] at h; subst h
      refine .read fun M a hM hR hr => ?_
      obtain ⟨a0, cap, e1⟩ := ((ops M a hr).1).ref_any
      obtain ⟨a1, _, hrun⟩ := emp3 n hn hm hhi hlo M a a0 _ cap hr e1
      exact ⟨_, hrun, .p _ _ (.emp a1)⟩
    · rename_i n hn hm hhi hlo
      simp only [Option.some.injEq] at h; subst h
      refine .read fun M a hM hR hr => ?_
      have hvx := (ops M a hr).1
      generalize hq : a.eval x = q at hvx
      cases hvx with
      | p y v h =>
        cases h with
        | emp a0 =>
          obtain ⟨a1, _, hrun⟩ := emp3 n hn hm hhi hlo M a a0 0 0 hr hq
          exact ⟨_, hrun, .p _ _ (.emp a1)⟩
    · rename_i n hn hm hhi hlo
      simp only [Option.some.injEq] at h; subst h
      refine .read fun M a hM hR hr => ?_
      have hq := ((ops M a hr).1).sc_inv
      obtain ⟨a1, e1, hrun⟩ := emp3 n hn hm hhi hlo M a none 0 0 hr hq
      rw [e1 rfl] at hrun
      exact ⟨_, hrun, .sc M _⟩
    · cases h

/-! ### closures, interface values, nil checks -/
def rlist (ρ : Operand → Option IV) : List Operand → Option (List IV)
  | [] => some []
  | y :: r => match ρ y, rlist ρ r with
    | some z, some zs => some (z :: zs)
    | _, _ => none
theorem rlist_rel {M : Mem} {a : Act} : ∀ {ys : List Operand} {zs : List IV}, rlist ρ ys = some zs → (∀ y ∈ ys, ∀ z, ρ y = some z → VRel M z (a.eval y)) →
    (ys.map a.eval).length = zs.length ∧ ∀ (i : Nat) (x : IV) (v : Value), zs[i]? = some x → (ys.map a.eval)[i]? = some v → VRel M x v
  | [], zs, h, _ => by
    simp only [rlist, Option.some.injEq] at h; subst h; simp
  | y :: r, zs, h, hr => by
    unfold rlist at h
    split at h
    · rename_i z zs' hz hzs
      simp only [Option.some.injEq] at h; subst h
      obtain ⟨h1, h2⟩ := rlist_rel hzs fun y' hy' => hr y' (List.mem_cons_of_mem _ hy')
      refine ⟨by simp at h1 ⊢; exact h1, fun i x v hi hv => ?_⟩
      cases i with
      | zero => simp at hi hv; subst hi; subst hv; exact hr y (by simp) z hz
      | succ i => simp only [List.map_cons, List.getElem?_cons_succ] at hi hv; exact h2 i x v hi hv
    · cases h
theorem f_func {fn : Fn} {first cap : List Operand} {zf zc : List IV} (ho : o.op = .makeFunc fn ⟨first⟩ ⟨cap⟩) (hf : rlist ρ first = some zf) (hc : rlist ρ cap = some zc) :
    FDoes P o ρ [] [] (.clo fn zf zc) [] := by
  refine .read fun M a _ _ hr => ?_
  obtain ⟨f1, f2⟩ := rlist_rel (M := M) (a := a) hf fun y hy => hr y (by simp [ho, Op.operands, hy])
  obtain ⟨c1, c2⟩ := rlist_rel (M := M) (a := a) hc fun y hy => hr y (by simp [ho, Op.operands, hy])
  exact ⟨.func fn ⟨first.map a.eval⟩ ⟨cap.map a.eval⟩, by simp [execOp, ho, Instr.makeFunc], .clo fn zf zc _ _ f1 c1 f2 c2⟩

/-- All plain: the values. -/
def scs : List IV → Option (List Value)
  | [] => some []
  | .p (.sc v) :: r => (scs r).map (v :: ·)
  | _ => none
theorem scs_vals {M : Mem} : ∀ {cs : List IV} {vs us : List Value}, scs cs = some vs → us.length = cs.length →
    (∀ (i : Nat) (x : IV) (v : Value), cs[i]? = some x → us[i]? = some v → VRel M x v) → us = vs
  | [], vs, us, h, hl, _ => by simp only [scs, Option.some.injEq] at h; subst h; exact List.eq_nil_of_length_eq_zero hl
  | x :: r, vs, us, h, hl, hr => by
    cases us with
    | nil => simp at hl
    | cons u us =>
      unfold scs at h
      split at h
      · rename_i h0; cases h0
      · rename_i v r' e
        injection e with e1 e2
        subst e1; subst e2
        cases hs : scs r with
        | none => simp [hs] at h
        | some vs' =>
          simp only [hs, Option.map_some, Option.some.injEq] at h
          subst h
          have h0 := hr 0 _ u rfl rfl
          have ht := scs_vals (M := M) (us := us) hs (by simpa using hl) fun i x v hi hv => hr (i + 1) x v (by simpa using hi) (by simpa using hv)
          rw [h0.sc_inv, ht]
      · cases h
def fiface (P : Program) (t : TypeId) : IV → Option FR
  | .p (.sc v) => match tkd P t with
    | some .iface => none
    | some _ => some { x := .p (.sc (.iface t v)) }
    | none => none
  | .agg cs => match tkd P t, scs cs with
    | some .iface, _ => none
    | some _, some vs => some { x := .p (.sc (.iface t (.agg ⟨vs⟩))) }
    | _, _ => none
  | _ => none
theorem run_mkIface {t : TypeId} {k : TK} (h : tkd P t = some k) (hk : k ≠ .iface) (v : Value) (w : World) : (Instr.makeInterface t v).run P w = .ok (.iface t v) w := by
  unfold tkd at h
  cases hu : P.underlying t with
  | none => simp [hu] at h
  | some d =>
    simp only [hu, Option.map_some, Option.some.injEq] at h
    unfold Instr.makeInterface
    rw [Sem.run_bind, run_underlying hu]
    cases d <;> first | rfl | (exfalso; apply hk; rw [← h])
theorem f_iface {t : TypeId} {x : Operand} {zx : IV} {fr : FR} (ho : o.op = .makeInterface t x) (hx : ρ x = some zx) (h : fiface P t zx = some fr) : fr.ok P o ρ := by
  unfold fiface at h
  split at h
  · rename_i v
    split at h
    · cases h
    · rename_i k hne hk
      simp only [Option.some.injEq] at h; subst h
      refine .read fun M a _ _ hr => ⟨_, ?_, .sc M _⟩
      have e := (hr x (by simp [ho, Op.operands]) _ hx).sc_inv
      simp only [execOp, ho, e]
      rw [Sem.run_bind, run_mkIface hk hne]
      rfl
    · cases h
  · rename_i cs
    split at h
    · cases h
    · rename_i k vs hne hk hs
      simp only [Option.some.injEq] at h; subst h
      refine .read fun M a _ _ hr => ⟨_, ?_, .sc M _⟩
      obtain ⟨us, e, hl, _, hv⟩ := (hr x (by simp [ho, Op.operands]) _ hx).agg_inv
      have := scs_vals hs hl hv
      subst this
      simp only [execOp, ho, e]
      rw [Sem.run_bind, run_mkIface hk hne]
      rfl
    · cases h
  · cases h

def fnil : IV → Option FR
  | .ptr b g r j => some { x := .ptr b g r j }
  | .p (.rp cells) => some { x := .p (.rp cells) }
  | .clo (.func f) first cap => some { x := .clo (.func f) first cap }
  | .p (.sc (.func (.func f) first cap)) => some { x := .p (.sc (.func (.func f) first cap)) }
  | _ => none
theorem f_nil {x : Operand} {zx : IV} {fr : FR} (ho : o.op = .nilCheck x) (hx : ρ x = some zx) (h : fnil zx = some fr) : fr.ok P o ρ := by
  unfold fnil at h
  split at h
  · rename_i b g r j
    simp only [Option.some.injEq] at h; subst h
    refine .read fun M a _ _ hr => ?_
    have hv := hr x (by simp [ho, Op.operands]) _ hx
    obtain ⟨c, o', e⟩ := hv.ptr_any
    exact ⟨a.eval x, by simp [execOp, ho, e], hv⟩
  · rename_i cells
    simp only [Option.some.injEq] at h; subst h
    refine .read fun M a _ _ hr => ?_
    have hv := hr x (by simp [ho, Op.operands]) _ hx
    obtain ⟨c, o', e, _⟩ := hv.rp_inv
    exact ⟨a.eval x, by simp [execOp, ho, e], hv⟩
  · rename_i f first cap
    simp only [Option.some.injEq] at h; subst h
    refine .read fun M a _ _ hr => ?_
    have hv := hr x (by simp [ho, Op.operands]) _ hx
    refine ⟨a.eval x, ?_, hv⟩
    generalize hq : a.eval x = q at hv
    cases hv with
    | clo fn first cap vf vc hf hc rf rc => simp [execOp, ho, hq]
  · rename_i f first cap
    simp only [Option.some.injEq] at h; subst h
    refine .read fun M a _ _ hr => ?_
    have hv := hr x (by simp [ho, Op.operands]) _ hx
    refine ⟨a.eval x, ?_, hv⟩
    have e := hv.sc_inv
    simp [execOp, ho, e]
  · cases h

/-! ### min, max of integers -/
def imax : Value → List Value → Option Value
  | v, [] => some v
  | .int k x, .int k' y :: r => if k = k' then imax (.int k (if x < y then y else x)) r else none
  | _, _ => none
def imin : Value → List Value → Option Value
  | v, [] => some v
  | .int k x, .int k' y :: r => if k = k' then imin (.int k (if y < x then y else x)) r else none
  | _, _ => none
theorem run_imax : ∀ (l : List Value) (v u : Value) (w : World), imax v l = some u → (l.foldlM Builtin.max2 v : Sem Value).run P w = .ok u w
  | [], v, u, w, h => by simp only [imax, Option.some.injEq] at h; subst h; rfl
  | y :: r, v, u, w, h => by
    unfold imax at h
    split at h
    · rename_i h0; cases h0
    · rename_i k x k' y' r' e
      injection e with e1 e2
      subst e1; subst e2
      split at h
      · rename_i hk
        subst hk
        have := run_imax r _ u w h
        simp only [List.foldlM_cons, Sem.run_bind, Builtin.max2, Sem.run_pure, Result.andThen_ok]
        exact this
      · cases h
    · cases h
theorem run_imin : ∀ (l : List Value) (v u : Value) (w : World), imin v l = some u → (l.foldlM Builtin.min2 v : Sem Value).run P w = .ok u w
  | [], v, u, w, h => by simp only [imin, Option.some.injEq] at h; subst h; rfl
  | y :: r, v, u, w, h => by
    unfold imin at h
    split at h
    · rename_i h0; cases h0
    · rename_i k x k' y' r' e
      injection e with e1 e2
      subst e1; subst e2
      split at h
      · rename_i hk
        subst hk
        have := run_imin r _ u w h
        simp only [List.foldlM_cons, Sem.run_bind, Builtin.min2, Sem.run_pure, Result.andThen_ok]
        exact this
      · cases h
    · cases h
def fmax (mx : Bool) (zs : List IV) : Option FR :=
  match scs zs with
  | some (v :: vs) => (if mx then imax v vs else imin v vs).map fun u => { x := .p (.sc u) }
  | _ => none
theorem f_max {mx : Bool} {args : List Operand} {ts : Array TypeId} {zs : List IV} {fr : FR} (ho : o.op = .call { callee := .builtin (if mx then .max else .min), args := ⟨args⟩, argTypes := ts })
    (hz : rlist ρ args = some zs) (h : fmax mx zs = some fr) : fr.ok P o ρ := by
  unfold fmax at h
  split at h
  · rename_i v vs hs
    cases hm : (if mx then imax v vs else imin v vs) with
    | none => simp [hm] at h
    | some u =>
      simp only [hm, Option.map_some, Option.some.injEq] at h; subst h
      refine .read fun M a _ _ hr => ⟨u, ?_, .sc M u⟩
      obtain ⟨h1, h2⟩ := rlist_rel (M := M) (a := a) hz fun y hy => hr y (by
        cases mx <;> simp [ho, Op.operands, Call.operands, hy])
      have e := scs_vals hs h1 h2
      cases mx
      · simp only [Bool.false_eq_true, if_false] at hm ho
        simp only [execOp, ho, resolve, invoke, builtin, Sem.run_bind, Sem.run_pure, Result.andThen_ok, Builtin.min_, List.map_toArray, e]
        rw [run_imin vs v u M.w hm]
        rfl
      · simp only [if_true] at hm ho
        simp only [execOp, ho, resolve, invoke, builtin, Sem.run_bind, Sem.run_pure, Result.andThen_ok, Builtin.max_, List.map_toArray, e]
        rw [run_imax vs v u M.w hm]
        rfl
  · cases h

end Go.Idl
