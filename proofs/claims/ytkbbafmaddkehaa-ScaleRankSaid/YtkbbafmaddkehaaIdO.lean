/-
  Knowing less; loops; the frame of a function.
-/
import Derived.Test.YtkbbafmaddkehaaIdN
import Derived.Deep.LoopGhost
namespace Go.Idl
variable {P : Program} {h0 : IH}

mutual
/-- All blocks that a value leads to have numbers below n. -/
def bel (n : Nat) : IV → Prop
  | .p _ => True
  | .ref b _ _ _ => b < n
  | .ptr b _ _ _ => b < n
  | .mp b => b < n
  | .clo _ f c => bels n f ∧ bels n c
  | .agg cs => bels n cs
  | .tup cs => bels n cs
  | .dead => True
def bels (n : Nat) : List IV → Prop
  | [] => True
  | x :: r => bel n x ∧ bels n r
end
theorem bels_get {n : Nat} : ∀ {l : List IV} {i : Nat} {x : IV}, bels n l → l[i]? = some x → bel n x
  | [], i, x, _, h => by simp at h
  | y :: l, 0, x, hb, h => by simp at h; subst h; exact hb.1
  | y :: l, i + 1, x, hb, h => bels_get hb.2 (by simpa using h)
theorem bels_of {n : Nat} : ∀ {l : List IV}, (∀ (i : Nat) (x : IV), l[i]? = some x → bel n x) → bels n l
  | [], _ => trivial
  | y :: l, h => ⟨h 0 y rfl, bels_of fun i x hx => h (i + 1) x (by simpa using hx)⟩
theorem bels_mem {n : Nat} {l : List IV} : bels n l ↔ ∀ x ∈ l, bel n x := by
  induction l with
  | nil => simp [bels]
  | cons y l ih => simp [bels, ih]

def blkBel (n : Nat) : IBlk → Prop
  | .arr _ _ rows => ∀ row ∈ rows, bels n row
  | .mp es => ∀ e ∈ es, bel n e.2

theorem VRel.toBel {M : Mem} {n : Nat} (hA : ∀ b, M.H.A b → b < n) {x : IV} {v : Value} (h : VRel M x v) : bel n x := by
  induction h with
  | p x v h => trivial
  | ref b g off len v hA' hv h => exact hA b hA'
  | ptr b g r j v hA' hv h => exact hA b hA'
  | mp b v hA' hv h => exact hA b hA'
  | clo fn first cap vf vc hf hc rf rc i1 i2 =>
    refine ⟨bels_of fun i x hx => ?_, bels_of fun i x hx => ?_⟩
    · have hlt := lt_of_get hx
      rw [← hf] at hlt
      exact i1 i x _ hx (List.getElem?_eq_getElem hlt)
    · have hlt := lt_of_get hx
      rw [← hc] at hlt
      exact i2 i x _ hx (List.getElem?_eq_getElem hlt)
  | agg cs vs hl h1 r ih =>
    refine bels_of fun i x hx => ?_
    have hlt := lt_of_get hx
    rw [← hl] at hlt
    exact ih i x _ hx (List.getElem?_eq_getElem hlt)
  | tup cs vs hl r ih =>
    refine bels_of fun i x hx => ?_
    have hlt := lt_of_get hx
    rw [← hl] at hlt
    exact ih i x _ hx (List.getElem?_eq_getElem hlt)
  | dead v => trivial
theorem BRel.toBel {M : Mem} {n : Nat} (hA : ∀ b, M.H.A b → b < n) {b : Nat} {blk : IBlk} (h : BRel M b blk) : blkBel n blk := by
  cases blk with
  | arr sz g rows =>
    intro row hrow
    obtain ⟨i, hi, e⟩ := List.getElem_of_mem hrow
    refine bels_of fun j x hx => ?_
    cases hβ : M.β b with
    | none => have := h.2.1 hβ; subst this; cases hrow
    | some t =>
      obtain ⟨c, o, k⟩ := t
      obtain ⟨cs, ty, _, _, _, _, q5⟩ := h.2.2 c o k hβ
      obtain ⟨v, _, _, hv⟩ := q5 i row j x (by rw [List.getElem?_eq_getElem hi, e]) hx
      exact hv.toBel hA
  | mp es =>
    intro p hp
    obtain ⟨i, hi, e⟩ := List.getElem_of_mem hp
    obtain ⟨c, o, k, _, es', clock, _, _, q3⟩ := h
    obtain ⟨en, _, _, hv⟩ := q3 i p.1 p.2 (by rw [List.getElem?_eq_getElem hi, e])
    exact hv.toBel hA

/-! ### knowing less, and freezing -/
/-- y says of a value no more than x: a slice of a block that is given up may be told by what lies in it. -/
inductive Fz (G : Nat → Option IBlk) (ids : List Nat) : IV → IV → Prop where
  | refl (x : IV) : Fz G ids x x
  | ref (b g off len sz : Nat) (rows : List (List IV)) (prows : List (List PV)) (hb : G b = some (.arr sz g rows)) (hi : b ∈ ids)
      (hp : (rows.drop off).take len = prows.map (·.map .p)) : Fz G ids (.ref b g off len) (.p (.imm sz prows))
  | ptr (b g r j sz : Nat) (rows : List (List IV)) (row : List IV) (cells : List PV) (hb : G b = some (.arr sz g rows)) (hi : b ∈ ids) (hr : rows[r]? = some row)
      (hp : row.drop j = cells.map .p) : Fz G ids (.ptr b g r j) (.p (.rp cells))
  | agg (xs ys : List IV) (hl : ys.length = xs.length) (h : ∀ (i : Nat) (x y : IV), xs[i]? = some x → ys[i]? = some y → Fz G ids x y) : Fz G ids (.agg xs) (.agg ys)
  | tup (xs ys : List IV) (hl : ys.length = xs.length) (h : ∀ (i : Nat) (x y : IV), xs[i]? = some x → ys[i]? = some y → Fz G ids x y) : Fz G ids (.tup xs) (.tup ys)
  | dead (x : IV) : Fz G ids x .dead
  | nil (a : PV) (sz : Nat) (h : a = .emp ∨ a = .sc (.slice none 0 0)) : Fz G ids (.p a) (.p (.imm sz []))

theorem Fz.bel {G : Nat → Option IBlk} {ids : List Nat} {n : Nat} {x y : IV} (f : Fz G ids x y) : bel n x → bel n y := by
  induction f with
  | refl x => exact id
  | ref => exact fun _ => trivial
  | ptr => exact fun _ => trivial
  | agg xs ys hl h ih =>
    intro hb
    refine bels_of fun i y hy => ?_
    have hlt := lt_of_get hy
    exact ih i _ y (List.getElem?_eq_getElem (show i < xs.length by omega)) hy (bels_get hb (List.getElem?_eq_getElem _))
  | tup xs ys hl h ih =>
    intro hb
    refine bels_of fun i y hy => ?_
    have hlt := lt_of_get hy
    exact ih i _ y (List.getElem?_eq_getElem (show i < xs.length by omega)) hy (bels_get hb (List.getElem?_eq_getElem _))
  | dead x => exact fun _ => trivial
  | nil => exact fun _ => trivial

def FzB (G : Nat → Option IBlk) (ids : List Nat) : IBlk → IBlk → Prop
  | .arr sz g rows, .arr sz' g' rows' => sz' = sz ∧ g' = g ∧ rows'.length = rows.length ∧ ∀ (i : Nat) (row row' : List IV), rows[i]? = some row → rows'[i]? = some row' →
      row'.length = row.length ∧ ∀ (j : Nat) (x y : IV), row[j]? = some x → row'[j]? = some y → Fz G ids x y
  | .mp es, .mp es' => es'.length = es.length ∧ ∀ (i : Nat) (k k' : Value) (x y : IV), es[i]? = some (k, x) → es'[i]? = some (k', y) → k' = k ∧ Fz G ids x y
  | _, _ => False
theorem FzB.refl {G : Nat → Option IBlk} {ids : List Nat} (blk : IBlk) : FzB G ids blk blk := by
  cases blk with
  | arr sz g rows => exact ⟨rfl, rfl, rfl, fun i row row' h h' => by rw [h] at h'; cases h'; exact ⟨rfl, fun j x y hx hy => by rw [hx] at hy; cases hy; exact .refl x⟩⟩
  | mp es => exact ⟨rfl, fun i k k' x y h h' => by rw [h] at h'; cases h'; exact ⟨rfl, .refl x⟩⟩
theorem FzB.bel {G : Nat → Option IBlk} {ids : List Nat} {n : Nat} {x y : IBlk} (f : FzB G ids x y) (hb : blkBel n x) : blkBel n y := by
  cases x with
  | arr sz g rows =>
    cases y with
    | mp es => exact f.elim
    | arr sz' g' rows' =>
      obtain ⟨_, _, e3, e4⟩ := f
      intro row' hrow
      obtain ⟨i, hi, e⟩ := List.getElem_of_mem hrow
      have hx := List.getElem?_eq_getElem (show i < rows.length by omega)
      obtain ⟨l1, l2⟩ := e4 i _ row' hx (by rw [List.getElem?_eq_getElem hi, e])
      refine bels_of fun j y hy => ?_
      have hlt := lt_of_get hy
      have hj := List.getElem?_eq_getElem (show j < rows[i].length by omega)
      exact (l2 j _ y hj hy).bel (bels_get (hb _ (List.getElem_mem _)) hj)
  | mp es =>
    cases y with
    | arr sz' g' rows' => exact f.elim
    | mp es' =>
      obtain ⟨e1, e2⟩ := f
      intro p hp
      obtain ⟨i, hi, e⟩ := List.getElem_of_mem hp
      have hx := List.getElem?_eq_getElem (show i < es.length by omega)
      obtain ⟨_, f⟩ := e2 i _ p.1 _ p.2 hx (by rw [List.getElem?_eq_getElem hi, e])
      exact f.bel (hb _ (List.getElem_mem _))
theorem FzB.shape {G : Nat → Option IBlk} {ids : List Nat} {blk blk' : IBlk} (h : FzB G ids blk blk') : blk'.sz = blk.sz ∧ blk'.gen = blk.gen ∧ blk'.len = blk.len ∧ blk'.isMp = blk.isMp := by
  cases blk <;> cases blk' <;> simp_all [FzB, IBlk.sz, IBlk.gen, IBlk.len, IBlk.isMp]

/-- What is known of M' is known of M. -/
structure Less (M M' : Mem) (n : Nat) (ids : List Nat) : Prop where
  w : M'.w = M.w
  β : M'.β = M.β
  A : ∀ b, b < n → M.H.A b → M'.H.A b
  G : ∀ b blk', M'.H.G b = some blk' → ∃ blk, M.H.G b = some blk ∧ FzB M.H.G ids blk blk'
  ids : ∀ b ∈ ids, M'.H.G b = none
  O : M'.H.O = M.H.O

theorem Less.own {M M' : Mem} {n : Nat} {ids : List Nat} (h : Less M M' n ids) {c : Nat} (ho : M'.own c) : M.own c := by
  rcases ho with ho | ⟨b, blk, o, k, h1, h2⟩
  · exact .inl (by rw [← h.O]; exact ho)
  obtain ⟨blk0, g1, _⟩ := h.G b blk h1
  exact .inr ⟨b, blk0, o, k, g1, by rw [← h.β]; exact h2⟩

theorem VRel.less {M M' : Mem} {n : Nat} {ids : List Nat} (l : Less M M' n ids) {x : IV} {v : Value} (h : VRel M x v) (hb : bel n x) : VRel M' x v := by
  induction h with
  | p x v h => exact .p x v (h.step (by rw [l.w]; exact Nat.le_refl _) fun c _ ho => ⟨by rw [l.w], fun ho' => ho (l.own ho')⟩)
  | ref b g off len v hA' hv h =>
    refine .ref b g off len v (l.A b hb hA') hv fun blk hblk => ?_
    obtain ⟨blk0, g1, g2⟩ := l.G b blk hblk
    obtain ⟨s1, s2, s3, _⟩ := g2.shape
    rw [s1, s2, s3, l.β]
    exact h blk0 g1
  | ptr b g r j v hA' hv h =>
    refine .ptr b g r j v (l.A b hb hA') hv fun blk hblk => ?_
    obtain ⟨blk0, g1, g2⟩ := l.G b blk hblk
    obtain ⟨s1, s2, s3, _⟩ := g2.shape
    rw [s1, s2, l.β]
    exact h blk0 g1
  | mp b v hA' hv h =>
    refine .mp b v (l.A b hb hA') hv fun blk hblk => ?_
    obtain ⟨blk0, g1, g2⟩ := l.G b blk hblk
    obtain ⟨s1, s2, s3, s4⟩ := g2.shape
    rw [s4, l.β]
    exact h blk0 g1
  | clo fn first cap vf vc hf hc rf rc i1 i2 =>
    exact .clo fn first cap vf vc hf hc (fun i x v hx hv => i1 i x v hx hv (bels_get hb.1 hx)) (fun i x v hx hv => i2 i x v hx hv (bels_get hb.2 hx))
  | agg cs vs hl h1 r ih => exact .agg cs vs hl h1 fun i x v hx hv => ih i x v hx hv (bels_get hb hx)
  | tup cs vs hl r ih => exact .tup cs vs hl fun i x v hx hv => ih i x v hx hv (bels_get hb hx)
  | dead v => exact .dead v

theorem VRel.fz {M M' : Mem} {n : Nat} {ids : List Nat} (hM : MRel M) (l : Less M M' n ids) {x y : IV} (f : Fz M.H.G ids x y) : ∀ {v : Value}, VRel M x v → bel n y → VRel M' y v := by
  induction f with
  | refl x => exact fun h hb => h.less l hb
  | ref b g off len sz rows prows hb hi hp =>
    intro v h _
    have h4 := h.ref_inv hb rfl
    obtain ⟨a, cap, rfl, h1, h2, h3, h4⟩ := h4
    simp only [IBlk.len, IBlk.sz] at h2 h3 h4
    have hlen : prows.length = len := by
      have := congrArg List.length hp
      simp only [List.length_take, List.length_drop, List.length_map] at this; omega
    have hbr := hM.blk b _ hb
    subst hlen
    rcases h4 with h4 | ⟨c, o, k, hβ, ha, h5⟩
    · have e : prows = [] := List.eq_nil_of_length_eq_zero (by omega)
      subst e
      subst h4
      exact .p _ _ (.imm sz [] a 0 0 0 (fun _ _ => undef) (Nat.le_refl _) (Nat.zero_le _) (fun h => absurd h (by simp)) (by simp) (by simp) (by simp))
    · subst ha
      obtain ⟨cs, ty, q1, q2, q3, q4, q5⟩ := hbr.2.2 c o k hβ
      have hno : ¬ M'.own c := by
        rintro (g1 | ⟨b', blk', o', k', g1, g2⟩)
        · exact hM.odis b _ c o k hb hβ (by rw [← l.O]; exact g1)
        obtain ⟨blk, g3, _⟩ := l.G b' blk' g1
        have := hM.inj b' b blk _ c o' k' o k g3 hb (by rw [← l.β]; exact g2) hβ
        subst this
        rw [l.ids b' hi] at g1; cases g1
      have hrow : ∀ (i : Nat) (prow : List PV), prows[i]? = some prow → rows[off + i]? = some (prow.map .p) := by
        intro i prow hi'
        have : (prows.map (·.map IV.p))[i]? = some (prow.map .p) := by rw [List.getElem?_map, hi']; rfl
        rw [← hp, List.getElem?_take] at this
        split at this
        · rwa [List.getElem?_drop] at this
        · cases this
      refine .p _ _ (.mk_imm (c := c) (o := o + off * sz) h1 (by unfold maxLen at *; omega) (fun _ => ⟨rfl, by rw [l.w]; exact (Array.getElem?_eq_some_iff.1 q1).1, hno⟩) (fun i row hi' => ?_) fun i row j x hi' hj => ?_)
      · have := hbr.1 _ (List.mem_of_getElem? (hrow i row hi'))
        simpa using this
      · obtain ⟨u, u1, u2, u3⟩ := q5 _ _ j (.p x) (hrow i row hi') (by rw [List.getElem?_map, hj]; rfl)
        refine ⟨u, ?_, u2, ?_⟩
        · rw [l.w, cell_of_row M.w c _ cs ty (0, 0) q1, ← u1]
          congr 1
          rw [Nat.add_mul]; omega
        · cases u3 with
          | p x v h => exact h.step (by rw [l.w]; exact Nat.le_refl _) fun c _ ho => ⟨by rw [l.w], fun ho' => ho (l.own ho')⟩
  | ptr b g r j sz rows row cells hb hi hrow hp =>
    intro v hv _
    cases hv with
    | ptr _ _ _ _ _ hA hv hg =>
      obtain ⟨c, o, n, hβ, rfl⟩ := (hg _ hb).2 rfl
      have hbr := hM.blk b _ hb
      obtain ⟨cs, ty, q1, q2, q3, q4, q5⟩ := hbr.2.2 c o n hβ
      have hno : ¬ M'.own c := by
        rintro (g1 | ⟨b', blk', o', k', g1, g2⟩)
        · exact hM.odis b _ c o n hb hβ (by rw [← l.O]; exact g1)
        obtain ⟨blk, g3, _⟩ := l.G b' blk' g1
        have := hM.inj b' b blk _ c o' k' o n g3 hb (by rw [← l.β]; exact g2) hβ
        subst this
        rw [l.ids b' hi] at g1; cases g1
      refine .p _ _ (.mk_rp (c := c) (o := o + (r * sz + j)) ⟨by rw [l.w]; exact (Array.getElem?_eq_some_iff.1 q1).1, hno⟩ fun k x hk => ?_)
      have hx : row[j + k]? = some (.p x) := by
        have : (cells.map IV.p)[k]? = some (.p x) := by rw [List.getElem?_map, hk]; rfl
        rw [← hp, List.getElem?_drop] at this
        exact this
      obtain ⟨u, u1, u2, u3⟩ := q5 r row (j + k) (.p x) hrow hx
      refine ⟨u, ?_, u2, ?_⟩
      · rw [l.w, cell_of_row M.w c _ cs ty (0, 0) q1, ← u1]
        congr 1
        omega
      · cases u3 with
        | p x v h => exact h.step (by rw [l.w]; exact Nat.le_refl _) fun c _ ho => ⟨by rw [l.w], fun ho' => ho (l.own ho')⟩
  | agg xs ys hl h ih =>
    intro v hv hb
    obtain ⟨vs, rfl, l1, l2, l3⟩ := hv.agg_inv
    refine .agg ys vs (by omega) l2 fun i y u hy hu => ?_
    have hlt := lt_of_get hy
    have hx := List.getElem?_eq_getElem (show i < xs.length by omega)
    exact ih i _ y hx hy (l3 i _ u hx hu) (bels_get hb hy)
  | tup xs ys hl h ih =>
    intro v hv hb
    obtain ⟨vs, rfl, l1, l3⟩ := hv.tup_inv
    refine .tup ys vs (by omega) fun i y u hy hu => ?_
    have hlt := lt_of_get hy
    have hx := List.getElem?_eq_getElem (show i < xs.length by omega)
    exact ih i _ y hx hy (l3 i _ u hx hu) (bels_get hb hy)
  | dead x => exact fun _ _ => .dead _
  | nil a sz h =>
    intro v hv _
    have : ∃ c, v = .slice c 0 0 := by
      cases hv with
      | p _ _ hv =>
        rcases h with rfl | rfl
        · cases hv with
          | emp c => exact ⟨c, rfl⟩
        · cases hv; exact ⟨none, rfl⟩
    obtain ⟨c, rfl⟩ := this
    exact .p _ _ (.imm sz [] c 0 0 0 (fun _ _ => undef) (Nat.le_refl _) (Nat.zero_le _) (fun h => absurd h (by simp)) (by simp) (by simp) (by simp))

/-- The memory with less known. -/
def Mem.cut (M : Mem) (nx : Nat) (m : List (Nat × IBlk)) : Mem := ⟨M.w, ⟨(· < nx), look m, M.H.O⟩, M.β⟩

structure CutOk (M : Mem) (h0 : IH) (nx : Nat) (m : List (Nat × IBlk)) (ids : List Nat) : Prop where
  low : h0.nx ≤ nx
  sub : ∀ b blk', look m b = some blk' → ∃ blk, M.H.G b = some blk ∧ FzB M.H.G ids blk blk' ∧ b < nx ∧ blkBel nx blk'
  ids : ∀ b ∈ ids, look m b = none

theorem CutOk.less {M : Mem} {nx : Nat} {m : List (Nat × IBlk)} {ids : List Nat} (h : CutOk M h0 nx m ids) : Less M (M.cut nx m) nx ids :=
  ⟨rfl, rfl, fun _ hb _ => hb, fun b blk' hb => (by obtain ⟨blk, g1, g2, _⟩ := h.sub b blk' hb; exact ⟨blk, g1, g2⟩), h.ids, rfl⟩

theorem cut_rel {M0 M : Mem} (h0r : HRel h0.nx h0.m M0) (hs : MStep M0 M) (hM : MRel M) {nx : Nat} {m : List (Nat × IBlk)} {ids : List Nat} (h : CutOk M h0 nx m ids) :
    MStep M0 (M.cut nx m) ∧ HRel nx m (M.cut nx m) := by
  have l := h.less
  refine ⟨⟨hs.os, hs.tape, hs.output, hs.size, fun c hc ho => ?_, fun b hb => ?_, fun b blk' hA hb => ?_, hs.oeq, hs.ofix⟩, ⟨⟨?_, ?_, ?_, hM.olt, fun b blk c o k h1 h2 => ?_⟩, fun _ hb => hb, fun b => rfl⟩⟩
  · obtain ⟨e, o1⟩ := hs.keep c hc ho
    exact ⟨e, fun ho' => o1 (l.own ho')⟩
  · exact Nat.lt_of_lt_of_le (h0r.A b hb) h.low
  · obtain ⟨blk, g1, g2, _⟩ := h.sub b blk' hb
    obtain ⟨s1, s2, s3, s4⟩ := g2.shape
    obtain ⟨blk0, k1, k2, k3, k4, k5⟩ := hs.comp b blk hA g1
    refine ⟨blk0, k1, s1.trans k2, s4.trans k3, by rw [s2]; exact k4, fun e => ?_⟩
    rw [s2] at e
    exact ⟨(k5 e).1, s3.trans (k5 e).2⟩
  · exact fun b blk hb => (by obtain ⟨_, _, _, g, _⟩ := h.sub b blk hb; exact g)
  · intro b blk' hb
    obtain ⟨blk, g1, g2, g3, g4⟩ := h.sub b blk' hb
    have hr := hM.blk b blk g1
    cases blk with
    | arr sz g rows =>
      cases blk' with
      | mp es => exact g2.elim
      | arr sz' g' rows' =>
        obtain ⟨rfl, rfl, e3, e4⟩ := g2
        obtain ⟨r1, r2, r3⟩ := hr
        have rowOf : ∀ (i : Nat) (row' : List IV), rows'[i]? = some row' → ∃ row, rows[i]? = some row ∧ row'.length = row.length ∧ ∀ (j : Nat) (x y : IV), row[j]? = some x → row'[j]? = some y → Fz M.H.G ids x y := by
          intro i row' hi
          have hlt := lt_of_get hi
          have hx := List.getElem?_eq_getElem (show i < rows.length by omega)
          exact ⟨_, hx, e4 i _ row' hx hi⟩
        refine ⟨fun row' hrow => ?_, fun hn => ?_, fun c o k hc => ?_⟩
        · obtain ⟨i, hi, e⟩ := List.getElem_of_mem hrow
          obtain ⟨row, h1, h2, _⟩ := rowOf i row' (by rw [List.getElem?_eq_getElem hi, e])
          rw [h2]; exact r1 row (List.mem_of_getElem? h1)
        · have := r2 hn; subst this
          exact List.eq_nil_of_length_eq_zero (by simpa using e3)
        · obtain ⟨cs, ty, q1, q2, q3, q4, q5⟩ := r3 c o k hc
          refine ⟨cs, ty, q1, by omega, q3, q4, fun i row' j y hi hj => ?_⟩
          obtain ⟨row, h1, h2, h3⟩ := rowOf i row' hi
          have hlt := lt_of_get hj
          have hx := List.getElem?_eq_getElem (show j < row.length by omega)
          obtain ⟨v, v1, v2, v3⟩ := q5 i row j _ h1 hx
          exact ⟨v, v1, v2, v3.fz hM l (h3 j _ y hx hj) (bels_get (g4 row' (List.mem_of_getElem? hi)) hj)⟩
    | mp es =>
      cases blk' with
      | arr sz' g' rows' => exact g2.elim
      | mp es2 =>
        obtain ⟨e1, e2⟩ := g2
        obtain ⟨c, o, k, hc, es', clock, q1, q2, q3⟩ := hr
        refine ⟨c, o, k, hc, es', clock, q1, by omega, fun i key y hi => ?_⟩
        have hlt := lt_of_get hi
        have hx := List.getElem?_eq_getElem (show i < es.length by omega)
        obtain ⟨rfl, f⟩ := e2 i _ key _ y hx hi
        obtain ⟨en, n1, n2, n3⟩ := q3 i _ _ hx
        exact ⟨en, n1, n2, n3.fz hM l f (g4 (_, y) (List.mem_of_getElem? hi))⟩
  · intro b b' blk blk' c o k o' k' h1 h2
    obtain ⟨x1, g1, _⟩ := h.sub b blk h1
    obtain ⟨x2, g2, _⟩ := h.sub b' blk' h2
    exact hM.inj b b' x1 x2 c o k o' k' g1 g2
  · obtain ⟨blk0, g1, _⟩ := h.sub b blk h1
    exact hM.odis b blk0 c o k g1 h2

/-- A state of which less is said: S' for S; the blocks of the numbers ids are given up and frozen. -/
structure Sub (h0 : IH) (ids : List Nat) (S S' : IState) : Prop where
  n : S'.n = S.n
  d : S'.d = S.d
  dbel : S.d = [] ∨ S'.nx = S.nx
  low : h0.nx ≤ S'.nx
  top : S'.nx ≤ S.nx
  slots : ∀ p ∈ S'.s, ∃ x, look S.s p.1 = some x ∧ Fz (look (S.l ++ h0.m)) ids x p.2 ∧ (S'.nx = S.nx ∨ bel S'.nx p.2)
  blks : ∀ p ∈ S'.l, ∃ blk, look (S.l ++ h0.m) p.1 = some blk ∧ FzB (look (S.l ++ h0.m)) ids blk p.2 ∧ (S'.nx = S.nx ∨ p.1 < S'.nx ∧ blkBel S'.nx p.2)
  others : ∀ p ∈ S.l, h0.nx ≤ p.1 ∨ ∃ blk, (p.1, blk) ∈ S'.l
  gone : ∀ b ∈ ids, h0.nx ≤ b ∧ ∀ p ∈ S'.l, p.1 ≠ b

theorem look_of_keys {m l : List (Nat × IBlk)} {b : Nat} {blk : IBlk} (h : look (l ++ m) b = some blk) : (∃ x, look l b = some x ∧ x = blk) ∨ (look l b = none ∧ look m b = some blk) := by
  rw [look_append] at h
  cases hl : look l b with
  | some x => rw [hl] at h; cases h; exact .inl ⟨_, rfl, rfl⟩
  | none => rw [hl] at h; exact .inr ⟨rfl, h⟩

theorem bel_mono {n n' : Nat} (hle : n ≤ n') (x : IV) : bel n x → bel n' x := by
  apply IV.rec (motive_1 := fun x => bel n x → bel n' x) (motive_2 := fun l => bels n l → bels n' l)
  · intro x _; trivial
  · intro b g off len h; simp only [bel] at h ⊢; omega
  · intro b g r j h; simp only [bel] at h ⊢; omega
  · intro b h; simp only [bel] at h ⊢; omega
  · intro fn f c i1 i2 h; exact ⟨i1 h.1, i2 h.2⟩
  · intro cs ih h; exact ih h
  · intro cs ih h; exact ih h
  · intro _; trivial
  · intro _; trivial
  · intro x l i1 i2 h; exact ⟨i1 h.1, i2 h.2⟩
theorem blkBel_mono {n n' : Nat} (hle : n ≤ n') {blk : IBlk} (h : blkBel n blk) : blkBel n' blk := by
  cases blk with
  | arr sz g rows => intro row hrow; exact bels_mem.2 fun x hx => bel_mono hle x (bels_mem.1 (h row hrow) x hx)
  | mp es => intro e he; exact bel_mono hle _ (h e he)

theorem sub_rel {ids : List Nat} {S S' : IState} (h : Sub h0 ids S S') {M0 M : Mem} {a : Act} (h0r : HRel h0.nx h0.m M0) (hs : MStep M0 M) (hr : SRel h0 S M a) :
    ∃ M', M'.w = M.w ∧ MStep M0 M' ∧ SRel h0 S' M' a ∧ ∀ x y v, VRel M x v → Fz (look (S.l ++ h0.m)) ids x y → (S'.nx = S.nx ∨ bel S'.nx y) → VRel M' y v := by
  have hA : ∀ b, M.H.A b → b < S.nx := fun b hb => hr.heap.A b hb
  have hA0 : ∀ b, M0.H.A b → b < h0.nx := fun b hb => h0r.A b hb
  have hGe : look (S.l ++ h0.m) = M.H.G := by funext b; rw [hr.heap.G]
  have h0none : ∀ b, h0.nx ≤ b → look h0.m b = none := by
    intro b hb
    cases hl : look h0.m b with
    | none => rfl
    | some blk =>
      have hg0 : M0.H.G b = some blk := by rw [h0r.G]; exact hl
      have := hA0 b (h0r.rel.dom b blk hg0)
      omega
  have hcut : CutOk M h0 S'.nx (S'.l ++ h0.m) ids := by
    refine ⟨h.low, fun b blk hb => ?_, fun b hb => ?_⟩
    · rcases look_of_keys hb with ⟨x, hx, rfl⟩ | ⟨hn, hm⟩
      · obtain ⟨blk0, g1, g2, g3⟩ := h.blks (b, x) (look_mem hx)
        rw [hGe] at g1 g2
        refine ⟨blk0, g1, g2, ?_⟩
        rcases g3 with g3 | g3
        · rw [g3]
          exact ⟨hA b (hr.heap.rel.dom b _ g1), g2.bel ((hr.heap.rel.blk b _ g1).toBel hA)⟩
        · exact g3
      · have hg0 : M0.H.G b = some blk := by rw [h0r.G]; exact hm
        have hlt := hA0 b (h0r.rel.dom b blk hg0)
        have hl : look (S.l ++ h0.m) b = some blk := by
          rw [look_append]
          cases hl : look S.l b with
          | none => exact hm
          | some y =>
            exfalso
            rcases h.others (b, y) (look_mem hl) with h' | ⟨blk', h'⟩
            · simp only at h'; omega
            · exact look_none hn _ h' rfl
        rw [hGe] at hl
        exact ⟨blk, hl, .refl blk, Nat.lt_of_lt_of_le hlt h.low, blkBel_mono h.low ((h0r.rel.blk b blk hg0).toBel hA0)⟩
    · obtain ⟨g1, g2⟩ := h.gone b hb
      rw [look_append]
      cases hl : look S'.l b with
      | some y => exact absurd rfl (g2 _ (look_mem hl))
      | none => exact h0none b g1
  obtain ⟨g1, g2⟩ := cut_rel h0r hs hr.heap.rel hcut
  have g3 : ∀ x y v, VRel M x v → Fz (look (S.l ++ h0.m)) ids x y → (S'.nx = S.nx ∨ bel S'.nx y) → VRel (M.cut S'.nx (S'.l ++ h0.m)) y v := by
    intro x y v hv f hb
    rw [hGe] at f
    refine hv.fz hr.heap.rel hcut.less f ?_
    rcases hb with hb | hb
    · rw [hb]; exact f.bel (hv.toBel hA)
    · exact hb
  refine ⟨M.cut S'.nx (S'.l ++ h0.m), rfl, g1, ⟨g2, by rw [h.n]; exact hr.size, fun i y hi => ?_, ?_⟩, g3⟩
  · obtain ⟨x, q1, q2, q3⟩ := h.slots (i, y) (look_mem hi)
    obtain ⟨v, v1, v2⟩ := hr.slot i x q1
    exact ⟨v, v1, g3 x y v v2 q2 q3⟩
  · rw [h.d]
    rcases h.dbel with hd | hd
    · have := hr.defs
      rw [hd] at this ⊢
      cases hdd : a.defers with
      | nil => trivial
      | cons d ds => rw [hdd] at this; exact this.elim
    · have hdr := hr.defs
      clear hcut g1 g2
      generalize a.defers = ds at hdr
      generalize S.d = xs at hdr
      induction xs generalizing ds with
      | nil => cases ds <;> first | trivial | exact hdr.elim
      | cons x xs ih =>
        cases ds with
        | nil => exact hdr.elim
        | cons d ds =>
          refine ⟨?_, ih ds hdr.2⟩
          obtain ⟨vc, va, e, l1, l2, r1, r2⟩ := hdr.1.ex
          exact ⟨vc, va, e, l1, l2, fun i y v hi hv => g3 y y v (r1 i y v hi hv) (.refl y) (.inl hd), fun i y v hi hv => g3 y y v (r2 i y v hi hv) (.refl y) (.inl hd)⟩

theorem ICode.weak {c : Code} {ids : List Nat} {S S' : IState} {Q : Exit → IState → Prop} (hs : Sub h0 ids S S') (h : ICode P h0 c S' Q) : ICode P h0 c S Q := by
  intro M0 hM0 M a hst hr
  obtain ⟨M', hw, h1, h2, _⟩ := sub_rel hs hM0 hst hr
  rw [← hw]
  exact h M0 hM0 M' a h1 h2
theorem IOps.weak {all : Array Oper} {l : List Oper} {ids : List Nat} {S S' : IState} {Q : Exit → IState → Prop} (hs : Sub h0 ids S S') (h : IOps P h0 all l S' Q) : IOps P h0 all l S Q := by
  intro M0 hM0 M a hst hr
  obtain ⟨M', hw, h1, h2, _⟩ := sub_rel hs hM0 hst hr
  rw [← hw]
  exact h M0 hM0 M' a h1 h2

/-- A loop by an invariant: a family of states. -/
theorem irun_loop {ι : Type} {c : Code} {k : List It} {S : IState} {Q : Exit → IState → Prop} (St : ι → IState) (μ : ι → Nat) (i0 : ι) (hi : ∃ ids, Sub h0 ids S (St i0))
    (hr : ∀ i, IRun P h0 [.code c] (St i) fun e S' => match e with
      | .normal => ∃ i' ids, μ i' < μ i ∧ Sub h0 ids S' (St i')
      | e => after P h0 Q k e S') : IRun P h0 (.code (.loop c) :: k) S Q := by
  obtain ⟨ids, hi⟩ := hi
  refine ICode.weak hi ?_
  intro M0 hM0 M a hs hrel
  refine wp_loop_ghost (fun n a w => ∃ i M, μ i = n ∧ M.w = w ∧ MStep M0 M ∧ SRel h0 (St i) M a) (μ i0) ⟨i0, M, rfl, rfl, hs, hrel⟩ ?_
  rintro n a w ⟨i, M, rfl, rfl, hs, hrel⟩
  refine wp_mono (hr i M0 hM0 M a hs hrel) ?_
  rintro e a' w' ⟨M', S', rfl, h2, h3, h4⟩
  cases e with
  | normal =>
    obtain ⟨i', ids, hlt, hsub⟩ := h4
    obtain ⟨M'', hw, g1, g2, _⟩ := sub_rel hsub hM0 h2 h3
    exact ⟨μ i', hlt, i', M'', rfl, hw, g1, g2⟩
  | exit id => exact ⟨M', S', rfl, h2, h3, h4⟩
  | goto l => exact ⟨M', S', rfl, h2, h3, h4⟩
  | ret => exact ⟨M', S', rfl, h2, h3, h4⟩
  | panic ch => exact ⟨M', S', rfl, h2, h3, h4⟩
  | outgrown => exact ⟨M', S', rfl, h2, h3, h4⟩

theorem irun_weak {k : List It} {ids : List Nat} {S S' : IState} {Q : Exit → IState → Prop} (hs : Sub h0 ids S S') (hk : match k with | [] => False | .blk _ :: _ => False | _ => True) (h : IRun P h0 k S' Q) : IRun P h0 k S Q := by
  cases k with
  | nil => exact hk.elim
  | cons x k =>
    cases x with
    | code c => exact ICode.weak hs h
    | blk id => exact hk.elim
    | ops all l => exact IOps.weak hs h

/-! ### functions -/
/-- A function's results, read off its state. -/
def ires1 (P : Program) (S : IState) (m : List (Nat × IBlk)) : ResultVar → Option IV
  | .tmp t => look S.s t
  | .cell p t => match look S.s p with
    | some (.ptr b g r j) => match look m b with
      | some (.arr _ g' rows) => if g = g' then match rows[r]? with
          | some row => ldrow P t (row.drop j)
          | none => none
        else none
      | _ => none
    | _ => none
def iress (P : Program) (S : IState) (m : List (Nat × IBlk)) : List ResultVar → Option (List IV)
  | [] => some []
  | r :: rs => match ires1 P S m r, iress P S m rs with
    | some x, some xs => some (x :: xs)
    | _, _ => none
def ires (P : Program) (S : IState) (m : List (Nat × IBlk)) (rs : List ResultVar) : Option IV :=
  match iress P S m rs with
  | some [x] => some x
  | some xs => some (.tup xs)
  | none => none
end Go.Idl
