/- Facts that the proofs of this claim lean on. -/
import Derived.Test.YtlbjmfpbpiicdaaIdW
import Derived.LoopN
/-
  Rules of the walk: loops, slices that come to be owned, lengths, what a function returns.
-/
namespace Go.Idl
variable {P : Program} {h0 : IH}

/-! ### what lengths are -/
mutual
def psm : PV → Prop
  | .imm _ rows => rows.length ≤ maxLen ∧ pssm rows
  | .rp cells => plsm cells
  | .nan _ => True
  | .emp => True
  | .sc _ => True
def plsm : List PV → Prop
  | [] => True
  | x :: r => psm x ∧ plsm r
def pssm : List (List PV) → Prop
  | [] => True
  | x :: r => plsm x ∧ pssm r
end
theorem plsm_of : ∀ {l : List PV}, (∀ (j : Nat) (x : PV), l[j]? = some x → psm x) → plsm l
  | [], _ => trivial
  | y :: l, h => ⟨h 0 y rfl, plsm_of fun j x hx => h (j + 1) x (by simpa using hx)⟩
theorem pssm_of : ∀ {l : List (List PV)}, (∀ (i : Nat) (r : List PV) (j : Nat) (x : PV), l[i]? = some r → r[j]? = some x → psm x) → pssm l
  | [], _ => trivial
  | y :: l, h => ⟨plsm_of fun j x hx => h 0 y j x rfl hx, pssm_of fun i r j x hi hx => h (i + 1) r j x (by simpa using hi) hx⟩
theorem PRel.small {w : World} {own : Nat → Prop} {x : PV} {v : Value} (h : PRel w own x v) : psm x := by
  induction h with
  | sc v => trivial
  | emp a => trivial
  | imm sz rows a cap c o f hl hm ha hs hc hr ih => exact ⟨Nat.le_trans hl hm, pssm_of fun i r j x hi hj => ih i r j x hi hj⟩
  | rp cells c o f ha hc hr ih => exact plsm_of fun j x hj => ih j x hj
  | nan k b h => trivial
mutual
def ism : IV → Prop
  | .p x => psm x
  | .agg cs => isms cs
  | .tup cs => isms cs
  | .ref .. => True
  | .ptr .. => True
  | .mp _ => True
  | .clo .. => True
  | .dead => True
def isms : List IV → Prop
  | [] => True
  | x :: r => ism x ∧ isms r
end
theorem isms_of : ∀ {l : List IV}, (∀ (j : Nat) (x : IV), l[j]? = some x → ism x) → isms l
  | [], _ => trivial
  | y :: l, h => ⟨h 0 y rfl, isms_of fun j x hx => h (j + 1) x (by simpa using hx)⟩
theorem VRel.small {M : Mem} {x : IV} {v : Value} (h : VRel M x v) : ism x := by
  induction h with
  | p x v h => exact h.small
  | ref b g off len v hA' hv h => trivial
  | ptr b g r j v hA' hv h => trivial
  | mp b v hA' hv h => trivial
  | clo fn first cap vf vc hf hc rf rc i1 i2 => trivial
  | agg cs vs hl h1 r ih =>
    refine isms_of fun i x hx => ?_
    have hlt := lt_of_get hx
    rw [← hl] at hlt
    exact ih i x _ hx (List.getElem?_eq_getElem hlt)
  | tup cs vs hl r ih =>
    refine isms_of fun i x hx => ?_
    have hlt := lt_of_get hx
    rw [← hl] at hlt
    exact ih i x _ hx (List.getElem?_eq_getElem hlt)
  | dead v => trivial

/-! ### states that stand for the same -/
def Live : List It → Prop
  | .code _ :: _ => True
  | .ops _ _ :: _ => True
  | _ => False
theorem irun_learn {k : List It} {S : IState} {Q : Exit → IState → Prop} (hk : Live k) {t : Nat} {x : IV} (hx : look S.s t = some x) (h : ism x → IRun P h0 k S Q) : IRun P h0 k S Q := by
  have key : ∀ M a, SRel h0 S M a → ism x := fun M a hr => (by obtain ⟨v, _, h2⟩ := hr.slot t x hx; exact h2.small)
  cases k with
  | nil => exact hk.elim
  | cons y k =>
    cases y with
    | code c => exact fun M0 hM0 M a hs hr => h (key M a hr) M0 hM0 M a hs hr
    | blk id => exact hk.elim
    | ops all l => exact fun M0 hM0 M a hs hr => h (key M a hr) M0 hM0 M a hs hr

def Gho (h0 : IH) (S S' : IState) : Prop := ∀ M a, SRel h0 S M a → ∃ M', M'.w = M.w ∧ MStep M M' ∧ SRel h0 S' M' a
theorem irun_gho {k : List It} {S S' : IState} {Q : Exit → IState → Prop} (hk : Live k) (hg : Gho h0 S S') (h : IRun P h0 k S' Q) : IRun P h0 k S Q := by
  cases k with
  | nil => exact hk.elim
  | cons y k =>
    cases y with
    | code c =>
      intro M0 hM0 M a hs hr
      obtain ⟨M', e, st, hr'⟩ := hg M a hr
      rw [← e]
      exact h M0 hM0 M' a (hs.trans st) hr'
    | blk id => exact hk.elim
    | ops all l =>
      intro M0 hM0 M a hs hr
      obtain ⟨M', e, st, hr'⟩ := hg M a hr
      rw [← e]
      exact h M0 hM0 M' a (hs.trans st) hr'

/-- An empty slice without room comes to be owned. -/
theorem gho_own {S : IState} (t sz : Nat) {x : IV} (hx : look S.s t = some x) (he : x = .p .emp ∨ x = .p (.sc (.slice none 0 0))) :
    Gho h0 S ⟨S.n, (t, .ref S.nx 0 0 0) :: S.s, S.d, S.nx + 1, (S.nx, .arr sz 0 []) :: S.l⟩ := by
  intro M a hr
  have hA : ¬ M.H.A S.nx := fun h => Nat.lt_irrefl _ (hr.heap.A _ h)
  obtain ⟨st, rel⟩ := mem_virtual hr.heap.rel S.nx hA sz 0
  obtain ⟨v, v1, v2⟩ := hr.slot t x hx
  have hv : ∃ c, v = .slice c 0 0 := by
    rcases he with rfl | rfl
    · cases v2 with
      | p x v h => cases h with
        | emp c => exact ⟨c, rfl⟩
    · have := v2.sc_inv; subst this; exact ⟨none, rfl⟩
  obtain ⟨c, rfl⟩ := hv
  refine ⟨⟨M.w, M.H.put S.nx (.arr sz 0 []), putβ M.β S.nx none⟩, rfl, st, ⟨⟨rel, fun b hb => ?_, fun b => ?_⟩, hr.size, fun i y hy => ?_, hr.defs.step st⟩⟩
  · rcases hb with hb | rfl
    · exact Nat.lt_succ_of_lt (hr.heap.A b hb)
    · exact Nat.lt_succ_self _
  · simp only [AH.put, List.cons_append, look]
    by_cases e : b = S.nx
    · subst e; simp
    · rw [if_neg e, if_neg (fun h => e h.symm), hr.heap.G]
  · simp only [look] at hy
    split at hy
    · rename_i e; subst e
      cases hy
      refine ⟨_, v1, .ref _ _ _ _ _ (.inr rfl) ⟨c, 0, rfl⟩ fun blk hb => ?_⟩
      simp only [AH.put, if_true, Option.some.injEq] at hb
      subst hb
      exact ⟨Nat.le_refl _, fun _ => ⟨c, 0, rfl, Nat.le_refl _, Nat.le_refl _, Nat.le_refl _, .inl rfl⟩⟩
    · obtain ⟨v, w1, w2⟩ := hr.slot i y hy
      exact ⟨v, w1, w2.step st⟩

theorem walk_own (t sz : Nat) {k : List It} {N : Nat} {s : List (Nat × IV)} {d : List IDef} {nx : Nat} {l : List (Nat × IBlk)} {Q : Exit → IState → Prop} (hk : Live k) {x : IV} (hx : look s t = some x) (he : x = .p .emp ∨ x = .p (.sc (.slice none 0 0)))
    (h : IRun P h0 k ⟨N, (t, .ref nx 0 0 0) :: s, d, nx + 1, (nx, .arr sz 0 []) :: l⟩ Q) : IRun P h0 k ⟨N, s, d, nx, l⟩ Q :=
  irun_gho hk (gho_own (S := ⟨N, s, d, nx, l⟩) t sz hx he) h
theorem walk_learn (n t : Nat) {k : List It} {S : IState} {Q : Exit → IState → Prop} (hk : Live k) {x : IV} (hx : look S.s t = some x) (h : ism x → vc P h0 Q n k S) : IRun P h0 k S Q :=
  irun_learn hk hx fun h' => vc_sound Q n _ _ (h h')

/-! ### a nil slice, or an empty one without room, is an empty one -/
def wkp (a b : PV) : Prop := a = b ∨ (a = .emp ∨ a = .sc (.slice none 0 0)) ∧ ∃ sz, b = .imm sz []
mutual
def wk : IV → IV → Prop
  | .p a, y => match y with
    | .p b => wkp a b
    | _ => False
  | .agg xs, y => match y with
    | .agg ys => wks xs ys
    | _ => False
  | .tup xs, y => match y with
    | .tup ys => wks xs ys
    | _ => False
  | .ref b g o l, y => .ref b g o l = y
  | .ptr b g o l, y => .ptr b g o l = y
  | .mp b, y => .mp b = y
  | .clo f x c, y => .clo f x c = y
  | .dead, y => .dead = y
def wks : List IV → List IV → Prop
  | [], y => y = []
  | x :: xs, y => match y with
    | y :: ys => wk x y ∧ wks xs ys
    | [] => False
end
theorem wk_refl (x : IV) : wk x x := by
  apply IV.rec (motive_1 := fun x => wk x x) (motive_2 := fun l => wks l l)
  · intro a; exact .inl rfl
  · intros; rfl
  · intros; rfl
  · intros; rfl
  · intros; rfl
  · intro cs h; exact h
  · intro cs h; exact h
  · rfl
  · rfl
  · intro x l i1 i2; exact ⟨i1, i2⟩
theorem wks_refl : ∀ (l : List IV), wks l l
  | [] => rfl
  | x :: l => ⟨wk_refl x, wks_refl l⟩
theorem wks_get : ∀ {l m : List IV}, wks l m → m.length = l.length ∧ ∀ (i : Nat) (x y : IV), l[i]? = some x → m[i]? = some y → wk x y
  | [], m, h => by simp only [wks] at h; subst h; simp
  | x :: l, [], h => by simp [wks] at h
  | x :: l, y :: m, h => by
    obtain ⟨h1, h2⟩ := wks_get h.2
    refine ⟨by simp [h1], fun i a b ha hb => ?_⟩
    cases i with
    | zero => simp at ha hb; subst ha; subst hb; exact h.1
    | succ i => exact h2 i a b (by simpa using ha) (by simpa using hb)
theorem wk_fz {G : Nat → Option IBlk} {ids : List Nat} (x : IV) : ∀ y, wk x y → Fz G ids x y := by
  apply IV.rec (motive_1 := fun x => ∀ y, wk x y → Fz G ids x y) (motive_2 := fun l => ∀ x ∈ l, ∀ y, wk x y → Fz G ids x y)
  · intro a y h
    cases y <;> simp only [wk] at h
    rcases h with rfl | ⟨h, sz, rfl⟩
    · exact .refl _
    · exact .nil a sz h
  · intro b g off len y h; simp only [wk] at h; subst h; exact .refl _
  · intro b g off len y h; simp only [wk] at h; subst h; exact .refl _
  · intro b y h; simp only [wk] at h; subst h; exact .refl _
  · intro fn f c _ _ y h; simp only [wk] at h; subst h; exact .refl _
  · intro cs ih y h
    cases y <;> simp only [wk] at h
    obtain ⟨h1, h2⟩ := wks_get h
    exact .agg _ _ h1 fun i x y hx hy => ih x (List.mem_of_getElem? hx) y (h2 i x y hx hy)
  · intro cs ih y h
    cases y <;> simp only [wk] at h
    obtain ⟨h1, h2⟩ := wks_get h
    exact .tup _ _ h1 fun i x y hx hy => ih x (List.mem_of_getElem? hx) y (h2 i x y hx hy)
  · intro y h; simp only [wk] at h; subst h; exact .refl _
  · intro x hx; cases hx
  · intro x l i1 i2 z hz
    rcases List.mem_cons.1 hz with rfl | hz
    · exact i1
    · exact i2 z hz
theorem VRel.wk {M : Mem} {x : IV} {v : Value} (h : VRel M x v) : ∀ {y : IV}, wk x y → VRel M y v := by
  induction h with
  | p a v h =>
    intro y hy
    cases y <;> simp only [Idl.wk] at hy
    rcases hy with rfl | ⟨ha, sz, rfl⟩
    · exact .p _ _ h
    · have : ∃ c, v = .slice c 0 0 := by
        rcases ha with rfl | rfl
        · cases h with
          | emp c => exact ⟨c, rfl⟩
        · cases h; exact ⟨none, rfl⟩
      obtain ⟨c, rfl⟩ := this
      exact .p _ _ (.imm sz [] c 0 0 0 (fun _ _ => undef) (Nat.le_refl _) (Nat.zero_le _) (fun h => absurd h (by simp)) (by simp) (by simp) (by simp))
  | ref b g off len v hA' hv h => intro y hy; simp only [Idl.wk] at hy; subst hy; exact .ref b g off len v hA' hv h
  | ptr b g r j v hA' hv h => intro y hy; simp only [Idl.wk] at hy; subst hy; exact .ptr b g r j v hA' hv h
  | mp b v hA' hv h => intro y hy; simp only [Idl.wk] at hy; subst hy; exact .mp b v hA' hv h
  | clo fn first cap vf vc hf hc rf rc i1 i2 => intro y hy; simp only [Idl.wk] at hy; subst hy; exact .clo fn first cap vf vc hf hc rf rc
  | agg cs vs hl h1 r ih =>
    intro y hy
    cases y <;> simp only [Idl.wk] at hy
    obtain ⟨e1, e2⟩ := wks_get hy
    refine .agg _ vs (by omega) h1 fun i y v hy hv => ?_
    have hlt := lt_of_get hy
    have hx := List.getElem?_eq_getElem (show i < cs.length by omega)
    exact ih i _ v hx hv (e2 i _ y hx hy)
  | tup cs vs hl r ih =>
    intro y hy
    cases y <;> simp only [Idl.wk] at hy
    obtain ⟨e1, e2⟩ := wks_get hy
    refine .tup _ vs (by omega) fun i y v hy hv => ?_
    have hlt := lt_of_get hy
    have hx := List.getElem?_eq_getElem (show i < cs.length by omega)
    exact ih i _ v hx hv (e2 i _ y hx hy)
  | dead v => intro y hy; simp only [Idl.wk] at hy; subst hy; exact .dead v

def wkRs (a b : List (List IV)) : Prop := a = b ∨ b.length = a.length ∧ ∀ (i : Nat) (r r' : List IV), a[i]? = some r → b[i]? = some r' → wks r r'
def wkB : IBlk → IBlk → Prop
  | .arr sz g rows, y => match y with
    | .arr sz' g' rows' => sz = sz' ∧ g = g' ∧ wkRs rows rows'
    | .mp _ => False
  | .mp es, y => .mp es = y
theorem wkB_fz {G : Nat → Option IBlk} {ids : List Nat} {x y : IBlk} (h : wkB x y) : FzB G ids x y := by
  cases x with
  | arr sz g rows =>
    cases y with
    | mp es => exact h.elim
    | arr sz' g' rows' =>
      obtain ⟨rfl, rfl, h⟩ := h
      rcases h with rfl | ⟨h1, h2⟩
      · exact .refl _
      · refine ⟨rfl, rfl, h1, fun i row row' hi hi' => ?_⟩
        obtain ⟨e1, e2⟩ := wks_get (h2 i row row' hi hi')
        exact ⟨e1, fun j x y hx hy => wk_fz x y (e2 j x y hx hy)⟩
  | mp es => simp only [wkB] at h; subst h; exact .refl _
section
variable {a b : PV} {x y : IV} {xs ys : List IV} {sz sz' g g' : Nat} {rows rows' : List (List PV)} {rs rs' : List (List IV)}
@[go_sem] theorem wk_self : wk x x = True := eq_true (wk_refl x)
@[go_sem] theorem wkp_self : wkp a a = True := eq_true (.inl rfl)
@[go_sem] theorem wks_self : wks xs xs = True := eq_true (wks_refl xs)
@[go_sem] theorem wkRs_self : wkRs rs rs = True := eq_true (.inl rfl)
@[go_sem] theorem wk_p : wk (.p a) (.p b) = wkp a b := by simp only [wk]
@[go_sem] theorem wk_agg : wk (.agg xs) (.agg ys) = wks xs ys := by simp only [wk]
@[go_sem] theorem wk_tup : wk (.tup xs) (.tup ys) = wks xs ys := by simp only [wk]
@[go_sem] theorem wk_ref {b g o l b' g' o' l' : Nat} : wk (.ref b g o l) (.ref b' g' o' l') = (b = b' ∧ g = g' ∧ o = o' ∧ l = l') := by simp only [wk, IV.ref.injEq]
@[go_sem] theorem wk_ptr {b g o l b' g' o' l' : Nat} : wk (.ptr b g o l) (.ptr b' g' o' l') = (b = b' ∧ g = g' ∧ o = o' ∧ l = l') := by simp only [wk, IV.ptr.injEq]
@[go_sem] theorem wks_cons : wks (x :: xs) (y :: ys) = (wk x y ∧ wks xs ys) := by simp only [wks]
@[go_sem] theorem wkp_nil : wkp (.sc (.slice none 0 0)) (.imm sz rows) = (rows = []) := by simp [wkp]
@[go_sem] theorem wkp_emp : wkp .emp (.imm sz rows) = (rows = []) := by simp [wkp]
@[go_sem] theorem wkp_imm : wkp (.imm sz rows) (.imm sz' rows') = (sz = sz' ∧ rows = rows') := by simp [wkp]
@[go_sem] theorem wkp_sc {u v : Value} : wkp (.sc u) (.sc v) = (u = v) := by simp [wkp]
@[go_sem] theorem wkp_rp {u v : List PV} : wkp (.rp u) (.rp v) = (u = v) := by simp [wkp]
@[go_sem] theorem wkRs_cons {r r' : List IV} : wkRs (r :: rs) (r' :: rs') = (wks r r' ∧ wkRs rs rs') := by
  refine propext ⟨fun h => ?_, fun h => ?_⟩
  · rcases h with h | ⟨h1, h2⟩
    · cases h; exact ⟨wks_refl _, .inl rfl⟩
    · exact ⟨h2 0 r r' rfl rfl, .inr ⟨by simpa using h1, fun i a b ha hb => h2 (i + 1) a b (by simpa using ha) (by simpa using hb)⟩⟩
  · obtain ⟨h1, h2⟩ := h
    refine .inr ⟨?_, fun i a b ha hb => ?_⟩
    · rcases h2 with rfl | h2
      · rfl
      · simp [h2.1]
    · cases i with
      | zero => simp at ha hb; subst ha; subst hb; exact h1
      | succ i =>
        simp at ha hb
        rcases h2 with rfl | h2
        · rw [ha] at hb; cases hb; exact wks_refl _
        · exact h2.2 i a b ha hb
@[go_sem] theorem wkB_arr : wkB (.arr sz g rs) (.arr sz' g' rs') = (sz = sz' ∧ g = g' ∧ wkRs rs rs') := by simp only [wkB]
end

/-! ### loops -/
def slotsIn (S : IState) (nx : Nat) : List (Nat × IV) → Prop
  | [] => True
  | (t, y) :: r => onSome (look S.s t) (fun z => wk z y) False ∧ (nx = S.nx ∨ bel nx y) ∧ slotsIn S nx r
def blksIn (S : IState) (m : List (Nat × IBlk)) (nx : Nat) : List (Nat × IBlk) → Prop
  | [] => True
  | (b, blk) :: r => onSome (look (S.l ++ m) b) (fun z => wkB z blk) False ∧ (nx = S.nx ∨ b < nx ∧ blkBel nx blk) ∧ blksIn S m nx r
def oldIn (nx0 : Nat) (l' : List (Nat × IBlk)) : List (Nat × IBlk) → Prop
  | [] => True
  | (b, _) :: r => (nx0 ≤ b ∨ ∃ blk, (b, blk) ∈ l') ∧ oldIn nx0 l' r
theorem slotsIn_mem {S : IState} {nx : Nat} : ∀ {s : List (Nat × IV)}, slotsIn S nx s → ∀ p ∈ s, (∃ z, look S.s p.1 = some z ∧ wk z p.2) ∧ (nx = S.nx ∨ bel nx p.2)
  | [], _, p, hp => by cases hp
  | (t, y) :: r, h, p, hp => by
    rcases List.mem_cons.1 hp with rfl | hp
    · refine ⟨?_, h.2.1⟩
      have := h.1
      cases hl : look S.s t with
      | none => rw [hl] at this; exact this.elim
      | some z => rw [hl] at this; exact ⟨z, rfl, this⟩
    · exact slotsIn_mem h.2.2 p hp
theorem blksIn_mem {S : IState} {m : List (Nat × IBlk)} {nx : Nat} : ∀ {s : List (Nat × IBlk)}, blksIn S m nx s → ∀ p ∈ s, (∃ z, look (S.l ++ m) p.1 = some z ∧ wkB z p.2) ∧ (nx = S.nx ∨ p.1 < nx ∧ blkBel nx p.2)
  | [], _, p, hp => by cases hp
  | (t, y) :: r, h, p, hp => by
    rcases List.mem_cons.1 hp with rfl | hp
    · refine ⟨?_, h.2.1⟩
      have := h.1
      cases hl : look (S.l ++ m) t with
      | none => rw [hl] at this; exact this.elim
      | some z => rw [hl] at this; exact ⟨z, rfl, this⟩
    · exact blksIn_mem h.2.2 p hp
theorem oldIn_mem {nx0 : Nat} {l' : List (Nat × IBlk)} : ∀ {s : List (Nat × IBlk)}, oldIn nx0 l' s → ∀ p ∈ s, nx0 ≤ p.1 ∨ ∃ blk, (p.1, blk) ∈ l'
  | [], _, p, hp => by cases hp
  | (t, y) :: r, h, p, hp => by
    rcases List.mem_cons.1 hp with rfl | hp
    · exact h.1
    · exact oldIn_mem h.2 p hp

/-- A state of which less is said: fewer slots, fewer blocks; nothing is frozen. -/
structure Cut (h0 : IH) (S S' : IState) : Prop where
  n : S'.n = S.n
  d : S'.d = S.d
  dbel : S.d = [] ∨ S'.nx = S.nx
  low : h0.nx ≤ S'.nx
  top : S'.nx ≤ S.nx
  slots : slotsIn S S'.nx S'.s
  blks : blksIn S h0.m S'.nx S'.l
  others : oldIn h0.nx S'.l S.l
theorem Cut.sub {S S' : IState} (h : Cut h0 S S') : Sub h0 [] S S' := by
  refine ⟨h.n, h.d, h.dbel, h.low, h.top, fun p hp => ?_, fun p hp => ?_, oldIn_mem h.others, by simp⟩
  · obtain ⟨⟨z, h1, h3⟩, h2⟩ := slotsIn_mem h.slots p hp
    exact ⟨z, h1, wk_fz _ _ h3, h2⟩
  · obtain ⟨⟨z, h1, h3⟩, h2⟩ := blksIn_mem h.blks p hp
    exact ⟨z, h1, wkB_fz h3, h2⟩

def loopQ (P : Program) (h0 : IH) (Q : Exit → IState → Prop) (n : Nat) (k : List It) (next : IState → Prop) : Exit → IState → Prop
  | .normal, S => next S
  | .exit id, S => stepExit P h0 Q n id S (toBlk id k)
  | .ret, S => Q .ret S
  | .panic ch, S => Q (.panic ch) S
  | e, S => after P h0 Q k e S
section
variable {Q : Exit → IState → Prop} {n : Nat} {k : List It} {next : IState → Prop} {S : IState}
@[go_sem ↓] theorem loopQ_normal : loopQ P h0 Q n k next .normal S = next S := (rfl)
@[go_sem ↓] theorem loopQ_exit {id : Nat} : loopQ P h0 Q n k next (.exit id) S = stepExit P h0 Q n id S (toBlk id k) := (rfl)
@[go_sem ↓] theorem loopQ_ret : loopQ P h0 Q n k next .ret S = Q .ret S := (rfl)
@[go_sem ↓] theorem loopQ_panic {ch : List PanicEntry} : loopQ P h0 Q n k next (.panic ch) S = Q (.panic ch) S := (rfl)
end

/-- A loop: states by an index; each round ends in one of a smaller measure. -/
theorem walk_loop {ι : Type} {c : Code} {k : List It} {S : IState} {Q : Exit → IState → Prop} (n m : Nat) (I : ι → Prop) (St : ι → IState) (μ : ι → Nat) (i0 : ι) (hI : I i0) (hi : Cut h0 S (St i0))
    (hr : ∀ i, I i → vc P h0 (loopQ P h0 Q n k fun S' => ∃ i', I i' ∧ μ i' < μ i ∧ Cut h0 S' (St i')) m [.code c] (St i)) : IRun P h0 (.code (.loop c) :: k) S Q := by
  refine irun_loop (ι := { i // I i }) (fun i => St i.1) (fun i => μ i.1) ⟨i0, hI⟩ ⟨[], hi.sub⟩ fun ⟨i, hIi⟩ => ?_
  have := vc_sound _ _ _ _ (hr i hIi)
  refine ICode.mono this fun e S' h => ?_
  have h : loopQ P h0 Q n k (fun S' => ∃ i', I i' ∧ μ i' < μ i ∧ Cut h0 S' (St i')) e S' := h
  cases e with
  | normal => obtain ⟨i', h1, h2, h3⟩ := h; exact ⟨⟨i', h1⟩, [], h2, h3.sub⟩
  | exit id =>
    simp only [loopQ, stepExit] at h
    cases hb : toBlk id k with
    | none => rw [hb, onSome_none] at h; exact (show after P h0 Q k (.exit id) S' from after_exit_none hb h)
    | some k' => rw [hb, onSome_some] at h; exact (show after P h0 Q k (.exit id) S' from after_exit hb (vc_sound Q n _ _ h))
  | ret => exact (show after P h0 Q k .ret S' from after_ret h)
  | panic ch => exact (show after P h0 Q k (.panic ch) S' from after_panic h)
  | goto l => exact h
  | outgrown => exact h

/-! ### what a function returns -/
def pvs2 : List (List IV) → Option (List (List PV))
  | [] => some []
  | r :: rs => match pvs r, pvs2 rs with
    | some x, some xs => some (x :: xs)
    | _, _ => none
theorem pvs2_eq : ∀ {l : List (List IV)} {ps : List (List PV)}, pvs2 l = some ps → l = ps.map (·.map .p)
  | [], ps, h => by simp only [pvs2, Option.some.injEq] at h; subst h; rfl
  | r :: rs, ps, h => by
    unfold pvs2 at h
    split at h
    · rename_i x xs h1 h2
      simp only [Option.some.injEq] at h; subst h
      rw [pvs2_eq h2, pvs_eq h1]; rfl
    · cases h
mutual
/-- A value with all slices of owned blocks told by what lies in them. -/
def frz (G : Nat → Option IBlk) : IV → Option IV
  | .p x => some (.p x)
  | .ref b g off len => match G b with
    | some (.arr sz g' rows) => if g = g' then (pvs2 ((rows.drop off).take len)).map fun ps => .p (.imm sz ps) else none
    | _ => none
  | .ptr b g r j => match G b with
    | some (.arr _ g' rows) => if g = g' then match rows[r]? with
        | some row => (pvs (row.drop j)).map fun ps => .p (.rp ps)
        | none => none
      else none
    | _ => none
  | .agg cs => (frzs G cs).map .agg
  | .tup cs => (frzs G cs).map .tup
  | _ => none
def frzs (G : Nat → Option IBlk) : List IV → Option (List IV)
  | [] => some []
  | x :: r => match frz G x, frzs G r with
    | some y, some ys => some (y :: ys)
    | _, _ => none
end
mutual
/-- The blocks of which it speaks. -/
def refs : IV → List Nat
  | .ref b _ _ _ => [b]
  | .ptr b _ _ _ => [b]
  | .agg cs => refss cs
  | .tup cs => refss cs
  | _ => []
def refss : List IV → List Nat
  | [] => []
  | x :: r => refs x ++ refss r
end
theorem frzs_get {G : Nat → Option IBlk} : ∀ {l ys : List IV}, frzs G l = some ys → ys.length = l.length ∧ ∀ (i : Nat) (x y : IV), l[i]? = some x → ys[i]? = some y → frz G x = some y
  | [], ys, h => by simp only [frzs, Option.some.injEq] at h; subst h; simp
  | x :: r, ys, h => by
    unfold frzs at h
    split at h
    · rename_i y ys' h1 h2
      simp only [Option.some.injEq] at h; subst h
      obtain ⟨l1, l2⟩ := frzs_get h2
      refine ⟨by simp [l1], fun i a b ha hb => ?_⟩
      cases i with
      | zero => simp at ha hb; subst ha; subst hb; exact h1
      | succ i => exact l2 i a b (by simpa using ha) (by simpa using hb)
    · cases h
theorem refss_get {l : List IV} : ∀ {i : Nat} {x : IV}, l[i]? = some x → ∀ b ∈ refs x, b ∈ refss l := by
  induction l with
  | nil => intro i x h; simp at h
  | cons y l ih =>
    intro i x h b hb
    simp only [refss, List.mem_append]
    cases i with
    | zero => simp at h; subst h; exact .inl hb
    | succ i => exact .inr (ih (by simpa using h) b hb)
theorem frz_Fz {G : Nat → Option IBlk} (x : IV) : ∀ y ids, frz G x = some y → (∀ b ∈ refs x, b ∈ ids) → Fz G ids x y ∧ bel 0 y := by
  apply IV.rec (motive_1 := fun x => ∀ y ids, frz G x = some y → (∀ b ∈ refs x, b ∈ ids) → Fz G ids x y ∧ bel 0 y)
    (motive_2 := fun l => ∀ x ∈ l, ∀ y ids, frz G x = some y → (∀ b ∈ refs x, b ∈ ids) → Fz G ids x y ∧ bel 0 y)
  · intro x y ids h _; simp only [frz, Option.some.injEq] at h; subst h; exact ⟨.refl _, trivial⟩
  · intro b g off len y ids h hr
    simp only [frz] at h
    split at h
    · rename_i sz g' rows hb
      split at h
      · rename_i e; subst e
        simp only [Option.map_eq_some_iff] at h
        obtain ⟨ps, hp, rfl⟩ := h
        exact ⟨.ref b g off len sz rows ps hb (hr b (by simp [refs])) (pvs2_eq hp), trivial⟩
      · cases h
    · cases h
  · intro b g r j y ids h hr
    simp only [frz] at h
    split at h
    · rename_i sz g' rows hb
      split at h
      · rename_i e; subst e
        split at h
        · rename_i row hrow
          simp only [Option.map_eq_some_iff] at h
          obtain ⟨ps, hp, rfl⟩ := h
          exact ⟨.ptr b g r j sz rows row ps hb (hr b (by simp [refs])) hrow (pvs_eq hp), trivial⟩
        · cases h
      · cases h
    · cases h
  · intro b y ids h; simp [frz] at h
  · intro fn f c i1 i2 y ids h; simp [frz] at h
  · intro cs ih y ids h hr
    simp only [frz, Option.map_eq_some_iff] at h
    obtain ⟨ys, hy, rfl⟩ := h
    obtain ⟨l1, l2⟩ := frzs_get hy
    refine ⟨.agg cs ys l1 fun i a b ha hb => (ih a (List.mem_of_getElem? ha) b ids (l2 i a b ha hb) fun c hc => hr c (refss_get ha c hc)).1, bels_of fun i b hb => ?_⟩
    have hlt := lt_of_get hb
    have ha := List.getElem?_eq_getElem (show i < cs.length by omega)
    exact (ih _ (List.mem_of_getElem? ha) b ids (l2 i _ b ha hb) fun c hc => hr c (refss_get ha c hc)).2
  · intro cs ih y ids h hr
    simp only [frz, Option.map_eq_some_iff] at h
    obtain ⟨ys, hy, rfl⟩ := h
    obtain ⟨l1, l2⟩ := frzs_get hy
    refine ⟨.tup cs ys l1 fun i a b ha hb => (ih a (List.mem_of_getElem? ha) b ids (l2 i a b ha hb) fun c hc => hr c (refss_get ha c hc)).1, bels_of fun i b hb => ?_⟩
    have hlt := lt_of_get hb
    have ha := List.getElem?_eq_getElem (show i < cs.length by omega)
    exact (ih _ (List.mem_of_getElem? ha) b ids (l2 i _ b ha hb) fun c hc => hr c (refss_get ha c hc)).2
  · intro y ids h; simp [frz] at h
  · intro x hx; cases hx
  · intro x l i1 i2 z hz
    rcases List.mem_cons.1 hz with rfl | hz
    · exact i1
    · exact i2 z hz

def geAll (n : Nat) : List Nat → Prop
  | [] => True
  | b :: r => n ≤ b ∧ geAll n r
theorem geAll_mem {n : Nat} : ∀ {l : List Nat}, geAll n l → ∀ b ∈ l, n ≤ b
  | [], _, b, hb => by cases hb
  | c :: r, h, b, hb => by rcases List.mem_cons.1 hb with rfl | hb; exact h.1; exact geAll_mem h.2 b hb

theorem leave_frz {h : IH} {S : IState} {x y : IV} (hd : S.d = []) (hnx : h.nx ≤ S.nx) (hl : geAll h.nx (S.l.map (·.1))) (hx : geAll h.nx (refs x)) (hf : frz (look (S.l ++ h.m)) x = some y) : Leave h (refs x) S x y h.nx [] := by
  obtain ⟨h1, h2⟩ := frz_Fz x y (refs x) hf (fun b hb => hb)
  exact ⟨⟨rfl, rfl, .inl hd, Nat.le_refl _, hnx, by simp, by simp, fun p hp => .inl (geAll_mem hl _ (List.mem_map_of_mem hp)), fun b hb => ⟨geAll_mem hx b hb, by simp⟩⟩, h1, .inr (bel_mono (Nat.zero_le _) _ h2)⟩

/-- What a function's end asks that leaves nothing. -/
def endP (P : Program) (fn : Func) (h : IH) (Q : IV → Prop) (S : IState) : Prop :=
  onSome (ires P S (S.l ++ h.m) fn.results.toList) (fun x => onSome (frz (look (S.l ++ h.m)) x) (fun y => geAll h.nx (refs x) ∧ Q y) False) False
theorem fin_pure {fn : Func} {h : IH} {Q : IV → Prop} {S : IState} (e : Exit) (he : e = .normal ∨ e = .ret) (hd : S.d = []) (hnx : h.nx ≤ S.nx) (hl : geAll h.nx (S.l.map (·.1)))
    (hx : endP P fn h Q S) : FinOk P fn h (fun r nx l => ∃ y, r = .ret y ∧ Q y ∧ nx = h.nx ∧ l = []) e S := by
  unfold endP at hx
  cases hi : ires P S (S.l ++ h.m) fn.results.toList with
  | none => rw [hi] at hx; exact hx.elim
  | some x =>
    rw [hi, onSome_some] at hx
    cases hf : frz (look (S.l ++ h.m)) x with
    | none => rw [hf] at hx; exact hx.elim
    | some y =>
      rw [hf, onSome_some] at hx
      rcases he with rfl | rfl
      · exact .norm S x y _ h.nx [] hd hi (leave_frz hd hnx hl hx.1 hf) ⟨y, rfl, hx.2, rfl, rfl⟩
      · exact .ret S x y _ h.nx [] hd hi (leave_frz hd hnx hl hx.1 hf) ⟨y, rfl, hx.2, rfl, rfl⟩

/-- The ends of a function that leaves nothing: its state, and what it answers. -/
def EndP (P : Program) (fn : Func) (h : IH) (Q : IV → Prop) : Exit → IState → Prop
  | .normal, S => S.d = [] ∧ h.nx ≤ S.nx ∧ geAll h.nx (S.l.map (·.1)) ∧ endP P fn h Q S
  | .ret, S => S.d = [] ∧ h.nx ≤ S.nx ∧ geAll h.nx (S.l.map (·.1)) ∧ endP P fn h Q S
  | _, _ => False
section
variable {fn : Func} {h : IH} {Q : IV → Prop} {N : Nat} {s : List (Nat × IV)} {d : List IDef} {nx : Nat} {l : List (Nat × IBlk)}
@[go_sem ↓] theorem EndP_normal : EndP P fn h Q .normal ⟨N, s, d, nx, l⟩ = (d = [] ∧ h.nx ≤ nx ∧ geAll h.nx (l.map (·.1)) ∧ endP P fn h Q ⟨N, s, d, nx, l⟩) := (rfl)
@[go_sem ↓] theorem EndP_ret : EndP P fn h Q .ret ⟨N, s, d, nx, l⟩ = (d = [] ∧ h.nx ≤ nx ∧ geAll h.nx (l.map (·.1)) ∧ endP P fn h Q ⟨N, s, d, nx, l⟩) := (rfl)
@[go_sem ↓] theorem endP_eq : endP P fn h Q ⟨N, s, d, nx, l⟩ =
    onSome (ires P ⟨N, s, d, nx, l⟩ (l ++ h.m) fn.results.toList) (fun x => onSome (frz (look (l ++ h.m)) x) (fun y => geAll h.nx (refs x) ∧ Q y) False) False := (rfl)
end

/-- A function of its arguments and the blocks R; what it answers is told up to empty slices. -/
theorem pcall_of (n : Nat) {f : FuncId} {fn : Func} {c : Code} {args : List IV} {R : List (Nat × IBlk)} {x : IV} (hf : P.funcs[f]? = some fn) (hb : fn.body = some c) (hn : args.length ≤ fn.ntmps)
    (hc : ∀ h : IH, (∀ p ∈ R, look h.m p.1 = some p.2) → isms args → vc P h (EndP P fn h fun y => wk y x) n [.code c] ⟨fn.ntmps, enum 0 args, [], h.nx, []⟩) : PCall P f args R x := by
  intro h hR M vs hM hl hr
  have hs : isms args := isms_of fun i x hx => (hr i x _ hx (List.getElem?_eq_getElem (by have := lt_of_get hx; omega))).small
  have : ICall P f args h fun r nx l => ∃ y, r = .ret y ∧ wk y x ∧ nx = h.nx ∧ l = [] := by
    refine icall_of hf hb hn (ICode.mono (vc_sound _ _ _ _ (hc h hR hs)) fun e S he => ?_)
    cases e with
    | normal => exact fin_pure _ (.inl rfl) he.1 he.2.1 he.2.2.1 he.2.2.2
    | ret => exact fin_pure _ (.inr rfl) he.1 he.2.1 he.2.2.1 he.2.2.2
    | exit id => exact he.elim
    | goto l => exact he.elim
    | panic ch => exact he.elim
    | outgrown => exact he.elim
  refine (this M vs hM hl hr).mono fun e w' ⟨M', nx', l', r, h1, h2, h3, h4, y, h5, h6, h7, h8⟩ => ⟨M', nx', l', .ret x, h1, h2, h3, ?_, rfl, h7, h8⟩
  subst h5
  obtain ⟨v, e1, e2⟩ := h4
  exact ⟨v, e1, e2.wk h6⟩

theorem PCall.weak {f : FuncId} {args args' : List IV} {R : List (Nat × IBlk)} {x : IV} (h : PCall P f args' R x) (hw : wks args args') : PCall P f args R x := by
  intro hp hR M vs hM hl hr
  obtain ⟨e1, e2⟩ := wks_get hw
  refine h hp hR M vs hM (by omega) fun i y v hy hv => ?_
  have hlt := lt_of_get hy
  have hx := List.getElem?_eq_getElem (show i < args.length by omega)
  exact (hr i _ v hx hv).wk (e2 i _ y hx hy)

/-- A call in the walk, its arguments told up to empty slices. -/
theorem walk_wcall (n : Nat) {Q : Exit → IState → Prop} {k : List It} {all : Array Oper} {r : List Oper} {dst : Option Tmp} {ty : TypeId} {pos : String} {aft : Array Edge} {N : Nat} {s : List (Nat × IV)} {d : List IDef} {nx : Nat} {l : List (Nat × IBlk)}
    {g : Option (Nat × Bool)} {f : Operand} {args : List Operand} {ts : Array TypeId} {c : FuncId} {zs' : List IV} {x : IV} {R : List (Nat × IBlk)}
    (hp : PCall P c zs' R x) (hc : onSome (icallee (ev s) f args) (fun q => q.1 = c ∧ wks q.2 zs') False) (hR : ∀ p ∈ R, look (l ++ h0.m) p.1 = some p.2)
    (hw : iwant all s ⟨dst, .call { callee := .value f, args := ⟨args⟩, argTypes := ts }, ty, pos, aft, g⟩ = some true) (hn : fnOk P c = true) (hd : dOk N dst = true)
    (h : vc P h0 Q n (.ops all r :: k) ⟨N, putS dst x s, d, nx, l⟩) :
    IRun P h0 (.ops all (⟨dst, .call { callee := .value f, args := ⟨args⟩, argTypes := ts }, ty, pos, aft, g⟩ :: r) :: k) ⟨N, s, d, nx, l⟩ Q := by
  cases hi : icallee (ev s) f args with
  | none => rw [hi] at hc; exact hc.elim
  | some q =>
    obtain ⟨c', zs⟩ := q
    rw [hi] at hc
    obtain ⟨e, hwk⟩ := hc
    simp only at e hwk
    subst e
    exact wlk_call n hi (hp.weak hwk) hR hw hn hd h
theorem walk_wdcall {K : IState → List FP → Prop} {all : Array Oper} {r : List Oper} {dst : Option Tmp} {ty : TypeId} {pos : String} {aft : Array Edge} {N : Nat} {s : List (Nat × IV)} {d : List IDef} {nx : Nat} {l : List (Nat × IBlk)}
    {g : Option (Nat × Bool)} {f : Operand} {args : List Operand} {ts : Array TypeId} {c : FuncId} {zs' : List IV} {x : IV} {R : List (Nat × IBlk)} {acc : List FP}
    (hp : PCall P c zs' R x) (hc : onSome (icallee (ev s) f args) (fun q => q.1 = c ∧ wks q.2 zs') False) (hR : ∀ p ∈ R, look (l ++ h0.m) p.1 = some p.2)
    (hw : iwant all s ⟨dst, .call { callee := .value f, args := ⟨args⟩, argTypes := ts }, ty, pos, aft, g⟩ = some true) (hn : fnOk P c = true) (hd : dOk N dst = true) (hx : bel 0 x)
    (h : dvc P h0 all K r ⟨N, putS dst x s, d, nx, l⟩ (acc ++ [(R.map (·.1), [])])) :
    DRun P h0 all (⟨dst, .call { callee := .value f, args := ⟨args⟩, argTypes := ts }, ty, pos, aft, g⟩ :: r) ⟨N, s, d, nx, l⟩ acc K := by
  cases hi : icallee (ev s) f args with
  | none => rw [hi] at hc; exact hc.elim
  | some q =>
    obtain ⟨c', zs⟩ := q
    rw [hi] at hc
    obtain ⟨e, hwk⟩ := hc
    simp only at e hwk
    subst e
    exact walk_dcall hi (hp.weak hwk) hR hw hn hd hx h

attribute [go_sem] ism isms psm plsm pssm slotsIn blksIn oldIn pvs2 frz frzs refs refss geAll Live
end Go.Idl

/-
  Lists told as rows.
-/
namespace Go.Idl
/-- A list as rows of cells that nothing writes to, and as rows of an owned block. -/
def pr {α : Type} (f : α → List PV) (l : List α) : List (List PV) := l.map f
def ir {α : Type} (f : α → List PV) (l : List α) : List (List IV) := l.map fun a => (f a).map .p
section
variable {α : Type} {f : α → List PV} {l l' : List α} {i k : Nat} {a : α}
@[go_sem] theorem pr_length : (pr f l).length = l.length := by simp [pr]
@[go_sem] theorem ir_length : (ir f l).length = l.length := by simp [ir]
theorem pr_get (h : i < l.length) : (pr f l)[i]? = some (f l[i]) := by simp [pr, h]
theorem ir_get (h : i < l.length) : (ir f l)[i]? = some ((f l[i]).map .p) := by simp [ir, h]
theorem pr_get' (h : l[i]? = some a) : (pr f l)[i]? = some (f a) := by simp [pr, h]
theorem ir_get' (h : l[i]? = some a) : (ir f l)[i]? = some ((f a).map .p) := by simp [ir, h]
@[go_sem] theorem pr_map : (pr f l).map (·.map .p) = ir f l := by simp [pr, ir]
@[go_sem] theorem pvs_map : ∀ {x : List PV}, pvs (x.map .p) = some x
  | [] => rfl
  | x :: r => by simp [pvs, pvs_map]
@[go_sem] theorem pvs2_ir : pvs2 (ir f l) = some (pr f l) := by
  induction l with
  | nil => rfl
  | cons x l ih =>
    have : ir f (x :: l) = (f x).map .p :: ir f l := rfl
    rw [this]
    simp only [pvs2, pvs_map, ih]
    rfl
theorem ir_snoc : ir f (l ++ [a]) = ir f l ++ [(f a).map .p] := by simp [ir]
@[go_sem] theorem ir_append : ir f l ++ ir f l' = ir f (l ++ l') := by simp [ir]
@[go_sem] theorem pr_drop : (pr f l).drop k = pr f (l.drop k) := by simp [pr]
@[go_sem] theorem pr_take : (pr f l).take k = pr f (l.take k) := by simp [pr]
@[go_sem] theorem ir_drop : (ir f l).drop k = ir f (l.drop k) := by simp [ir]
@[go_sem] theorem ir_take : (ir f l).take k = ir f (l.take k) := by simp [ir]
@[go_sem] theorem ir_nil : ir f [] = [] := rfl
@[go_sem] theorem pr_nil : pr f [] = [] := rfl
@[go_sem] theorem pr_eq_nil : pr f l = [] ↔ l = [] := by simp [pr]
theorem ir_set : (ir f l).set i ((f a).map .p) = ir f (l.set i a) := by simp [ir, List.map_set]
@[go_sem] theorem pssm_pr (h : ∀ a, plsm (f a)) : pssm (pr f l) := by
  induction l with
  | nil => trivial
  | cons x l ih => exact ⟨h x, ih⟩
end
def eI (n : Int) : List PV := [.sc (.int .i64 n)]
def eB (b : Bool) : List PV := [.sc (.bool b)]
def eII (p : Int × Int) : List PV := [.sc (.int .i64 p.1), .sc (.int .i64 p.2)]
@[go_sem] theorem snocI {l : List Int} {n : Int} : ir eI l ++ [[.p (.sc (.int .i64 n))]] = ir eI (l ++ [n]) := by simp [ir, eI]
@[go_sem] theorem snocB {l : List Bool} {n : Bool} : ir eB l ++ [[.p (.sc (.bool n))]] = ir eB (l ++ [n]) := by simp [ir, eB]
@[go_sem] theorem take_snoc {α : Type} {l : List α} {a : α} : List.take (l.length + 1) (l ++ [a]) = l ++ [a] := List.take_of_length_le (by simp)
@[go_sem] theorem take_app {α : Type} {l l' : List α} : List.take (l.length + l'.length) (l ++ l') = l ++ l' := List.take_of_length_le (by simp)
abbrev lI (l : List Int) : IV := .p (.imm 1 (pr eI l))
abbrev lB (l : List Bool) : IV := .p (.imm 1 (pr eB l))
abbrev lII (l : List (Int × Int)) : IV := .p (.imm 2 (pr eII l))
theorem w64 {n : Int} (h : -9223372036854775808 ≤ n ∧ n ≤ 9223372036854775807) : IntKind.i64.wrap n = n := by rw [IntKind.wrap_i64]; omega
theorem drop_cons {α : Type} {l : List α} {i : Nat} (h : i < l.length) : l.drop i = l[i] :: l.drop (i + 1) := List.drop_eq_getElem_cons h
theorem beqT {x y : Int} (h : x = y) : (x == y) = true := by simp [h]
theorem beqF {x y : Int} (h : ¬ x = y) : (x == y) = false := by simp [h]
theorem bneT {x y : Int} (h : ¬ x = y) : (x != y) = true := by simp [h]
theorem bneF {x y : Int} (h : x = y) : (x != y) = false := by simp [h]
@[go_sem] theorem bbT {b : Bool} : (b == true) = b := by cases b <;> rfl
@[go_sem] theorem bbF {b : Bool} : (b == false) = !b := by cases b <;> rfl
attribute [go_sem] lI lB lII
end Go.Idl

/-
  A function of plain data, proved at the empty ideal heap; a run of closed calls by computing.
-/
namespace Go.Idl
variable {P : Program} {h0 : IH}

/-! ### from the empty heap to any -/
/-- The memory of which nothing is known but what is foreign. -/
def Mem.bare (M : Mem) : Mem := ⟨M.w, ⟨fun _ => False, fun _ => none, M.own⟩, fun _ => none⟩
theorem Mem.bare_own (M : Mem) (c : Nat) : M.bare.own c ↔ M.own c :=
  ⟨fun h => h.elim id (fun ⟨_, _, _, _, h, _⟩ => (by cases h)), fun h => .inl h⟩
theorem MRel.bare {M : Mem} (h : MRel M) : MRel M.bare :=
  ⟨fun _ _ h => (by cases h), fun _ _ h => (by cases h), fun _ _ _ _ _ _ _ _ _ h => (by cases h), fun _ hc => h.lt hc, fun _ _ _ _ _ h => (by cases h)⟩
theorem PRel.own {w : World} {own own' : Nat → Prop} (h2 : ∀ c, own' c → own c) {x : PV} {v : Value} (h : PRel w own x v) : PRel w own' x v :=
  h.step (Nat.le_refl _) fun c _ ho => ⟨rfl, fun h => ho (h2 c h)⟩
theorem VRel.bare {M M' : Mem} (hw : M'.w = M.w) (ho : ∀ c, M'.own c → M.own c) {x : IV} {v : Value} (h : VRel M x v) (hb : bel 0 x) : VRel M' x v := by
  induction h with
  | p x v h => exact .p x v (by rw [hw]; exact h.own ho)
  | ref b g off len v => exact absurd hb (Nat.not_lt_zero _)
  | ptr b g r j v => exact absurd hb (Nat.not_lt_zero _)
  | mp b v => exact absurd hb (Nat.not_lt_zero _)
  | clo fn first cap vf vc hf hc rf rc i1 i2 =>
    exact .clo fn first cap vf vc hf hc (fun i x v hx hv => i1 i x v hx hv (bels_get hb.1 hx)) (fun i x v hx hv => i2 i x v hx hv (bels_get hb.2 hx))
  | agg cs vs hl h1 r ih => exact .agg cs vs hl h1 fun i x v hx hv => ih i x v hx hv (bels_get hb hx)
  | tup cs vs hl r ih => exact .tup cs vs hl fun i x v hx hv => ih i x v hx hv (bels_get hb hx)
  | dead v => exact .dead v

/-- What holds of a call at the empty heap holds of it at any. -/
theorem pcall_here {f : FuncId} {args : List IV} {x : IV} (ha : bels 0 args) (hx : bel 0 x)
    (h : ICall P f args ⟨0, []⟩ fun r nx l => ∃ y, r = .ret y ∧ wk y x ∧ nx = 0 ∧ l = []) : PCall P f args [] x := by
  intro h' _ M vs hM hl hr
  have hb : HRel 0 [] M.bare := ⟨hM.rel.bare, fun b h => h.elim, fun b => rfl⟩
  refine (h M.bare vs hb hl fun i y v hy hv => VRel.bare (M := M) (M' := M.bare) rfl (fun c h => (M.bare_own c).1 h) (hr i y v hy hv) (bels_get ha hy)).mono ?_
  rintro e w' ⟨M', nx', l', r, rfl, st, hh, he, y, rfl, hw, rfl, rfl⟩
  obtain ⟨v, rfl, hv⟩ := he
  have hold : ∀ c, c < M.w.heap.size → M'.w.heap[c]? = M.w.heap[c]? := by
    intro c hc
    by_cases ho : M.own c
    · exact st.ofix c ho
    · exact (st.keep c hc fun h => ho ((M.bare_own c).1 h)).1
  have hO : M'.H.O = M.own := st.oeq
  have s : MStep M { M with w := M'.w } :=
    ⟨st.os, st.tape, st.output, st.size, fun c hc ho => ⟨hold c hc, ho⟩, fun _ h => h, fun _ blk' _ h => ⟨blk', h, rfl, rfl, Nat.le_refl _, fun _ => ⟨rfl, rfl⟩⟩, rfl,
      fun c hc => hold c (hM.rel.olt c hc)⟩
  refine ⟨{ M with w := M'.w }, h'.nx, [], .ret x, rfl, s, ⟨hM.rel.same s fun c hc => hold c (hM.rel.lt hc), hM.A, hM.G⟩, ⟨v, rfl, ?_⟩, rfl, rfl, rfl⟩
  exact VRel.bare (M := M') (M' := { M with w := M'.w }) rfl (fun c hc => .inl (by rw [hO]; exact hc)) (hv.wk hw) hx

/-! ### blocks of the caller's that are only looked at -/
/-- A value that tells of no memory at all. -/
def scalB : IV → Bool
  | .p (.sc _) => true
  | .p (.nan _) => true
  | .agg cs => goS cs
  | .tup cs => goS cs
  | .dead => true
  | _ => false
where goS : List IV → Bool
  | [] => true
  | x :: r => scalB x && goS r
theorem goS_get : ∀ {l : List IV} {i : Nat} {x : IV}, scalB.goS l = true → l[i]? = some x → scalB x = true
  | [], _, _, _, hx => by cases hx
  | y :: r, i, x, h, hx => by
    simp only [scalB.goS, Bool.and_eq_true] at h
    cases i with
    | zero => simp at hx; subst hx; exact h.1
    | succ i => exact goS_get h.2 (by simpa using hx)
theorem VRel.scal {M M' : Mem} {x : IV} {v : Value} (h : VRel M x v) : scalB x = true → VRel M' x v := by
  induction h with
  | p x v h =>
    intro hb
    cases h with
    | sc v => exact .p _ _ (.sc v)
    | emp a => cases hb
    | imm => cases hb
    | rp => cases hb
    | nan k b h => exact .p _ _ (.nan k b h)
  | ref b g off len v => intro hb; cases hb
  | ptr b g r j v => intro hb; cases hb
  | mp b v => intro hb; cases hb
  | clo fn first cap vf vc hf hc rf rc i1 i2 => intro hb; cases hb
  | agg cs vs hl h1 r ih => exact fun hb => .agg cs vs hl h1 fun i x v hx hv => ih i x v hx hv (goS_get hb hx)
  | tup cs vs hl r ih => exact fun hb => .tup cs vs hl fun i x v hx hv => ih i x v hx hv (goS_get hb hx)
  | dead v => exact fun _ => .dead v
theorem scalB_bel (n : Nat) (x : IV) : scalB x = true → bel n x := by
  apply IV.rec (motive_1 := fun x => scalB x = true → bel n x) (motive_2 := fun l => scalB.goS l = true → bels n l)
  · intro x _; trivial
  · intro b g off len h; cases h
  · intro b g r j h; cases h
  · intro b h; cases h
  · intro fn f c i1 i2 h; cases h
  · intro cs ih h; exact ih h
  · intro cs ih h; exact ih h
  · intro _; trivial
  · intro _; trivial
  · intro x l i1 i2 h
    simp only [scalB.goS, Bool.and_eq_true] at h
    exact ⟨i1 h.1, i2 h.2⟩

/-- The memory without some blocks: nobody's for a while. -/
def Mem.lend (M : Mem) (ids : List Nat) : Mem := ⟨M.w, ⟨fun _ => False, fun b => if b ∈ ids then none else M.H.G b, M.H.O⟩, M.β⟩
/-- A call that tells of no memory: its arguments may be blocks of the caller's own, told by what lies in them. -/
theorem pcall_view {f : FuncId} {args args' : List IV} {R : List (Nat × IBlk)} {x : IV} (hf : frzs (look R) args = some args') (hx : scalB x = true) (h : PCall P f args' [] x) : PCall P f args R x := by
  intro h' hR M vs hM hl hr
  obtain ⟨fl, fg⟩ := frzs_get hf
  have hG : ∀ b blk, look R b = some blk → M.H.G b = some blk := fun b blk hb => by rw [hM.G]; exact hR _ (look_mem hb)
  have hless : Less M (M.lend (refss args)) 0 (refss args) := by
    refine ⟨rfl, rfl, fun b hb => absurd hb (Nat.not_lt_zero _), fun b blk' hb => ?_, fun b hb => by simp [Mem.lend, hb], rfl⟩
    simp only [Mem.lend] at hb
    split at hb
    · cases hb
    · exact ⟨blk', hb, .refl _⟩
  have hown : ∀ c, (M.lend (refss args)).own c → M.own c := fun c hc => hless.own hc
  have hb0 : HRel 0 [] (M.lend (refss args)).bare :=
    ⟨⟨fun _ _ h => (by cases h), fun _ _ h => (by cases h), fun _ _ _ _ _ _ _ _ _ h => (by cases h), fun c hc => hM.rel.lt (hown c hc), fun _ _ _ _ _ h => (by cases h)⟩, fun b h => h.elim, fun b => rfl⟩
  have hargs : ∀ (i : Nat) (y : IV) (v : Value), args'[i]? = some y → vs[i]? = some v → VRel (M.lend (refss args)).bare y v := by
    intro i y v hy hv
    have hlt := lt_of_get hy
    have ha := List.getElem?_eq_getElem (show i < args.length by omega)
    obtain ⟨g1, g2⟩ := frz_Fz _ y (refss args) (fg i _ y ha hy) (fun b hb => refss_get ha b hb)
    have g1' : Fz M.H.G (refss args) args[i] y := by
      clear g2
      have : ∀ {ids : List Nat} {x y : IV}, Fz (look R) ids x y → Fz M.H.G ids x y := by
        intro ids x y hz
        induction hz with
        | refl x => exact .refl x
        | ref b g off len sz rows prows hb hi hp => exact .ref b g off len sz rows prows (hG b _ hb) hi hp
        | ptr b g r j sz rows row cells hb hi hrow hp => exact .ptr b g r j sz rows row cells (hG b _ hb) hi hrow hp
        | agg xs ys hl h ih => exact .agg xs ys hl ih
        | tup xs ys hl h ih => exact .tup xs ys hl ih
        | dead x => exact .dead x
        | nil a sz h => exact .nil a sz h
      exact this g1
    exact VRel.bare (M := M.lend (refss args)) (M' := (M.lend (refss args)).bare) rfl (fun c h => ((M.lend (refss args)).bare_own c).1 h) (VRel.fz hM.rel hless g1' (hr i _ v ha hv) g2) g2
  refine (h ⟨0, []⟩ (by simp) _ vs hb0 (by omega) hargs).mono ?_
  rintro e w' ⟨M', nx', l', r, rfl, st, hh, he, rfl, rfl, rfl⟩
  obtain ⟨v, rfl, hv⟩ := he
  have hold : ∀ c, c < M.w.heap.size → M'.w.heap[c]? = M.w.heap[c]? := by
    intro c hc
    by_cases ho : (M.lend (refss args)).own c
    · exact st.ofix c ho
    · exact (st.keep c hc fun h => ho (((M.lend (refss args)).bare_own c).1 h)).1
  have s : MStep M { M with w := M'.w } :=
    ⟨st.os, st.tape, st.output, st.size, fun c hc ho => ⟨hold c hc, ho⟩, fun _ h => h, fun _ blk' _ h => ⟨blk', h, rfl, rfl, Nat.le_refl _, fun _ => ⟨rfl, rfl⟩⟩, rfl,
      fun c hc => hold c (hM.rel.olt c hc)⟩
  exact ⟨{ M with w := M'.w }, h'.nx, [], .ret x, rfl, s, ⟨hM.rel.same s fun c hc => hold c (hM.rel.lt hc), hM.A, hM.G⟩, ⟨v, rfl, hv.scal hx⟩, rfl, rfl, rfl⟩

/-- A function of plain data: walked at the empty heap. -/
theorem pcall0 (n : Nat) {f : FuncId} {fn : Func} {c : Code} {args : List IV} {x : IV} (hf : P.funcs[f]? = some fn) (hb : fn.body = some c) (hn : args.length ≤ fn.ntmps) (ha : bels 0 args) (hx : bel 0 x)
    (hc : isms args → vc P ⟨0, []⟩ (EndP P fn ⟨0, []⟩ fun y => wk y x) n [.code c] ⟨fn.ntmps, enum 0 args, [], 0, []⟩) : PCall P f args [] x := by
  refine pcall_here ha hx ?_
  intro M vs hM hl hr
  have hs : isms args := isms_of fun i x hx => (hr i x _ hx (List.getElem?_eq_getElem (by have := lt_of_get hx; omega))).small
  refine icall_of hf hb hn (ICode.mono (vc_sound _ _ _ _ (hc hs)) fun e S he => ?_) M vs hM hl hr
  cases e with
  | normal => exact fin_pure _ (.inl rfl) he.1 he.2.1 he.2.2.1 he.2.2.2
  | ret => exact fin_pure _ (.inr rfl) he.1 he.2.1 he.2.2.1 he.2.2.2
  | exit id => exact he.elim
  | goto l => exact he.elim
  | panic ch => exact he.elim
  | outgrown => exact he.elim

/-! ### runs by computing -/
def pureB : IV → Bool
  | .p _ => true
  | .agg cs => goB cs
  | .tup cs => goB cs
  | .clo _ f c => goB f && goB c
  | .dead => true
  | _ => false
where goB : List IV → Bool
  | [] => true
  | x :: r => pureB x && goB r
theorem pureB_bel (n : Nat) (x : IV) : pureB x = true → bel n x := by
  apply IV.rec (motive_1 := fun x => pureB x = true → bel n x) (motive_2 := fun l => pureB.goB l = true → bels n l)
  · intro x _; trivial
  · intro b g off len h; cases h
  · intro b g r j h; cases h
  · intro b h; cases h
  · intro fn f c i1 i2 h
    simp only [pureB, Bool.and_eq_true] at h
    exact ⟨i1 h.1, i2 h.2⟩
  · intro cs ih h; exact ih h
  · intro cs ih h; exact ih h
  · intro _; trivial
  · intro _; trivial
  · intro x l i1 i2 h
    simp only [pureB.goB, Bool.and_eq_true] at h
    exact ⟨i1 h.1, i2 h.2⟩
theorem goB_bels (n : Nat) : ∀ l : List IV, pureB.goB l = true → bels n l
  | [], _ => trivial
  | x :: r, h => by simp only [pureB.goB, Bool.and_eq_true] at h; exact ⟨pureB_bel n x h.1, goB_bels n r h.2⟩

/-- The newest entry of each key. -/
def ddp : List (Nat × IBlk) → List (Nat × IBlk)
  | [] => []
  | p :: r => p :: (ddp r).filter fun q => q.1 != p.1
theorem ddp_look : ∀ {l : List (Nat × IBlk)} {p : Nat × IBlk}, p ∈ ddp l → look l p.1 = some p.2
  | [], p, h => by cases h
  | (k, x) :: r, p, h => by
    simp only [ddp, List.mem_cons, List.mem_filter, bne_iff_ne] at h
    rcases h with rfl | ⟨h, hne⟩
    · simp [look]
    · rw [look, if_neg (fun e => hne e.symm)]
      exact ddp_look h
theorem ddp_keys : ∀ {l : List (Nat × IBlk)} {p : Nat × IBlk}, p ∈ l → ∃ blk, (p.1, blk) ∈ ddp l
  | [], p, h => by cases h
  | (k, x) :: r, p, h => by
    by_cases e : p.1 = k
    · exact ⟨x, by simp [ddp, e]⟩
    · rcases List.mem_cons.1 h with rfl | h
      · exact absurd rfl e
      · obtain ⟨blk, hb⟩ := ddp_keys h
        exact ⟨blk, by simp [ddp, hb, e]⟩

abbrev XRun := Bool → IH → List It → IState → Option (Exit × IState)
def geB (n : Nat) : List Nat → Bool
  | [] => true
  | b :: r => Nat.ble n b && geB n r
theorem geB_all {n : Nat} : ∀ {l : List Nat}, geB n l = true → geAll n l
  | [], _ => trivial
  | b :: r, h => by simp only [geB, Bool.and_eq_true] at h; exact ⟨Nat.le_of_ble_eq_true h.1, geB_all h.2⟩
/-- A call's answer: frozen, where that is wished and may be, and all its blocks given up. -/
def xret (b : Bool) (h : IH) (x : IV) (S : IState) : IEnd × Nat × List (Nat × IBlk) :=
  match b with
  | false => (.ret x, S.nx, ddp S.l)
  | true => match geB h.nx (S.l.map (·.1)) && geB h.nx (refs x), frz (look (S.l ++ h.m)) x with
    | true, some y => (.ret y, h.nx, [])
    | _, _ => (.ret x, S.nx, ddp S.l)
/-- A call, its callee run by run. -/
def xf (run : XRun) (z : FuncId → Bool) (P : Program) (b : Bool) (c : FuncId) (zs : List IV) (h : IH) : Option (IEnd × Nat × List (Nat × IBlk)) :=
  match P.funcs[c]? with
  | some fn => match fn.body with
    | some body => match Nat.ble zs.length fn.ntmps with
      | true => match run (z c) h [.code body] (start fn.ntmps zs h) with
        | some (e, S) => match S.d, Nat.ble h.nx S.nx with
          | [], true => match e with
            | .normal => match ires P S (S.l ++ h.m) fn.results.toList with
              | some x => some (xret b h x S)
              | none => none
            | .ret => match ires P S (S.l ++ h.m) fn.results.toList with
              | some x => some (xret b h x S)
              | none => none
            | .panic ch => some (.pan ch, S.nx, ddp S.l)
            | _ => none
          | _, _ => none
        | none => none
      | false => none
    | none => none
  | none => none

def Sound (P : Program) (run : XRun) : Prop := ∀ b h k S e S', run b h k S = some (e, S') → ∀ Q : Exit → IState → Prop, Q e S' → IRun P h k S Q

theorem leave_all {h : IH} {S : IState} {x : IV} (hd : S.d = []) (hn : h.nx ≤ S.nx) : Leave h [] S x x S.nx (ddp S.l) := by
  refine ⟨⟨rfl, rfl, .inl hd, hn, Nat.le_refl _, by simp, fun p hp => ?_, fun p hp => .inr (ddp_keys hp), by simp⟩, .refl x, .inl rfl⟩
  have := ddp_look hp
  exact ⟨p.2, by rw [look_append, this], .refl _, .inl rfl⟩

theorem xret_sound {b : Bool} {h : IH} {x : IV} {S : IState} {r : IEnd} {nx : Nat} {l : List (Nat × IBlk)} (hx : xret b h x S = (r, nx, l)) (hd : S.d = []) (hn : h.nx ≤ S.nx) : ∃ y ids, r = .ret y ∧ Leave h ids S x y nx l := by
  have all : ∀ {r nx l}, (IEnd.ret x, S.nx, ddp S.l) = (r, nx, l) → ∃ y ids, r = .ret y ∧ Leave h ids S x y nx l := by
    intro r nx l e
    cases e
    exact ⟨x, [], rfl, leave_all hd hn⟩
  unfold xret at hx
  split at hx
  · exact all hx
  · split at hx
    · rename_i y h1 h2
      cases hx
      simp only [Bool.and_eq_true] at h1
      exact ⟨y, refs x, rfl, leave_frz hd hn (geB_all h1.1) (geB_all h1.2) h2⟩
    · exact all hx
theorem xf_sound {run : XRun} {z : FuncId → Bool} {b : Bool} (hrun : Sound P run) {c : FuncId} {zs : List IV} {h : IH} {r : IEnd} {nx : Nat} {l : List (Nat × IBlk)} (hx : xf run z P b c zs h = some (r, nx, l)) {Q : IEnd → Nat → List (Nat × IBlk) → Prop} (hq : Q r nx l) :
    ICall P c zs h Q := by
  unfold xf at hx
  split at hx <;> try cases hx
  rename_i fn hf
  split at hx <;> try cases hx
  rename_i body hb
  split at hx <;> try cases hx
  rename_i hn
  split at hx <;> try cases hx
  rename_i e S he
  split at hx <;> try cases hx
  rename_i hd hle
  refine icall_of hf hb (Nat.le_of_ble_eq_true hn) (hrun _ h _ _ _ _ he _ ?_)
  split at hx <;> try cases hx
  · split at hx <;> try cases hx
    rename_i x hres
    obtain ⟨y, ids, rfl, hl⟩ := xret_sound (Option.some.inj hx) hd (Nat.le_of_ble_eq_true hle)
    exact .norm S x y ids _ _ hd hres hl hq
  · split at hx <;> try cases hx
    rename_i x hres
    obtain ⟨y, ids, rfl, hl⟩ := xret_sound (Option.some.inj hx) hd (Nat.le_of_ble_eq_true hle)
    exact .ret S x y ids _ _ hd hres hl hq
  · exact .pan S _ [] _ _ hd (leave_all (x := .dead) hd (Nat.le_of_ble_eq_true hle)).sub hq

/-- A call that is given plain data, and gives some: at the empty heap. -/
def xp (run : XRun) (z : FuncId → Bool) (P : Program) (c : FuncId) (zs : List IV) : Option IV :=
  match pureB.goB zs with
  | true => match P.funcs[c]? with
    | some fn => match fn.body with
      | some body => match Nat.ble zs.length fn.ntmps with
        | true => match run (z c) ⟨0, []⟩ [.code body] (start fn.ntmps zs ⟨0, []⟩) with
          | some (e, S) => match S.d, (match e with | .normal => true | .ret => true | _ => false) with
            | [], true => match ires P S (S.l ++ []) fn.results.toList with
              | some x => frz (look (S.l ++ [])) x
              | none => none
            | _, _ => none
          | none => none
        | false => none
      | none => none
    | none => none
  | false => none
theorem geAll_zero : ∀ l : List Nat, geAll 0 l
  | [] => trivial
  | _ :: r => ⟨Nat.zero_le _, geAll_zero r⟩
theorem xp_sound {run : XRun} {z : FuncId → Bool} (hrun : Sound P run) {c : FuncId} {zs : List IV} {y : IV} (hx : xp run z P c zs = some y) : PCall P c zs [] y ∧ bel 0 y := by
  unfold xp at hx
  split at hx <;> try cases hx
  rename_i hz
  split at hx <;> try cases hx
  rename_i fn hf
  split at hx <;> try cases hx
  rename_i body hb
  split at hx <;> try cases hx
  rename_i hn
  split at hx <;> try cases hx
  rename_i e S he
  split at hx <;> try cases hx
  rename_i hd hle
  split at hx <;> try cases hx
  rename_i x hres
  have hy : bel 0 y := (frz_Fz x y (refs x) hx fun b hb => hb).2
  refine ⟨pcall_here (goB_bels 0 zs hz) hy (icall_of hf hb (Nat.le_of_ble_eq_true hn) (hrun _ ⟨0, []⟩ _ _ _ _ he _ ?_)), hy⟩
  have key : endP P fn ⟨0, []⟩ (fun z => wk z y) S := by
    unfold endP
    rw [show (S.l ++ (⟨0, []⟩ : IH).m) = S.l ++ [] from rfl, hres, onSome_some, hx, onSome_some]
    exact ⟨geAll_zero _, wk_refl y⟩
  cases e with
  | normal => exact fin_pure _ (.inl rfl) hd (Nat.zero_le _) (geAll_zero _) key
  | ret => exact fin_pure _ (.inr rfl) hd (Nat.zero_le _) (geAll_zero _) key
  | exit id => cases hle
  | goto l => cases hle
  | panic ch => cases hle
  | outgrown => cases hle

/-- The blocks of some numbers, as they are. -/
def seen (G : Nat → Option IBlk) : List Nat → List (Nat × IBlk)
  | [] => []
  | b :: r => match G b with
    | some blk => (b, blk) :: seen G r
    | none => seen G r
theorem seen_spec {G : Nat → Option IBlk} : ∀ {l : List Nat}, ∀ p ∈ seen G l, G p.1 = some p.2
  | [], p, h => by cases h
  | b :: r, p, h => by
    unfold seen at h
    split at h
    · rename_i blk hb
      rcases List.mem_cons.1 h with rfl | h
      · exact hb
      · exact seen_spec p h
    · exact seen_spec p h
/-- A call that looks at blocks of the caller's. -/
def xview (pc : FuncId → List IV → Option IV) (G : Nat → Option IBlk) (c : FuncId) (zs : List IV) : Option (IV × List (Nat × IBlk)) :=
  match refss zs with
  | [] => match pc c zs with
    | some x => some (x, [])
    | none => none
  | ids => match frzs (look (seen G ids)) zs with
    | some zs' => match pc c zs' with
      | some x => match scalB x with
        | true => some (x, seen G ids)
        | false => none
      | none => none
    | none => none
theorem xview_sound {pc : FuncId → List IV → Option IV} (hpc : ∀ c zs x, pc c zs = some x → PCall P c zs [] x ∧ bel 0 x) {G : Nat → Option IBlk} {c : FuncId} {zs : List IV} {x : IV} {R : List (Nat × IBlk)} (h : xview pc G c zs = some (x, R)) :
    PCall P c zs R x ∧ bel 0 x ∧ ∀ p ∈ R, G p.1 = some p.2 := by
  unfold xview at h
  split at h
  · split at h <;> try cases h
    rename_i hx
    exact ⟨(hpc _ _ _ hx).1, (hpc _ _ _ hx).2, by simp⟩
  · split at h <;> try cases h
    rename_i hz
    split at h <;> try cases h
    rename_i hx
    split at h <;> try cases h
    rename_i hs
    exact ⟨pcall_view hz hs (hpc _ _ _ hx).1, (hpc _ _ _ hx).2, seen_spec⟩

/-- The operations of a region that draws its order, one behind the other. -/
def xd (pc : FuncId → List IV → Option IV) (P : Program) (h0 : IH) (all : Array Oper) : List Oper → IState → List FP → Option (IState × List FP)
  | [], S, acc => some (S, acc)
  | o :: r, S, acc =>
    match dOk S.n o.dst with
    | true => match iwant all S.s o with
      | some true => match fop P (ev S.s) (look (S.l ++ h0.m)) S.nx o.op with
        | some fr => xd pc P h0 all r ⟨S.n, putS o.dst fr.x S.s, S.d, S.nx + fr.F.length, fr.W.reverse ++ S.l⟩ (acc ++ [fr.fp])
        | none => match o.op with
          | .call { callee := .value f, args, argTypes := _ } => match icallee (ev S.s) f args.toList with
            | some (c, zs) => match fnOk P c with
              | true => match xview pc (look (S.l ++ h0.m)) c zs with
                | some (x, R) => xd pc P h0 all r ⟨S.n, putS o.dst x S.s, S.d, S.nx, S.l⟩ (acc ++ [(R.map (·.1), [])])
                | none => none
              | false => none
            | none => none
          | _ => none
      | some false => xd pc P h0 all r ⟨S.n, putS o.dst (.tup []) S.s, S.d, S.nx, S.l⟩ (acc ++ [([], [])])
      | none => none
    | false => none
theorem xd_sound {pc : FuncId → List IV → Option IV} (hpc : ∀ c zs x, pc c zs = some x → PCall P c zs [] x ∧ bel 0 x) {all : Array Oper} {K : IState → List FP → Prop} :
    ∀ (l : List Oper) (S : IState) (acc : List FP) (S' : IState) (fps : List FP), xd pc P h0 all l S acc = some (S', fps) → K S' fps → DRun P h0 all l S acc K := by
  intro l
  induction l with
  | nil => intro S acc S' fps h hk; simp only [xd, Option.some.injEq, Prod.mk.injEq] at h; obtain ⟨rfl, rfl⟩ := h; exact drun_nil hk
  | cons o r ih =>
    intro S acc S' fps h hk
    rw [xd] at h
    split at h <;> try cases h
    rename_i hd
    split at h <;> try cases h
    · rename_i hw
      split at h
      · rename_i fr hf
        exact drun_op hw hf hd (ih _ _ _ _ h hk)
      · split at h <;> try cases h
        rename_i f args ts hop
        split at h <;> try cases h
        rename_i c zs hc
        split at h <;> try cases h
        rename_i hn
        split at h <;> try cases h
        rename_i x R hx
        obtain ⟨h1, h2, h3⟩ := xview_sound hpc hx
        obtain ⟨dst, op, ty, pos, aft, g⟩ := o
        obtain ⟨args⟩ := args
        simp only at hop; subst hop
        exact drun_call hw hc hn hd h3 h1 h2 (ih _ _ _ _ h hk)
    · rename_i hw
      exact drun_skip hw hd (ih _ _ _ _ h hk)

def chkB (u : List (Option (List Nat))) (fps : List FP) : Bool := go fps u fps
where
  go (all : List FP) : List (Option (List Nat)) → List FP → Bool
    | ul :: us, fp :: fs => (match fp.2 with
      | [] => true
      | b :: w => match ul with
        | none => false
        | some l => l.all fun i => match all[i]? with
          | none => true
          | some q => (b :: w).all fun c => !q.1.contains c && !q.2.contains c) && go all us fs
    | _, _ => true
theorem chkB_go {all : List FP} : ∀ {u : List (Option (List Nat))} {fs : List FP}, chkB.go all u fs = true → chkGo all u fs
  | [], _, _ => by simp [chkGo]
  | _ :: _, [], _ => by simp [chkGo]
  | ul :: us, fp :: fs, h => by
    simp only [chkB.go, Bool.and_eq_true] at h
    refine ⟨?_, chkB_go h.2⟩
    have h1 := h.1
    cases hw : fp.2 with
    | nil => trivial
    | cons b w =>
      rw [hw] at h1
      cases ul with
      | none => cases h1
      | some l =>
        simp only [List.all_eq_true] at h1
        show apL all (b :: w) l
        clear h hw
        induction l with
        | nil => trivial
        | cons i l ih =>
          refine ⟨?_, ih fun j hj => h1 j (List.mem_cons_of_mem _ hj)⟩
          have := h1 i (List.mem_cons_self ..)
          cases hi : all[i]? with
          | none => trivial
          | some q =>
            rw [hi] at this
            intro c hc
            simp only [List.all_eq_true, Bool.and_eq_true, Bool.not_eq_true', List.contains_eq_mem, decide_eq_false_iff_not] at this
            exact this c hc
theorem chkB_chk {u : List (Option (List Nat))} {fps : List FP} (h : chkB u fps = true) : chk u fps := chkB_go h

/-- What comes behind an exit that is not the normal one. -/
def xback (run : XRun) (b : Bool) (h : IH) (k : List It) (e : Exit) (S : IState) : Option (Exit × IState) :=
  match e with
  | .exit id => match toBlk id k with
    | some k' => run b h k' S
    | none => some (.exit id, S)
  | .ret => some (.ret, S)
  | .panic ch => some (.panic ch, S)
  | _ => none
theorem xback_sound {run : XRun} {b : Bool} (hrun : Sound P run) {h : IH} {k : List It} {e e' : Exit} {S S' : IState} (hx : xback run b h k e S = some (e', S')) {Q : Exit → IState → Prop} (hq : Q e' S') : after P h Q k e S := by
  unfold xback at hx
  split at hx
  · split at hx
    · rename_i id k' hk
      exact after_exit hk (hrun _ _ _ _ _ _ hx _ hq)
    · rename_i id hk
      cases hx
      exact after_exit_none hk hq
  · cases hx; exact after_ret hq
  · cases hx; exact after_panic hq
  · cases hx

/-- The call of an operation that is one. -/
def xcallOf (s : List (Nat × IV)) : Op → Option (FuncId × List IV)
  | .call { callee := .value f, args, argTypes := _ } => icallee (ev s) f args.toList
  | _ => none
/-- The value of the text's own panic. -/
def xpanOf (s : List (Nat × IV)) : Op → Option Value
  | .panic x => match ev s x with
    | some (.p (.sc (.iface t v))) => some (.iface t v)
    | _ => none
  | _ => none

/-- An operation that is done: the state behind it, or how it ends. -/
def xop (run : XRun) (z : FuncId → Bool) (P : Program) (b : Bool) (h : IH) (o : Oper) (S : IState) : Option (Exit × IState) :=
  match fop P (ev S.s) (look (S.l ++ h.m)) S.nx o.op with
  | some fr => some (.normal, S.put o.dst fr.x (S.nx + fr.F.length) fr.W.reverse)
  | none => match xcallOf S.s o.op with
    | some (c, zs) => match fnOk P c with
      | true => match xf run z P b c zs ⟨S.nx, S.l ++ h.m⟩ with
        | some (.ret x, nx, l) => some (.normal, S.put o.dst x nx l)
        | some (.pan ch, nx, l) => some (.panic ch, { S with nx, l := l ++ S.l })
        | none => none
      | false => none
    | none => match xpanOf S.s o.op with
      | some v => some (.panic [{ v := v, recovered := false }], S)
      | none => none
theorem xop_sound {run : XRun} {z : FuncId → Bool} {b : Bool} (hrun : Sound P run) {h : IH} {all : Array Oper} {o : Oper} {r : List Oper} {S S' : IState} {e : Exit} (hw : iwant all S.s o = some true) (hd : dstOk S o.dst = true) (hx : xop run z P b h o S = some (e, S'))
    {Q : Exit → IState → Prop} (hn : e = .normal → IOps P h all r S' Q) (hq : (∀ ch, e = .panic ch → Q e S')) : IOps P h all (o :: r) S Q := by
  unfold xop at hx
  split at hx
  · rename_i fr hf
    cases hx
    exact iops_op hw hf hd (hn rfl)
  · split at hx
    · rename_i c zs hc
      split at hx <;> try cases hx
      rename_i hk
      unfold xcallOf at hc
      split at hc <;> try cases hc
      rename_i f args ts hop
      obtain ⟨dst, op, ty, pos, aft, g⟩ := o
      obtain ⟨args⟩ := args
      simp only at hop; subst hop
      split at hx <;> try cases hx
      · rename_i x nx l hxf
        exact iops_call rfl hw hc hk hd (xf_sound hrun hxf (hn rfl))
      · rename_i ch nx l hxf
        exact iops_call rfl hw hc hk hd (xf_sound hrun hxf (hq ch rfl))
    · split at hx <;> try cases hx
      rename_i v hv
      unfold xpanOf at hv
      split at hv <;> try cases hv
      rename_i x hop
      split at hv <;> try cases hv
      rename_i t v' hev
      exact iops_panic hop hw hev (hq _ rfl)

/-- The run of code, by computing. -/
def xr (P : Program) (z : FuncId → Bool) : Nat → XRun
  | 0, _, _, _, _ => none
  | n + 1, b, h, k, S => match k with
    | [] => some (.normal, S)
    | .blk _ :: k => xr P z n b h k S
    | .ops _ [] :: k => xr P z n b h k S
    | .ops all (o :: r) :: k => match dstOk S o.dst with
      | true => match iwant all S.s o with
        | some true => match xop (xr P z n) z P b h o S with
          | some (.normal, S') => xr P z n b h (.ops all r :: k) S'
          | some (.panic ch, S') => some (.panic ch, S')
          | _ => none
        | some false => xr P z n b h (.ops all r :: k) (S.put o.dst (.tup []) S.nx [])
        | none => none
      | false => none
    | .code c :: k => match c with
      | .skip => xr P z n b h k S
      | .label _ => xr P z n b h k S
      | .seq x y => xr P z n b h (.code x :: .code y :: k) S
      | .block id c => xr P z n b h (.code c :: .blk id :: k) S
      | .exit id => xback (xr P z n) b h k (.exit id) S
      | .ret => some (.ret, S)
      | .cond c x y => match ev S.s c with
        | some (.p (.sc (.bool true))) => xr P z n b h (.code x :: k) S
        | some (.p (.sc (.bool false))) => xr P z n b h (.code y :: k) S
        | _ => none
      | .region _ ops false => xr P z n b h (.ops ops ops.toList :: k) S
      | .region _ ops true => match xd (xp (xr P z n) z P) P h ops ops.toList S [] with
        | some (S', fps) => match P.follows .mixedOrders, stat ops.toList (uGo (masks ops.toList []) 0 ops.toList), chkB (uGo (masks ops.toList []) 0 ops.toList) fps with
          | true, true, true => xr P z n b h k S'
          | _, _, _ => none
        | none => none
      | .loop c => match xr P z n b h [.code c] S with
        | some (.normal, S') => xr P z n b h (.code (.loop c) :: k) S'
        | some (e, S') => xback (xr P z n) b h k e S'
        | none => none
      | _ => none

def IRounds (P : Program) (h0 : IH) (c : Code) (Q : Exit → IState → Prop) (m : Nat) (S : IState) : Prop :=
  ∀ M0, HRel h0.nx h0.m M0 → ∀ M a, MStep M0 M → SRel h0 S M a → Code.rounds P c (IPost h0 M0 Q) m a M.w
theorem irounds_succ {c : Code} {Q : Exit → IState → Prop} {m : Nat} {S : IState} (h : ICode P h0 c S fun e S' => match e with | .normal => IRounds P h0 c Q m S' | e => Q e S') : IRounds P h0 c Q (m + 1) S := by
  intro M0 hM0 M a hs hr
  rw [rounds_succ]
  refine wp_mono (h M0 hM0 M a hs hr) ?_
  rintro e a' w' ⟨M', S', rfl, h2, h3, h4⟩
  cases e with
  | normal => exact h4 M0 hM0 M' a' h2 h3
  | exit i => exact ⟨M', S', rfl, h2, h3, h4⟩
  | goto i => exact ⟨M', S', rfl, h2, h3, h4⟩
  | ret => exact ⟨M', S', rfl, h2, h3, h4⟩
  | panic c => exact ⟨M', S', rfl, h2, h3, h4⟩
  | outgrown => exact ⟨M', S', rfl, h2, h3, h4⟩

theorem after_nil {Q : Exit → IState → Prop} (e : Exit) (S : IState) (h : Q e S) : after P h0 Q [] e S := h

theorem xr_both {z : FuncId → Bool} : ∀ n, Sound P (xr P z n) ∧ ∀ b h c k S e S', xr P z n b h (.code (.loop c) :: k) S = some (e, S') → ∀ Q : Exit → IState → Prop, Q e S' → ∃ m, IRounds P h c (fun e S => after P h Q k e S) m S := by
  intro n
  induction n with
  | zero => exact ⟨fun b h k S e S' hx => (by cases hx), fun b h c k S e S' hx => (by cases hx)⟩
  | succ n ih =>
    obtain ⟨ih, ihl⟩ := ih
    have hloop : ∀ b h c k S e S', xr P z (n + 1) b h (.code (.loop c) :: k) S = some (e, S') → ∀ Q : Exit → IState → Prop, Q e S' → ∃ m, IRounds P h c (fun e S => after P h Q k e S) m S := by
      intro b h c k S e S' hx Q hq
      simp only [xr] at hx
      split at hx <;> try cases hx
      · rename_i S1 h1
        obtain ⟨m, hm⟩ := ihl b h c k S1 e S' hx Q hq
        exact ⟨m + 1, irounds_succ (ih _ _ _ _ _ _ h1 _ hm)⟩
      · rename_i e1 S1 hne h1
        refine ⟨1, irounds_succ (ih _ _ _ _ _ _ h1 _ ?_)⟩
        have := xback_sound ih hx hq
        cases e1 with
        | normal => exact (hne rfl).elim
        | exit i => exact this
        | goto i => exact this
        | ret => exact this
        | panic c => exact this
        | outgrown => exact this
    refine ⟨?_, hloop⟩
    intro b h k S e S' hx Q hq
    cases k with
    | nil => simp only [xr] at hx; cases hx; exact hq
    | cons it k =>
      cases it with
      | blk id => exact irun_blk (ih _ _ _ _ _ _ hx _ hq)
      | ops all l =>
        cases l with
        | nil => exact irun_ops_nil (ih _ _ _ _ _ _ hx _ hq)
        | cons o r =>
          simp only [xr] at hx
          split at hx <;> try cases hx
          rename_i hd
          split at hx <;> try cases hx
          · rename_i hw
            split at hx <;> try cases hx
            · rename_i S1 h1
              exact xop_sound ih hw hd h1 (fun _ => ih _ _ _ _ _ _ hx _ hq) (fun ch h => by cases h)
            · rename_i ch h1
              exact xop_sound ih hw hd h1 (fun h => by cases h) (fun ch' h => by cases h; exact after_panic hq)
          · rename_i hw
            exact iops_skip hw hd (ih _ _ _ _ _ _ hx _ hq)
      | code c =>
        cases c with
        | skip => exact irun_skip (ih _ _ _ _ _ _ hx _ hq)
        | label l => exact irun_label (ih _ _ _ _ _ _ hx _ hq)
        | seq x y => exact irun_seq (ih _ _ _ _ _ _ hx _ hq)
        | block id c => exact irun_block (ih _ _ _ _ _ _ hx _ hq)
        | exit id => simp only [xr] at hx; exact irun_exit (xback_sound ih hx hq)
        | ret => simp only [xr] at hx; cases hx; exact irun_ret (after_ret hq)
        | cond c x y =>
          simp only [xr] at hx
          split at hx <;> try cases hx
          · rename_i hc
            exact irun_cond hc (fun _ => ih _ _ _ _ _ _ hx _ hq) (fun h => by cases h)
          · rename_i hc
            exact irun_cond hc (fun h => by cases h) (fun _ => ih _ _ _ _ _ _ hx _ hq)
        | region id ops d =>
          cases d with
          | false => exact irun_region (ih _ _ _ _ _ _ hx _ hq)
          | true =>
            simp only [xr] at hx
            split at hx <;> try cases hx
            rename_i S1 fps hxd
            split at hx <;> try cases hx
            rename_i hm hst hck
            obtain ⟨frs, S2, h1, h2⟩ := xd_sound (K := fun S' fps' => S' = S1 ∧ fps' = fps) (fun c zs x h => xp_sound ih h) _ _ _ _ _ hxd ⟨rfl, rfl⟩
            obtain ⟨rfl, rfl⟩ := h2
            obtain ⟨ops⟩ := ops
            exact irun_drawn hm hst h1 (by simpa using chkB_chk hck) (ih _ _ _ _ _ _ hx _ hq)
        | loop c =>
          obtain ⟨m, hm⟩ := hloop b h c k S e S' hx Q hq
          intro M0 hM0 M a hs hr
          exact wp_loop_rounds m (hm M0 hM0 M a hs hr)
        | _ => simp only [xr] at hx; cases hx

/-- A closed call, by computing. (z: the functions whose calls' answers are frozen.) -/
theorem xcall (n : Nat) (z : FuncId → Bool) {f : FuncId} {args : List IV} {x : IV} (h : xp (xr P z n) z P f args = some x) : PCall P f args [] x := (xp_sound (xr_both n).1 h).1
/-- A closed call that answers a bool. -/
def xpB (P : Program) (n : Nat) (z : FuncId → Bool) (f : FuncId) (args : List IV) (b : Bool) : Bool :=
  match xp (xr P z n) z P f args with
  | some (.p (.sc (.bool c))) => c == b
  | _ => false
theorem xcallB (n : Nat) (z : FuncId → Bool) {f : FuncId} {args : List IV} {b : Bool} (h : xpB P n z f args b = true) : PCall P f args [] (scb b) := by
  unfold xpB at h
  split at h
  · rename_i c hc
    have : c = b := by simpa using h
    subst this
    exact xcall n z hc
  · cases h
end Go.Idl
