/-
  Rules of the walk: loops, slices that come to be owned, lengths, what a function returns.
-/
import Derived.Test.YtkbbafmaddkehaaIdW
namespace Go.Idl
variable {P : Program} {h0 : IH}

/-! ### what lengths are -/
mutual
def psm : PV → Prop
  | .imm _ rows => rows.length ≤ maxLen ∧ pssm rows
  | .rp cells => plsm cells
  | .nan _ => True
  | .emp => True
  | .sc _ => True
def plsm : List PV → Prop
  | [] => True
  | x :: r => psm x ∧ plsm r
def pssm : List (List PV) → Prop
  | [] => True
  | x :: r => plsm x ∧ pssm r
end
theorem plsm_of : ∀ {l : List PV}, (∀ (j : Nat) (x : PV), l[j]? = some x → psm x) → plsm l
  | [], _ => trivial
  | y :: l, h => ⟨h 0 y rfl, plsm_of fun j x hx => h (j + 1) x (by simpa using hx)⟩
theorem pssm_of : ∀ {l : List (List PV)}, (∀ (i : Nat) (r : List PV) (j : Nat) (x : PV), l[i]? = some r → r[j]? = some x → psm x) → pssm l
  | [], _ => trivial
  | y :: l, h => ⟨plsm_of fun j x hx => h 0 y j x rfl hx, pssm_of fun i r j x hi hx => h (i + 1) r j x (by simpa using hi) hx⟩
theorem PRel.small {w : World} {own : Nat → Prop} {x : PV} {v : Value} (h : PRel w own x v) : psm x := by
  induction h with
  | sc v => trivial
  | emp a => trivial
  | imm sz rows a cap c o f hl hm ha hs hc hr ih => exact ⟨Nat.le_trans hl hm, pssm_of fun i r j x hi hj => ih i r j x hi hj⟩
  | rp cells c o f ha hc hr ih => exact plsm_of fun j x hj => ih j x hj
  | nan k b h => trivial
mutual
def ism : IV → Prop
  | .p x => psm x
  | .agg cs => isms cs
  | .tup cs => isms cs
  | .ref .. => True
  | .ptr .. => True
  | .mp _ => True
  | .clo .. => True
  | .dead => True
def isms : List IV → Prop
  | [] => True
  | x :: r => ism x ∧ isms r
end
theorem isms_of : ∀ {l : List IV}, (∀ (j : Nat) (x : IV), l[j]? = some x → ism x) → isms l
  | [], _ => trivial
  | y :: l, h => ⟨h 0 y rfl, isms_of fun j x hx => h (j + 1) x (by simpa using hx)⟩
theorem VRel.small {M : Mem} {x : IV} {v : Value} (h : VRel M x v) : ism x := by
  induction h with
  | p x v h => exact h.small
  | ref b g off len v hA' hv h => trivial
  | ptr b g r j v hA' hv h => trivial
  | mp b v hA' hv h => trivial
  | clo fn first cap vf vc hf hc rf rc i1 i2 => trivial
  | agg cs vs hl h1 r ih =>
    refine isms_of fun i x hx => ?_
    have hlt := lt_of_get hx
    rw [← hl] at hlt
    exact ih i x _ hx (List.getElem?_eq_getElem hlt)
  | tup cs vs hl r ih =>
    refine isms_of fun i x hx => ?_
    have hlt := lt_of_get hx
    rw [← hl] at hlt
    exact ih i x _ hx (List.getElem?_eq_getElem hlt)
  | dead v => trivial

/-! ### states that stand for the same -/
def Live : List It → Prop
  | .code _ :: _ => True
  | .ops _ _ :: _ => True
  | _ => False
theorem irun_learn {k : List It} {S : IState} {Q : Exit → IState → Prop} (hk : Live k) {t : Nat} {x : IV} (hx : look S.s t = some x) (h : ism x → IRun P h0 k S Q) : IRun P h0 k S Q := by
  have key : ∀ M a, SRel h0 S M a → ism x := fun M a hr => (by obtain ⟨v, _, h2⟩ := hr.slot t x hx; exact h2.small)
  cases k with
  | nil => exact hk.elim
  | cons y k =>
    cases y with
    | code c => exact fun M0 hM0 M a hs hr => h (key M a hr) M0 hM0 M a hs hr
    | blk id => exact hk.elim
    | ops all l => exact fun M0 hM0 M a hs hr => h (key M a hr) M0 hM0 M a hs hr

def Gho (h0 : IH) (S S' : IState) : Prop := ∀ M a, SRel h0 S M a → ∃ M', M'.w = M.w ∧ MStep M M' ∧ SRel h0 S' M' a
theorem irun_gho {k : List It} {S S' : IState} {Q : Exit → IState → Prop} (hk : Live k) (hg : Gho h0 S S') (h : IRun P h0 k S' Q) : IRun P h0 k S Q := by
  cases k with
  | nil => exact hk.elim
  | cons y k =>
    cases y with
    | code c =>
      intro M0 hM0 M a hs hr
      obtain ⟨M', e, st, hr'⟩ := hg M a hr
      rw [← e]
      exact h M0 hM0 M' a (hs.trans st) hr'
    | blk id => exact hk.elim
    | ops all l =>
      intro M0 hM0 M a hs hr
      obtain ⟨M', e, st, hr'⟩ := hg M a hr
      rw [← e]
      exact h M0 hM0 M' a (hs.trans st) hr'

/-- An empty slice without room comes to be owned. -/
theorem gho_own {S : IState} (t sz : Nat) {x : IV} (hx : look S.s t = some x) (he : x = .p .emp ∨ x = .p (.sc (.slice none 0 0))) :
    Gho h0 S ⟨S.n, (t, .ref S.nx 0 0 0) :: S.s, S.d, S.nx + 1, (S.nx, .arr sz 0 []) :: S.l⟩ := by
  intro M a hr
  have hA : ¬ M.H.A S.nx := fun h => Nat.lt_irrefl _ (hr.heap.A _ h)
  obtain ⟨st, rel⟩ := mem_virtual hr.heap.rel S.nx hA sz 0
  obtain ⟨v, v1, v2⟩ := hr.slot t x hx
  have hv : ∃ c, v = .slice c 0 0 := by
    rcases he with rfl | rfl
    · cases v2 with
      | p x v h => cases h with
        | emp c => exact ⟨c, rfl⟩
    · have := v2.sc_inv; subst this; exact ⟨none, rfl⟩
  obtain ⟨c, rfl⟩ := hv
  refine ⟨⟨M.w, M.H.put S.nx (.arr sz 0 []), putβ M.β S.nx none⟩, rfl, st, ⟨⟨rel, fun b hb => ?_, fun b => ?_⟩, hr.size, fun i y hy => ?_, hr.defs.step st⟩⟩
  · rcases hb with hb | rfl
    · exact Nat.lt_succ_of_lt (hr.heap.A b hb)
    · exact Nat.lt_succ_self _
  · simp only [AH.put, List.cons_append, look]
    by_cases e : b = S.nx
    · subst e; simp
    · rw [if_neg e, if_neg (fun h => e h.symm), hr.heap.G]
  · simp only [look] at hy
    split at hy
    · rename_i e; subst e
      cases hy
      refine ⟨_, v1, .ref _ _ _ _ _ (.inr rfl) ⟨c, 0, rfl⟩ fun blk hb => ?_⟩
      simp only [AH.put, if_true, Option.some.injEq] at hb
      subst hb
      exact ⟨Nat.le_refl _, fun _ => ⟨c, 0, rfl, Nat.le_refl _, Nat.le_refl _, Nat.le_refl _, .inl rfl⟩⟩
    · obtain ⟨v, w1, w2⟩ := hr.slot i y hy
      exact ⟨v, w1, w2.step st⟩

theorem walk_own (t sz : Nat) {k : List It} {N : Nat} {s : List (Nat × IV)} {d : List IDef} {nx : Nat} {l : List (Nat × IBlk)} {Q : Exit → IState → Prop} (hk : Live k) {x : IV} (hx : look s t = some x) (he : x = .p .emp ∨ x = .p (.sc (.slice none 0 0)))
    (h : IRun P h0 k ⟨N, (t, .ref nx 0 0 0) :: s, d, nx + 1, (nx, .arr sz 0 []) :: l⟩ Q) : IRun P h0 k ⟨N, s, d, nx, l⟩ Q :=
  irun_gho hk (gho_own (S := ⟨N, s, d, nx, l⟩) t sz hx he) h
theorem walk_learn (n t : Nat) {k : List It} {S : IState} {Q : Exit → IState → Prop} (hk : Live k) {x : IV} (hx : look S.s t = some x) (h : ism x → vc P h0 Q n k S) : IRun P h0 k S Q :=
  irun_learn hk hx fun h' => vc_sound Q n _ _ (h h')

/-! ### a nil slice, or an empty one without room, is an empty one -/
def wkp (a b : PV) : Prop := a = b ∨ (a = .emp ∨ a = .sc (.slice none 0 0)) ∧ ∃ sz, b = .imm sz []
mutual
def wk : IV → IV → Prop
  | .p a, y => match y with
    | .p b => wkp a b
    | _ => False
  | .agg xs, y => match y with
    | .agg ys => wks xs ys
    | _ => False
  | .tup xs, y => match y with
    | .tup ys => wks xs ys
    | _ => False
  | .ref b g o l, y => .ref b g o l = y
  | .ptr b g o l, y => .ptr b g o l = y
  | .mp b, y => .mp b = y
  | .clo f x c, y => .clo f x c = y
  | .dead, y => .dead = y
def wks : List IV → List IV → Prop
  | [], y => y = []
  | x :: xs, y => match y with
    | y :: ys => wk x y ∧ wks xs ys
    | [] => False
end
theorem wk_refl (x : IV) : wk x x := by
  apply IV.rec (motive_1 := fun x => wk x x) (motive_2 := fun l => wks l l)
  · intro a; exact .inl rfl
  · intros; rfl
  · intros; rfl
  · intros; rfl
  · intros; rfl
  · intro cs h; exact h
  · intro cs h; exact h
  · rfl
  · rfl
  · intro x l i1 i2; exact ⟨i1, i2⟩
theorem wks_refl : ∀ (l : List IV), wks l l
  | [] => rfl
  | x :: l => ⟨wk_refl x, wks_refl l⟩
theorem wks_get : ∀ {l m : List IV}, wks l m → m.length = l.length ∧ ∀ (i : Nat) (x y : IV), l[i]? = some x → m[i]? = some y → wk x y
  | [], m, h => by simp only [wks] at h; subst h; simp
  | x :: l, [], h => by simp [wks] at h
  | x :: l, y :: m, h => by
    obtain ⟨h1, h2⟩ := wks_get h.2
    refine ⟨by simp [h1], fun i a b ha hb => ?_⟩
    cases i with
    | zero => simp at ha hb; subst ha; subst hb; exact h.1
    | succ i => exact h2 i a b (by simpa using ha) (by simpa using hb)
theorem wk_fz {G : Nat → Option IBlk} {ids : List Nat} (x : IV) : ∀ y, wk x y → Fz G ids x y := by
  apply IV.rec (motive_1 := fun x => ∀ y, wk x y → Fz G ids x y) (motive_2 := fun l => ∀ x ∈ l, ∀ y, wk x y → Fz G ids x y)
  · intro a y h
    cases y <;> simp only [wk] at h
    rcases h with rfl | ⟨h, sz, rfl⟩
    · exact .refl _
    · exact .nil a sz h
  · intro b g off len y h; simp only [wk] at h; subst h; exact .refl _
  · intro b g off len y h; simp only [wk] at h; subst h; exact .refl _
  · intro b y h; simp only [wk] at h; subst h; exact .refl _
  · intro fn f c _ _ y h; simp only [wk] at h; subst h; exact .refl _
  · intro cs ih y h
    cases y <;> simp only [wk] at h
    obtain ⟨h1, h2⟩ := wks_get h
    exact .agg _ _ h1 fun i x y hx hy => ih x (List.mem_of_getElem? hx) y (h2 i x y hx hy)
  · intro cs ih y h
    cases y <;> simp only [wk] at h
    obtain ⟨h1, h2⟩ := wks_get h
    exact .tup _ _ h1 fun i x y hx hy => ih x (List.mem_of_getElem? hx) y (h2 i x y hx hy)
  · intro y h; simp only [wk] at h; subst h; exact .refl _
  · intro x hx; cases hx
  · intro x l i1 i2 z hz
    rcases List.mem_cons.1 hz with rfl | hz
    · exact i1
    · exact i2 z hz
theorem VRel.wk {M : Mem} {x : IV} {v : Value} (h : VRel M x v) : ∀ {y : IV}, wk x y → VRel M y v := by
  induction h with
  | p a v h =>
    intro y hy
    cases y <;> simp only [Idl.wk] at hy
    rcases hy with rfl | ⟨ha, sz, rfl⟩
    · exact .p _ _ h
    · have : ∃ c, v = .slice c 0 0 := by
        rcases ha with rfl | rfl
        · cases h with
          | emp c => exact ⟨c, rfl⟩
        · cases h; exact ⟨none, rfl⟩
      obtain ⟨c, rfl⟩ := this
      exact .p _ _ (.imm sz [] c 0 0 0 (fun _ _ => undef) (Nat.le_refl _) (Nat.zero_le _) (fun h => absurd h (by simp)) (by simp) (by simp) (by simp))
  | ref b g off len v hA' hv h => intro y hy; simp only [Idl.wk] at hy; subst hy; exact .ref b g off len v hA' hv h
  | ptr b g r j v hA' hv h => intro y hy; simp only [Idl.wk] at hy; subst hy; exact .ptr b g r j v hA' hv h
  | mp b v hA' hv h => intro y hy; simp only [Idl.wk] at hy; subst hy; exact .mp b v hA' hv h
  | clo fn first cap vf vc hf hc rf rc i1 i2 => intro y hy; simp only [Idl.wk] at hy; subst hy; exact .clo fn first cap vf vc hf hc rf rc
  | agg cs vs hl h1 r ih =>
    intro y hy
    cases y <;> simp only [Idl.wk] at hy
    obtain ⟨e1, e2⟩ := wks_get hy
    refine .agg _ vs (by omega) h1 fun i y v hy hv => ?_
    have hlt := lt_of_get hy
    have hx := List.getElem?_eq_getElem (show i < cs.length by omega)
    exact ih i _ v hx hv (e2 i _ y hx hy)
  | tup cs vs hl r ih =>
    intro y hy
    cases y <;> simp only [Idl.wk] at hy
    obtain ⟨e1, e2⟩ := wks_get hy
    refine .tup _ vs (by omega) fun i y v hy hv => ?_
    have hlt := lt_of_get hy
    have hx := List.getElem?_eq_getElem (show i < cs.length by omega)
    exact ih i _ v hx hv (e2 i _ y hx hy)
  | dead v => intro y hy; simp only [Idl.wk] at hy; subst hy; exact .dead v

def wkRs (a b : List (List IV)) : Prop := a = b ∨ b.length = a.length ∧ ∀ (i : Nat) (r r' : List IV), a[i]? = some r → b[i]? = some r' → wks r r'
def wkB : IBlk → IBlk → Prop
  | .arr sz g rows, y => match y with
    | .arr sz' g' rows' => sz = sz' ∧ g = g' ∧ wkRs rows rows'
    | .mp _ => False
  | .mp es, y => .mp es = y
theorem wkB_fz {G : Nat → Option IBlk} {ids : List Nat} {x y : IBlk} (h : wkB x y) : FzB G ids x y := by
  cases x with
  | arr sz g rows =>
    cases y with
    | mp es => exact h.elim
    | arr sz' g' rows' =>
      obtain ⟨rfl, rfl, h⟩ := h
      rcases h with rfl | ⟨h1, h2⟩
      · exact .refl _
      · refine ⟨rfl, rfl, h1, fun i row row' hi hi' => ?_⟩
        obtain ⟨e1, e2⟩ := wks_get (h2 i row row' hi hi')
        exact ⟨e1, fun j x y hx hy => wk_fz x y (e2 j x y hx hy)⟩
  | mp es => simp only [wkB] at h; subst h; exact .refl _
section
variable {a b : PV} {x y : IV} {xs ys : List IV} {sz sz' g g' : Nat} {rows rows' : List (List PV)} {rs rs' : List (List IV)}
@[go_sem] theorem wk_self : wk x x = True := eq_true (wk_refl x)
@[go_sem] theorem wkp_self : wkp a a = True := eq_true (.inl rfl)
@[go_sem] theorem wks_self : wks xs xs = True := eq_true (wks_refl xs)
@[go_sem] theorem wkRs_self : wkRs rs rs = True := eq_true (.inl rfl)
@[go_sem] theorem wk_p : wk (.p a) (.p b) = wkp a b := by simp only [wk]
@[go_sem] theorem wk_agg : wk (.agg xs) (.agg ys) = wks xs ys := by simp only [wk]
@[go_sem] theorem wk_tup : wk (.tup xs) (.tup ys) = wks xs ys := by simp only [wk]
@[go_sem] theorem wk_ref {b g o l b' g' o' l' : Nat} : wk (.ref b g o l) (.ref b' g' o' l') = (b = b' ∧ g = g' ∧ o = o' ∧ l = l') := by simp only [wk, IV.ref.injEq]
@[go_sem] theorem wk_ptr {b g o l b' g' o' l' : Nat} : wk (.ptr b g o l) (.ptr b' g' o' l') = (b = b' ∧ g = g' ∧ o = o' ∧ l = l') := by simp only [wk, IV.ptr.injEq]
@[go_sem] theorem wks_cons : wks (x :: xs) (y :: ys) = (wk x y ∧ wks xs ys) := by simp only [wks]
@[go_sem] theorem wkp_nil : wkp (.sc (.slice none 0 0)) (.imm sz rows) = (rows = []) := by simp [wkp]
@[go_sem] theorem wkp_emp : wkp .emp (.imm sz rows) = (rows = []) := by simp [wkp]
@[go_sem] theorem wkp_imm : wkp (.imm sz rows) (.imm sz' rows') = (sz = sz' ∧ rows = rows') := by simp [wkp]
@[go_sem] theorem wkp_sc {u v : Value} : wkp (.sc u) (.sc v) = (u = v) := by simp [wkp]
@[go_sem] theorem wkp_rp {u v : List PV} : wkp (.rp u) (.rp v) = (u = v) := by simp [wkp]
@[go_sem] theorem wkRs_cons {r r' : List IV} : wkRs (r :: rs) (r' :: rs') = (wks r r' ∧ wkRs rs rs') := by
  refine propext ⟨fun h => ?_, fun h => ?_⟩
  · rcases h with h | ⟨h1, h2⟩
    · cases h; exact ⟨wks_refl _, .inl rfl⟩
    · exact ⟨h2 0 r r' rfl rfl, .inr ⟨by simpa using h1, fun i a b ha hb => h2 (i + 1) a b (by simpa using ha) (by simpa using hb)⟩⟩
  · obtain ⟨h1, h2⟩ := h
    refine .inr ⟨?_, fun i a b ha hb => ?_⟩
    · rcases h2 with rfl | h2
      · rfl
      · simp [h2.1]
    · cases i with
      | zero => simp at ha hb; subst ha; subst hb; exact h1
      | succ i =>
        simp at ha hb
        rcases h2 with rfl | h2
        · rw [ha] at hb; cases hb; exact wks_refl _
        · exact h2.2 i a b ha hb
@[go_sem] theorem wkB_arr : wkB (.arr sz g rs) (.arr sz' g' rs') = (sz = sz' ∧ g = g' ∧ wkRs rs rs') := by simp only [wkB]
end

/-! ### loops -/
def slotsIn (S : IState) (nx : Nat) : List (Nat × IV) → Prop
  | [] => True
  | (t, y) :: r => onSome (look S.s t) (fun z => wk z y) False ∧ (nx = S.nx ∨ bel nx y) ∧ slotsIn S nx r
def blksIn (S : IState) (m : List (Nat × IBlk)) (nx : Nat) : List (Nat × IBlk) → Prop
  | [] => True
  | (b, blk) :: r => onSome (look (S.l ++ m) b) (fun z => wkB z blk) False ∧ (nx = S.nx ∨ b < nx ∧ blkBel nx blk) ∧ blksIn S m nx r
def oldIn (nx0 : Nat) (l' : List (Nat × IBlk)) : List (Nat × IBlk) → Prop
  | [] => True
  | (b, _) :: r => (nx0 ≤ b ∨ ∃ blk, (b, blk) ∈ l') ∧ oldIn nx0 l' r
theorem slotsIn_mem {S : IState} {nx : Nat} : ∀ {s : List (Nat × IV)}, slotsIn S nx s → ∀ p ∈ s, (∃ z, look S.s p.1 = some z ∧ wk z p.2) ∧ (nx = S.nx ∨ bel nx p.2)
  | [], _, p, hp => by cases hp
  | (t, y) :: r, h, p, hp => by
    rcases List.mem_cons.1 hp with rfl | hp
    · refine ⟨?_, h.2.1⟩
      have := h.1
      cases hl : look S.s t with
      | none => rw [hl] at this; exact this.elim
      | some z => rw [hl] at this; exact ⟨z, rfl, this⟩
    · exact slotsIn_mem h.2.2 p hp
theorem blksIn_mem {S : IState} {m : List (Nat × IBlk)} {nx : Nat} : ∀ {s : List (Nat × IBlk)}, blksIn S m nx s → ∀ p ∈ s, (∃ z, look (S.l ++ m) p.1 = some z ∧ wkB z p.2) ∧ (nx = S.nx ∨ p.1 < nx ∧ blkBel nx p.2)
  | [], _, p, hp => by cases hp
  | (t, y) :: r, h, p, hp => by
    rcases List.mem_cons.1 hp with rfl | hp
    · refine ⟨?_, h.2.1⟩
      have := h.1
      cases hl : look (S.l ++ m) t with
      | none => rw [hl] at this; exact this.elim
      | some z => rw [hl] at this; exact ⟨z, rfl, this⟩
    · exact blksIn_mem h.2.2 p hp
theorem oldIn_mem {nx0 : Nat} {l' : List (Nat × IBlk)} : ∀ {s : List (Nat × IBlk)}, oldIn nx0 l' s → ∀ p ∈ s, nx0 ≤ p.1 ∨ ∃ blk, (p.1, blk) ∈ l'
  | [], _, p, hp => by cases hp
  | (t, y) :: r, h, p, hp => by
    rcases List.mem_cons.1 hp with rfl | hp
    · exact h.1
    · exact oldIn_mem h.2 p hp

/-- A state of which less is said: fewer slots, fewer blocks; nothing is frozen. -/
structure Cut (h0 : IH) (S S' : IState) : Prop where
  n : S'.n = S.n
  d : S'.d = S.d
  dbel : S.d = [] ∨ S'.nx = S.nx
  low : h0.nx ≤ S'.nx
  top : S'.nx ≤ S.nx
  slots : slotsIn S S'.nx S'.s
  blks : blksIn S h0.m S'.nx S'.l
  others : oldIn h0.nx S'.l S.l
theorem Cut.sub {S S' : IState} (h : Cut h0 S S') : Sub h0 [] S S' := by
  refine ⟨h.n, h.d, h.dbel, h.low, h.top, fun p hp => ?_, fun p hp => ?_, oldIn_mem h.others, by simp⟩
  · obtain ⟨⟨z, h1, h3⟩, h2⟩ := slotsIn_mem h.slots p hp
    exact ⟨z, h1, wk_fz _ _ h3, h2⟩
  · obtain ⟨⟨z, h1, h3⟩, h2⟩ := blksIn_mem h.blks p hp
    exact ⟨z, h1, wkB_fz h3, h2⟩

def loopQ (P : Program) (h0 : IH) (Q : Exit → IState → Prop) (n : Nat) (k : List It) (next : IState → Prop) : Exit → IState → Prop
  | .normal, S => next S
  | .exit id, S => stepExit P h0 Q n id S (toBlk id k)
  | .ret, S => Q .ret S
  | .panic ch, S => Q (.panic ch) S
  | e, S => after P h0 Q k e S
section
variable {Q : Exit → IState → Prop} {n : Nat} {k : List It} {next : IState → Prop} {S : IState}
@[go_sem ↓] theorem loopQ_normal : loopQ P h0 Q n k next .normal S = next S := (rfl)
@[go_sem ↓] theorem loopQ_exit {id : Nat} : loopQ P h0 Q n k next (.exit id) S = stepExit P h0 Q n id S (toBlk id k) := (rfl)
@[go_sem ↓] theorem loopQ_ret : loopQ P h0 Q n k next .ret S = Q .ret S := (rfl)
@[go_sem ↓] theorem loopQ_panic {ch : List PanicEntry} : loopQ P h0 Q n k next (.panic ch) S = Q (.panic ch) S := (rfl)
end

/-- A loop: states by an index; each round ends in one of a smaller measure. -/
theorem walk_loop {ι : Type} {c : Code} {k : List It} {S : IState} {Q : Exit → IState → Prop} (n m : Nat) (I : ι → Prop) (St : ι → IState) (μ : ι → Nat) (i0 : ι) (hI : I i0) (hi : Cut h0 S (St i0))
    (hr : ∀ i, I i → vc P h0 (loopQ P h0 Q n k fun S' => ∃ i', I i' ∧ μ i' < μ i ∧ Cut h0 S' (St i')) m [.code c] (St i)) : IRun P h0 (.code (.loop c) :: k) S Q := by
  refine irun_loop (ι := { i // I i }) (fun i => St i.1) (fun i => μ i.1) ⟨i0, hI⟩ ⟨[], hi.sub⟩ fun ⟨i, hIi⟩ => ?_
  have := vc_sound _ _ _ _ (hr i hIi)
  refine ICode.mono this fun e S' h => ?_
  have h : loopQ P h0 Q n k (fun S' => ∃ i', I i' ∧ μ i' < μ i ∧ Cut h0 S' (St i')) e S' := h
  cases e with
  | normal => obtain ⟨i', h1, h2, h3⟩ := h; exact ⟨⟨i', h1⟩, [], h2, h3.sub⟩
  | exit id =>
    simp only [loopQ, stepExit] at h
    cases hb : toBlk id k with
    | none => rw [hb, onSome_none] at h; exact (show after P h0 Q k (.exit id) S' from after_exit_none hb h)
    | some k' => rw [hb, onSome_some] at h; exact (show after P h0 Q k (.exit id) S' from after_exit hb (vc_sound Q n _ _ h))
  | ret => exact (show after P h0 Q k .ret S' from after_ret h)
  | panic ch => exact (show after P h0 Q k (.panic ch) S' from after_panic h)
  | goto l => exact h
  | outgrown => exact h

/-! ### what a function returns -/
def pvs2 : List (List IV) → Option (List (List PV))
  | [] => some []
  | r :: rs => match pvs r, pvs2 rs with
    | some x, some xs => some (x :: xs)
    | _, _ => none
theorem pvs2_eq : ∀ {l : List (List IV)} {ps : List (List PV)}, pvs2 l = some ps → l = ps.map (·.map .p)
  | [], ps, h => by simp only [pvs2, Option.some.injEq] at h; subst h; rfl
  | r :: rs, ps, h => by
    unfold pvs2 at h
    split at h
    · rename_i x xs h1 h2
      simp only [Option.some.injEq] at h; subst h
      rw [pvs2_eq h2, pvs_eq h1]; rfl
    · cases h
mutual
/-- A value with all slices of owned blocks told by what lies in them. -/
def frz (G : Nat → Option IBlk) : IV → Option IV
  | .p x => some (.p x)
  | .ref b g off len => match G b with
    | some (.arr sz g' rows) => if g = g' then (pvs2 ((rows.drop off).take len)).map fun ps => .p (.imm sz ps) else none
    | _ => none
  | .ptr b g r j => match G b with
    | some (.arr _ g' rows) => if g = g' then match rows[r]? with
        | some row => (pvs (row.drop j)).map fun ps => .p (.rp ps)
        | none => none
      else none
    | _ => none
  | .agg cs => (frzs G cs).map .agg
  | .tup cs => (frzs G cs).map .tup
  | _ => none
def frzs (G : Nat → Option IBlk) : List IV → Option (List IV)
  | [] => some []
  | x :: r => match frz G x, frzs G r with
    | some y, some ys => some (y :: ys)
    | _, _ => none
end
mutual
/-- The blocks of which it speaks. -/
def refs : IV → List Nat
  | .ref b _ _ _ => [b]
  | .ptr b _ _ _ => [b]
  | .agg cs => refss cs
  | .tup cs => refss cs
  | _ => []
def refss : List IV → List Nat
  | [] => []
  | x :: r => refs x ++ refss r
end
theorem frzs_get {G : Nat → Option IBlk} : ∀ {l ys : List IV}, frzs G l = some ys → ys.length = l.length ∧ ∀ (i : Nat) (x y : IV), l[i]? = some x → ys[i]? = some y → frz G x = some y
  | [], ys, h => by simp only [frzs, Option.some.injEq] at h; subst h; simp
  | x :: r, ys, h => by
    unfold frzs at h
    split at h
    · rename_i y ys' h1 h2
      simp only [Option.some.injEq] at h; subst h
      obtain ⟨l1, l2⟩ := frzs_get h2
      refine ⟨by simp [l1], fun i a b ha hb => ?_⟩
      cases i with
      | zero => simp at ha hb; subst ha; subst hb; exact h1
      | succ i => exact l2 i a b (by simpa using ha) (by simpa using hb)
    · cases h
theorem refss_get {l : List IV} : ∀ {i : Nat} {x : IV}, l[i]? = some x → ∀ b ∈ refs x, b ∈ refss l := by
  induction l with
  | nil => intro i x h; simp at h
  | cons y l ih =>
    intro i x h b hb
    simp only [refss, List.mem_append]
    cases i with
    | zero => simp at h; subst h; exact .inl hb
    | succ i => exact .inr (ih (by simpa using h) b hb)
theorem frz_Fz {G : Nat → Option IBlk} (x : IV) : ∀ y ids, frz G x = some y → (∀ b ∈ refs x, b ∈ ids) → Fz G ids x y ∧ bel 0 y := by
  apply IV.rec (motive_1 := fun x => ∀ y ids, frz G x = some y → (∀ b ∈ refs x, b ∈ ids) → Fz G ids x y ∧ bel 0 y)
    (motive_2 := fun l => ∀ x ∈ l, ∀ y ids, frz G x = some y → (∀ b ∈ refs x, b ∈ ids) → Fz G ids x y ∧ bel 0 y)
  · intro x y ids h _; simp only [frz, Option.some.injEq] at h; subst h; exact ⟨.refl _, trivial⟩
  · intro b g off len y ids h hr
    simp only [frz] at h
    split at h
    · rename_i sz g' rows hb
      split at h
      · rename_i e; subst e
        simp only [Option.map_eq_some_iff] at h
        obtain ⟨ps, hp, rfl⟩ := h
        exact ⟨.ref b g off len sz rows ps hb (hr b (by simp [refs])) (pvs2_eq hp), trivial⟩
      · cases h
    · cases h
  · intro b g r j y ids h hr
    simp only [frz] at h
    split at h
    · rename_i sz g' rows hb
      split at h
      · rename_i e; subst e
        split at h
        · rename_i row hrow
          simp only [Option.map_eq_some_iff] at h
          obtain ⟨ps, hp, rfl⟩ := h
          exact ⟨.ptr b g r j sz rows row ps hb (hr b (by simp [refs])) hrow (pvs_eq hp), trivial⟩
        · cases h
      · cases h
    · cases h
  · intro b y ids h; simp [frz] at h
  · intro fn f c i1 i2 y ids h; simp [frz] at h
  · intro cs ih y ids h hr
    simp only [frz, Option.map_eq_some_iff] at h
    obtain ⟨ys, hy, rfl⟩ := h
    obtain ⟨l1, l2⟩ := frzs_get hy
    refine ⟨.agg cs ys l1 fun i a b ha hb => (ih a (List.mem_of_getElem? ha) b ids (l2 i a b ha hb) fun c hc => hr c (refss_get ha c hc)).1, bels_of fun i b hb => ?_⟩
    have hlt := lt_of_get hb
    have ha := List.getElem?_eq_getElem (show i < cs.length by omega)
    exact (ih _ (List.mem_of_getElem? ha) b ids (l2 i _ b ha hb) fun c hc => hr c (refss_get ha c hc)).2
  · intro cs ih y ids h hr
    simp only [frz, Option.map_eq_some_iff] at h
    obtain ⟨ys, hy, rfl⟩ := h
    obtain ⟨l1, l2⟩ := frzs_get hy
    refine ⟨.tup cs ys l1 fun i a b ha hb => (ih a (List.mem_of_getElem? ha) b ids (l2 i a b ha hb) fun c hc => hr c (refss_get ha c hc)).1, bels_of fun i b hb => ?_⟩
    have hlt := lt_of_get hb
    have ha := List.getElem?_eq_getElem (show i < cs.length by omega)
    exact (ih _ (List.mem_of_getElem? ha) b ids (l2 i _ b ha hb) fun c hc => hr c (refss_get ha c hc)).2
  · intro y ids h; simp [frz] at h
  · intro x hx; cases hx
  · intro x l i1 i2 z hz
    rcases List.mem_cons.1 hz with rfl | hz
    · exact i1
    · exact i2 z hz

def geAll (n : Nat) : List Nat → Prop
  | [] => True
  | b :: r => n ≤ b ∧ geAll n r
theorem geAll_mem {n : Nat} : ∀ {l : List Nat}, geAll n l → ∀ b ∈ l, n ≤ b
  | [], _, b, hb => by cases hb
  | c :: r, h, b, hb => by rcases List.mem_cons.1 hb with rfl | hb; exact h.1; exact geAll_mem h.2 b hb

theorem leave_frz {h : IH} {S : IState} {x y : IV} (hd : S.d = []) (hnx : h.nx ≤ S.nx) (hl : geAll h.nx (S.l.map (·.1))) (hx : geAll h.nx (refs x)) (hf : frz (look (S.l ++ h.m)) x = some y) : Leave h (refs x) S x y h.nx [] := by
  obtain ⟨h1, h2⟩ := frz_Fz x y (refs x) hf (fun b hb => hb)
  exact ⟨⟨rfl, rfl, .inl hd, Nat.le_refl _, hnx, by simp, by simp, fun p hp => .inl (geAll_mem hl _ (List.mem_map_of_mem hp)), fun b hb => ⟨geAll_mem hx b hb, by simp⟩⟩, h1, .inr (bel_mono (Nat.zero_le _) _ h2)⟩

/-- What a function's end asks that leaves nothing. -/
def endP (P : Program) (fn : Func) (h : IH) (Q : IV → Prop) (S : IState) : Prop :=
  onSome (ires P S (S.l ++ h.m) fn.results.toList) (fun x => onSome (frz (look (S.l ++ h.m)) x) (fun y => geAll h.nx (refs x) ∧ Q y) False) False
theorem fin_pure {fn : Func} {h : IH} {Q : IV → Prop} {S : IState} (e : Exit) (he : e = .normal ∨ e = .ret) (hd : S.d = []) (hnx : h.nx ≤ S.nx) (hl : geAll h.nx (S.l.map (·.1)))
    (hx : endP P fn h Q S) : FinOk P fn h (fun r nx l => ∃ y, r = .ret y ∧ Q y ∧ nx = h.nx ∧ l = []) e S := by
  unfold endP at hx
  cases hi : ires P S (S.l ++ h.m) fn.results.toList with
  | none => rw [hi] at hx; exact hx.elim
  | some x =>
    rw [hi, onSome_some] at hx
    cases hf : frz (look (S.l ++ h.m)) x with
    | none => rw [hf] at hx; exact hx.elim
    | some y =>
      rw [hf, onSome_some] at hx
      rcases he with rfl | rfl
      · exact .norm S x y _ h.nx [] hd hi (leave_frz hd hnx hl hx.1 hf) ⟨y, rfl, hx.2, rfl, rfl⟩
      · exact .ret S x y _ h.nx [] hd hi (leave_frz hd hnx hl hx.1 hf) ⟨y, rfl, hx.2, rfl, rfl⟩

/-- The ends of a function that leaves nothing: its state, and what it answers. -/
def EndP (P : Program) (fn : Func) (h : IH) (Q : IV → Prop) : Exit → IState → Prop
  | .normal, S => S.d = [] ∧ h.nx ≤ S.nx ∧ geAll h.nx (S.l.map (·.1)) ∧ endP P fn h Q S
  | .ret, S => S.d = [] ∧ h.nx ≤ S.nx ∧ geAll h.nx (S.l.map (·.1)) ∧ endP P fn h Q S
  | _, _ => False
section
variable {fn : Func} {h : IH} {Q : IV → Prop} {N : Nat} {s : List (Nat × IV)} {d : List IDef} {nx : Nat} {l : List (Nat × IBlk)}
@[go_sem ↓] theorem EndP_normal : EndP P fn h Q .normal ⟨N, s, d, nx, l⟩ = (d = [] ∧ h.nx ≤ nx ∧ geAll h.nx (l.map (·.1)) ∧ endP P fn h Q ⟨N, s, d, nx, l⟩) := (rfl)
@[go_sem ↓] theorem EndP_ret : EndP P fn h Q .ret ⟨N, s, d, nx, l⟩ = (d = [] ∧ h.nx ≤ nx ∧ geAll h.nx (l.map (·.1)) ∧ endP P fn h Q ⟨N, s, d, nx, l⟩) := (rfl)
@[go_sem ↓] theorem endP_eq : endP P fn h Q ⟨N, s, d, nx, l⟩ =
    onSome (ires P ⟨N, s, d, nx, l⟩ (l ++ h.m) fn.results.toList) (fun x => onSome (frz (look (l ++ h.m)) x) (fun y => geAll h.nx (refs x) ∧ Q y) False) False := (rfl)
end

/-- A function of its arguments and the blocks R; what it answers is told up to empty slices. -/
theorem pcall_of (n : Nat) {f : FuncId} {fn : Func} {c : Code} {args : List IV} {R : List (Nat × IBlk)} {x : IV} (hf : P.funcs[f]? = some fn) (hb : fn.body = some c) (hn : args.length ≤ fn.ntmps)
    (hc : ∀ h : IH, (∀ p ∈ R, look h.m p.1 = some p.2) → isms args → vc P h (EndP P fn h fun y => wk y x) n [.code c] ⟨fn.ntmps, enum 0 args, [], h.nx, []⟩) : PCall P f args R x := by
  intro h hR M vs hM hl hr
  have hs : isms args := isms_of fun i x hx => (hr i x _ hx (List.getElem?_eq_getElem (by have := lt_of_get hx; omega))).small
  have : ICall P f args h fun r nx l => ∃ y, r = .ret y ∧ wk y x ∧ nx = h.nx ∧ l = [] := by
    refine icall_of hf hb hn (ICode.mono (vc_sound _ _ _ _ (hc h hR hs)) fun e S he => ?_)
    cases e with
    | normal => exact fin_pure _ (.inl rfl) he.1 he.2.1 he.2.2.1 he.2.2.2
    | ret => exact fin_pure _ (.inr rfl) he.1 he.2.1 he.2.2.1 he.2.2.2
    | exit id => exact he.elim
    | goto l => exact he.elim
    | panic ch => exact he.elim
    | outgrown => exact he.elim
  refine (this M vs hM hl hr).mono fun e w' ⟨M', nx', l', r, h1, h2, h3, h4, y, h5, h6, h7, h8⟩ => ⟨M', nx', l', .ret x, h1, h2, h3, ?_, rfl, h7, h8⟩
  subst h5
  obtain ⟨v, e1, e2⟩ := h4
  exact ⟨v, e1, e2.wk h6⟩

theorem PCall.weak {f : FuncId} {args args' : List IV} {R : List (Nat × IBlk)} {x : IV} (h : PCall P f args' R x) (hw : wks args args') : PCall P f args R x := by
  intro hp hR M vs hM hl hr
  obtain ⟨e1, e2⟩ := wks_get hw
  refine h hp hR M vs hM (by omega) fun i y v hy hv => ?_
  have hlt := lt_of_get hy
  have hx := List.getElem?_eq_getElem (show i < args.length by omega)
  exact (hr i _ v hx hv).wk (e2 i _ y hx hy)

/-- A call in the walk, its arguments told up to empty slices. -/
theorem walk_wcall (n : Nat) {Q : Exit → IState → Prop} {k : List It} {all : Array Oper} {r : List Oper} {dst : Option Tmp} {ty : TypeId} {pos : String} {aft : Array Edge} {N : Nat} {s : List (Nat × IV)} {d : List IDef} {nx : Nat} {l : List (Nat × IBlk)}
    {g : Option (Nat × Bool)} {f : Operand} {args : List Operand} {ts : Array TypeId} {c : FuncId} {zs' : List IV} {x : IV} {R : List (Nat × IBlk)}
    (hp : PCall P c zs' R x) (hc : onSome (icallee (ev s) f args) (fun q => q.1 = c ∧ wks q.2 zs') False) (hR : ∀ p ∈ R, look (l ++ h0.m) p.1 = some p.2)
    (hw : iwant all s ⟨dst, .call { callee := .value f, args := ⟨args⟩, argTypes := ts }, ty, pos, aft, g⟩ = some true) (hn : fnOk P c = true) (hd : dOk N dst = true)
    (h : vc P h0 Q n (.ops all r :: k) ⟨N, putS dst x s, d, nx, l⟩) :
    IRun P h0 (.ops all (⟨dst, .call { callee := .value f, args := ⟨args⟩, argTypes := ts }, ty, pos, aft, g⟩ :: r) :: k) ⟨N, s, d, nx, l⟩ Q := by
  cases hi : icallee (ev s) f args with
  | none => rw [hi] at hc; exact hc.elim
  | some q =>
    obtain ⟨c', zs⟩ := q
    rw [hi] at hc
    obtain ⟨e, hwk⟩ := hc
    simp only at e hwk
    subst e
    exact wlk_call n hi (hp.weak hwk) hR hw hn hd h
theorem walk_wdcall {K : IState → List FP → Prop} {all : Array Oper} {r : List Oper} {dst : Option Tmp} {ty : TypeId} {pos : String} {aft : Array Edge} {N : Nat} {s : List (Nat × IV)} {d : List IDef} {nx : Nat} {l : List (Nat × IBlk)}
    {g : Option (Nat × Bool)} {f : Operand} {args : List Operand} {ts : Array TypeId} {c : FuncId} {zs' : List IV} {x : IV} {R : List (Nat × IBlk)} {acc : List FP}
    (hp : PCall P c zs' R x) (hc : onSome (icallee (ev s) f args) (fun q => q.1 = c ∧ wks q.2 zs') False) (hR : ∀ p ∈ R, look (l ++ h0.m) p.1 = some p.2)
    (hw : iwant all s ⟨dst, .call { callee := .value f, args := ⟨args⟩, argTypes := ts }, ty, pos, aft, g⟩ = some true) (hn : fnOk P c = true) (hd : dOk N dst = true) (hx : bel 0 x)
    (h : dvc P h0 all K r ⟨N, putS dst x s, d, nx, l⟩ (acc ++ [(R.map (·.1), [])])) :
    DRun P h0 all (⟨dst, .call { callee := .value f, args := ⟨args⟩, argTypes := ts }, ty, pos, aft, g⟩ :: r) ⟨N, s, d, nx, l⟩ acc K := by
  cases hi : icallee (ev s) f args with
  | none => rw [hi] at hc; exact hc.elim
  | some q =>
    obtain ⟨c', zs⟩ := q
    rw [hi] at hc
    obtain ⟨e, hwk⟩ := hc
    simp only at e hwk
    subst e
    exact walk_dcall hi (hp.weak hwk) hR hw hn hd hx h

attribute [go_sem] ism isms psm plsm pssm slotsIn blksIn oldIn pvs2 frz frzs refs refss geAll Live
end Go.Idl
