/-
  Loops between whose rounds owned slices may be given up: told by what lies in them.
-/
import Derived.Test.YtkbbafmaddkehaaIdNw
namespace Go.Idl
variable {P : Program} {h0 : IH}

mutual
/-- y tells of x no more: slices of the blocks ids by what lies in them. -/
def fw (G : Nat → Option IBlk) (ids : List Nat) : IV → IV → Prop
  | .ref b g off len, y => match y with
    | .p q => b ∈ ids ∧ onSome (frz G (.ref b g off len)) (fun z => wk z (.p q)) False
    | y => .ref b g off len = y
  | .agg xs, y => match y with
    | .agg ys => fws G ids xs ys
    | _ => False
  | .tup xs, y => match y with
    | .tup ys => fws G ids xs ys
    | _ => False
  | .p a, y => wk (.p a) y
  | .ptr b g o l, y => .ptr b g o l = y
  | .mp b, y => .mp b = y
  | .clo f x c, y => .clo f x c = y
  | .dead, y => .dead = y
def fws (G : Nat → Option IBlk) (ids : List Nat) : List IV → List IV → Prop
  | [], y => y = []
  | x :: xs, y => match y with
    | y :: ys => fw G ids x y ∧ fws G ids xs ys
    | [] => False
end
theorem fws_get {G : Nat → Option IBlk} {ids : List Nat} : ∀ {l m : List IV}, fws G ids l m → m.length = l.length ∧ ∀ (i : Nat) (x y : IV), l[i]? = some x → m[i]? = some y → fw G ids x y
  | [], m, h => by simp only [fws] at h; subst h; simp
  | x :: l, [], h => by simp [fws] at h
  | x :: l, y :: m, h => by
    obtain ⟨h1, h2⟩ := fws_get h.2
    refine ⟨by simp [h1], fun i a b ha hb => ?_⟩
    cases i with
    | zero => simp at ha hb; subst ha; subst hb; exact h.1
    | succ i => exact h2 i a b (by simpa using ha) (by simpa using hb)
theorem imm_wk {sz : Nat} {rows : List (List PV)} {q : PV} (h : wkp (.imm sz rows) q) : q = .imm sz rows := by
  rcases h with h | ⟨h, _⟩
  · exact h.symm
  · rcases h with h | h <;> cases h
theorem fw_fz {G : Nat → Option IBlk} {ids : List Nat} (x : IV) : ∀ y, fw G ids x y → Fz G ids x y := by
  apply IV.rec (motive_1 := fun x => ∀ y, fw G ids x y → Fz G ids x y) (motive_2 := fun l => ∀ x ∈ l, ∀ y, fw G ids x y → Fz G ids x y)
  · intro a y h; exact wk_fz _ y h
  · intro b g off len y h
    cases y with
    | p q =>
      obtain ⟨h1, h2⟩ := h
      cases hz : frz G (.ref b g off len) with
      | none => rw [hz] at h2; exact h2.elim
      | some z =>
        rw [hz, onSome_some] at h2
        have h3 := (frz_Fz (.ref b g off len) z ids hz (by simp [refs, h1])).1
        simp only [frz] at hz
        split at hz
        · split at hz
          · simp only [Option.map_eq_some_iff] at hz
            obtain ⟨ps, _, rfl⟩ := hz
            have := imm_wk h2
            subst this
            exact h3
          · cases hz
        · cases hz
    | _ => simp only [fw] at h; (cases h; try exact .refl _)
  · intro b g off len y h; simp only [fw] at h; subst h; exact .refl _
  · intro b y h; simp only [fw] at h; subst h; exact .refl _
  · intro fn f c _ _ y h; simp only [fw] at h; subst h; exact .refl _
  · intro cs ih y h
    cases y <;> simp only [fw] at h
    obtain ⟨h1, h2⟩ := fws_get h
    exact .agg _ _ h1 fun i x y hx hy => ih x (List.mem_of_getElem? hx) y (h2 i x y hx hy)
  · intro cs ih y h
    cases y <;> simp only [fw] at h
    obtain ⟨h1, h2⟩ := fws_get h
    exact .tup _ _ h1 fun i x y hx hy => ih x (List.mem_of_getElem? hx) y (h2 i x y hx hy)
  · intro y h; simp only [fw] at h; subst h; exact .refl _
  · intro x hx; cases hx
  · intro x l i1 i2 z hz
    rcases List.mem_cons.1 hz with rfl | hz
    · exact i1
    · exact i2 z hz
def fwRs (G : Nat → Option IBlk) (ids : List Nat) (a b : List (List IV)) : Prop :=
  a = b ∨ b.length = a.length ∧ ∀ (i : Nat) (r r' : List IV), a[i]? = some r → b[i]? = some r' → fws G ids r r'
def fwB (G : Nat → Option IBlk) (ids : List Nat) : IBlk → IBlk → Prop
  | .arr sz g rows, y => match y with
    | .arr sz' g' rows' => sz = sz' ∧ g = g' ∧ fwRs G ids rows rows'
    | .mp _ => False
  | .mp es, y => .mp es = y
theorem fwB_fz {G : Nat → Option IBlk} {ids : List Nat} {x y : IBlk} (h : fwB G ids x y) : FzB G ids x y := by
  cases x with
  | arr sz g rows =>
    cases y with
    | mp es => exact h.elim
    | arr sz' g' rows' =>
      obtain ⟨rfl, rfl, h⟩ := h
      rcases h with rfl | ⟨h1, h2⟩
      · exact .refl _
      · refine ⟨rfl, rfl, h1, fun i row row' hi hi' => ?_⟩
        obtain ⟨e1, e2⟩ := fws_get (h2 i row row' hi hi')
        exact ⟨e1, fun j x y hx hy => fw_fz x y (e2 j x y hx hy)⟩
  | mp es => simp only [fwB] at h; subst h; exact .refl _
section
variable {G : Nat → Option IBlk} {ids : List Nat} {a : PV} {x y : IV} {xs ys : List IV} {sz sz' g g' : Nat} {rs rs' : List (List IV)}
@[go_sem] theorem fw_p : fw G ids (.p a) y = wk (.p a) y := by simp only [fw]
@[go_sem] theorem fw_agg : fw G ids (.agg xs) (.agg ys) = fws G ids xs ys := by simp only [fw]
@[go_sem] theorem fw_tup : fw G ids (.tup xs) (.tup ys) = fws G ids xs ys := by simp only [fw]
@[go_sem] theorem fw_ref {b g o l b' g' o' l' : Nat} : fw G ids (.ref b g o l) (.ref b' g' o' l') = (b = b' ∧ g = g' ∧ o = o' ∧ l = l') := by simp only [fw, IV.ref.injEq]
@[go_sem] theorem fw_frz {b g o l : Nat} : fw G ids (.ref b g o l) (.p a) = (b ∈ ids ∧ onSome (frz G (.ref b g o l)) (fun z => wk z (.p a)) False) := by simp only [fw]
@[go_sem] theorem fw_ptr {b g o l b' g' o' l' : Nat} : fw G ids (.ptr b g o l) (.ptr b' g' o' l') = (b = b' ∧ g = g' ∧ o = o' ∧ l = l') := by simp only [fw, IV.ptr.injEq]
@[go_sem] theorem fw_mp {b b' : Nat} : fw G ids (.mp b) (.mp b') = (b = b') := by simp only [fw, IV.mp.injEq]
@[go_sem] theorem fws_nil : fws G ids [] [] = True := by simp only [fws]
@[go_sem] theorem fws_cons : fws G ids (x :: xs) (y :: ys) = (fw G ids x y ∧ fws G ids xs ys) := by simp only [fws]
@[go_sem] theorem fwRs_self : fwRs G ids rs rs = True := eq_true (.inl rfl)
@[go_sem] theorem fwRs_cons {r r' : List IV} : fwRs G ids (r :: rs) (r' :: rs') = (fws G ids r r' ∧ fwRs G ids rs rs') := by
  have self : ∀ z : List IV, wks z z := wks_refl
  have wf : ∀ (x : IV), fw G ids x x := by
    intro x
    apply IV.rec (motive_1 := fun x => fw G ids x x) (motive_2 := fun l => fws G ids l l)
    · intro a; exact wk_refl _
    · intro b g o l; simp only [fw]
    · intro b g o l; simp only [fw]
    · intro b; simp only [fw]
    · intro f a c _ _; simp only [fw]
    · intro cs h; simp only [fw]; exact h
    · intro cs h; simp only [fw]; exact h
    · simp only [fw]
    · simp only [fws]
    · intro x l h1 h2; exact ⟨h1, h2⟩
  have wfs : ∀ z : List IV, fws G ids z z := by
    intro z
    induction z with
    | nil => simp only [fws]
    | cons x l ih => exact ⟨wf x, ih⟩
  apply propext
  constructor
  · rintro (h | ⟨h1, h2⟩)
    · cases h; exact ⟨wfs _, .inl rfl⟩
    · exact ⟨h2 0 r r' rfl rfl, .inr ⟨by simpa using h1, fun i a b ha hb => h2 (i + 1) a b (by simpa using ha) (by simpa using hb)⟩⟩
  · rintro ⟨h1, h2⟩
    refine .inr ?_
    rcases h2 with rfl | ⟨h2, h3⟩
    · refine ⟨rfl, fun i a b ha hb => ?_⟩
      cases i with
      | zero => simp at ha hb; subst ha; subst hb; exact h1
      | succ i => simp at ha hb; rw [ha] at hb; cases hb; exact wfs _
    · refine ⟨by simp [h2], fun i a b ha hb => ?_⟩
      cases i with
      | zero => simp at ha hb; subst ha; subst hb; exact h1
      | succ i => exact h3 i a b (by simpa using ha) (by simpa using hb)
@[go_sem] theorem fwB_arr : fwB G ids (.arr sz g rs) (.arr sz' g' rs') = (sz = sz' ∧ g = g' ∧ fwRs G ids rs rs') := by simp only [fwB]
@[go_sem] theorem fwB_mp {es es' : List (Value × IV)} : fwB G ids (.mp es) (.mp es') = (es = es') := by simp only [fwB, IBlk.mp.injEq]
end

def fslotsIn (S : IState) (m : List (Nat × IBlk)) (ids : List Nat) (nx : Nat) : List (Nat × IV) → Prop
  | [] => True
  | (t, y) :: r => onSome (look S.s t) (fun z => fw (look (S.l ++ m)) ids z y) False ∧ (nx = S.nx ∨ bel nx y) ∧ fslotsIn S m ids nx r
def fblksIn (S : IState) (m : List (Nat × IBlk)) (ids : List Nat) (nx : Nat) : List (Nat × IBlk) → Prop
  | [] => True
  | (b, blk) :: r => onSome (look (S.l ++ m) b) (fun z => fwB (look (S.l ++ m)) ids z blk) False ∧ (nx = S.nx ∨ b < nx ∧ blkBel nx blk) ∧ fblksIn S m ids nx r
def gone (nx0 : Nat) (l' : List (Nat × IBlk)) : List Nat → Prop
  | [] => True
  | b :: r => (nx0 ≤ b ∧ (l'.all fun p => p.1 != b) = true) ∧ gone nx0 l' r
theorem fslotsIn_mem {S : IState} {m : List (Nat × IBlk)} {ids : List Nat} {nx : Nat} : ∀ {s : List (Nat × IV)}, fslotsIn S m ids nx s → ∀ p ∈ s, (∃ z, look S.s p.1 = some z ∧ fw (look (S.l ++ m)) ids z p.2) ∧ (nx = S.nx ∨ bel nx p.2)
  | [], _, p, h => by cases h
  | (t, y) :: r, h, p, hp => by
    rcases List.mem_cons.1 hp with rfl | hp
    · refine ⟨?_, h.2.1⟩
      have h1 := h.1
      cases hl : look S.s t with
      | none => rw [hl] at h1; exact h1.elim
      | some z => rw [hl] at h1; exact ⟨z, rfl, h1⟩
    · exact fslotsIn_mem h.2.2 p hp
theorem fblksIn_mem {S : IState} {m : List (Nat × IBlk)} {ids : List Nat} {nx : Nat} : ∀ {s : List (Nat × IBlk)}, fblksIn S m ids nx s → ∀ p ∈ s, (∃ z, look (S.l ++ m) p.1 = some z ∧ fwB (look (S.l ++ m)) ids z p.2) ∧ (nx = S.nx ∨ p.1 < nx ∧ blkBel nx p.2)
  | [], _, p, h => by cases h
  | (b, blk) :: r, h, p, hp => by
    rcases List.mem_cons.1 hp with rfl | hp
    · refine ⟨?_, h.2.1⟩
      have h1 := h.1
      cases hl : look (S.l ++ m) b with
      | none => rw [hl] at h1; exact h1.elim
      | some z => rw [hl] at h1; exact ⟨z, rfl, h1⟩
    · exact fblksIn_mem h.2.2 p hp
theorem gone_mem {nx0 : Nat} {l' : List (Nat × IBlk)} : ∀ {l : List Nat}, gone nx0 l' l → ∀ b ∈ l, nx0 ≤ b ∧ ∀ p ∈ l', p.1 ≠ b
  | [], _, b, h => by cases h
  | c :: r, h, b, hb => by
    rcases List.mem_cons.1 hb with rfl | hb
    · exact ⟨h.1.1, fun p hp => by have := List.all_eq_true.1 h.1.2 p hp; simpa using this⟩
    · exact gone_mem h.2 b hb
/-- A state of which less is said: fewer slots, fewer blocks; the blocks ids are given up. -/
structure FCut (h0 : IH) (ids : List Nat) (S S' : IState) : Prop where
  n : S'.n = S.n
  d : S'.d = S.d
  dbel : S.d = [] ∨ S'.nx = S.nx
  low : h0.nx ≤ S'.nx
  top : S'.nx ≤ S.nx
  slots : fslotsIn S h0.m ids S'.nx S'.s
  blks : fblksIn S h0.m ids S'.nx S'.l
  others : oldIn h0.nx S'.l S.l
  gone : gone h0.nx S'.l ids
theorem FCut.sub {ids : List Nat} {S S' : IState} (h : FCut h0 ids S S') : Sub h0 ids S S' := by
  refine ⟨h.n, h.d, h.dbel, h.low, h.top, fun p hp => ?_, fun p hp => ?_, oldIn_mem h.others, gone_mem h.gone⟩
  · obtain ⟨⟨z, h1, h3⟩, h2⟩ := fslotsIn_mem h.slots p hp
    exact ⟨z, h1, fw_fz _ _ h3, h2⟩
  · obtain ⟨⟨z, h1, h3⟩, h2⟩ := fblksIn_mem h.blks p hp
    exact ⟨z, h1, fwB_fz h3, h2⟩
/-- A loop whose rounds may end in blocks that are given up. -/
theorem walk_floop {ι : Type} {c : Code} {k : List It} {S : IState} {Q : Exit → IState → Prop} (n m : Nat) (I : ι → Prop) (St : ι → IState) (μ : ι → Nat) (i0 : ι) (ids0 : List Nat) (hI : I i0) (hi : FCut h0 ids0 S (St i0))
    (hr : ∀ i, I i → vc P h0 (loopQ P h0 Q n k fun S' => ∃ i' ids, I i' ∧ μ i' < μ i ∧ FCut h0 ids S' (St i')) m [.code c] (St i)) : IRun P h0 (.code (.loop c) :: k) S Q := by
  refine irun_loop (ι := { i // I i }) (fun i => St i.1) (fun i => μ i.1) ⟨i0, hI⟩ ⟨ids0, hi.sub⟩ fun ⟨i, hIi⟩ => ?_
  have := vc_sound _ _ _ _ (hr i hIi)
  refine ICode.mono this fun e S' h => ?_
  have h : loopQ P h0 Q n k (fun S' => ∃ i' ids, I i' ∧ μ i' < μ i ∧ FCut h0 ids S' (St i')) e S' := h
  cases e with
  | normal => obtain ⟨i', ids, h1, h2, h3⟩ := h; exact ⟨⟨i', h1⟩, ids, h2, h3.sub⟩
  | exit id =>
    simp only [loopQ, stepExit] at h
    cases hb : toBlk id k with
    | none => rw [hb, onSome_none] at h; exact (show after P h0 Q k (.exit id) S' from after_exit_none hb h)
    | some k' => rw [hb, onSome_some] at h; exact (show after P h0 Q k (.exit id) S' from after_exit hb (vc_sound Q n _ _ h))
  | ret => exact (show after P h0 Q k .ret S' from after_ret h)
  | panic ch => exact (show after P h0 Q k (.panic ch) S' from after_panic h)
  | goto l => exact h
  | outgrown => exact h
/-- Anywhere ahead of code: fewer slots, blocks given up; then on. -/
theorem walk_fcut (n : Nat) {k : List It} {S : IState} {Q : Exit → IState → Prop} (ids : List Nat) (S' : IState) (hk : Live k) (h : FCut h0 ids S S') (hv : vc P h0 Q n k S') : IRun P h0 k S Q := by
  refine irun_weak h.sub ?_ (vc_sound Q n _ _ hv)
  cases k with
  | nil => exact hk.elim
  | cons x k => cases x <;> first | exact hk.elim | trivial
attribute [go_sem] fslotsIn fblksIn gone
end Go.Idl
namespace Go.Idl
variable {P : Program} {h0 : IH}
/-- The slots of some numbers alone. -/
def pickS : List Nat → List (Nat × IV) → List (Nat × IV)
  | [], _ => []
  | t :: ts, s => match look s t with
    | some x => (t, x) :: pickS ts s
    | none => pickS ts s
theorem pickS_look {s : List (Nat × IV)} : ∀ {T : List Nat} {p : Nat × IV}, p ∈ pickS T s → look s p.1 = some p.2
  | [], p, h => by cases h
  | t :: ts, p, h => by
    unfold pickS at h
    split at h
    · rename_i x hx
      rcases List.mem_cons.1 h with rfl | h
      · exact hx
      · exact pickS_look h
    · exact pickS_look h
/-- On with the slots that are still wanted, and the newest state of each block. -/
theorem walk_trim (T : List Nat) {k : List It} {N : Nat} {s : List (Nat × IV)} {d : List IDef} {nx : Nat} {l : List (Nat × IBlk)} {Q : Exit → IState → Prop} (hk : Live k) (hn : h0.nx ≤ nx)
    (h : IRun P h0 k ⟨N, pickS T s, d, nx, ddp l⟩ Q) : IRun P h0 k ⟨N, s, d, nx, l⟩ Q := by
  refine irun_weak (ids := []) (S' := ⟨N, pickS T s, d, nx, ddp l⟩) ⟨rfl, rfl, .inr rfl, hn, Nat.le_refl _, fun p hp => ⟨p.2, pickS_look hp, .refl _, .inl rfl⟩, fun p hp => ?_, fun p hp => .inr (ddp_keys hp), by simp⟩ ?_ h
  · have := ddp_look hp
    exact ⟨p.2, by rw [look_append, this], .refl _, .inl rfl⟩
  · cases k with
    | nil => exact hk.elim
    | cons x k => cases x <;> first | exact hk.elim | trivial
attribute [go_sem] pickS ddp
end Go.Idl
