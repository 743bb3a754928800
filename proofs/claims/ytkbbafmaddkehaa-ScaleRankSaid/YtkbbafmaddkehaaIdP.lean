/-
  The frame of a function.
-/
import Derived.Test.YtkbbafmaddkehaaIdO
namespace Go.Idl
variable {P : Program} {h0 : IH}

def enum : Nat → List IV → List (Nat × IV)
  | _, [] => []
  | i, x :: r => (i, x) :: enum (i + 1) r
theorem look_enum : ∀ (l : List IV) (i k : Nat) (x : IV), look (enum i l) k = some x → i ≤ k ∧ l[k - i]? = some x
  | [], i, k, x, h => by cases h
  | y :: r, i, k, x, h => by
    simp only [enum, look] at h
    split at h
    · rename_i e; subst e; cases h; simp
    · obtain ⟨h1, h2⟩ := look_enum r (i + 1) k x h
      refine ⟨by omega, ?_⟩
      rw [show k - i = (k - (i + 1)) + 1 by omega]
      simpa using h2

def start (n : Nat) (args : List IV) (h : IH) : IState := { n, s := enum 0 args, d := [], nx := h.nx, l := [] }

structure Leave (h : IH) (ids : List Nat) (S : IState) (x y : IV) (nx' : Nat) (l' : List (Nat × IBlk)) : Prop where
  sub : Sub h ids S { S with s := [], nx := nx', l := l' }
  fz : Fz (look (S.l ++ h.m)) ids x y
  bel : nx' = S.nx ∨ bel nx' y

inductive FinOk (P : Program) (fn : Func) (h : IH) (Q : IEnd → Nat → List (Nat × IBlk) → Prop) : Exit → IState → Prop where
  | norm (S : IState) (x y : IV) (ids : List Nat) (nx' : Nat) (l' : List (Nat × IBlk)) (hd : S.d = []) (hx : ires P S (S.l ++ h.m) fn.results.toList = some x)
      (hl : Leave h ids S x y nx' l') (hq : Q (.ret y) nx' l') : FinOk P fn h Q .normal S
  | ret (S : IState) (x y : IV) (ids : List Nat) (nx' : Nat) (l' : List (Nat × IBlk)) (hd : S.d = []) (hx : ires P S (S.l ++ h.m) fn.results.toList = some x)
      (hl : Leave h ids S x y nx' l') (hq : Q (.ret y) nx' l') : FinOk P fn h Q .ret S
  | pan (S : IState) (ch : List PanicEntry) (ids : List Nat) (nx' : Nat) (l' : List (Nat × IBlk)) (hd : S.d = []) (hl : Sub h ids S { S with s := [], nx := nx', l := l' })
      (hq : Q (.pan ch) nx' l') : FinOk P fn h Q (.panic ch) S

def resOf (tmps : Array Value) : ResultVar → Sem Value
  | .tmp t => pure (tmps.getD t undef)
  | .cell p t => do loadVar t (← asAddr (tmps.getD p undef))
theorem results_eq (fn : Func) (tmps : Array Value) : results fn tmps = (do let vs ← fn.results.mapM (resOf tmps); pure (if h : vs.size = 1 then vs[0] else .tuple vs)) := by
  unfold results
  congr 1

theorem run_ires1 {S : IState} {M : Mem} {a : Act} (hr : SRel h0 S M a) {r : ResultVar} {x : IV} (h : ires1 P S (S.l ++ h0.m) r = some x) :
    ∃ v, (resOf a.tmps r).run P M.w = .ok v M.w ∧ VRel M x v := by
  cases r with
  | tmp t =>
    obtain ⟨v, h1, h2⟩ := hr.slot t x h
    exact ⟨v, by simp [resOf, h1], h2⟩
  | cell p t =>
    simp only [ires1] at h
    split at h
    · rename_i b g r j hp
      split at h
      · rename_i sz g' rows hb
        split at h
        · rename_i hg
          subst hg
          split at h
          · rename_i row hrow
            obtain ⟨v, h1, h2⟩ := hr.slot p _ hp
            have hb' : M.H.G b = some (.arr sz g rows) := by rw [hr.heap.G]; exact hb
            obtain ⟨c, o', n, hc, hv⟩ := h2.ptr_inv hb' rfl
            obtain ⟨u, u1, u2⟩ := load_row (P := P) (M := M) h c (o' + (r * sz + j)) (fun k y' hk => by
              rw [List.getElem?_drop] at hk
              obtain ⟨u, u1, u2, u3⟩ := (hr.heap.rel.blk b _ hb').row hrow hc (j + k) y' hk
              exact ⟨u, by rw [← u1]; congr 2; omega, u2, u3⟩)
            simp only [IBlk.sz] at hv
            refine ⟨u, ?_, u2⟩
            simp only [resOf, Array.getD_eq_getD_getElem?, h1, Option.getD_some, hv, asAddr, Sem.run_bind, Sem.run_pure, Result.andThen_ok, u1]
          · cases h
        · cases h
      · cases h
    · cases h

theorem run_iress {S : IState} {M : Mem} {a : Act} (hr : SRel h0 S M a) : ∀ {rs : List ResultVar} {xs : List IV}, iress P S (S.l ++ h0.m) rs = some xs →
    ∃ vs : List Value, (rs.mapM (resOf a.tmps)).run P M.w = .ok vs M.w ∧ vs.length = xs.length ∧ ∀ (i : Nat) (x : IV) (v : Value), xs[i]? = some x → vs[i]? = some v → VRel M x v
  | [], xs, h => by simp only [iress, Option.some.injEq] at h; subst h; exact ⟨[], by simp, rfl, by simp⟩
  | r :: rs, xs, h => by
    unfold iress at h
    split at h
    · rename_i x xs' hx hxs
      simp only [Option.some.injEq] at h; subst h
      obtain ⟨v, v1, v2⟩ := run_ires1 (P := P) hr hx
      obtain ⟨vs, w1, w2, w3⟩ := run_iress hr hxs
      refine ⟨v :: vs, ?_, by simp [w2], fun i y u hi hu => ?_⟩
      · simp only [List.mapM_cons, Sem.run_bind, v1, Result.andThen_ok, w1, Sem.run_pure]
      · cases i with
        | zero => simp at hi hu; subst hi; subst hu; exact v2
        | succ i => exact w3 i y u (by simpa using hi) (by simpa using hu)
    · cases h

theorem run_ires {S : IState} {M : Mem} {a : Act} (hr : SRel h0 S M a) {fn : Func} {x : IV} (h : ires P S (S.l ++ h0.m) fn.results.toList = some x) :
    ∃ v, (results fn a.tmps).run P M.w = .ok v M.w ∧ VRel M x v := by
  have hres : ∀ vs : List Value, (fn.results.toList.mapM (resOf a.tmps)).run P M.w = .ok vs M.w →
      (results fn a.tmps).run P M.w = .ok (if h : (⟨vs⟩ : Array Value).size = 1 then (⟨vs⟩ : Array Value)[0] else .tuple ⟨vs⟩) M.w := by
    intro vs hvs
    rw [results_eq, Sem.run_bind, Array.mapM_eq_mapM_toList]
    simp only [Sem.run_map, hvs, Result.andThen_ok, Sem.run_pure]
  unfold ires at h
  split at h
  · rename_i y hy
    simp only [Option.some.injEq] at h; subst h
    obtain ⟨vs, w1, w2, w3⟩ := run_iress (P := P) hr hy
    match vs, w2 with
    | [v], _ =>
      refine ⟨v, ?_, w3 0 y v rfl rfl⟩
      rw [hres _ w1]
      rfl
  · rename_i xs hne hxs
    simp only [Option.some.injEq] at h; subst h
    obtain ⟨vs, w1, w2, w3⟩ := run_iress (P := P) hr hxs
    refine ⟨.tuple ⟨vs⟩, ?_, .tup xs vs w2 w3⟩
    rw [hres _ w1]
    have : ¬ (⟨vs⟩ : Array Value).size = 1 := by
      simp only [List.size_toArray, w2]
      intro e
      match xs, e with
      | [z], _ => exact hne z rfl
    rw [dif_neg this]
  · cases h

theorem icall_of {f : FuncId} {fn : Func} {c : Code} {args : List IV} {h : IH} {Q : IEnd → Nat → List (Nat × IBlk) → Prop} (hf : P.funcs[f]? = some fn) (hb : fn.body = some c) (hn : args.length ≤ fn.ntmps)
    (hc : ICode P h c (start fn.ntmps args h) (FinOk P fn h Q)) : ICall P f args h Q := by
  intro M vs hM hl hr
  refine calls_of_wp hf hb (wp_mono (hc M hM M _ (.refl M) ⟨by simpa [start] using hM, ?_, fun i x hi => ?_, trivial⟩) ?_)
  · simp [start, hl]; omega
  · obtain ⟨_, h2⟩ := look_enum args 0 i x hi
    have hlt := lt_of_get h2
    simp only [Nat.sub_zero] at h2 hlt
    refine ⟨vs[i]'(by omega), ?_, hr i x _ h2 (List.getElem?_eq_getElem (by omega))⟩
    simp only
    rw [Array.getElem?_append]
    simp only [List.size_toArray]
    rw [if_pos (by omega)]
    simp [List.getElem?_eq_getElem (show i < vs.length by omega)]
  · rintro e a' w' ⟨M', S', rfl, st, hrel, hq⟩
    have fin : (e = .normal ∨ e = .ret) → a'.defers = [] ∧ ∃ v, (results fn a'.tmps).run P M'.w = .ok v M'.w ∧ ∃ M'' nx' l' r, M''.w = M'.w ∧ MStep M M'' ∧ HRel nx' (l' ++ h.m) M'' ∧ EndRel M'' r (.returned v) ∧ Q r nx' l' := by
      intro he
      have hq' : S'.d = [] ∧ ∃ x, ires P S' (S'.l ++ h.m) fn.results.toList = some x ∧ ∃ ids y nx' l', Leave h ids S' x y nx' l' ∧ Q (.ret y) nx' l' := by
        rcases he with rfl | rfl
        · cases hq with
          | norm S x y ids nx' l' hd hx hl hq => exact ⟨hd, x, hx, ids, y, nx', l', hl, hq⟩
        · cases hq with
          | ret S x y ids nx' l' hd hx hl hq => exact ⟨hd, x, hx, ids, y, nx', l', hl, hq⟩
      obtain ⟨hd, x, hx, ids, y, nx', l', hle, hqq⟩ := hq'
      obtain ⟨v, v1, v2⟩ := run_ires (P := P) hrel hx
      obtain ⟨M'', k1, k2, k3, k4⟩ := sub_rel hle.sub hM st hrel
      have hdd : a'.defers = [] := by
        have := hrel.defs
        rw [hd] at this
        cases hds : a'.defers with
        | nil => rfl
        | cons d ds => rw [hds] at this; exact this.elim
      exact ⟨hdd, v, v1, M'', nx', l', .ret y, k1, k2, k3.heap, ⟨v, rfl, k4 x y v v2 hle.fz hle.bel⟩, hqq⟩
    cases e with
    | normal => exact fin (.inl rfl)
    | ret => exact fin (.inr rfl)
    | panic ch =>
      obtain ⟨ids, nx', l', hd, hsub, hqq⟩ : ∃ ids nx' l', S'.d = [] ∧ Sub h ids S' { S' with s := [], nx := nx', l := l' } ∧ Q (.pan ch) nx' l' := by
        cases hq with
        | pan S ch ids nx' l' hd hl hq => exact ⟨ids, nx', l', hd, hl, hq⟩
      obtain ⟨M'', k1, k2, k3, k4⟩ := sub_rel hsub hM st hrel
      have hdd : a'.defers = [] := by
        have := hrel.defs
        rw [hd] at this
        cases hds : a'.defers with
        | nil => rfl
        | cons d ds => rw [hds] at this; exact this.elim
      exact ⟨hdd, M'', nx', l', .pan ch, k1, k2, k3.heap, rfl, hqq⟩
    | exit id => cases hq
    | goto l => cases hq
    | outgrown => cases hq

end Go.Idl
