/-
  Regions that draw their order: the run in the text's order, and what it stands for.
-/
import Derived.Test.YtkbbafmaddkehaaIdT
namespace Go.Idl
variable {P : Program} {h0 : IH}

inductive DSteps (P : Program) (h0 : IH) (all : Array Oper) : List Oper → IState → List FR → IState → Prop where
  | nil (S : IState) : DSteps P h0 all [] S [] S
  | op {o : Oper} {r : List Oper} {S S' : IState} {fr : FR} {frs : List FR} (hw : iwant all S.s o = some true) (hl : Loc P o (ev S.s) fr.R fr.F fr.x fr.W)
      (hf : fr.fits (look (S.l ++ h0.m)) S.nx) (hd : dOk S.n o.dst = true)
      (h : DSteps P h0 all r ⟨S.n, putS o.dst fr.x S.s, S.d, S.nx + fr.F.length, fr.W.reverse ++ S.l⟩ frs S') : DSteps P h0 all (o :: r) S (fr :: frs) S'
  | skip {o : Oper} {r : List Oper} {S S' : IState} {frs : List FR} (hw : iwant all S.s o = some false) (hd : dOk S.n o.dst = true)
      (h : DSteps P h0 all r ⟨S.n, putS o.dst (.tup []) S.s, S.d, S.nx, S.l⟩ frs S') : DSteps P h0 all (o :: r) S ({ x := .tup [] } :: frs) S'

/-- Slots and blocks behind those operations that are listed. -/
def selS : List Oper → List FR → (Nat → Bool) → List (Nat × IV) → List (Nat × IV)
  | o :: r, f :: fs, L, s => selS r fs (fun k => L (k + 1)) (if L 0 then putS o.dst f.x s else s)
  | _, _, _, s => s
def selL : List FR → (Nat → Bool) → List (Nat × IBlk) → List (Nat × IBlk)
  | f :: fs, L, l => selL fs (fun k => L (k + 1)) (if L 0 then f.W.reverse ++ l else l)
  | _, _, l => l

theorem look_putS {dst : Option Tmp} {x : IV} {s : List (Nat × IV)} {t : Nat} : look (putS dst x s) t = if dst = some t then some x else look s t := by
  cases dst with
  | none => simp [putS]
  | some d => simp [putS, look]

theorem selS_agree : ∀ {ops : List Oper} {frs : List FR} {L L' : Nat → Bool} {s s' : List (Nat × IV)} {t : Nat}, look s t = look s' t →
    (∀ (j : Nat) (o : Oper), ops[j]? = some o → L j ≠ L' j → o.dst ≠ some t) → look (selS ops frs L s) t = look (selS ops frs L' s') t
  | [], frs, L, L', s, s', t, h, _ => by simpa [selS] using h
  | o :: ops, [], L, L', s, s', t, h, _ => by simpa [selS] using h
  | o :: ops, f :: frs, L, L', s, s', t, h, hd => by
    simp only [selS]
    refine selS_agree ?_ fun j o' ho' hne => hd (j + 1) o' (by simpa using ho') hne
    by_cases e : L 0 = L' 0
    · rw [e]
      split
      · simp only [look_putS, h]
      · exact h
    · have := hd 0 o rfl e
      cases h1 : L 0 <;> cases h2 : L' 0 <;> simp_all [look_putS]
theorem selL_agree : ∀ {frs : List FR} {L L' : Nat → Bool} {l l' : List (Nat × IBlk)} {b : Nat}, look l b = look l' b →
    (∀ (j : Nat) (f : FR), frs[j]? = some f → L j ≠ L' j → ∀ p ∈ f.W, p.1 ≠ b) → look (selL frs L l) b = look (selL frs L' l') b
  | [], L, L', s, s', t, h, _ => by simpa [selL] using h
  | f :: frs, L, L', s, s', t, h, hd => by
    simp only [selL]
    refine selL_agree ?_ fun j o' ho' hne => hd (j + 1) o' (by simpa using ho') hne
    have hnone : (∀ p ∈ f.W, p.1 ≠ t) → look f.W.reverse t = none := by
      intro hp
      cases hl : look f.W.reverse t with
      | none => rfl
      | some x => exact absurd rfl (hp _ (by simpa using look_mem hl))
    by_cases e : L 0 = L' 0
    · rw [e]
      split
      · simp only [look_append, h]
      · exact h
    · have := hnone (hd 0 f rfl e)
      cases h1 : L 0 <;> cases h2 : L' 0 <;> simp_all [look_append]

theorem selS_none : ∀ {ops : List Oper} {frs : List FR} {s : List (Nat × IV)}, selS ops frs (fun _ => false) s = s
  | [], _, _ => by simp [selS]
  | o :: ops, [], _ => by simp [selS]
  | o :: ops, f :: frs, s => by simp only [selS]; exact selS_none
theorem selL_none : ∀ {frs : List FR} {l : List (Nat × IBlk)}, selL frs (fun _ => false) l = l
  | [], _ => by simp [selL]
  | f :: frs, s => by simp only [selL]; exact selL_none

theorem selS_at : ∀ {ops : List Oper} {frs : List FR} {L : Nat → Bool} {s : List (Nat × IV)} {t i : Nat} {o : Oper} {f : FR}, L i = true → ops[i]? = some o → frs[i]? = some f → o.dst = some t →
    (∀ (j : Nat) (o' : Oper), ops[j]? = some o' → j ≠ i → o'.dst ≠ some t) → look (selS ops frs L s) t = some f.x
  | [], frs, L, s, t, i, o, f, _, ho, _, _, _ => by simp at ho
  | x :: ops, [], L, s, t, i, o, f, _, _, hf, _, _ => by simp at hf
  | x :: ops, g :: frs, L, s, t, i, o, f, hL, ho, hf, hd, hn => by
    simp only [selS]
    cases i with
    | zero =>
      simp at ho hf; subst ho; subst hf
      rw [selS_agree (L' := fun _ => false) (s' := putS x.dst g.x s) (by rw [if_pos hL]) (fun j o' ho' _ => hn (j + 1) o' (by simpa using ho') (by omega)), selS_none, look_putS, if_pos hd]
    | succ i => exact selS_at (L := fun k => L (k + 1)) hL (by simpa using ho) (by simpa using hf) hd fun j o' ho' hne => hn (j + 1) o' (by simpa using ho') (by omega)
theorem selL_at : ∀ {frs : List FR} {L : Nat → Bool} {l : List (Nat × IBlk)} {b i : Nat} {f : FR} {blk : IBlk}, L i = true → frs[i]? = some f → look f.W.reverse b = some blk →
    (∀ (j : Nat) (f' : FR), frs[j]? = some f' → i < j → L j = true → ∀ p ∈ f'.W, p.1 ≠ b) → look (selL frs L l) b = some blk
  | [], L, l, b, i, f, blk, _, hf, _, _ => by simp at hf
  | g :: frs, L, l, b, i, f, blk, hL, hf, hb, hn => by
    simp only [selL]
    cases i with
    | zero =>
      simp at hf; subst hf
      rw [selL_agree (L' := fun _ => false) (l' := g.W.reverse ++ l) (by rw [if_pos hL]) (fun j f' hf' hne => hn (j + 1) f' (by simpa using hf') (by omega) (by simpa using hne)), selL_none, look_append, hb]
    | succ i => exact selL_at (L := fun k => L (k + 1)) hL (by simpa using hf) hb fun j f' hf' hlt => hn (j + 1) f' (by simpa using hf') (by omega)

/-! ### the run, operation by operation -/
structure StepAt (P : Program) (h0 : IH) (all : Array Oper) (S S' : IState) (o : Oper) (fr : FR) (s : List (Nat × IV)) (l : List (Nat × IBlk)) : Prop where
  dst : dOk S.n o.dst = true
  does : (iwant all s o = some true ∧ Loc P o (ev s) fr.R fr.F fr.x fr.W) ∨ (iwant all s o = some false ∧ fr = { x := .tup [] })
  reads : ∀ p ∈ fr.R, look (l ++ h0.m) p.1 = some p.2
  new : ∀ p ∈ fr.W, p.1 ∈ fr.F ∨ ∃ blk, (p.1, blk) ∈ fr.R
  range : ∀ b ∈ fr.F, S.nx ≤ b ∧ b < S'.nx

theorem DSteps.nx {all : Array Oper} {ops : List Oper} {S S' : IState} {frs : List FR} (h : DSteps P h0 all ops S frs S') : S.nx ≤ S'.nx := by
  induction h with
  | nil S => exact Nat.le_refl _
  | op hw hl hf hd h ih => simp only at ih; omega
  | skip hw hd h ih => exact ih
theorem DSteps.length {all : Array Oper} {ops : List Oper} {S S' : IState} {frs : List FR} (h : DSteps P h0 all ops S frs S') : frs.length = ops.length := by
  induction h with
  | nil S => rfl
  | op hw hl hf hd h ih => simp [ih]
  | skip hw hd h ih => simp [ih]
theorem FR.fits.F {fr : FR} {G : Nat → Option IBlk} {nx : Nat} (h : fr.fits G nx) : ∀ b ∈ fr.F, b = nx ∧ fr.F.length = 1 := by
  rcases h.new with ⟨h, _⟩ | ⟨h, _⟩ <;> rw [h] <;> simp
theorem DSteps.fresh {all : Array Oper} {ops : List Oper} {S S' : IState} {frs : List FR} (h : DSteps P h0 all ops S frs S') :
    (∀ (i : Nat) (f : FR), frs[i]? = some f → ∀ b ∈ f.F, S.nx ≤ b ∧ b < S'.nx) ∧ ∀ (i j : Nat) (f g : FR), i < j → frs[i]? = some f → frs[j]? = some g → ∀ b ∈ f.F, ∀ b' ∈ g.F, b < b' := by
  induction h with
  | nil S => simp
  | op hw hl hf hd h ih =>
    obtain ⟨i1, i2⟩ := ih
    have hnx := h.nx
    simp only at i1 hnx
    refine ⟨fun i f hi b hb => ?_, fun i j f g hij hi hj b hb b' hb' => ?_⟩
    · cases i with
      | zero => simp at hi; subst hi; obtain ⟨e, e1⟩ := hf.F b hb; omega
      | succ i => have := i1 i f (by simpa using hi) b hb; omega
    · obtain ⟨j, rfl⟩ : ∃ j', j = j' + 1 := ⟨j - 1, by omega⟩
      cases i with
      | zero =>
        simp at hi; subst hi
        obtain ⟨e, e1⟩ := hf.F b hb
        have := i1 j g (by simpa using hj) b' hb'
        omega
      | succ i => exact i2 i j f g (by omega) (by simpa using hi) (by simpa using hj) b hb b' hb'
  | skip hw hd h ih =>
    obtain ⟨i1, i2⟩ := ih
    refine ⟨fun i f hi b hb => ?_, fun i j f g hij hi hj b hb b' hb' => ?_⟩
    · cases i with
      | zero => simp at hi; subst hi; simp at hb
      | succ i => exact i1 i f (by simpa using hi) b hb
    · obtain ⟨j, rfl⟩ : ∃ j', j = j' + 1 := ⟨j - 1, by omega⟩
      cases i with
      | zero => simp at hi; subst hi; simp at hb
      | succ i => exact i2 i j f g (by omega) (by simpa using hi) (by simpa using hj) b hb b' hb'

theorem sel_pre (i : Nat) : (fun k => decide (k + 1 < i + 1)) = fun k => decide (k < i) := by funext k; simp

theorem DSteps.at {all : Array Oper} {ops : List Oper} {S S' : IState} {frs : List FR} (h : DSteps P h0 all ops S frs S') :
    ∀ (i : Nat) (o : Oper), ops[i]? = some o → ∃ fr, frs[i]? = some fr ∧ StepAt P h0 all S S' o fr (selS ops frs (fun k => decide (k < i)) S.s) (selL frs (fun k => decide (k < i)) S.l) := by
  induction h with
  | nil S => intro i o ho; simp at ho
  | @op o r S S' fr frs hw hl hf hd h ih =>
    intro i o' ho'
    have hnx := h.nx
    simp only at hnx
    cases i with
    | zero =>
      simp at ho'; subst ho'
      refine ⟨fr, rfl, ?_⟩
      simp only [Nat.not_lt_zero, decide_false, selS_none, selL_none]
      refine ⟨hd, .inl ⟨hw, hl⟩, hf.reads, fun p hp => ?_, fun b hb => ?_⟩
      · rcases hf.new with ⟨_, h2⟩ | ⟨h1, blk, h2⟩
        · exact .inr (h2 p hp)
        · rw [h2] at hp; simp at hp; subst hp; rw [h1]; simp
      · obtain ⟨e, e1⟩ := hf.F b hb; omega
    | succ i =>
      obtain ⟨fr', h1, h2⟩ := ih i o' (by simpa using ho')
      refine ⟨fr', by simpa using h1, ?_⟩
      simp only [selS, selL, sel_pre, Nat.zero_lt_succ, decide_true, if_true]
      exact ⟨h2.dst, h2.does, h2.reads, h2.new, fun b hb => (by have := h2.range b hb; simp only at this; omega)⟩
  | @skip o r S S' frs hw hd h ih =>
    intro i o' ho'
    cases i with
    | zero =>
      simp at ho'; subst ho'
      refine ⟨_, rfl, ?_⟩
      simp only [Nat.not_lt_zero, decide_false, selS_none, selL_none]
      exact ⟨hd, .inr ⟨hw, rfl⟩, by simp, by simp, by simp⟩
    | succ i =>
      obtain ⟨fr', h1, h2⟩ := ih i o' (by simpa using ho')
      refine ⟨fr', by simpa using h1, ?_⟩
      simp only [selS, selL, sel_pre, Nat.zero_lt_succ, decide_true, if_true, List.reverse_nil, List.nil_append]
      exact ⟨h2.dst, h2.does, h2.reads, h2.new, h2.range⟩

theorem DSteps.last {all : Array Oper} {ops : List Oper} {S S' : IState} {frs : List FR} (h : DSteps P h0 all ops S frs S') :
    S'.n = S.n ∧ S'.d = S.d ∧ S'.s = selS ops frs (fun _ => true) S.s ∧ S'.l = selL frs (fun _ => true) S.l := by
  induction h with
  | nil S => simp [selS, selL]
  | op hw hl hf hd h ih => simpa [selS, selL] using ih
  | skip hw hd h ih => simpa [selS, selL] using ih

/-! ### what the run must not do -/
abbrev FP := List Nat × List Nat
def FR.fp (f : FR) : FP := (f.R.map (·.1), f.W.map (·.1))
def apF (w : List Nat) : Option FP → Prop
  | none => True
  | some fp => ∀ b ∈ w, b ∉ fp.1 ∧ b ∉ fp.2
def apL (all : List FP) (w : List Nat) : List Nat → Prop
  | [] => True
  | i :: l => apF w all[i]? ∧ apL all w l
def chk1 (all : List FP) (ul : Option (List Nat)) : List Nat → Prop
  | [] => True
  | b :: w => match ul with
    | none => False
    | some l => apL all (b :: w) l
def chkGo (all : List FP) : List (Option (List Nat)) → List FP → Prop
  | ul :: us, fp :: fs => chk1 all ul fp.2 ∧ chkGo all us fs
  | _, _ => True
def chk (u : List (Option (List Nat))) (fps : List FP) : Prop := chkGo fps u fps

theorem apL_spec {all : List FP} {w : List Nat} : ∀ {l : List Nat}, apL all w l → ∀ i ∈ l, ∀ fp, all[i]? = some fp → ∀ b ∈ w, b ∉ fp.1 ∧ b ∉ fp.2
  | [], _, i, hi, _, _ => by cases hi
  | k :: l, h, i, hi, fp, hf => by
    rcases List.mem_cons.1 hi with rfl | hi
    · have := h.1; rw [hf] at this; exact this
    · exact apL_spec h.2 i hi fp hf
theorem chkGo_spec {all : List FP} : ∀ {u : List (Option (List Nat))} {fs : List FP}, chkGo all u fs → u.length = fs.length → ∀ (j : Nat) (fp : FP), fs[j]? = some fp → fp.2 ≠ [] →
    ∃ l, u[j]? = some (some l) ∧ apL all fp.2 l
  | [], fs, _, hl, j, fp, hj, _ => by have : fs = [] := List.eq_nil_of_length_eq_zero hl.symm; subst this; simp at hj
  | ul :: us, [], _, _, j, fp, hj, _ => by simp at hj
  | ul :: us, f :: fs, h, hl, j, fp, hj, hne => by
    cases j with
    | zero =>
      simp at hj; subst hj
      have h1 := h.1
      cases hw : f.2 with
      | nil => exact absurd hw hne
      | cons b w =>
        rw [hw] at h1
        simp only [chk1] at h1
        cases ul with
        | none => exact h1.elim
        | some l => exact ⟨l, rfl, h1⟩
    | succ j => exact chkGo_spec h.2 (by simpa using hl) j fp (by simpa using hj) hne

theorem upd_A (W : List (Nat × IBlk)) : ∀ (H : AH) (b : Nat), (H.upd W).A b ↔ H.A b ∨ ∃ blk, (b, blk) ∈ W := by
  induction W with
  | nil => intro H b; simp [AH.upd]
  | cons p W ih =>
    intro H b
    obtain ⟨k, x⟩ := p
    show ((H.put k x).upd W).A b ↔ _
    rw [ih (H.put k x) b]
    simp only [AH.put, List.mem_cons, Prod.mk.injEq]
    constructor
    · rintro ((h | h) | ⟨blk, h⟩)
      · exact .inl h
      · exact .inr ⟨x, .inl ⟨h, rfl⟩⟩
      · exact .inr ⟨blk, .inr h⟩
    · rintro (h | ⟨blk, ⟨h, _⟩ | h⟩)
      · exact .inl (.inl h)
      · exact .inl (.inr h)
      · exact .inr ⟨blk, h⟩
theorem upd_G (W : List (Nat × IBlk)) : ∀ (H : AH) (b : Nat), (H.upd W).G b = match look W.reverse b with | some x => some x | none => H.G b := by
  induction W with
  | nil => intro H b; rfl
  | cons p W ih =>
    intro H b
    obtain ⟨k, x⟩ := p
    show ((H.put k x).upd W).G b = _
    rw [ih (H.put k x) b, List.reverse_cons, look_append]
    cases hl : look W.reverse b with
    | some y => rfl
    | none =>
      simp only [AH.put, look]
      by_cases e : b = k
      · subst e; simp
      · rw [if_neg e, if_neg (fun h => e h.symm)]

theorem ev_rel' {s s' : List (Nat × IV)} {M : Mem} {a : Act} (h : ∀ i x, look s i = some x → ∃ v, a.tmps[i]? = some v ∧ VRel M x v) {y : Operand} {z : IV}
    (he : ∀ t, y = .tmp t → look s t = look s' t) (hz : ev s' y = some z) : VRel M z (a.eval y) := by
  refine ev_rel h ?_
  cases y with
  | tmp t => rw [← hz]; exact he t rfl
  | const v => exact hz
  | func f => exact hz
  | global g => exact hz

theorem want_rel' {all : Array Oper} {s s' : List (Nat × IV)} {M : Mem} {a : Act} (h : ∀ i x, look s i = some x → ∃ v, a.tmps[i]? = some v ∧ VRel M x v) {o : Oper} {b : Bool}
    (he : ∀ j w d, o.guard = some (j, w) → (all[j]?).bind (·.dst) = some d → look s d = look s' d) (hw : iwant all s' o = some b) : Region.wanted o (yielded all a.tmps) = b := by
  unfold iwant at hw
  unfold Region.wanted
  split at hw
  · rename_i hg
    simp only [Option.some.injEq] at hw; subst hw
    simp [hg]
  · rename_i j want hg
    simp only [Option.map_eq_some_iff] at hw
    obtain ⟨t, ht, rfl⟩ := hw
    simp only [hg]
    unfold iyield at ht
    split at ht
    · rename_i d hd
      split at ht
      · rename_i t' hl
        simp only [Option.some.injEq] at ht; subst ht
        obtain ⟨v, h1, h2⟩ := h d _ (by rw [he j want d hg hd]; exact hl)
        have := h2.sc_inv; subst this
        have hy : yielded all a.tmps j = some t' := by
          simp only [yielded, hd, Option.bind_some, h1]
        rw [hy]
        cases t' <;> cases want <;> rfl
      · rename_i hl
        simp only [Option.some.injEq] at ht; subst ht
        obtain ⟨v, h1, h2⟩ := h d _ (by rw [he j want d hg hd]; exact hl)
        cases h2 with
        | tup cs vs hl' r =>
          have hy : yielded all a.tmps j = none := by
            simp only [yielded, hd, Option.bind_some, h1]
          rw [hy]
          cases want <;> rfl
      · cases ht
    · cases ht

/-- Where the operations of a list are done. -/
structure J (M0 : Mem) (h0 : IH) (ops : List Oper) (frs : List FR) (S : IState) (L : Nat → Bool) (M : Mem) (a : Act) : Prop where
  st : MStep M0 M
  rel : MRel M
  A : ∀ b, M.H.A b → b < S.nx ∨ ∃ j fr, L j = true ∧ frs[j]? = some fr ∧ b ∈ fr.F
  G : ∀ b, M.H.G b = look (selL frs L S.l ++ h0.m) b
  size : a.tmps.size = S.n
  slot : ∀ t x, look (selS ops frs L S.s) t = some x → ∃ v, a.tmps[t]? = some v ∧ VRel M x v
  defs : DsRel M S.d a.defers
  closed : ∀ (i : Nat) (o : Oper), ops[i]? = some o → L i = true → ∀ e ∈ o.after.toList, Region.binds .any e = true → L e.on = true

theorem Prec.listed {ops : List Oper} {L : Nat → Bool} (hc : ∀ (i : Nat) (o : Oper), ops[i]? = some o → L i = true → ∀ e ∈ o.after.toList, Region.binds .any e = true → L e.on = true)
    {j i : Nat} (h : Prec ops.toArray j i) (hi : L i = true ∨ ∃ o, ops[i]? = some o ∧ ∀ e ∈ o.after.toList, Region.binds .any e = true → L e.on = true) : L j = true := by
  induction h with
  | edge ho he hb =>
    simp only [List.getElem?_toArray] at ho
    rcases hi with hi | ⟨o', ho', hi⟩
    · exact hc _ _ ho hi _ he hb
    · rw [ho] at ho'; cases ho'; exact hi _ he hb
  | trans _ _ i1 i2 => exact i1 (.inl (i2 hi))
theorem Prec.lt {ops : List Oper} (hc : ∀ (i : Nat) (o : Oper), ops[i]? = some o → ∀ e ∈ o.after.toList, Region.binds .any e = true → e.on < i) {j i : Nat} (h : Prec ops.toArray j i) : j < i := by
  induction h with
  | edge ho he hb => simp only [List.getElem?_toArray] at ho; exact hc _ _ ho _ he hb
  | trans _ _ i1 i2 => omega

end Go.Idl
