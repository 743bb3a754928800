/-
  The state of the ideal machine, and what it is to run code from a state.
-/
import Derived.Test.YtkbbafmaddkehaaIdK
namespace Go.Idl

def look {α : Type} : List (Nat × α) → Nat → Option α
  | [], _ => none
  | (k, x) :: r, i => if k = i then some x else look r i

theorem look_append {α : Type} (l m : List (Nat × α)) (i : Nat) : look (l ++ m) i = match look l i with | some x => some x | none => look m i := by
  induction l with
  | nil => rfl
  | cons p l ih =>
    obtain ⟨k, x⟩ := p
    simp only [List.cons_append, look]
    split
    · rfl
    · exact ih
theorem look_mem {α : Type} {l : List (Nat × α)} {i : Nat} {x : α} (h : look l i = some x) : (i, x) ∈ l := by
  induction l with
  | nil => cases h
  | cons p l ih =>
    obtain ⟨k, y⟩ := p
    simp only [look] at h
    split at h
    · rename_i e; subst e; cases h; exact List.mem_cons_self
    · exact List.mem_cons_of_mem _ (ih h)
theorem look_none {α : Type} {l : List (Nat × α)} {i : Nat} (h : look l i = none) : ∀ p ∈ l, p.1 ≠ i := by
  induction l with
  | nil => simp
  | cons p l ih =>
    obtain ⟨k, y⟩ := p
    simp only [look] at h
    split at h
    · cases h
    · rename_i e
      intro q hq
      rcases List.mem_cons.1 hq with rfl | hq
      · exact e
      · exact ih h q hq

/-- The ideal heap: how many blocks there ever were, and those that are known. -/
structure IH where
  nx : Nat
  m : List (Nat × IBlk)

structure IDef where
  fn : Fn
  cap : List IV
  args : List IV

structure IState where
  n : Nat
  s : List (Nat × IV)
  d : List IDef
  nx : Nat
  l : List (Nat × IBlk)

def cst : Value → Option IV
  | .agg cs => if cs.all (·.oneCell') then some (.agg (cs.toList.map fun v => .p (.sc v))) else none
  | .tuple _ => none
  | v => some (.p (.sc v))
def ev (s : List (Nat × IV)) : Operand → Option IV
  | .tmp t => look s t
  | .const v => cst v
  | .func f => some (.p (.sc (.func (.func f) #[] #[])))
  | .global _ => none

structure HRel (nx : Nat) (m : List (Nat × IBlk)) (M : Mem) : Prop where
  rel : MRel M
  A : ∀ b, M.H.A b → b < nx
  G : ∀ b, M.H.G b = look m b

structure DRel (M : Mem) (x : IDef) (d : Deferred) : Prop where
  ex : ∃ vc va : List Value, d = { target := .fn x.fn ⟨vc⟩, args := ⟨va⟩ } ∧ vc.length = x.cap.length ∧ va.length = x.args.length ∧
    (∀ (i : Nat) (y : IV) (v : Value), x.cap[i]? = some y → vc[i]? = some v → VRel M y v) ∧ (∀ (i : Nat) (y : IV) (v : Value), x.args[i]? = some y → va[i]? = some v → VRel M y v)
def DsRel (M : Mem) : List IDef → List Deferred → Prop
  | [], [] => True
  | x :: xs, d :: ds => DRel M x d ∧ DsRel M xs ds
  | _, _ => False
theorem DRel.step {M M' : Mem} (s : MStep M M') {x : IDef} {d : Deferred} (h : DRel M x d) : DRel M' x d := by
  obtain ⟨vc, va, e, h1, h2, h3, h4⟩ := h.ex
  exact ⟨vc, va, e, h1, h2, fun i y v hi hv => (h3 i y v hi hv).step s, fun i y v hi hv => (h4 i y v hi hv).step s⟩
theorem DsRel.step {M M' : Mem} (s : MStep M M') : ∀ {xs : List IDef} {ds : List Deferred}, DsRel M xs ds → DsRel M' xs ds
  | [], [], _ => trivial
  | _ :: _, _ :: _, h => ⟨h.1.step s, DsRel.step s h.2⟩
  | [], _ :: _, h => h.elim
  | _ :: _, [], h => h.elim

structure SRel (h0 : IH) (S : IState) (M : Mem) (a : Act) : Prop where
  heap : HRel S.nx (S.l ++ h0.m) M
  size : a.tmps.size = S.n
  slot : ∀ i x, look S.s i = some x → ∃ v, a.tmps[i]? = some v ∧ VRel M x v
  defs : DsRel M S.d a.defers

theorem ev_rel {s : List (Nat × IV)} {M : Mem} {a : Act} (h : ∀ i x, look s i = some x → ∃ v, a.tmps[i]? = some v ∧ VRel M x v) {y : Operand} {z : IV} (hz : ev s y = some z) : VRel M z (a.eval y) := by
  cases y with
  | tmp t =>
    obtain ⟨v, h1, h2⟩ := h t z hz
    simp only [Act.eval, Array.getD_eq_getD_getElem?, h1, Option.getD_some]
    exact h2
  | const v =>
    simp only [ev] at hz
    unfold cst at hz
    split at hz
    · rename_i cs
      split at hz
      · rename_i hc
        simp only [Option.some.injEq] at hz; subst hz
        have := zcs_are M (zs := cs.toList) (by simpa using hc)
        exact .agg _ _ this.len this.one this.rel
      · cases hz
    · cases hz
    · simp only [Option.some.injEq] at hz; subst hz; exact .sc M v
  | func f => simp only [ev, Option.some.injEq] at hz; subst hz; exact .sc M _
  | global g => simp [ev] at hz

/-- The state behind an operation. -/
def IState.put (S : IState) (dst : Option Tmp) (x : IV) (nx : Nat) (W : List (Nat × IBlk)) : IState :=
  { n := S.n, s := match dst with | some d => (d, x) :: S.s | none => S.s, d := S.d, nx, l := W ++ S.l }

def dstOk (S : IState) : Option Tmp → Bool
  | some d => decide (d < S.n)
  | none => true

theorem SRel.step {h0 : IH} {S : IState} {M M' : Mem} {a : Act} (h : SRel h0 S M a) (s : MStep M M') {dst : Option Tmp} {x : IV} {v : Value} {nx : Nat} {W : List (Nat × IBlk)}
    (hd : dstOk S dst = true) (hv : VRel M' x v) (hh : HRel nx (W ++ S.l ++ h0.m) M') : SRel h0 (S.put dst x nx W) M' (a.put dst v) := by
  refine ⟨hh, ?_, ?_, ?_⟩
  · cases dst with
    | none => exact h.size
    | some d => simp only [Act.put, Array.size_setIfInBounds]; exact h.size
  · intro i y hi
    cases dst with
    | none =>
      obtain ⟨u, h1, h2⟩ := h.slot i y hi
      exact ⟨u, h1, h2.step s⟩
    | some d =>
      simp only [IState.put, look] at hi
      split at hi
      · rename_i e
        subst e
        cases hi
        have hlt : d < a.tmps.size := by rw [h.size]; simpa [dstOk] using hd
        exact ⟨v, by simp [Act.put, hlt], hv⟩
      · rename_i e
        obtain ⟨u, h1, h2⟩ := h.slot i y hi
        exact ⟨u, by simp only [Act.put]; rw [Array.getElem?_setIfInBounds_ne e]; exact h1, h2.step s⟩
  · have : (a.put dst v).defers = a.defers := by cases dst <;> rfl
    rw [this]
    exact h.defs.step s

/-- What an operation leaves, block by block. -/
theorem HRel.upd {nx : Nat} {m : List (Nat × IBlk)} {M M' : Mem} (h : HRel nx m M) (hr : MRel M') {W : List (Nat × IBlk)} (hH : M'.H = M.H.upd W) (nx' : Nat)
    (hA : ∀ b, (b < nx ∨ ∃ blk, (b, blk) ∈ W) → b < nx') : HRel nx' (W.reverse ++ m) M' := by
  have key : ∀ (W : List (Nat × IBlk)) (H : AH), (∀ b, (H.upd W).A b ↔ H.A b ∨ ∃ blk, (b, blk) ∈ W) ∧ ∀ b, (H.upd W).G b = match look W.reverse b with | some x => some x | none => H.G b := by
    intro W
    induction W with
    | nil => intro H; exact ⟨fun b => by simp [AH.upd], fun b => rfl⟩
    | cons p W ih =>
      intro H
      obtain ⟨k, x⟩ := p
      obtain ⟨i1, i2⟩ := ih (H.put k x)
      refine ⟨fun b => ?_, fun b => ?_⟩
      · show ((H.put k x).upd W).A b ↔ _
        rw [i1 b]
        simp only [AH.put, List.mem_cons, Prod.mk.injEq]
        constructor
        · rintro ((h | h) | ⟨blk, h⟩)
          · exact .inl h
          · exact .inr ⟨x, .inl ⟨h, rfl⟩⟩
          · exact .inr ⟨blk, .inr h⟩
        · rintro (h | ⟨blk, ⟨h, _⟩ | h⟩)
          · exact .inl (.inl h)
          · exact .inl (.inr h)
          · exact .inr ⟨blk, h⟩
      · show ((H.put k x).upd W).G b = _
        rw [i2 b, List.reverse_cons, look_append]
        cases hl : look W.reverse b with
        | some y => rfl
        | none =>
          simp only [AH.put, look]
          by_cases e : b = k
          · subst e; simp
          · rw [if_neg e, if_neg (fun h => e h.symm)]
  refine ⟨hr, fun b => ?_, fun b => ?_⟩
  · rw [hH, (key W M.H).1 b]
    exact fun hb => hA b (hb.imp (h.A b) id)
  · rw [hH, (key W M.H).2 b, look_append, h.G b]
    cases look W.reverse b <;> rfl

end Go.Idl
