/-
  The ideal memory: values without addresses, blocks that are owned, and how both stand to the model's memory.
-/
import Derived.WalkKit
import Derived.Orders
namespace Go.Idl

/-- A value that nothing writes to: a plain one, an empty slice without room, a slice of rows of cells. -/
inductive PV where
  | sc (v : Value)
  | emp
  | imm (sz : Nat) (rows : List (List PV))
  | rp (cells : List PV)
  | nan (k : FloatKind)
  deriving Inhabited

/-- A value of the ideal machine. -/
inductive IV where
  | p (x : PV)
  | ref (b g off len : Nat)
  | ptr (b g r j : Nat)
  | mp (b : Nat)
  | clo (fn : Fn) (first cap : List IV)
  | agg (cs : List IV)
  | tup (cs : List IV)
  | dead
  deriving Inhabited

/-- A block of the ideal memory. -/
inductive IBlk where
  | arr (sz gen : Nat) (rows : List (List IV))
  | mp (es : List (Value × IV))
  deriving Inhabited

def IBlk.sz : IBlk → Nat
  | .arr sz _ _ => sz
  | .mp _ => 0
def IBlk.gen : IBlk → Nat
  | .arr _ g _ => g
  | .mp _ => 0
def IBlk.len : IBlk → Nat
  | .arr _ _ rows => rows.length
  | .mp _ => 0
def IBlk.isMp : IBlk → Bool
  | .arr .. => false
  | .mp _ => true
theorem IBlk.gen_mp {b : IBlk} (h : b.isMp = true) : b.gen = 0 := by cases b <;> simp_all [IBlk.isMp, IBlk.gen]

structure AH where
  A : Nat → Prop
  G : Nat → Option IBlk
  O : Nat → Prop := fun _ => False

abbrev Bet := Nat → Option (Nat × Nat × Nat)

structure Mem where
  w : World
  H : AH
  β : Bet

def Mem.own (M : Mem) (c : Nat) : Prop := M.H.O c ∨ ∃ b blk o n, M.H.G b = some blk ∧ M.β b = some (c, o, n)

inductive PRel (w : World) (own : Nat → Prop) : PV → Value → Prop where
  | sc (v : Value) : PRel w own (.sc v) v
  | emp (a : Option Addr) : PRel w own .emp (.slice a 0 0)
  | imm (sz : Nat) (rows : List (List PV)) (a : Option Addr) (cap c o : Nat) (f : Nat → Nat → Value)
      (hl : rows.length ≤ cap) (hm : cap ≤ maxLen)
      (ha : 0 < rows.length → a = some ⟨c, o, none⟩ ∧ c < w.heap.size ∧ ¬ own c)
      (hs : ∀ (i : Nat) (row : List PV), rows[i]? = some row → row.length = sz)
      (hc : ∀ (i : Nat) (row : List PV) (j : Nat) (x : PV), rows[i]? = some row → row[j]? = some x →
        w.cell? ⟨c, o + (i * sz + j), none⟩ = some (f i j) ∧ (f i j).oneCell' = true)
      (hr : ∀ (i : Nat) (row : List PV) (j : Nat) (x : PV), rows[i]? = some row → row[j]? = some x → PRel w own x (f i j)) :
      PRel w own (.imm sz rows) (.slice a rows.length cap)
  | rp (cells : List PV) (c o : Nat) (f : Nat → Value) (ha : c < w.heap.size ∧ ¬ own c)
      (hc : ∀ (j : Nat) (x : PV), cells[j]? = some x → w.cell? ⟨c, o + j, none⟩ = some (f j) ∧ (f j).oneCell' = true)
      (hr : ∀ (j : Nat) (x : PV), cells[j]? = some x → PRel w own x (f j)) :
      PRel w own (.rp cells) (.pointer (some ⟨c, o, none⟩))
  | nan (k : FloatKind) (b : Nat) (h : (k.format.read b).isNaN = true) : PRel w own (.nan k) (.float k b)

theorem PRel.step {w w' : World} {own own' : Nat → Prop} (h1 : w.heap.size ≤ w'.heap.size)
    (h2 : ∀ c, c < w.heap.size → ¬ own c → w'.heap[c]? = w.heap[c]? ∧ ¬ own' c) {x : PV} {v : Value} (h : PRel w own x v) : PRel w' own' x v := by
  induction h with
  | sc v => exact .sc v
  | emp a => exact .emp a
  | imm sz rows a cap c o f hl hm ha hs hc hr ih =>
    refine .imm sz rows a cap c o f hl hm ?_ hs ?_ ih
    · intro h0
      obtain ⟨e, hlt, ho⟩ := ha h0
      exact ⟨e, Nat.lt_of_lt_of_le hlt h1, (h2 c hlt ho).2⟩
    · intro i row j x hi hj
      have h0 : 0 < rows.length := by
        rcases Nat.eq_zero_or_pos rows.length with h | h
        · have : rows = [] := List.eq_nil_of_length_eq_zero h
          subst this; simp at hi
        · exact h
      obtain ⟨e, hlt, ho⟩ := ha h0
      refine ⟨?_, (hc i row j x hi hj).2⟩
      rw [World.cell?_of_block (w := w) (h2 c hlt ho).1]
      exact (hc i row j x hi hj).1
  | nan k b h => exact .nan k b h
  | rp cells c o f ha hc hr ih =>
    refine .rp cells c o f ⟨Nat.lt_of_lt_of_le ha.1 h1, (h2 c ha.1 ha.2).2⟩ (fun j x hj => ⟨?_, (hc j x hj).2⟩) ih
    rw [World.cell?_of_block (w := w) (h2 c ha.1 ha.2).1]
    exact (hc j x hj).1

def refOk (x : Option (Nat × Nat × Nat)) (sz len0 off len : Nat) (v : Value) : Prop :=
  ∃ a cap, v = .slice a len cap ∧ len ≤ cap ∧ off + len ≤ len0 ∧ len0 ≤ off + cap ∧
    (cap = 0 ∨ ∃ c o n, x = some (c, o, n) ∧ a = some ⟨c, o + off * sz, none⟩ ∧ off + cap ≤ n)

def ptrOk (x : Option (Nat × Nat × Nat)) (sz r j : Nat) (v : Value) : Prop :=
  ∃ c o n, x = some (c, o, n) ∧ v = .pointer (some ⟨c, o + (r * sz + j), none⟩)

inductive VRel (M : Mem) : IV → Value → Prop where
  | p (x : PV) (v : Value) (h : PRel M.w M.own x v) : VRel M (.p x) v
  | ref (b g off len : Nat) (v : Value) (hA : M.H.A b) (hv : ∃ a cap, v = .slice a len cap)
      (h : ∀ blk, M.H.G b = some blk → g ≤ blk.gen ∧ (g = blk.gen → refOk (M.β b) blk.sz blk.len off len v)) : VRel M (.ref b g off len) v
  | ptr (b g r j : Nat) (v : Value) (hA : M.H.A b) (hv : ∃ c o, v = .pointer (some ⟨c, o, none⟩))
      (h : ∀ blk, M.H.G b = some blk → g ≤ blk.gen ∧ (g = blk.gen → ptrOk (M.β b) blk.sz r j v)) : VRel M (.ptr b g r j) v
  | mp (b : Nat) (v : Value) (hA : M.H.A b) (hv : ∃ c, v = .map (some c))
      (h : ∀ blk, M.H.G b = some blk → blk.isMp = true ∧ ∃ c o n, M.β b = some (c, o, n) ∧ v = .map (some c)) : VRel M (.mp b) v
  | clo (fn : Fn) (first cap : List IV) (vf vc : List Value) (hf : vf.length = first.length) (hc : vc.length = cap.length)
      (rf : ∀ (i : Nat) (x : IV) (v : Value), first[i]? = some x → vf[i]? = some v → VRel M x v)
      (rc : ∀ (i : Nat) (x : IV) (v : Value), cap[i]? = some x → vc[i]? = some v → VRel M x v) :
      VRel M (.clo fn first cap) (.func fn ⟨vf⟩ ⟨vc⟩)
  | agg (cs : List IV) (vs : List Value) (hl : vs.length = cs.length) (h1 : ∀ v ∈ vs, v.oneCell' = true)
      (r : ∀ (i : Nat) (x : IV) (v : Value), cs[i]? = some x → vs[i]? = some v → VRel M x v) : VRel M (.agg cs) (.agg ⟨vs⟩)
  | tup (cs : List IV) (vs : List Value) (hl : vs.length = cs.length)
      (r : ∀ (i : Nat) (x : IV) (v : Value), cs[i]? = some x → vs[i]? = some v → VRel M x v) : VRel M (.tup cs) (.tuple ⟨vs⟩)
  | dead (v : Value) : VRel M .dead v

/-- The concrete block of an owned one. -/
def BRel (M : Mem) (b : Nat) : IBlk → Prop
  | .arr sz _ rows => (∀ row ∈ rows, row.length = sz) ∧ (M.β b = none → rows = []) ∧
      ∀ c o n, M.β b = some (c, o, n) → ∃ cs ty, M.w.heap[c]? = some (.cells cs ty (0, 0)) ∧ rows.length ≤ n ∧ n ≤ maxLen ∧ o + n * sz ≤ cs.size ∧
        ∀ (i : Nat) (row : List IV) (j : Nat) (x : IV), rows[i]? = some row → row[j]? = some x →
          ∃ v, cs[o + (i * sz + j)]? = some v ∧ v.oneCell' = true ∧ VRel M x v
  | .mp es => ∃ c o n, M.β b = some (c, o, n) ∧ ∃ es' clock, M.w.heap[c]? = some (.map es' clock) ∧ es'.size = es.length ∧
      ∀ (i : Nat) (k : Value) (x : IV), es[i]? = some (k, x) → ∃ e, es'[i]? = some e ∧ e.key = k ∧ VRel M x e.val

structure MRel (M : Mem) : Prop where
  dom : ∀ b blk, M.H.G b = some blk → M.H.A b
  blk : ∀ b blk, M.H.G b = some blk → BRel M b blk
  inj : ∀ b b' blk blk' c o n o' n', M.H.G b = some blk → M.H.G b' = some blk' → M.β b = some (c, o, n) → M.β b' = some (c, o', n') → b = b'
  olt : ∀ c, M.H.O c → c < M.w.heap.size
  odis : ∀ b blk c o n, M.H.G b = some blk → M.β b = some (c, o, n) → ¬ M.H.O c

structure MStep (M M' : Mem) : Prop where
  os : M'.w.os = M.w.os
  tape : M'.w.tape = M.w.tape
  output : M'.w.output = M.w.output
  size : M.w.heap.size ≤ M'.w.heap.size
  keep : ∀ c, c < M.w.heap.size → ¬ M.own c → M'.w.heap[c]? = M.w.heap[c]? ∧ ¬ M'.own c
  dom : ∀ b, M.H.A b → M'.H.A b
  comp : ∀ b blk', M.H.A b → M'.H.G b = some blk' → ∃ blk, M.H.G b = some blk ∧ blk'.sz = blk.sz ∧ blk'.isMp = blk.isMp ∧ blk.gen ≤ blk'.gen ∧
    (blk.gen = blk'.gen → M'.β b = M.β b ∧ blk'.len = blk.len)
  oeq : M'.H.O = M.H.O
  ofix : ∀ c, M.H.O c → M'.w.heap[c]? = M.w.heap[c]?

theorem MStep.refl (M : Mem) : MStep M M :=
  ⟨rfl, rfl, rfl, Nat.le_refl _, fun _ _ h => ⟨rfl, h⟩, fun _ h => h, fun _ blk' _ h => ⟨blk', h, rfl, rfl, Nat.le_refl _, fun _ => ⟨rfl, rfl⟩⟩, rfl, fun _ _ => rfl⟩

theorem MStep.trans {M M' M'' : Mem} (h : MStep M M') (k : MStep M' M'') : MStep M M'' := by
  refine ⟨k.os.trans h.os, k.tape.trans h.tape, k.output.trans h.output, Nat.le_trans h.size k.size, ?_, fun b hb => k.dom b (h.dom b hb), ?_, k.oeq.trans h.oeq, fun c hc => (k.ofix c (by rw [h.oeq]; exact hc)).trans (h.ofix c hc)⟩
  · intro c hc ho
    obtain ⟨e1, o1⟩ := h.keep c hc ho
    obtain ⟨e2, o2⟩ := k.keep c (Nat.lt_of_lt_of_le hc h.size) o1
    exact ⟨e2.trans e1, o2⟩
  · intro b blk'' hA hb
    obtain ⟨blk', hb', hs', hm', hg', he'⟩ := k.comp b blk'' (h.dom b hA) hb
    obtain ⟨blk, hb0, hs, hm, hg, he⟩ := h.comp b blk' hA hb'
    refine ⟨blk, hb0, hs'.trans hs, hm'.trans hm, Nat.le_trans hg hg', fun e => ?_⟩
    have e1 : blk.gen = blk'.gen := by omega
    have e2 : blk'.gen = blk''.gen := by omega
    exact ⟨(he' e2).1.trans (he e1).1, (he' e2).2.trans (he e1).2⟩

theorem VRel.step {M M' : Mem} (s : MStep M M') {x : IV} {v : Value} (h : VRel M x v) : VRel M' x v := by
  induction h with
  | p x v h => exact .p x v (h.step s.size s.keep)
  | ref b g off len v hA hv h =>
    refine .ref b g off len v (s.dom b hA) hv fun blk' hb => ?_
    obtain ⟨blk, hb0, hs, hm, hg, he⟩ := s.comp b blk' hA hb
    obtain ⟨h1, h2⟩ := h blk hb0
    refine ⟨Nat.le_trans h1 hg, fun e => ?_⟩
    have e1 : blk.gen = blk'.gen := by omega
    rw [hs, (he e1).1, (he e1).2]
    exact h2 (by omega)
  | ptr b g r j v hA hv h =>
    refine .ptr b g r j v (s.dom b hA) hv fun blk' hb => ?_
    obtain ⟨blk, hb0, hs, hm, hg, he⟩ := s.comp b blk' hA hb
    obtain ⟨h1, h2⟩ := h blk hb0
    refine ⟨Nat.le_trans h1 hg, fun e => ?_⟩
    have e1 : blk.gen = blk'.gen := by omega
    rw [hs, (he e1).1]
    exact h2 (by omega)
  | mp b v hA hv h =>
    refine .mp b v (s.dom b hA) hv fun blk' hb => ?_
    obtain ⟨blk, hb0, hs, hm, hg, he⟩ := s.comp b blk' hA hb
    obtain ⟨h1, h2⟩ := h blk hb0
    refine ⟨hm.trans h1, ?_⟩
    rw [(he (by rw [IBlk.gen_mp h1, IBlk.gen_mp (hm.trans h1)])).1]
    exact h2
  | clo fn first cap vf vc hf hc rf rc i1 i2 => exact .clo fn first cap vf vc hf hc i1 i2
  | agg cs vs hl h1 r ih => exact .agg cs vs hl h1 ih
  | tup cs vs hl r ih => exact .tup cs vs hl ih
  | dead v => exact .dead v

/-- One block turns, all others stay. -/
theorem MRel.change {M M' : Mem} (h : MRel M) (s : MStep M M') (b : Nat)
    (hA : M'.H.A b) (hG : ∀ b', b' ≠ b → M'.H.G b' = M.H.G b') (hβ : ∀ b', b' ≠ b → M'.β b' = M.β b')
    (hw : ∀ b' blk c o n, b' ≠ b → M.H.G b' = some blk → M.β b' = some (c, o, n) → M'.w.heap[c]? = M.w.heap[c]?)
    (hb : ∀ blk', M'.H.G b = some blk' → BRel M' b blk')
    (hi : ∀ blk' c o n, M'.H.G b = some blk' → M'.β b = some (c, o, n) → ∀ b' blk o' n', b' ≠ b → M.H.G b' = some blk → M.β b' ≠ some (c, o', n'))
    (ho : ∀ blk' c o n, M'.H.G b = some blk' → M'.β b = some (c, o, n) → ¬ M.H.O c) : MRel M' := by
  refine ⟨?_, ?_, ?_, fun c hc => Nat.lt_of_lt_of_le (h.olt c (by rw [← s.oeq]; exact hc)) s.size, fun b' blk c o n h1 h2 h3 => ?_⟩
  case refine_4 =>
    rw [s.oeq] at h3
    by_cases e : b' = b
    · subst e; exact ho blk c o n h1 h2 h3
    · rw [hG b' e] at h1; rw [hβ b' e] at h2; exact h.odis b' blk c o n h1 h2 h3
  · intro b' blk hb'
    by_cases e : b' = b
    · subst e; exact hA
    · rw [hG b' e] at hb'
      exact s.dom b' (h.dom b' blk hb')
  · intro b' blk hb'
    by_cases e : b' = b
    · subst e; exact hb blk hb'
    · have hb0 := hb'
      rw [hG b' e] at hb0
      have hr := h.blk b' blk hb0
      cases blk with
      | arr sz gen rows =>
        obtain ⟨r1, r2, r3⟩ := hr
        refine ⟨r1, fun hn => r2 (by rw [← hβ b' e]; exact hn), fun c o n hc => ?_⟩
        rw [hβ b' e] at hc
        obtain ⟨cs, ty, q1, q2, q3, q4, q5⟩ := r3 c o n hc
        refine ⟨cs, ty, ?_, q2, q3, q4, fun i row j x hi hj => ?_⟩
        · rw [hw b' _ c o n e hb0 hc]; exact q1
        · obtain ⟨v, v1, v2, v3⟩ := q5 i row j x hi hj
          exact ⟨v, v1, v2, v3.step s⟩
      | mp es =>
        obtain ⟨c, o, n, hc, es', clock, q1, q2, q3⟩ := hr
        refine ⟨c, o, n, by rw [hβ b' e]; exact hc, es', clock, by rw [hw b' _ c o n e hb0 hc]; exact q1, q2, fun i k x hi => ?_⟩
        obtain ⟨en, e1, e2, e3⟩ := q3 i k x hi
        exact ⟨en, e1, e2, e3.step s⟩
  · intro b1 b2 blk1 blk2 c o n o' n' h1 h2 c1 c2
    by_cases e1 : b1 = b
    · by_cases e2 : b2 = b
      · rw [e1, e2]
      · subst e1
        rw [hG b2 e2] at h2
        rw [hβ b2 e2] at c2
        exact absurd c2 (hi blk1 c o n h1 c1 b2 blk2 o' n' e2 h2)
    · by_cases e2 : b2 = b
      · subst e2
        rw [hG b1 e1] at h1
        rw [hβ b1 e1] at c1
        exact absurd c1 (hi blk2 c o' n' h2 c2 b1 blk1 o n e1 h1)
      · rw [hG b1 e1] at h1
        rw [hβ b1 e1] at c1
        rw [hG b2 e2] at h2
        rw [hβ b2 e2] at c2
        exact h.inj b1 b2 blk1 blk2 c o n o' n' h1 h2 c1 c2

/-- The ideal memory stays, and the model's memory where it matters. -/
theorem MRel.same {M : Mem} (h : MRel M) {w' : World} (s : MStep M { M with w := w' })
    (hw : ∀ c, M.own c → w'.heap[c]? = M.w.heap[c]?) : MRel { M with w := w' } := by
  refine ⟨h.dom, ?_, h.inj, fun c hc => Nat.lt_of_lt_of_le (h.olt c hc) s.size, h.odis⟩
  intro b blk hb
  have hr := h.blk b blk hb
  cases blk with
  | arr sz gen rows =>
    obtain ⟨r1, r2, r3⟩ := hr
    refine ⟨r1, r2, fun c o n hc => ?_⟩
    obtain ⟨cs, ty, q1, q2, q3, q4, q5⟩ := r3 c o n hc
    refine ⟨cs, ty, ?_, q2, q3, q4, fun i row j x hi hj => ?_⟩
    · exact (hw c (.inr ⟨b, _, o, n, hb, hc⟩)).trans q1
    · obtain ⟨v, v1, v2, v3⟩ := q5 i row j x hi hj
      exact ⟨v, v1, v2, v3.step s⟩
  | mp es =>
    obtain ⟨c, o, n, hc, es', clock, q1, q2, q3⟩ := hr
    refine ⟨c, o, n, hc, es', clock, (hw c (.inr ⟨b, _, o, n, hb, hc⟩)).trans q1, q2, fun i k x hi => ?_⟩
    obtain ⟨en, e1, e2, e3⟩ := q3 i k x hi
    exact ⟨en, e1, e2, e3.step s⟩

theorem MRel.lt {M : Mem} (h : MRel M) {c : Nat} (ho : M.own c) : c < M.w.heap.size := by
  rcases ho with ho | ⟨b, blk, o, n, hb, hc⟩
  · exact h.olt c ho
  have hr := h.blk b blk hb
  cases blk with
  | arr sz gen rows =>
    obtain ⟨cs, ty, q1, _⟩ := hr.2.2 c o n hc
    exact (Array.getElem?_eq_some_iff.1 q1).1
  | mp es =>
    obtain ⟨c', o', n', hc', es', clock, q1, _⟩ := hr
    rw [hc] at hc'
    cases hc'
    exact (Array.getElem?_eq_some_iff.1 q1).1

/-- A draw. -/
theorem MStep.drew (M : Mem) : MStep M { M with w := M.w.drew } :=
  ⟨rfl, rfl, rfl, Nat.le_refl _, fun _ _ h => ⟨rfl, h⟩, fun _ h => h, fun _ blk' _ h => ⟨blk', h, rfl, rfl, Nat.le_refl _, fun _ => ⟨rfl, rfl⟩⟩, rfl, fun _ _ => rfl⟩
theorem MRel.drew {M : Mem} (h : MRel M) : MRel { M with w := M.w.drew } := h.same (.drew M) fun _ _ => rfl

/-- A new block that is nobody's. -/
theorem MStep.alloc {M : Mem} (hM : MRel M) (o : Obj) : MStep M { M with w := M.w.alloc o } :=
  ⟨rfl, rfl, rfl, by simp, fun _ hc h => ⟨heap_alloc_old M.w o hc, h⟩, fun _ h => h, fun _ blk' _ h => ⟨blk', h, rfl, rfl, Nat.le_refl _, fun _ => ⟨rfl, rfl⟩⟩, rfl, fun _ hc => heap_alloc_old M.w o (hM.olt _ hc)⟩
theorem MRel.alloc {M : Mem} (h : MRel M) (o : Obj) : MRel { M with w := M.w.alloc o } := h.same (.alloc h o) fun _ ho => heap_alloc_old M.w o (h.lt ho)

/-- The ideal memory with a block more, or another one in a block's place. -/
def AH.put (H : AH) (b : Nat) (blk : IBlk) : AH := ⟨fun k => H.A k ∨ k = b, fun k => if k = b then some blk else H.G k, H.O⟩
def putβ (β : Bet) (b : Nat) (x : Option (Nat × Nat × Nat)) : Bet := fun k => if k = b then x else β k

/-- A new block that is owned from now on. -/
theorem mem_new {M : Mem} (h : MRel M) (b : Nat) (hA : ¬ M.H.A b) (sz gen n : Nat) (rows : List (List IV)) (cs : Array Value) (ty : TypeId)
    (hs : ∀ row ∈ rows, row.length = sz) (hn : rows.length ≤ n) (hm : n ≤ maxLen) (hc : n * sz ≤ cs.size)
    (hr : ∀ (i : Nat) (row : List IV) (j : Nat) (x : IV), rows[i]? = some row → row[j]? = some x → ∃ v, cs[i * sz + j]? = some v ∧ v.oneCell' = true ∧ VRel M x v) :
    MStep M ⟨M.w.alloc (.cells cs ty), M.H.put b (.arr sz gen rows), putβ M.β b (some (M.w.heap.size, 0, n))⟩ ∧
    MRel ⟨M.w.alloc (.cells cs ty), M.H.put b (.arr sz gen rows), putβ M.β b (some (M.w.heap.size, 0, n))⟩ := by
  have s : MStep M ⟨M.w.alloc (.cells cs ty), M.H.put b (.arr sz gen rows), putβ M.β b (some (M.w.heap.size, 0, n))⟩ := by
    refine ⟨rfl, rfl, rfl, by simp, fun c hc ho => ⟨heap_alloc_old M.w _ hc, ?_⟩, fun _ h => .inl h, fun b' blk' hA' hb' => ?_, rfl, fun _ hc => heap_alloc_old M.w _ (h.olt _ hc)⟩
    · rintro (hO | ⟨b', blk, o, n', hb', hc'⟩)
      · exact ho (.inl hO)
      by_cases e : b' = b
      · simp [putβ, e] at hc'
        omega
      · simp only [AH.put, putβ, e, if_false] at hb' hc'
        exact ho (.inr ⟨b', blk, o, n', hb', hc'⟩)
    · have e : b' ≠ b := fun e => hA (e ▸ hA')
      simp only [AH.put, e, if_false] at hb'
      exact ⟨blk', hb', rfl, rfl, Nat.le_refl _, fun _ => ⟨by simp [putβ, e], rfl⟩⟩
  refine ⟨s, h.change s b (.inr rfl) ?_ ?_ ?_ ?_ ?_ ?_⟩
  · intro b' e; simp [AH.put, e]
  · intro b' e; simp [putβ, e]
  · intro b' blk c o n' e hb' hc'
    exact heap_alloc_old M.w _ (h.lt (.inr ⟨b', blk, o, n', hb', hc'⟩))
  · intro blk' hb'
    simp only [AH.put, if_true, Option.some.injEq] at hb'
    subst hb'
    refine ⟨hs, by simp [putβ], fun c o n' hc' => ?_⟩
    simp only [putβ, if_true, Option.some.injEq, Prod.mk.injEq] at hc'
    obtain ⟨rfl, rfl, rfl⟩ := hc'
    refine ⟨cs, ty, heap_alloc_new M.w _, hn, hm, by omega, fun i row j x hi hj => ?_⟩
    obtain ⟨v, v1, v2, v3⟩ := hr i row j x hi hj
    exact ⟨v, by simpa using v1, v2, v3.step s⟩
  · intro blk' c o n' hb' hc' b' blk o' n'' e hb'' hc''
    simp only [putβ, if_true, Option.some.injEq, Prod.mk.injEq] at hc'
    have := h.lt (.inr ⟨b', blk, o', n'', hb'', hc''⟩)
    omega
  · intro blk' c o n' _ hc' hO
    simp only [putβ, if_true, Option.some.injEq, Prod.mk.injEq] at hc'
    have := h.olt c hO
    omega

/-- A new block that owns nothing yet: an empty slice. -/
theorem mem_virtual {M : Mem} (h : MRel M) (b : Nat) (hA : ¬ M.H.A b) (sz gen : Nat) :
    MStep M ⟨M.w, M.H.put b (.arr sz gen []), putβ M.β b none⟩ ∧ MRel ⟨M.w, M.H.put b (.arr sz gen []), putβ M.β b none⟩ := by
  have s : MStep M ⟨M.w, M.H.put b (.arr sz gen []), putβ M.β b none⟩ := by
    refine ⟨rfl, rfl, rfl, Nat.le_refl _, fun c _ ho => ⟨rfl, ?_⟩, fun _ h => .inl h, fun b' blk' hA' hb' => ?_, rfl, fun _ _ => rfl⟩
    · rintro (hO | ⟨b', blk, o, n', hb', hc'⟩)
      · exact ho (.inl hO)
      by_cases e : b' = b
      · simp [putβ, e] at hc'
      · simp only [AH.put, putβ, e, if_false] at hb' hc'
        exact ho (.inr ⟨b', blk, o, n', hb', hc'⟩)
    · have e : b' ≠ b := fun e => hA (e ▸ hA')
      simp only [AH.put, e, if_false] at hb'
      exact ⟨blk', hb', rfl, rfl, Nat.le_refl _, fun _ => ⟨by simp [putβ, e], rfl⟩⟩
  refine ⟨s, h.change s b (.inr rfl) ?_ ?_ ?_ ?_ ?_ ?_⟩
  · intro b' e; simp [AH.put, e]
  · intro b' e; simp [putβ, e]
  · intro b' blk c o n' e hb' hc'; rfl
  · intro blk' hb'
    simp only [AH.put, if_true, Option.some.injEq] at hb'
    subst hb'
    exact ⟨by simp, by simp, fun c o n' hc' => by simp [putβ] at hc'⟩
  · intro blk' c o n' hb' hc'; simp [putβ] at hc'
  · intro blk' c o n' hb' hc'; simp [putβ] at hc'

/-- An owned block turns in its own place. -/
theorem mem_chg {M : Mem} (h : MRel M) {b sz g : Nat} {rows : List (List IV)} {c o n : Nat} {cs : Array Value} {ty : TypeId}
    (hb : M.H.G b = some (.arr sz g rows)) (hβ : M.β b = some (c, o, n)) (hc : M.w.heap[c]? = some (.cells cs ty (0, 0)))
    (g' o' n' : Nat) (rows' : List (List IV)) (cs' : Array Value) (hg : g ≤ g') (hgg : g = g' → o' = o ∧ n' = n ∧ rows'.length = rows.length)
    (hs : ∀ row ∈ rows', row.length = sz) (hn : rows'.length ≤ n') (hm : n' ≤ maxLen) (hsz : o' + n' * sz ≤ cs'.size)
    (hr : ∀ (i : Nat) (row : List IV) (j : Nat) (x : IV), rows'[i]? = some row → row[j]? = some x → ∃ v, cs'[o' + (i * sz + j)]? = some v ∧ v.oneCell' = true ∧ VRel M x v) :
    MStep M ⟨M.w.setRow c cs', M.H.put b (.arr sz g' rows'), putβ M.β b (some (c, o', n'))⟩ ∧
    MRel ⟨M.w.setRow c cs', M.H.put b (.arr sz g' rows'), putβ M.β b (some (c, o', n'))⟩ := by
  have hown : M.own c := .inr ⟨b, _, o, n, hb, hβ⟩
  have s : MStep M ⟨M.w.setRow c cs', M.H.put b (.arr sz g' rows'), putβ M.β b (some (c, o', n'))⟩ := by
    refine ⟨rfl, rfl, rfl, by simp, fun c' hc' ho => ⟨setRow_other M.w c c' cs' (fun e => ho (e ▸ hown)), ?_⟩, fun _ h => .inl h, fun b' blk' hA' hb' => ?_, rfl, fun c' hc' => setRow_other M.w c c' cs' (fun e => h.odis b _ c o n hb hβ (e ▸ hc'))⟩
    · rintro (hO | ⟨b', blk, o'', n'', hb', hc''⟩)
      · exact ho (.inl hO)
      by_cases e : b' = b
      · simp only [putβ, e, if_true, Option.some.injEq, Prod.mk.injEq] at hc''
        exact ho (hc''.1 ▸ hown)
      · simp only [AH.put, putβ, e, if_false] at hb' hc''
        exact ho (.inr ⟨b', blk, o'', n'', hb', hc''⟩)
    · by_cases e : b' = b
      · subst e
        simp only [AH.put, if_true, Option.some.injEq] at hb'
        subst hb'
        refine ⟨_, hb, rfl, rfl, hg, fun e => ?_⟩
        obtain ⟨e1, e2, e3⟩ := hgg e
        exact ⟨by simp [putβ, hβ, e1, e2], e3⟩
      · simp only [AH.put, e, if_false] at hb'
        exact ⟨blk', hb', rfl, rfl, Nat.le_refl _, fun _ => ⟨by simp [putβ, e], rfl⟩⟩
  refine ⟨s, h.change s b (.inr rfl) ?_ ?_ ?_ ?_ ?_ ?_⟩
  · intro b' e; simp [AH.put, e]
  · intro b' e; simp [putβ, e]
  · intro b' blk c' o'' n'' e hb' hc'
    exact setRow_other M.w c c' cs' (fun e2 => e (h.inj b' b blk _ c o'' n'' o n hb' hb (e2 ▸ hc') hβ))
  · intro blk' hb'
    simp only [AH.put, if_true, Option.some.injEq] at hb'
    subst hb'
    refine ⟨hs, by simp [putβ], fun c' o'' n'' hc' => ?_⟩
    simp only [putβ, if_true, Option.some.injEq, Prod.mk.injEq] at hc'
    obtain ⟨rfl, rfl, rfl⟩ := hc'
    refine ⟨cs', ty, setRow_heap M.w c cs cs' ty (0, 0) hc, hn, hm, hsz, fun i row j x hi hj => ?_⟩
    obtain ⟨v, v1, v2, v3⟩ := hr i row j x hi hj
    exact ⟨v, v1, v2, v3.step s⟩
  · intro blk' c' o'' n'' hb' hc' b' blk o3 n3 e hb'' hc''
    simp only [putβ, if_true, Option.some.injEq, Prod.mk.injEq] at hc'
    obtain ⟨rfl, rfl, rfl⟩ := hc'
    exact e (h.inj b' b blk _ c o3 n3 o n hb'' hb hc'' hβ)
  · intro blk' c' o'' n'' _ hc' hO
    simp only [putβ, if_true, Option.some.injEq, Prod.mk.injEq] at hc'
    obtain ⟨rfl, rfl, rfl⟩ := hc'
    exact h.odis b _ c o n hb hβ hO

/-- An owned block moves to a new place. -/
theorem mem_renew {M : Mem} (h : MRel M) {b sz g : Nat} {rows : List (List IV)} (hb : M.H.G b = some (.arr sz g rows))
    (g' n' : Nat) (rows' : List (List IV)) (cs' : Array Value) (ty : TypeId) (hg : g < g')
    (hs : ∀ row ∈ rows', row.length = sz) (hn : rows'.length ≤ n') (hm : n' ≤ maxLen) (hsz : n' * sz ≤ cs'.size)
    (hr : ∀ (i : Nat) (row : List IV) (j : Nat) (x : IV), rows'[i]? = some row → row[j]? = some x → ∃ v, cs'[i * sz + j]? = some v ∧ v.oneCell' = true ∧ VRel M x v) :
    MStep M ⟨M.w.alloc (.cells cs' ty), M.H.put b (.arr sz g' rows'), putβ M.β b (some (M.w.heap.size, 0, n'))⟩ ∧
    MRel ⟨M.w.alloc (.cells cs' ty), M.H.put b (.arr sz g' rows'), putβ M.β b (some (M.w.heap.size, 0, n'))⟩ := by
  have s : MStep M ⟨M.w.alloc (.cells cs' ty), M.H.put b (.arr sz g' rows'), putβ M.β b (some (M.w.heap.size, 0, n'))⟩ := by
    refine ⟨rfl, rfl, rfl, by simp, fun c' hc' ho => ⟨heap_alloc_old M.w _ hc', ?_⟩, fun _ h => .inl h, fun b' blk' hA' hb' => ?_, rfl, fun _ hc => heap_alloc_old M.w _ (h.olt _ hc)⟩
    · rintro (hO | ⟨b', blk, o'', n'', hb', hc''⟩)
      · exact ho (.inl hO)
      by_cases e : b' = b
      · simp only [putβ, e, if_true, Option.some.injEq, Prod.mk.injEq] at hc''
        omega
      · simp only [AH.put, putβ, e, if_false] at hb' hc''
        exact ho (.inr ⟨b', blk, o'', n'', hb', hc''⟩)
    · by_cases e : b' = b
      · subst e
        simp only [AH.put, if_true, Option.some.injEq] at hb'
        subst hb'
        refine ⟨_, hb, rfl, rfl, Nat.le_of_lt hg, fun e => ?_⟩
        simp only [IBlk.gen] at e
        omega
      · simp only [AH.put, e, if_false] at hb'
        exact ⟨blk', hb', rfl, rfl, Nat.le_refl _, fun _ => ⟨by simp [putβ, e], rfl⟩⟩
  refine ⟨s, h.change s b (.inr rfl) ?_ ?_ ?_ ?_ ?_ ?_⟩
  · intro b' e; simp [AH.put, e]
  · intro b' e; simp [putβ, e]
  · intro b' blk c' o'' n'' e hb' hc'
    exact heap_alloc_old M.w _ (h.lt (.inr ⟨b', blk, o'', n'', hb', hc'⟩))
  · intro blk' hb'
    simp only [AH.put, if_true, Option.some.injEq] at hb'
    subst hb'
    refine ⟨hs, by simp [putβ], fun c' o'' n'' hc' => ?_⟩
    simp only [putβ, if_true, Option.some.injEq, Prod.mk.injEq] at hc'
    obtain ⟨rfl, rfl, rfl⟩ := hc'
    refine ⟨cs', ty, heap_alloc_new M.w _, hn, hm, by omega, fun i row j x hi hj => ?_⟩
    obtain ⟨v, v1, v2, v3⟩ := hr i row j x hi hj
    exact ⟨v, by simpa using v1, v2, v3.step s⟩
  · intro blk' c' o'' n'' hb' hc' b' blk o3 n3 e hb'' hc''
    simp only [putβ, if_true, Option.some.injEq, Prod.mk.injEq] at hc'
    have := h.lt (.inr ⟨b', blk, o3, n3, hb'', hc''⟩)
    omega
  · intro blk' c o n' _ hc' hO
    simp only [putβ, if_true, Option.some.injEq, Prod.mk.injEq] at hc'
    have := h.olt c hO
    omega

end Go.Idl
