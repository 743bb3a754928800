/-
  Regions that draw their order: what comes of it is what comes in the text's order.
-/
import Derived.Test.YtkbbafmaddkehaaIdS
namespace Go.Idl
variable {P : Program} {h0 : IH}

/-! ### which operation stands ahead of which -/
inductive Prec (ops : Array Oper) : Nat → Nat → Prop where
  | edge {i : Nat} {o : Oper} {e : Edge} (ho : ops[i]? = some o) (he : e ∈ o.after.toList) (hb : Region.binds .any e = true) : Prec ops e.on i
  | trans {i j k : Nat} (h : Prec ops k j) (h' : Prec ops j i) : Prec ops k i

def maskE (t : List Nat) : List Edge → Nat
  | [] => 0
  | e :: r => if Region.binds .any e then 2 ^ e.on ||| ((t[e.on]?).getD 0 ||| maskE t r) else maskE t r
def masks : List Oper → List Nat → List Nat
  | [], t => t
  | o :: r, t => masks r (t ++ [maskE t o.after.toList])

theorem maskE_spec {ops : Array Oper} {t : List Nat} (ht : ∀ (i m j : Nat), t[i]? = some m → m.testBit j = true → Prec ops j i) {i : Nat} {o : Oper} (ho : ops[i]? = some o) :
    ∀ (es : List Edge), (∀ e ∈ es, e ∈ o.after.toList) → ∀ j, (maskE t es).testBit j = true → Prec ops j i := by
  intro es
  induction es with
  | nil => intro _ j hj; simp [maskE] at hj
  | cons e es ih =>
    intro hes j hj
    have h1 := ih fun e' he' => hes e' (List.mem_cons_of_mem _ he')
    simp only [maskE] at hj
    split at hj
    · rename_i hb
      have hed : Prec ops e.on i := .edge ho (hes e List.mem_cons_self) hb
      simp only [Nat.testBit_or, Bool.or_eq_true, Nat.testBit_two_pow, decide_eq_true_eq] at hj
      rcases hj with rfl | hj | hj
      · exact hed
      · cases hm : t[e.on]? with
        | none => simp [hm] at hj
        | some m => rw [hm] at hj; exact .trans (ht _ _ _ hm hj) hed
      · exact h1 j hj
    · exact h1 j hj

theorem masks_spec {ops : Array Oper} : ∀ (l : List Oper) (t : List Nat), (∀ (i : Nat) (o : Oper), l[i]? = some o → ops[t.length + i]? = some o) →
    (∀ (i m j : Nat), t[i]? = some m → m.testBit j = true → Prec ops j i) → ∀ (i m j : Nat), (masks l t)[i]? = some m → m.testBit j = true → Prec ops j i := by
  intro l
  induction l with
  | nil => intro t _ ht; exact ht
  | cons o l ih =>
    intro t hl ht
    simp only [masks]
    refine ih _ (fun i o' ho' => ?_) (fun i m j hi hj => ?_)
    · have := hl (i + 1) o' (by simpa using ho')
      simp only [List.length_append, List.length_cons, List.length_nil]
      rw [← this]; congr 1; omega
    · rw [List.getElem?_append] at hi
      split at hi
      · exact ht i m j hi hj
      · rename_i hge
        have he : i = t.length := by
          have := lt_of_get hi
          simp at this; omega
        subst he
        simp only [Nat.sub_self, List.getElem?_cons_zero, Option.some.injEq] at hi
        subst hi
        exact maskE_spec ht (by simpa using hl 0 o rfl) _ (fun _ h => h) j hj
theorem masks_length : ∀ (l : List Oper) (t : List Nat), (masks l t).length = t.length + l.length
  | [], t => rfl
  | o :: l, t => by simp only [masks, masks_length l, List.length_append, List.length_cons, List.length_nil]; omega

def lowGo : Nat → List Oper → Bool
  | _, [] => true
  | k, o :: r => o.after.toList.all (fun e => !Region.binds .any e || decide (e.on < k)) && lowGo (k + 1) r
theorem lowGo_spec : ∀ {l : List Oper} {k : Nat}, lowGo k l = true → ∀ (i : Nat) (o : Oper), l[i]? = some o → ∀ e ∈ o.after.toList, Region.binds .any e = true → e.on < k + i
  | [], k, _, i, o, ho => by simp at ho
  | x :: l, k, h, i, o, ho => by
    simp only [lowGo, Bool.and_eq_true, List.all_eq_true, Bool.or_eq_true, Bool.not_eq_true', decide_eq_true_eq] at h
    intro e he hb
    cases i with
    | zero =>
      simp at ho; subst ho
      rcases h.1 e he with h' | h'
      · rw [hb] at h'; cases h'
      · exact h'
    | succ i => have := lowGo_spec h.2 i o (by simpa using ho) e he hb; omega

def pairGo (ops : Array Oper) (i : Nat) (x : Oper) : List (Oper × Nat) → Bool
  | [] => true
  | (y, m) :: r => (match x.dst with | some d => y.dst != some d | none => true) && (m.testBit i || x.apart ops y) && pairGo ops i x r
def pairsGo (ops : Array Oper) : Nat → List (Oper × Nat) → Bool
  | _, [] => true
  | i, (x, _) :: r => pairGo ops i x r && pairsGo ops (i + 1) r
theorem pairGo_spec {ops : Array Oper} {i : Nat} {x : Oper} : ∀ {l : List (Oper × Nat)}, pairGo ops i x l = true → ∀ (j : Nat) (y : Oper) (m : Nat), l[j]? = some (y, m) →
    (∀ d, x.dst = some d → y.dst ≠ some d) ∧ (m.testBit i = true ∨ x.apart ops y = true)
  | [], _, j, y, m, h => by simp at h
  | (z, k) :: l, hp, j, y, m, h => by
    simp only [pairGo, Bool.and_eq_true, Bool.or_eq_true] at hp
    cases j with
    | zero =>
      simp at h; obtain ⟨rfl, rfl⟩ := h
      refine ⟨fun d hd => ?_, hp.1.2⟩
      have := hp.1.1
      rw [hd] at this
      simpa using this
    | succ j => exact pairGo_spec hp.2 j y m (by simpa using h)
theorem pairsGo_spec {ops : Array Oper} : ∀ {l : List (Oper × Nat)} {k : Nat}, pairsGo ops k l = true → ∀ (i j : Nat) (x y : Oper) (mx m : Nat), i < j → l[i]? = some (x, mx) → l[j]? = some (y, m) →
    (∀ d, x.dst = some d → y.dst ≠ some d) ∧ (m.testBit (k + i) = true ∨ x.apart ops y = true)
  | [], k, _, i, j, x, y, mx, m, _, h, _ => by simp at h
  | (z, mz) :: l, k, hp, i, j, x, y, mx, m, hij, hi, hj => by
    simp only [pairsGo, Bool.and_eq_true] at hp
    obtain ⟨j, rfl⟩ : ∃ j', j = j' + 1 := ⟨j - 1, by omega⟩
    cases i with
    | zero =>
      simp at hi; obtain ⟨rfl, rfl⟩ := hi
      exact pairGo_spec hp.1 j y m (by simpa using hj)
    | succ i =>
      have := pairsGo_spec hp.2 i j x y mx m (by omega) (by simpa using hi) (by simpa using hj)
      rw [show k + (i + 1) = k + 1 + i by omega]
      exact this

/-- The operations that no order holds to a given one. -/
def unord (ms : List Nat) (j : Nat) : List Nat :=
  (List.range ms.length).filter fun i => i != j && !((ms[j]?).getD 0).testBit i && !((ms[i]?).getD 0).testBit j

def isW : Op → Bool
  | .alloc _ | .box _ _ | .makeSlice _ _ _ | .store _ _ _ | .buildSlice _ _ _ => true
  | .call { callee := .builtin .append, .. } => true
  | .call { callee := .builtin .copy, .. } => true
  | .call { callee := .value _, .. } => true
  | _ => false
def uGo (ms : List Nat) : Nat → List Oper → List (Option (List Nat))
  | _, [] => []
  | j, o :: r => (if isW o.op then some (unord ms j) else none) :: uGo ms (j + 1) r
theorem uGo_spec {ms : List Nat} : ∀ {l : List Oper} {k j : Nat} {u : List Nat}, (uGo ms k l)[j]? = some (some u) → u = unord ms (k + j)
  | [], k, j, u, h => by simp [uGo] at h
  | o :: l, k, j, u, h => by
    cases j with
    | zero =>
      simp only [uGo, List.getElem?_cons_zero, Option.some.injEq] at h
      split at h
      · simp at h; exact h.symm
      · cases h
    | succ j =>
      simp only [uGo, List.getElem?_cons_succ] at h
      have := uGo_spec h
      rw [this]; congr 1; omega
theorem uGo_length {ms : List Nat} : ∀ {l : List Oper} {k : Nat}, (uGo ms k l).length = l.length
  | [], _ => rfl
  | _ :: l, k => by simp [uGo, uGo_length]

def stat (ops : List Oper) (u : List (Option (List Nat))) : Bool :=
  lowGo 0 ops && pairsGo ops.toArray 0 (ops.zip (masks ops [])) && uGo (masks ops []) 0 ops == u

/-- Neither ahead of the other. -/
def Free (ops : List Oper) (i j : Nat) : Prop := i ≠ j ∧ ¬ ((masks ops [])[j]?.getD 0).testBit i = true ∧ ¬ ((masks ops [])[i]?.getD 0).testBit j = true

structure Stat (ops : List Oper) (u : List (Option (List Nat))) : Prop where
  prec : ∀ (i j : Nat), ((masks ops [])[i]?.getD 0).testBit j = true → Prec ops.toArray j i
  low : ∀ (i : Nat) (o : Oper), ops[i]? = some o → ∀ e ∈ o.after.toList, Region.binds .any e = true → e.on < i
  dst : ∀ (i j : Nat) (x y : Oper), i ≠ j → ops[i]? = some x → ops[j]? = some y → ∀ d, x.dst = some d → y.dst ≠ some d
  looks : ∀ (i j : Nat) (x y : Oper), Free ops i j → ops[i]? = some x → ops[j]? = some y → ∀ d, y.dst = some d → d ∉ x.looksAt ops.toArray
  un : ∀ (j i : Nat) (l : List Nat), u[j]? = some (some l) → Free ops i j → i < ops.length → i ∈ l
  len : u.length = ops.length

theorem stat_spec {ops : List Oper} {u : List (Option (List Nat))} (h : stat ops u = true) : Stat ops u := by
  simp only [stat, Bool.and_eq_true, beq_iff_eq] at h
  obtain ⟨⟨h1, h2⟩, h3⟩ := h
  have hp : ∀ (i m j : Nat), (masks ops [])[i]? = some m → m.testBit j = true → Prec ops.toArray j i := masks_spec ops [] (fun i o ho => by simpa using ho) (by simp)
  have hlen : (masks ops []).length = ops.length := by simp [masks_length]
  have hz : ∀ (i : Nat) (x : Oper), ops[i]? = some x → ∃ m, (masks ops [])[i]? = some m ∧ (ops.zip (masks ops []))[i]? = some (x, m) := by
    intro i x hx
    have hlt := lt_of_get hx
    refine ⟨_, List.getElem?_eq_getElem (show i < (masks ops []).length by omega), ?_⟩
    simp only [List.getElem?_zip_eq_some]
    exact ⟨hx, List.getElem?_eq_getElem _⟩
  have pr : ∀ (i j : Nat) (x y : Oper), i < j → ops[i]? = some x → ops[j]? = some y → (∀ d, x.dst = some d → y.dst ≠ some d) ∧ (((masks ops [])[j]?.getD 0).testBit i = true ∨ x.apart ops.toArray y = true) := by
    intro i j x y hij hi hj
    obtain ⟨mx, _, hx⟩ := hz i x hi
    obtain ⟨my, hm, hy⟩ := hz j y hj
    have := pairsGo_spec h2 i j x y mx my hij hx hy
    rw [hm]
    simpa using this
  refine ⟨fun i j hj => ?_, fun i o ho e he hb => by simpa using lowGo_spec h1 i o ho e he hb, fun i j x y hij hi hj d hd => ?_, fun i j x y hf hi hj d hd => ?_, fun j i l hl hf hlt => ?_, by rw [← h3, uGo_length]⟩
  · cases hm : (masks ops [])[i]? with
    | none => simp [hm] at hj
    | some m => rw [hm] at hj; exact hp i m j hm hj
  · rcases Nat.lt_or_gt_of_ne hij with h | h
    · exact (pr i j x y h hi hj).1 d hd
    · intro hd'
      exact (pr j i y x h hj hi).1 d hd' hd
  · obtain ⟨hne, f1, f2⟩ := hf
    rcases Nat.lt_or_gt_of_ne hne with h | h
    · have := ((pr i j x y h hi hj).2.resolve_left f1)
      exact (Oper.apart_spec this).2.2 d hd
    · have := ((pr j i y x h hj hi).2.resolve_left f2)
      exact (Oper.apart_spec this).1 d hd
  · rw [← h3] at hl
    have := uGo_spec hl
    subst this
    obtain ⟨hne, f1, f2⟩ := hf
    simp only [unord, List.mem_filter, List.mem_range, hlen, Nat.zero_add, Bool.and_eq_true, bne_iff_ne, ne_eq, Bool.not_eq_true']
    exact ⟨hlt, ⟨hne, by simpa using f1⟩, by simpa using f2⟩

end Go.Idl
