/- Facts that the proofs of this claim lean on. -/
set_option linter.unusedSimpArgs false
set_option linter.unusedVariables false
/- Plain law of merging: rows are put in the order of their keys (insertion sort, as the library does it); two rows of one key are an error. -/
namespace Go.GN
section
variable {α : Type}
def swp (l : List α) (j : Nat) (x y : α) : List α := (l.set (j + 1) y).set j x
def sink (lt : α → α → Bool) : Nat → List α → List α
  | 0, l => l
  | j + 1, l => match l[j + 1]?, l[j]? with
    | some x, some y => if lt x y then sink lt j (swp l j x y) else l
    | _, _ => l
def ins (lt : α → α → Bool) : Nat → Nat → List α → List α
  | 0, _, l => l
  | f + 1, i, l => ins lt f (i + 1) (sink lt i l)
/-- The list in order. -/
def sortL (lt : α → α → Bool) (l : List α) : List α := ins lt (l.length - 1) 1 l
theorem sink_at {lt : α → α → Bool} {j : Nat} {M : List α} (hx : j + 1 < M.length) (hy : j < M.length) : sink lt (j + 1) M = if lt M[j + 1] M[j] = true then sink lt j (swp M j M[j + 1] M[j]) else M := by
  rw [sink, List.getElem?_eq_getElem hx, List.getElem?_eq_getElem hy]
theorem swp_len (M : List α) (j : Nat) (x y : α) : (swp M j x y).length = M.length := by simp [swp]
theorem swp_mem {M : List α} {j : Nat} {x y z : α} (h : z ∈ swp M j x y) : z ∈ M ∨ z = x ∨ z = y := by
  unfold swp at h
  rcases List.mem_or_eq_of_mem_set h with h | h
  · rcases List.mem_or_eq_of_mem_set h with h | h
    · exact .inl h
    · exact .inr (.inr h)
  · exact .inr (.inl h)
theorem sink_len (lt : α → α → Bool) : ∀ (j : Nat) (l : List α), (sink lt j l).length = l.length
  | 0, l => rfl
  | j + 1, l => by
    rw [sink]
    split
    · split
      · rw [sink_len lt j, swp_len]
      · rfl
    · rfl
theorem ins_len (lt : α → α → Bool) : ∀ (f i : Nat) (l : List α), (ins lt f i l).length = l.length
  | 0, i, l => rfl
  | f + 1, i, l => by rw [ins, ins_len lt f, sink_len]
theorem sortL_len (lt : α → α → Bool) (l : List α) : (sortL lt l).length = l.length := ins_len ..
/-- Insert from the right, into a list that is turned round. -/
def insR (lt : α → α → Bool) (x : α) : List α → List α
  | [] => [x]
  | y :: r => if lt x y then y :: insR lt x r else x :: y :: r
theorem sink_insR (lt : α → α → Bool) (x : α) : ∀ (A B : List α), sink lt A.length (A.reverse ++ x :: B) = (insR lt x A).reverse ++ B
  | [], B => by simp [sink, insR]
  | y :: A, B => by
    have hx : ((y :: A).reverse ++ x :: B)[A.length + 1]? = some x := by
      rw [List.getElem?_append_right (by simp)]; simp
    have hy : ((y :: A).reverse ++ x :: B)[A.length]? = some y := by
      rw [List.getElem?_append_left (by simp), List.reverse_cons, List.getElem?_append_right (by simp)]; simp
    rw [List.length_cons, sink, hx, hy]
    simp only
    unfold insR
    by_cases h : lt x y = true
    · rw [if_pos h, if_pos h]
      have : swp ((y :: A).reverse ++ x :: B) A.length x y = A.reverse ++ x :: (y :: B) := by
        unfold swp
        rw [List.reverse_cons, List.append_assoc, List.set_append_right _ _ (by simp), List.set_append_right _ _ (by simp)]
        simp
      rw [this, sink_insR lt x A (y :: B)]
      simp
    · rw [if_neg h, if_neg h]
      simp
theorem insR_perm (lt : α → α → Bool) (x : α) : ∀ (A : List α), (insR lt x A).Perm (x :: A)
  | [] => .refl _
  | y :: A => by
    unfold insR
    split
    · exact ((insR_perm lt x A).cons y).trans (.swap ..)
    · exact .refl _
theorem insR_mem {lt : α → α → Bool} {x z : α} {A : List α} : z ∈ insR lt x A ↔ z = x ∨ z ∈ A := by
  rw [(insR_perm lt x A).mem_iff, List.mem_cons]
end
section
variable {α : Type} (key : α → Int)
def ltK (x y : α) : Bool := decide (key x < key y)
theorem insR_down (x : α) : ∀ (A : List α), A.Pairwise (fun a b => key b ≤ key a) → (insR (ltK key) x A).Pairwise (fun a b => key b ≤ key a)
  | [], _ => List.pairwise_singleton ..
  | y :: A, h => by
    obtain ⟨h1, h2⟩ := List.pairwise_cons.1 h
    unfold insR
    by_cases hc : ltK key x y = true
    · rw [if_pos hc]
      unfold ltK at hc
      rw [decide_eq_true_eq] at hc
      refine List.pairwise_cons.2 ⟨fun z hz => ?_, insR_down x A h2⟩
      rcases insR_mem.1 hz with rfl | hz
      · omega
      · exact h1 z hz
    · rw [if_neg hc]
      unfold ltK at hc
      rw [decide_eq_true_eq] at hc
      refine List.pairwise_cons.2 ⟨fun z hz => ?_, h⟩
      rcases List.mem_cons.1 hz with rfl | hz
      · omega
      · have := h1 z hz; omega
/-- The sort, from a part that is in order (turned round). -/
def sorted : List α → List α → List α
  | [], A => A.reverse
  | x :: B, A => sorted B (insR (ltK key) x A)
theorem ins_sorted : ∀ (B : List α) (A : List α), ins (ltK key) B.length A.length (A.reverse ++ B) = sorted key B A
  | [], A => by simp [ins, sorted]
  | x :: B, A => by
    rw [List.length_cons, ins, sink_insR, sorted, ← ins_sorted B]
    rw [(insR_perm (ltK key) x A).length_eq, List.length_cons]
theorem sortL_sorted (l : List α) : sortL (ltK key) l = sorted key l [] := by
  cases l with
  | nil => rfl
  | cons x B => exact ins_sorted key B [x]
theorem sorted_perm : ∀ (B A : List α), (sorted key B A).Perm (A ++ B)
  | [], A => by rw [sorted, List.append_nil]; exact List.reverse_perm A
  | x :: B, A => by
    rw [sorted]
    refine (sorted_perm B _).trans ?_
    exact ((insR_perm _ x A).append_right B).trans (List.perm_middle.symm)
theorem sorted_up : ∀ (B A : List α), A.Pairwise (fun a b => key b ≤ key a) → (sorted key B A).Pairwise (fun a b => key a ≤ key b)
  | [], A, h => by rw [sorted, List.pairwise_reverse]; exact h
  | x :: B, A, h => by rw [sorted]; exact sorted_up B _ (insR_down key x A h)
theorem sortL_perm (l : List α) : (sortL (ltK key) l).Perm l := by rw [sortL_sorted]; exact sorted_perm key l []
theorem sortL_up (l : List α) : (sortL (ltK key) l).Pairwise (fun a b => key a ≤ key b) := by rw [sortL_sorted]; exact sorted_up key l [] .nil
/-- Do two rows that stand side by side have one key? -/
def twins : List α → Bool
  | x :: y :: r => decide (key x = key y) || twins (y :: r)
  | _ => false
theorem rising_of_up : ∀ {l : List α}, l.Pairwise (fun a b => key a ≤ key b) → twins key l = false → l.Pairwise (fun a b => key a < key b)
  | [], _, _ => .nil
  | [x], _, _ => List.pairwise_singleton ..
  | x :: y :: r, h, t => by
    unfold twins at t
    rw [Bool.or_eq_false_iff, decide_eq_false_iff_not] at t
    obtain ⟨h1, h2⟩ := List.pairwise_cons.1 h
    have ih := rising_of_up h2 t.2
    refine List.pairwise_cons.2 ⟨fun z hz => ?_, ih⟩
    have hy := h1 y (List.mem_cons_self ..)
    rcases List.mem_cons.1 hz with rfl | hz
    · omega
    · have := (List.pairwise_cons.1 ih).1 z hz; omega
theorem twins_of_rising : ∀ {l : List α}, l.Pairwise (fun a b => key a < key b) → twins key l = false
  | [], _ => rfl
  | [_], _ => rfl
  | x :: y :: r, h => by
    obtain ⟨h1, h2⟩ := List.pairwise_cons.1 h
    have := h1 y (List.mem_cons_self ..)
    unfold twins
    rw [Bool.or_eq_false_iff, decide_eq_false_iff_not]
    exact ⟨by omega, twins_of_rising h2⟩
/-- Lists that rise and have the same rows are the same. -/
theorem rising_perm : ∀ {l k : List α}, l.Perm k → l.Pairwise (fun a b => key a < key b) → k.Pairwise (fun a b => key a < key b) → l = k
  | [], k, p, _, _ => (List.nil_perm.1 p).symm
  | x :: l, [], p, _, _ => List.perm_nil.1 p
  | x :: l, y :: k, p, hl, hk => by
    obtain ⟨h1, h2⟩ := List.pairwise_cons.1 hl
    obtain ⟨k1, k2⟩ := List.pairwise_cons.1 hk
    have e : x = y := by
      rcases List.mem_cons.1 (p.mem_iff.1 (List.mem_cons_self (a := x) (l := l))) with h | h
      · exact h
      · rcases List.mem_cons.1 (p.mem_iff.2 (List.mem_cons_self (a := y) (l := k))) with g | g
        · exact g.symm
        · have a := k1 x h
          have b := h1 y g
          omega
    subst e
    rw [rising_perm ((List.perm_cons _).1 p) h2 k2]
/-- Merged: none, if two have one key. -/
def merge (l k : List α) : Option (List α) := let s := sortL (ltK key) (l ++ k); if twins key s then none else some s
theorem merge_some {l k s : List α} : merge key l k = some s ↔ s.Perm (l ++ k) ∧ s.Pairwise (fun a b => key a < key b) := by
  unfold merge
  constructor
  · intro h
    simp only at h
    split at h
    · cases h
    · rename_i ht
      cases h
      exact ⟨sortL_perm key _, rising_of_up key (sortL_up key _) (by simpa using ht)⟩
  · rintro ⟨p, r⟩
    have q := sortL_perm key (l ++ k)
    have nd : (s.map key).Nodup := by
      rw [List.nodup_iff_pairwise_ne, List.pairwise_map]
      exact r.imp fun h => by omega
    have nd2 : ((sortL (ltK key) (l ++ k)).map key).Nodup := ((p.trans q.symm).map key).nodup_iff.1 nd
    have r2 : (sortL (ltK key) (l ++ k)).Pairwise (fun a b => key a < key b) := by
      rw [List.nodup_iff_pairwise_ne, List.pairwise_map] at nd2
      exact (nd2.and (sortL_up key (l ++ k))).imp fun ⟨a, b⟩ => by omega
    have e := rising_perm key (p.trans q.symm) r r2
    simp only
    rw [twins_of_rising key r2, e]
    rfl
theorem merge_comm (l k : List α) : merge key l k = merge key k l := by
  have h : ∀ {l k s : List α}, merge key l k = some s → merge key k l = some s := fun h => by
    obtain ⟨p, r⟩ := (merge_some key).1 h
    exact (merge_some key).2 ⟨p.trans List.perm_append_comm, r⟩
  cases e : merge key l k with
  | some s => exact (h e).symm
  | none =>
    cases f : merge key k l with
    | none => rfl
    | some s => rw [h f] at e; cases e
theorem merge_nil {l k s : List α} (h : merge key l k = some s) : merge key s [] = some s := by
  obtain ⟨p, r⟩ := (merge_some key).1 h
  exact (merge_some key).2 ⟨by rw [List.append_nil], r⟩
theorem merge_len {l k s : List α} (h : merge key l k = some s) : s.length = l.length + k.length := by
  rw [((merge_some key).1 h).1.length_eq, List.length_append]
theorem merge_rises {l k s : List α} (h : merge key l k = some s) : s.Pairwise (fun a b => key a < key b) := ((merge_some key).1 h).2
/-- What is merged with a third one is merged of the others ahead, too. -/
theorem merge_assoc {l k m s t : List α} (h : merge key l k = some s) (h2 : merge key s m = some t) : ∃ u, merge key k m = some u ∧ merge key l u = some t := by
  obtain ⟨p, r⟩ := (merge_some key).1 h
  obtain ⟨q, r2⟩ := (merge_some key).1 h2
  have nd : ((k ++ m).map key).Nodup := by
    have nt : (t.map key).Nodup := by
      rw [List.nodup_iff_pairwise_ne, List.pairwise_map]
      exact r2.imp fun h => by omega
    have : (t.map key).Perm ((l ++ (k ++ m)).map key) := by
      rw [← List.append_assoc]
      exact ((q.trans (p.append_right m))).map key
    have := this.nodup_iff.1 nt
    rw [List.map_append] at this
    exact (List.nodup_append.1 this).2.1
  have q2 := sortL_perm key (k ++ m)
  have r3 : (sortL (ltK key) (k ++ m)).Pairwise (fun a b => key a < key b) := by
    have nd2 := (q2.map key).nodup_iff.2 nd
    rw [List.nodup_iff_pairwise_ne, List.pairwise_map] at nd2
    exact (nd2.and (sortL_up key (k ++ m))).imp fun ⟨a, b⟩ => by omega
  refine ⟨_, (merge_some key).2 ⟨q2, r3⟩, (merge_some key).2 ⟨?_, r2⟩⟩
  refine q.trans ((p.append_right m).trans ?_)
  rw [List.append_assoc]
  exact q2.symm.append_left l
end
end Go.GN

/- Plain law of merging in place: ranges swapped, rotated, merged. -/
namespace Go.GN
section
variable {α : Type}
/-- The first i rows from a on and from b on change places. -/
def swR (a b : Nat) : Nat → List α → List α
  | 0, M => M
  | i + 1, M => match (swR a b i M)[b + i]?, (swR a b i M)[a + i]? with
    | some y, some x => ((swR a b i M).set (a + i) y).set (b + i) x
    | _, _ => swR a b i M
theorem swR_len (a b : Nat) : ∀ (i : Nat) (M : List α), (swR a b i M).length = M.length
  | 0, M => rfl
  | i + 1, M => by
    rw [swR]
    split
    · simp [swR_len a b i M]
    · exact swR_len a b i M
theorem swR_at {a b i : Nat} {M : List α} (h1 : b + i < (swR a b i M).length) (h2 : a + i < (swR a b i M).length) :
    swR a b (i + 1) M = ((swR a b i M).set (a + i) (swR a b i M)[b + i]).set (b + i) (swR a b i M)[a + i] := by
  rw [swR, List.getElem?_eq_getElem h1, List.getElem?_eq_getElem h2]
theorem swR_eq : ∀ (i : Nat) (P X1 X2 Q Y1 Y2 S : List α), X1.length = i → Y1.length = i →
    swR P.length (P.length + X1.length + X2.length + Q.length) i (P ++ X1 ++ X2 ++ Q ++ Y1 ++ Y2 ++ S) = P ++ Y1 ++ X2 ++ Q ++ X1 ++ Y2 ++ S
  | 0, P, X1, X2, Q, Y1, Y2, S, h1, h2 => by
    have e1 : X1 = [] := List.eq_nil_of_length_eq_zero h1
    have e2 : Y1 = [] := List.eq_nil_of_length_eq_zero h2
    subst e1 e2
    simp [swR]
  | i + 1, P, X1, X2, Q, Y1, Y2, S, h1, h2 => by
    obtain ⟨X, x, rfl⟩ : ∃ X x, X1 = X ++ [x] := ⟨X1.dropLast, X1.getLast (by rintro rfl; simp at h1), (List.dropLast_concat_getLast _).symm⟩
    obtain ⟨Y, y, rfl⟩ : ∃ Y y, Y1 = Y ++ [y] := ⟨Y1.dropLast, Y1.getLast (by rintro rfl; simp at h2), (List.dropLast_concat_getLast _).symm⟩
    simp only [List.length_append, List.length_cons, List.length_nil] at h1 h2
    have hX : X.length = i := by omega
    have hY : Y.length = i := by omega
    have ih := swR_eq i P X (x :: X2) Q Y (y :: Y2) S hX hY
    have eM : P ++ (X ++ [x]) ++ X2 ++ Q ++ (Y ++ [y]) ++ Y2 ++ S = P ++ X ++ (x :: X2) ++ Q ++ Y ++ (y :: Y2) ++ S := by simp
    have eb : P.length + (X ++ [x]).length + X2.length + Q.length = P.length + X.length + (x :: X2).length + Q.length := by simp; omega
    rw [swR, eM, eb, ih]
    have g1 : (P ++ Y ++ x :: X2 ++ Q ++ X ++ y :: Y2 ++ S)[P.length + X.length + (x :: X2).length + Q.length + i]? = some y := by
      rw [List.append_assoc, List.getElem?_append_right (by simp; omega)]
      simp only [List.length_append, List.length_cons]
      rw [show P.length + X.length + (X2.length + 1) + Q.length + i - (P.length + Y.length + (X2.length + 1) + Q.length + X.length) = 0 by omega]
      simp
    have g2 : (P ++ Y ++ x :: X2 ++ Q ++ X ++ y :: Y2 ++ S)[P.length + i]? = some x := by
      simp only [List.append_assoc]
      rw [← List.append_assoc, List.getElem?_append_right (by simp; omega)]
      simp only [List.length_append]
      rw [show P.length + i - (P.length + Y.length) = 0 by omega]
      simp
    rw [g1, g2]
    simp only
    have s1 : (P ++ Y ++ x :: X2 ++ Q ++ X ++ y :: Y2 ++ S).set (P.length + i) y = P ++ Y ++ y :: X2 ++ Q ++ X ++ y :: Y2 ++ S := by
      simp only [List.append_assoc]
      rw [← List.append_assoc, List.set_append_right _ _ (by simp; omega)]
      simp only [List.length_append]
      rw [show P.length + i - (P.length + Y.length) = 0 by omega]
      simp
    rw [s1, List.append_assoc, List.set_append_right _ _ (by simp; omega)]
    simp only [List.length_append, List.length_cons]
    rw [show P.length + X.length + (X2.length + 1) + Q.length + i - (P.length + Y.length + (X2.length + 1) + Q.length + X.length) = 0 by omega]
    simp
/-- Two ranges of the same length change places. -/
theorem swR_all (P X Q Y S : List α) (h : X.length = Y.length) : swR P.length (P.length + X.length + Q.length) X.length (P ++ X ++ Q ++ Y ++ S) = P ++ Y ++ Q ++ X ++ S := by
  have := swR_eq X.length P X [] Q Y [] S rfl h.symm
  simpa using this
/-- What is merged falls into two parts. -/
theorem merge_split {le : α → α → Bool} : ∀ (A1 B1 A2 B2 : List α), (∀ x ∈ A1, ∀ y ∈ B2, le x y = true) → (∀ x ∈ A2, ∀ y ∈ B1, le x y = false) →
    List.merge (A1 ++ A2) (B1 ++ B2) le = List.merge A1 B1 le ++ List.merge A2 B2 le
  | [], [], A2, B2, _, _ => by simp
  | x :: A1, [], A2, B2, h1, h2 => by
    have ih := merge_split A1 [] A2 B2 (fun z hz => h1 z (List.mem_cons_of_mem _ hz)) h2
    cases B2 with
    | nil => simp
    | cons y B2 =>
      have hle := h1 x (List.mem_cons_self ..) y (List.mem_cons_self ..)
      simp only [List.nil_append, List.cons_append] at ih ⊢
      rw [List.cons_merge_cons_pos _ _ _ hle, ih]
      simp
  | [], y :: B1, A2, B2, h1, h2 => by
    have ih := merge_split [] B1 A2 B2 h1 (fun z hz w hw => h2 z hz w (List.mem_cons_of_mem _ hw))
    cases A2 with
    | nil => simp
    | cons x A2 =>
      have hle := h2 x (List.mem_cons_self ..) y (List.mem_cons_self ..)
      simp only [List.nil_append, List.cons_append] at ih ⊢
      rw [List.cons_merge_cons_neg _ _ _ (by rw [hle]; decide), ih]
      simp
  | x :: A1, y :: B1, A2, B2, h1, h2 => by
    by_cases hle : le x y = true
    · have ih := merge_split A1 (y :: B1) A2 B2 (fun z hz => h1 z (List.mem_cons_of_mem _ hz)) h2
      simp only [List.cons_append] at ih ⊢
      rw [List.cons_merge_cons_pos _ _ _ hle, List.cons_merge_cons_pos _ _ _ hle, ih]
      rfl
    · have ih := merge_split (x :: A1) B1 A2 B2 h1 (fun z hz w hw => h2 z hz w (List.mem_cons_of_mem _ hw))
      simp only [List.cons_append] at ih ⊢
      rw [List.cons_merge_cons_neg _ _ _ hle, List.cons_merge_cons_neg _ _ _ hle, ih]
      rfl
termination_by A1 B1 => A1.length + B1.length
end
end Go.GN
