/- How far nodes are, as a queue tells: what is reached. -/
import Derived.Test.YtoiledoommblcaaGreatGP
namespace Go.GP
def bstep (ls : List (Int × Int)) (n : Int) (s : List Int × List Int) (l : Int) : List Int × List Int :=
  let to := (ls.getD l.toNat (0, 0)).2
  if at' s.1 to.toNat < 0 then (s.1.set to.toNat (at' s.1 n.toNat + 1), s.2 ++ [to]) else s
def bfsGo (ls : List (Int × Int)) : Nat → List Int → List Int → List Int
  | _, out, [] => out
  | 0, out, _ :: _ => out
  | f + 1, out, n :: q => bfsGo ls f ((outs n 0 ls).foldl (bstep ls n) (out, q)).1 ((outs n 0 ls).foldl (bstep ls n) (out, q)).2
def bfsL (N : Nat) (ls : List (Int × Int)) : List Int := bfsGo ls N ((List.replicate N (-1)).set 0 0) [0]
def unv : List Int → Nat
  | [] => 0
  | x :: r => (if x < 0 then 1 else 0) + unv r
theorem unv_set {c : Int} (hc : 0 ≤ c) : ∀ {l : List Int} {i : Nat}, i < l.length → at' l i < 0 → unv (l.set i c) + 1 = unv l
  | [], _, h, _ => by simp at h
  | x :: r, 0, _, h => by
    have h : x < 0 := h
    simp only [List.set_cons_zero, unv, if_pos h, if_neg (show ¬ c < 0 by omega)]; omega
  | x :: r, i + 1, hi, h => by
    have h : at' r i < 0 := h
    have := unv_set hc (l := r) (i := i) (by simpa using hi) h
    simp only [List.set_cons_succ, unv]; omega
theorem outs_mem {n l : Int} : ∀ {ls : List (Int × Int)} {i : Nat}, l ∈ outs n i ls → ∃ j, ∃ hj : j < ls.length, l = ((i + j : Nat) : Int) ∧ ls[j].1 = n
  | [], i, h => by simp [outs] at h
  | x :: r, i, h => by
    unfold outs at h
    split at h
    · rename_i e
      rcases List.mem_cons.1 h with rfl | h
      · exact ⟨0, by simp, by simp, by simpa using e⟩
      · obtain ⟨j, hj, e1, e2⟩ := outs_mem h
        exact ⟨j + 1, by simp; omega, by rw [e1]; omega, by simpa using e2⟩
    · obtain ⟨j, hj, e1, e2⟩ := outs_mem h
      exact ⟨j + 1, by simp; omega, by rw [e1]; omega, by simpa using e2⟩
theorem outs_len {n : Int} : ∀ (ls : List (Int × Int)) (i : Nat), (outs n i ls).length ≤ ls.length
  | [], _ => Nat.le_refl _
  | x :: r, i => by
    have := outs_len (n := n) r (i + 1)
    unfold outs
    split <;> simp only [List.length_cons] <;> omega
theorem outs_has {n : Int} : ∀ {ls : List (Int × Int)} {i j : Nat} (hj : j < ls.length), ls[j].1 = n → ((i + j : Nat) : Int) ∈ outs n i ls
  | x :: r, i, 0, _, e => by
    have e : x.1 = n := e
    unfold outs
    rw [if_pos e]
    exact List.mem_cons_self ..
  | x :: r, i, j + 1, hj, e => by
    have := outs_has (ls := r) (i := i + 1) (j := j) (by simpa using hj) (by simpa using e)
    unfold outs
    rw [show i + (j + 1) = i + 1 + j by omega]
    split
    · exact List.mem_cons_of_mem _ this
    · exact this
/-- What holds between two nodes taken from the queue; d are those whose links were all looked at. -/
structure Bq (N : Nat) (ls : List (Int × Int)) (f : Nat) (out q : List Int) (d : Nat → Prop) : Prop where
  len : out.length = N
  inq : ∀ x ∈ q, 0 ≤ x ∧ x < N ∧ 0 ≤ at' out x.toNat
  few : unv out + q.length ≤ f
  le : f ≤ N
  val : ∀ v, v < N → -1 ≤ at' out v ∧ at' out v ≤ (N : Int) - f
  from_ : ∀ v, v < N → 0 ≤ at' out v → Reach ls 0 v
  done : ∀ v, v < N → 0 ≤ at' out v → d v ∨ (v : Int) ∈ q
  clo : ∀ v, d v → ∀ x ∈ ls, x.1.toNat = v → 0 ≤ at' out x.2.toNat
  start : 0 ≤ at' out 0
  pos : 0 < N
/-- While a node's links are looked at. -/
structure Bi (N : Nat) (ls : List (Int × Int)) (f : Nat) (n : Int) (s : List Int × List Int) (d : Nat → Prop) : Prop where
  len : s.1.length = N
  inq : ∀ x ∈ s.2, 0 ≤ x ∧ x < N ∧ 0 ≤ at' s.1 x.toNat
  few : unv s.1 + s.2.length ≤ f
  le : f + 1 ≤ N
  val : ∀ v, v < N → -1 ≤ at' s.1 v ∧ at' s.1 v ≤ (N : Int) - f
  from_ : ∀ v, v < N → 0 ≤ at' s.1 v → Reach ls 0 v
  done : ∀ v, v < N → 0 ≤ at' s.1 v → d v ∨ (v : Int) ∈ s.2 ∨ (v : Int) = n
  clo : ∀ v, d v → ∀ x ∈ ls, x.1.toNat = v → 0 ≤ at' s.1 x.2.toNat
  start : 0 ≤ at' s.1 0
  n0 : 0 ≤ n ∧ n < N ∧ 0 ≤ at' s.1 n.toNat ∧ at' s.1 n.toNat ≤ (N : Int) - (f + 1)
theorem Bq.pop {N f : Nat} {ls : List (Int × Int)} {out q : List Int} {n : Int} {d : Nat → Prop} (h : Bq N ls (f + 1) out (n :: q) d) : Bi N ls f n (out, q) d := by
  have hn := h.inq n (List.mem_cons_self ..)
  refine ⟨h.len, fun x hx => h.inq x (List.mem_cons_of_mem _ hx), by have := h.few; simp only [List.length_cons] at this; simp only; omega, h.le, fun v hv => ?_, h.from_, fun v hv h0 => ?_, h.clo, h.start, hn.1, hn.2.1, hn.2.2, ?_⟩
  · have := h.val v hv; simp only; omega
  · rcases h.done v hv h0 with q | q
    · exact .inl q
    · rcases List.mem_cons.1 q with q | q
      · exact .inr (.inr q)
      · exact .inr (.inl q)
  · have := (h.val n.toNat (by omega)).2; simp only; omega
theorem Bi.step {N f : Nat} {ls : List (Int × Int)} {n : Int} {s : List Int × List Int} {d : Nat → Prop} (hr : InR N ls) (h : Bi N ls f n s d) {l : Nat} (hl : l < ls.length) (e : ls[l].1 = n) :
    Bi N ls f n (bstep ls n s l) d ∧ (∀ v, v < N → 0 ≤ at' s.1 v → 0 ≤ at' (bstep ls n s l).1 v) ∧ 0 ≤ at' (bstep ls n s l).1 ls[l].2.toNat := by
  obtain ⟨⟨a0, a1⟩, b0, b1⟩ := hr _ (List.getElem_mem hl)
  have hm := List.getElem_mem hl
  have hg : ls.getD l (0, 0) = ls[l] := by simp [List.getD, hl]
  obtain ⟨n0, n1, n2, n3⟩ := h.n0
  unfold bstep
  simp only [Int.toNat_natCast, hg]
  generalize hx : ls[l] = x at *
  have hbn : x.2.toNat < s.1.length := by rw [h.len]; omega
  split
  · rename_i q
    have ne : ∀ v, 0 ≤ at' s.1 v → v ≠ x.2.toNat := fun v hv e2 => by rw [e2] at hv; omega
    have keep : ∀ v, 0 ≤ at' s.1 v → at' (s.1.set x.2.toNat (at' s.1 n.toNat + 1)) v = at' s.1 v := fun v hv => by rw [at_set hbn, if_neg (ne v hv)]
    refine ⟨⟨by simp [h.len], fun y hy => ?_, ?_, h.le, fun v hv => ?_, fun v hv h0 => ?_, fun v hv h0 => ?_, fun v hv y hy e2 => ?_, ?_, n0, n1, ?_, ?_⟩, fun v hv h0 => ?_, ?_⟩
    · simp only [List.mem_append, List.mem_cons, List.not_mem_nil, or_false] at hy
      rcases hy with hy | rfl
      · obtain ⟨c0, c1, c2⟩ := h.inq y hy
        exact ⟨c0, c1, by rw [keep _ c2]; exact c2⟩
      · exact ⟨b0, b1, by rw [at_set hbn, if_pos rfl]; omega⟩
    · have := unv_set (c := at' s.1 n.toNat + 1) (by omega) hbn q
      have := h.few
      simp only [List.length_append, List.length_cons, List.length_nil]; omega
    · rw [at_set hbn]; split
      · omega
      · exact h.val v hv
    · rw [at_set hbn] at h0
      by_cases e2 : v = x.2.toNat
      · rw [e2]
        exact .step (a := x.1) (by rw [e]; exact h.from_ _ (by omega) n2) hm
      · rw [if_neg e2] at h0; exact h.from_ v hv h0
    · rw [at_set hbn] at h0
      by_cases e2 : v = x.2.toNat
      · right; left; simp only [List.mem_append, List.mem_cons, List.not_mem_nil, or_false]; right; omega
      · rw [if_neg e2] at h0
        rcases h.done v hv h0 with q | q | q
        · exact .inl q
        · right; left; simp only [List.mem_append]; exact .inl q
        · exact .inr (.inr q)
    · have := h.clo v hv y hy e2
      rw [keep _ this]; exact this
    · rw [keep _ h.start]; exact h.start
    · rw [keep _ n2]; exact n2
    · rw [keep _ n2]; exact n3
    · rw [keep _ h0]; exact h0
    · rw [at_set hbn, if_pos rfl]; omega
  · rename_i q
    exact ⟨h, fun _ _ q => q, by omega⟩
theorem Bi.all {N f : Nat} {ls : List (Int × Int)} {n : Int} {d : Nat → Prop} (hr : InR N ls) : ∀ (r : List Int) {s : List Int × List Int}, (∀ l ∈ r, ∃ j, ∃ hj : j < ls.length, l = (j : Int) ∧ ls[j].1 = n) → Bi N ls f n s d →
    Bi N ls f n (r.foldl (bstep ls n) s) d ∧ (∀ v, v < N → 0 ≤ at' s.1 v → 0 ≤ at' (r.foldl (bstep ls n) s).1 v) ∧ ∀ l ∈ r, 0 ≤ at' (r.foldl (bstep ls n) s).1 (ls.getD l.toNat (0, 0)).2.toNat
  | [], s, _, h => ⟨h, fun _ _ q => q, fun l hl => by cases hl⟩
  | l :: r, s, hm, h => by
    obtain ⟨j, hj, rfl, e⟩ := hm l (List.mem_cons_self ..)
    obtain ⟨h1, h2, h3⟩ := h.step hr hj e
    obtain ⟨k1, k2, k3⟩ := Bi.all hr r (fun l hl => hm l (List.mem_cons_of_mem _ hl)) h1
    rw [List.foldl_cons]
    refine ⟨k1, fun v hv h0 => k2 v hv (h2 v hv h0), fun l hl => ?_⟩
    rcases List.mem_cons.1 hl with rfl | hl
    · have hg : ls.getD j (0, 0) = ls[j] := by simp [List.getD, hj]
      simp only [Int.toNat_natCast, hg]
      obtain ⟨_, b0, b1⟩ := hr _ (List.getElem_mem hj)
      exact k2 _ (by omega) h3
    · exact k3 l hl
theorem Bi.next {N f : Nat} {ls : List (Int × Int)} {n : Int} {d : Nat → Prop} (hr : InR N ls) {s : List Int × List Int} (h : Bi N ls f n s d) :
    Bq N ls f ((outs n 0 ls).foldl (bstep ls n) s).1 ((outs n 0 ls).foldl (bstep ls n) s).2 fun v => d v ∨ (v : Int) = n := by
  have hm : ∀ l ∈ outs n 0 ls, ∃ j, ∃ hj : j < ls.length, l = (j : Int) ∧ ls[j].1 = n := fun l hl => by
    obtain ⟨j, hj, e1, e2⟩ := outs_mem hl
    exact ⟨j, hj, by rw [e1]; simp, e2⟩
  obtain ⟨h1, h2, h3⟩ := Bi.all hr (outs n 0 ls) hm h
  have n0 := h.n0
  refine ⟨h1.len, h1.inq, h1.few, by have := h.le; omega, h1.val, h1.from_, fun v hv h0 => ?_, fun v hv x hx e => ?_, h1.start, by omega⟩
  · rcases h1.done v hv h0 with q | q | q
    · exact .inl (.inl q)
    · exact .inr q
    · exact .inl (.inr q)
  · rcases hv with hv | hv
    · exact h1.clo v hv x hx e
    · obtain ⟨j, hj, rfl⟩ := List.getElem_of_mem hx
      have hg : ls.getD j (0, 0) = ls[j] := by simp [List.getD, hj]
      obtain ⟨⟨a0, a1⟩, _⟩ := hr _ hx
      have := h3 (j : Int) (by have := outs_has (n := n) (i := 0) hj (by omega); simpa using this)
      rw [Int.toNat_natCast, hg] at this
      exact this
theorem Bq.init {N : Nat} {ls : List (Int × Int)} (hN : 0 < N) : Bq N ls N ((List.replicate N (-1)).set 0 0) [0] fun _ => False := by
  have h0 : ∀ v, at' ((List.replicate N (-1)).set 0 0) v = if v = 0 then 0 else at' (List.replicate N (-1)) v := fun v => at_set (by simpa using hN)
  have hm : ∀ v, v < N → at' (List.replicate N (-1)) v = -1 := fun v hv => by simp [at', List.getD, hv]
  have hu : ∀ m, unv (List.replicate m (-1)) = m := fun m => by
    induction m with
    | zero => rfl
    | succ m ih => simp only [List.replicate_succ, unv, ih, if_pos (show (-1 : Int) < 0 by decide)]; omega
  refine ⟨by simp, fun x hx => ?_, ?_, Nat.le_refl _, fun v hv => ?_, fun v hv h => ?_, fun v hv h => ?_, fun v hv => hv.elim, by rw [h0]; simp, hN⟩
  · simp only [List.mem_cons, List.not_mem_nil, or_false] at hx; subst hx
    exact ⟨by omega, by omega, by rw [h0]; simp⟩
  · have := unv_set (c := 0) (by omega) (l := List.replicate N (-1)) (i := 0) (by simpa using hN) (by rw [hm 0 hN]; omega)
    rw [hu] at this
    simp only [List.length_cons, List.length_nil]; omega
  · rw [h0]; split
    · omega
    · rw [hm v hv]; omega
  · rw [h0] at h; split at h
    · rename_i e; rw [e]; exact .refl
    · rw [hm v hv] at h; omega
  · rw [h0] at h; split at h
    · rename_i e; right; rw [e]; simp
    · rw [hm v hv] at h; omega
theorem bfs_all {N : Nat} {ls : List (Int × Int)} (hr : InR N ls) : ∀ (f : Nat) (out q : List Int) (d : Nat → Prop), Bq N ls f out q d → ∃ d', ∃ f', Bq N ls f' (bfsGo ls f out q) [] d'
  | f, out, [], d, h => ⟨d, f, by cases f <;> exact h⟩
  | 0, out, n :: q, d, h => by have := h.few; simp only [List.length_cons] at this; omega
  | f + 1, out, n :: q, d, h => bfs_all hr f _ _ _ (h.pop.next hr)
theorem bfsL_reach {N : Nat} {ls : List (Int × Int)} (hr : InR N ls) (hN : 0 < N) : (bfsL N ls).length = N ∧ ∀ v, v < N → (-1 ≤ at' (bfsL N ls) v ∧ (0 ≤ at' (bfsL N ls) v ↔ Reach ls 0 v)) := by
  obtain ⟨d, f, h⟩ := bfs_all hr N _ _ _ (Bq.init hN)
  change Bq N ls f (bfsL N ls) [] d at h
  refine ⟨h.len, fun v hv => ⟨(h.val v hv).1, h.from_ v hv, fun hre => ?_⟩⟩
  have all : ∀ v, Reach ls 0 v → v < N → 0 ≤ at' (bfsL N ls) v := by
    intro v hv
    induction hv with
    | refl => intro _; exact h.start
    | step hp hm ih =>
      rename_i a b
      intro _
      obtain ⟨⟨a0, a1⟩, b0, b1⟩ := hr (a, b) hm
      simp only at a0 a1 b0 b1
      rcases h.done a.toNat (by omega) (ih (by omega)) with q | q
      · exact h.clo _ q (a, b) hm rfl
      · cases q
  exact all v hre hv
end Go.GP
