/- The document's graph as the plain law has it. -/
import Derived.Test.YtlbjmfpbpiicdaaTG3
import Derived.Test.YtlbjmfpbpiicdaaTP
namespace Go.Proofs.TT
def grOf (N : Nat) (ls : List (Int × Int)) : Gr where
  N := N
  L := ls.length
  src l := (ls.getD l (0, 0)).1.toNat
  dst l := (ls.getD l (0, 0)).2.toNat
  bk l := (findL (ls.getD l (0, 0)).2 (ls.getD l (0, 0)).1 0 ls).toNat
theorem findL_some {a b : Int} : ∀ {ls : List (Int × Int)} {s : Nat}, 0 ≤ findL a b s ls → ∃ j, ∃ hj : j < ls.length, findL a b s ls = ((s + j : Nat) : Int) ∧ ls[j] = (a, b)
  | [], s, h => by simp [findL] at h
  | x :: r, s, h => by
    unfold findL at h ⊢
    split
    · rename_i q
      exact ⟨0, by simp, by simp, by simp; exact Prod.ext q.1 q.2⟩
    · rename_i q
      rw [if_neg q] at h
      obtain ⟨j, hj, e1, e2⟩ := findL_some h
      exact ⟨j + 1, by simp; omega, by rw [e1]; omega, by simpa using e2⟩
theorem outs_eq {N n : Nat} {ls : List (Int × Int)} (hr : InR N ls) : ∀ (f s : Nat), s + f = ls.length → outs n s (ls.drop s) = ((List.range' s f).filter fun l => (ls.getD l (0, 0)).1.toNat == n).map fun l : Nat => (l : Int)
  | 0, s, h => by rw [List.drop_of_length_le (by omega)]; rfl
  | f + 1, s, h => by
    have hs : s < ls.length := by omega
    rw [List.drop_eq_getElem_cons hs, outs, List.range'_succ, List.filter_cons, outs_eq hr f (s + 1) (by omega)]
    have e : ls.getD s (0, 0) = ls[s] := by simp [List.getD, hs]
    rw [e]
    have h0 := (hr _ (List.getElem_mem hs)).1.1
    by_cases q : ls[s].1 = (n : Int)
    · have q2 : (ls[s].1.toNat == n) = true := by simp; omega
      rw [if_pos q, q2, if_pos rfl]; rfl
    · have q2 : (ls[s].1.toNat == n) = false := by simp; omega
      rw [if_neg q, q2, if_neg (by decide)]
theorem outs_os {N n : Nat} {ls : List (Int × Int)} (hr : InR N ls) : outs n 0 ls = ((grOf N ls).os n).map fun l : Nat => (l : Int) := by
  have := outs_eq (n := n) hr ls.length 0 (by omega)
  rw [List.drop_zero] at this
  rw [this, Gr.os, List.range_eq_range']
  rfl
theorem relax_from {V : Nat → Prop} {N : Nat} {k : Nat} {out : List Int} {x : Int × Int} (hl : out.length = N) (hx : (0 ≤ x.1 ∧ x.1 < N) ∧ 0 ≤ x.2 ∧ x.2 < N) (hV : V x.1.toNat → V x.2.toNat)
    (h : ∀ (n : Nat) (hn : n < out.length), 0 ≤ out[n] → V n) : ∀ (n : Nat) (hn : n < (relax k out x).length), 0 ≤ (relax k out x)[n] → V n := by
  intro n hn
  have ha : x.1.toNat < out.length := by omega
  unfold relax
  split
  · rename_i q
    have q1 := q.1
    simp only [List.getD, List.getElem?_eq_getElem ha, Option.getD_some] at q1
    rw [List.getElem_set]
    split
    · rename_i e
      subst e
      exact fun _ => hV (h _ ha (by omega))
    · exact h n _
  · exact h n _
theorem fold_from {V : Nat → Prop} {N : Nat} {k : Nat} : ∀ (r : List (Int × Int)) (out : List Int), out.length = N → (∀ x ∈ r, ((0 ≤ x.1 ∧ x.1 < N) ∧ 0 ≤ x.2 ∧ x.2 < N) ∧ (V x.1.toNat → V x.2.toNat)) →
    (∀ (n : Nat) (hn : n < out.length), 0 ≤ out[n] → V n) → ∀ (n : Nat) (hn : n < (r.foldl (relax k) out).length), 0 ≤ (r.foldl (relax k) out)[n] → V n
  | [], out, _, _, h => h
  | x :: r, out, hl, hr, h =>
    fold_from r (relax k out x) (by rw [relax_length, hl]) (fun y hy => hr y (List.mem_cons_of_mem _ hy)) (relax_from hl (hr x (List.mem_cons_self ..)).1 (hr x (List.mem_cons_self ..)).2 h)
theorem go_from {V : Nat → Prop} {N : Nat} {ls : List (Int × Int)} (hr : ∀ x ∈ ls, ((0 ≤ x.1 ∧ x.1 < N) ∧ 0 ≤ x.2 ∧ x.2 < N) ∧ (V x.1.toNat → V x.2.toNat)) : ∀ (f k : Nat) (out : List Int), out.length = N →
    (∀ (n : Nat) (hn : n < out.length), 0 ≤ out[n] → V n) → ∀ (n : Nat) (hn : n < (distGo ls f k out).length), 0 ≤ (distGo ls f k out)[n] → V n
  | 0, k, out, _, h => h
  | f + 1, k, out, hl, h => go_from hr f (k + 1) (ls.foldl (relax k) out) (by rw [fold_length, hl]) (fold_from ls out hl hr h)
theorem gr_ok {N : Nat} {ls : List (Int × Int)} (h : rightB N ls = true) : (grOf N ls).Ok := by
  simp only [rightB, Bool.and_eq_true, decide_eq_true_eq, Int.toNat_natCast] at h
  obtain ⟨⟨⟨⟨h1, h2⟩, h3⟩, h4⟩, h5⟩ := h
  have hr := linksOk_range h4
  have gt : ∀ l (hl : l < ls.length), ls.getD l (0, 0) = ls[l] := fun l hl => by simp [List.getD, hl]
  have lk : ∀ l (hl : l < ls.length), findL ls[l].1 ls[l].2 0 ls = (l : Int) ∧ 0 ≤ findL ls[l].2 ls[l].1 0 ls := fun l hl => by
    have := linksOk_mem h4 l _ (List.getElem?_eq_getElem hl)
    simp only [linkOk, Bool.and_eq_true, Bool.not_eq_true', decide_eq_false_iff_not, bne_eq_false_iff_eq] at this
    exact ⟨by have := this.1.2; simpa using this, by have := this.2; omega⟩
  have bk : ∀ l (hl : l < ls.length), ∃ j, ∃ hj : j < ls.length, findL ls[l].2 ls[l].1 0 ls = (j : Int) ∧ ls[j] = (ls[l].2, ls[l].1) := fun l hl => by
    obtain ⟨j, hj, e1, e2⟩ := findL_some (lk l hl).2
    exact ⟨j, hj, by simpa using e1, e2⟩
  have bkN : ∀ l (hl : l < ls.length), ∃ hj : (grOf N ls).bk l < ls.length, ls[(grOf N ls).bk l] = (ls[l].2, ls[l].1) := fun l hl => by
    obtain ⟨j, hj, e1, e2⟩ := bk l hl
    have : (grOf N ls).bk l = j := by simp only [grOf, gt l hl, e1, Int.toNat_natCast]
    simp only [this]
    exact ⟨hj, e2⟩
  have rg : ∀ l (hl : l < ls.length), (0 ≤ ls[l].1 ∧ ls[l].1 < N) ∧ 0 ≤ ls[l].2 ∧ ls[l].2 < N := fun l hl => hr _ (List.getElem_mem hl)
  have sr : ∀ l (hl : l < ls.length), (grOf N ls).src l = ls[l].1.toNat := fun l hl => by simp only [grOf, gt l hl]
  have ds : ∀ l (hl : l < ls.length), (grOf N ls).dst l = ls[l].2.toNat := fun l hl => by simp only [grOf, gt l hl]
  exact {
    s := fun l hl => by rw [sr l hl]; have := rg l hl; show _ < N; omega
    d := fun l hl => by rw [ds l hl]; have := rg l hl; show _ < N; omega
    b := fun l hl => (bkN l hl).1
    bs := fun l hl => by obtain ⟨hj, e⟩ := bkN l hl; rw [sr _ hj, ds l hl, e]
    bd := fun l hl => by obtain ⟨hj, e⟩ := bkN l hl; rw [ds _ hj, sr l hl, e]
    bb := fun l hl => by
      obtain ⟨hj, e⟩ := bkN l hl
      show (findL (ls.getD ((grOf N ls).bk l) (0, 0)).2 (ls.getD ((grOf N ls).bk l) (0, 0)).1 0 ls).toNat = l
      rw [gt _ hj, e]
      simp only
      rw [(lk l hl).1, Int.toNat_natCast]
    conn := fun V r hrN hV hs n hn => by
      have hrN : r < N := hrN
      have hn : n < N := hn
      simp only [List.all_eq_true, List.mem_range, decide_eq_true_eq] at h5
      have hlen : (distL N ls r).length = N := distL_length
      have h6 := h5 r hrN _ (List.getElem_mem (show n < (distL N ls r).length by omega))
      refine go_from (V := V) (N := N) (ls := ls) (fun x hx => ⟨hr x hx, ?_⟩) N 0 ((List.replicate N (-1)).set r 0) (by simp) ?_ n (by rw [distGo_length]; simpa using hn) h6
      · obtain ⟨l, hl, rfl⟩ := List.getElem_of_mem hx
        have := hs l hl
        rwa [sr l hl, ds l hl] at this
      · intro m hm h7
        rw [List.getElem_set] at h7
        split at h7
        · rename_i e; subst e; exact hV
        · rw [List.getElem_replicate] at h7; omega }
theorem back_eq {N : Nat} {ls : List (Int × Int)} (h : rightB N ls = true) {l : Nat} (hl : l < ls.length) : backL ls l = ((grOf N ls).bk l : Int) := by
  simp only [rightB, Bool.and_eq_true, decide_eq_true_eq, Int.toNat_natCast] at h
  have := linksOk_mem h.1.2 l _ (List.getElem?_eq_getElem hl)
  simp only [linkOk, Bool.and_eq_true, Bool.not_eq_true', decide_eq_false_iff_not] at this
  have h0 := this.2
  have gt : ls.getD l (0, 0) = ls[l] := by simp [List.getD, hl]
  unfold backL
  rw [dif_pos (by omega)]
  simp only [Int.toNat_natCast, grOf, gt]
  omega
end Go.Proofs.TT
