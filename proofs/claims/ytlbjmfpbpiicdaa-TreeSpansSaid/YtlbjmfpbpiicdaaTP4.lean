/- The law TreeSpans. -/
import Derived.Test.YtlbjmfpbpiicdaaTP3
set_option linter.unusedSimpArgs false
set_option linter.unusedVariables false
namespace Go.Proofs.TT
open Go Go.Idl Go.Proofs
set_option maxHeartbeats 4000000
set_option maxRecDepth 100000
abbrev t0 : Tr := ⟨0, 0, 0, []⟩
def tf (ts : List Tr) (n : Nat) : Tr := ts.getD n t0
theorem tf_get {ts : List Tr} {n : Nat} (h : n < ts.length) : tf ts n = ts[n] := by simp [tf, List.getD, h]
theorem tf_set {ts : List Tr} {n : Nat} {t : Tr} (h : n < ts.length) : tf (ts.set n t) n = t := by simp [tf, List.getD, h]
theorem tf_set_ne {ts : List Tr} {n m : Nat} {t : Tr} (h : m ≠ n) : tf (ts.set n t) m = tf ts m := by
  simp only [tf, List.getD]
  rw [List.getElem?_set_ne (fun q => h q.symm)]
theorem way_perm {way : List Lt} {i : Nat} (hi : i < way.length) : way.Perm (way[i] :: (way.take i ++ way.drop (i + 1))) := by
  have : way = way.take i ++ way[i] :: way.drop (i + 1) := by rw [← List.drop_eq_getElem_cons hi, List.take_append_drop]
  conv => lhs; rw [this]
  exact List.perm_middle
theorem sum_len : ∀ way : List Lt, way.length ≤ (way.map wt).sum
  | [] => Nat.le_refl _
  | x :: l => by
    have : 1 ≤ wt x := by unfold wt; split <;> omega
    have := sum_len l
    simp only [List.length_cons, List.map_cons, List.sum_cons]; omega
theorem hear_step {N : Nat} {ls : List (Int × Int)} (hR : rightB N ls = true) {r : Nat} {ts : List Tr} {way : List Lt} {many i : Nat} {ord : List Nat} {ρ : Nat → Nat} (hlen : ts.length = N) (hi : i < way.length)
    (h : Inv (grOf N ls) r (tf ts) way many ord ρ) (hk : ∀ m, (tf ts m).k.length ≤ many) : ∃ ts' way', (∀ b g, PEff Try.prog 14 [eG N ls, .ref b g 0 N, .p (.imm 3 (pr eLt way)), sci .i64 (i : Int)]
      [(b, treesBlk g ts)] (.tup [.p (.imm 3 (pr eLt way')), scb true]) [(b, treesBlk g ts')]) ∧ ts'.length = N ∧ (∃ ord' ρ', Inv (grOf N ls) r (tf ts') way' (many + 1) ord' ρ') ∧ ∀ m, (tf ts' m).k.length ≤ many + 1 := by
  have ho := gr_ok hR
  have hR' := hR
  simp only [rightB, Bool.and_eq_true, decide_eq_true_eq, Int.toNat_natCast] at hR'
  obtain ⟨⟨⟨⟨_, hN⟩, hL⟩, h4⟩, _⟩ := hR'
  have hr := linksOk_range h4
  have hN : N ≤ 6 := by omega
  have most := h.most
  have hGL : (grOf N ls).L = ls.length := rfl
  have hp := h.perm (way_perm hi)
  obtain ⟨hl, hs⟩ := hp.wl _ (List.mem_cons_self ..)
  have hl : way[i].l < ls.length := hl
  have hwl : way.length ≤ 1000 := by
    have h1 := h.ct
    have h2 := sum_len way
    have h3 : (grOf N ls).cnt ord ≤ ls.length := by
      have := List.countP_le_length (p := fun l => decide ((grOf N ls).src l ∈ ord)) (l := List.range (grOf N ls).L)
      rwa [List.length_range] at this
    omega
  have hd0 := hr _ (List.getElem_mem hl)
  have hd : ls[way[i].l].2 = (((grOf N ls).dst way[i].l : Nat) : Int) := by simp only [grOf, List.getD, List.getElem?_eq_getElem hl, Option.getD_some]; omega
  have hdN : (grOf N ls).dst way[i].l < ts.length := by rw [hlen]; exact ho.d _ hl
  have hbk := back_eq hR hl
  generalize hdd : (grOf N ls).dst way[i].l = d at *
  have ht := tf_get hdN
  cases hrep : way[i].reply with
  | true =>
    obtain ⟨q1, q2, q3⟩ := hp.reply (T' := tf (ts.set d { tf ts d with w := (tf ts d).w - 1, k := (tf ts d).k ++ if way[i].yes then [((grOf N ls).bk way[i].l : Int)] else [] })) ho hrep
    rw [hdd] at q1 q2 q3
    have he := (h.vis d (by rw [hlen] at hdN; exact hdN)).2 q1
    have hw2 := h.cn d q1
    have hc := List.countP_le_length (p := fun x => (grOf N ls).src ((grOf N ls).tag x) == d) (l := way)
    refine ⟨_, _, fun b g => ?_, by rw [List.length_set]; exact hlen, ⟨ord, ρ, q3 (tf_set hdN) fun m hm => tf_set_ne hm⟩, fun m => ?_⟩
    · have := hear_reply b g N ls ts way i d way[i].l way[i].yes (tf ts d).e (tf ts d).u (tf ts d).w (tf ts d).k hL hN hi (by rw [← hrep]) hl hd hdN (by rw [← ht]) he ⟨q2, by omega⟩ (by have := hk d; omega) hwl _ hbk
      rw [hlen] at this
      exact this
    · by_cases hm : m = d
      · subst hm
        rw [tf_set hdN]
        have := hk m
        simp only [List.length_append]
        split <;> simp <;> omega
      · rw [tf_set_ne hm]; have := hk m; omega
  | false =>
    by_cases he : (tf ts d).e = 1
    · refine ⟨ts, _, fun b g => ?_, hlen, ⟨ord, ρ, hp.again ho hrep (by rw [hdd]; exact he)⟩, fun m => by have := hk m; omega⟩
      have := hear_again b g N ls ts way i d way[i].l way[i].yes (tf ts d).e (tf ts d).u (tf ts d).w (tf ts d).k hL hN hi (by rw [← hrep]) hl hd hdN (by rw [← ht]) he hwl _ hbk
      rw [hlen] at this
      exact this
    · have hol : ((grOf N ls).os d).length ≤ 1000 := by
        have := List.length_filter_le (fun l => (grOf N ls).src l == d) (List.range (grOf N ls).L)
        rw [List.length_range] at this
        have : ((grOf N ls).os d).length ≤ ls.length := this
        omega
      have q3 := hp.first (T' := tf (ts.set d ⟨1, way[i].l, (((grOf N ls).os d).length : Nat), []⟩)) ho hrep (by rw [hdd]; exact he) (by rw [hdd]; exact tf_set hdN) (by rw [hdd]; exact fun m hm => tf_set_ne hm)
      rw [hdd] at q3
      refine ⟨_, _, fun b g => ?_, by rw [List.length_set]; exact hlen, ⟨_, _, q3⟩, fun m => ?_⟩
      · have := hear_first b g N ls ts way i d way[i].l way[i].yes (tf ts d).e (tf ts d).u (tf ts d).w (tf ts d).k hL hN hi (by rw [← hrep]) hl hd hdN (by rw [← ht]) he ((grOf N ls).os d) _ (outs_os hr) (by simp) (by simp) hol hwl _ hbk
        rw [hlen] at this
        exact this
      · by_cases hm : m = d
        · subst hm; rw [tf_set hdN]; simp
        · rw [tf_set_ne hm]; have := hk m; omega
end Go.Proofs.TT
