/- Plain law of the tree: floods and replies over a graph. -/
namespace Go.Proofs.TT
structure Gr where
  N : Nat
  L : Nat
  src : Nat → Nat
  dst : Nat → Nat
  bk : Nat → Nat
structure Gr.Ok (G : Gr) : Prop where
  s : ∀ l, l < G.L → G.src l < G.N
  d : ∀ l, l < G.L → G.dst l < G.N
  b : ∀ l, l < G.L → G.bk l < G.L
  bs : ∀ l, l < G.L → G.src (G.bk l) = G.dst l
  bd : ∀ l, l < G.L → G.dst (G.bk l) = G.src l
  bb : ∀ l, l < G.L → G.bk (G.bk l) = l
  conn : ∀ (V : Nat → Prop) (r : Nat), r < G.N → V r → (∀ l, l < G.L → V (G.src l) → V (G.dst l)) → ∀ n, n < G.N → V n
def Gr.os (G : Gr) (n : Nat) : List Nat := (List.range G.L).filter fun l => G.src l == n
theorem Gr.mem_os {G : Gr} {n l : Nat} : l ∈ G.os n ↔ l < G.L ∧ G.src l = n := by simp [Gr.os]
theorem Gr.os_nodup (G : Gr) (n : Nat) : (G.os n).Nodup := List.nodup_range.filter _
structure Tr where
  e : Int
  u : Int
  w : Int
  k : List Int
structure Lt where
  l : Nat
  reply : Bool
  yes : Bool
def Gr.tag (G : Gr) (x : Lt) : Nat := if x.reply then G.bk x.l else x.l
def wt (x : Lt) : Nat := if x.reply then 1 else 2
def Gr.cnt (G : Gr) (ord : List Nat) : Nat := (List.range G.L).countP fun l => decide (G.src l ∈ ord)
structure Inv (G : Gr) (r : Nat) (T : Nat → Tr) (way : List Lt) (many : Nat) (ord : List Nat) (ρ : Nat → Nat) : Prop where
  nd : ord.Nodup
  rt : r ∈ ord
  lt : ∀ n ∈ ord, n < G.N
  vis : ∀ n, n < G.N → ((T n).e = 1 ↔ n ∈ ord)
  tn : (way.map G.tag).Nodup
  wl : ∀ x ∈ way, x.l < G.L ∧ G.src (G.tag x) ∈ ord
  cn : ∀ n ∈ ord, (T n).w = ((way.countP fun x => G.src (G.tag x) == n : Nat) : Int)
  rp : ∀ x ∈ way, x.reply = true → G.dst (G.tag x) ∈ ord ∧ (x.yes = true → (T (G.dst (G.tag x))).u = (G.tag x : Int))
  cl : ∀ l, l < G.L → G.src l ∈ ord → G.dst l ∈ ord ∨ ∃ x ∈ way, x.reply = false ∧ x.l = l
  kd : ∀ n ∈ ord, (T n).k.Nodup ∧ ∀ k ∈ (T n).k, ∃ l : Nat, l < G.L ∧ k = (l : Int) ∧ G.src l = n ∧ (T (G.dst l)).u = (l : Int) ∧ l ∉ way.map G.tag ∧ G.dst l ∈ ord
  ur : (T r).u = -1
  up : ∀ m ∈ ord, m ≠ r → ∃ l : Nat, l < G.L ∧ (T m).u = (l : Int) ∧ G.dst l = m ∧ G.src l ∈ ord ∧ ρ (G.src l) < ρ m ∧
    ((l : Int) ∈ (T (G.src l)).k ∨ ∃ x ∈ way, x.reply = true ∧ x.yes = true ∧ G.tag x = l)
  rk : ∀ n ∈ ord, ρ n < ord.length
  ct : many + (way.map wt).sum = 2 * G.cnt ord
variable {G : Gr} {r : Nat} {T T' : Nat → Tr} {way way' left : List Lt} {many : Nat} {ord : List Nat} {ρ : Nat → Nat} {x : Lt}
theorem sum_perm {a b : List Nat} (h : a.Perm b) : a.sum = b.sum := by
  induction h with
  | nil => rfl
  | cons x _ ih => simp [ih]
  | swap x y l => simp; omega
  | trans _ _ h1 h2 => exact h1.trans h2
theorem Inv.perm (h : Inv G r T way many ord ρ) (p : way.Perm way') : Inv G r T way' many ord ρ where
  nd := h.nd
  rt := h.rt
  lt := h.lt
  vis := h.vis
  tn := ((p.map G.tag).nodup_iff).1 h.tn
  wl x hx := h.wl x (p.mem_iff.2 hx)
  cn n hn := by rw [h.cn n hn, p.countP_eq]
  rp x hx := h.rp x (p.mem_iff.2 hx)
  cl l hl hs := (h.cl l hl hs).imp id fun ⟨x, hx, q⟩ => ⟨x, p.mem_iff.1 hx, q⟩
  kd n hn := ⟨(h.kd n hn).1, fun k hk => by
    obtain ⟨l, a, b, c, d, e, f⟩ := (h.kd n hn).2 k hk
    exact ⟨l, a, b, c, d, fun hm => e ((p.map G.tag).mem_iff.2 hm), f⟩⟩
  ur := h.ur
  up m hm hr := by
    obtain ⟨l, a, b, c, d, e, f⟩ := h.up m hm hr
    exact ⟨l, a, b, c, d, e, f.imp id fun ⟨x, hx, q⟩ => ⟨x, p.mem_iff.1 hx, q⟩⟩
  rk := h.rk
  ct := by rw [← h.ct, sum_perm (p.map wt)]
/-- A reply is heard. -/
theorem Inv.reply (ho : G.Ok) (h : Inv G r T (x :: left) many ord ρ) (hx : x.reply = true) : G.dst x.l ∈ ord ∧ 1 ≤ (T (G.dst x.l)).w ∧
    ((T' (G.dst x.l) = { T (G.dst x.l) with w := (T (G.dst x.l)).w - 1, k := (T (G.dst x.l)).k ++ if x.yes then [(G.bk x.l : Int)] else [] }) → (∀ m, m ≠ G.dst x.l → T' m = T m) → Inv G r T' left (many + 1) ord ρ) := by
  obtain ⟨hl, hs⟩ := h.wl x (List.mem_cons_self ..)
  have ht : G.tag x = G.bk x.l := by simp [Gr.tag, hx]
  rw [ht, ho.bs _ hl] at hs
  have hsrc : G.src (G.bk x.l) = G.dst x.l := ho.bs _ hl
  have hnd := h.tn
  rw [List.map_cons, List.nodup_cons, ht] at hnd
  have hw := h.cn _ hs
  rw [List.countP_cons, ht, hsrc] at hw
  simp only [beq_self_eq_true, if_true] at hw
  refine ⟨hs, by omega, fun e1 e2 => ?_⟩
  have hrx := h.rp x (List.mem_cons_self ..) hx
  rw [ht] at hrx
  have eu : ∀ m, (T' m).u = (T m).u := fun m => by
    by_cases hm : m = G.dst x.l
    · subst hm; rw [e1]
    · rw [e2 m hm]
  have ee : ∀ m, (T' m).e = (T m).e := fun m => by
    by_cases hm : m = G.dst x.l
    · subst hm; rw [e1]
    · rw [e2 m hm]
  have ek : ∀ m k, k ∈ (T m).k → k ∈ (T' m).k := fun m k hk => by
    by_cases hm : m = G.dst x.l
    · subst hm; rw [e1]; simp [hk]
    · rw [e2 m hm]; exact hk
  exact {
    nd := h.nd
    rt := h.rt
    lt := h.lt
    vis := fun n hn => by rw [ee]; exact h.vis n hn
    tn := hnd.2
    wl := fun y hy => h.wl y (List.mem_cons_of_mem _ hy)
    cn := fun n hn => by
      by_cases hm : n = G.dst x.l
      · subst hm; rw [e1]; simp only; omega
      · rw [e2 n hm, h.cn n hn, List.countP_cons, ht, hsrc, if_neg (by simpa using fun q => hm q.symm)]; rfl
    rp := fun y hy hr => by rw [eu]; exact h.rp y (List.mem_cons_of_mem _ hy) hr
    cl := fun l h1 h2 => by
      rcases h.cl l h1 h2 with h3 | ⟨y, hy, h3, h4⟩
      · exact .inl h3
      · rcases List.mem_cons.1 hy with rfl | hy
        · rw [hx] at h3; cases h3
        · exact .inr ⟨y, hy, h3, h4⟩
    kd := fun n hn => by
      obtain ⟨k1, k2⟩ := h.kd n hn
      have old : ∀ k ∈ (T n).k, ∃ l : Nat, l < G.L ∧ k = (l : Int) ∧ G.src l = n ∧ (T' (G.dst l)).u = (l : Int) ∧ l ∉ left.map G.tag ∧ G.dst l ∈ ord := fun k hk => by
        obtain ⟨l, a, b, c, d, e, f⟩ := k2 k hk
        exact ⟨l, a, b, c, by rw [eu]; exact d, fun q => e (by simp only [List.map_cons]; exact List.mem_cons_of_mem _ q), f⟩
      by_cases hm : n = G.dst x.l
      · subst hm
        rw [e1]
        simp only
        cases hy : x.yes with
        | false =>
          simp only [Bool.false_eq_true, if_false, List.append_nil]
          exact ⟨k1, old⟩
        | true =>
          refine ⟨?_, fun k hk => ?_⟩
          · simp only [if_true]
            rw [List.nodup_append]
            refine ⟨k1, by simp, fun a ha b hb => ?_⟩
            simp only [List.mem_cons, List.not_mem_nil, or_false] at hb
            subst hb
            rintro rfl
            obtain ⟨l, _, q1, _, _, q2, _⟩ := k2 _ ha
            exact q2 (by rw [List.map_cons, ht]; simp; omega)
          · rcases List.mem_append.1 hk with hk | hk
            · exact old k hk
            · simp only [if_true, List.mem_cons, List.not_mem_nil, or_false] at hk
              exact ⟨G.bk x.l, ho.b _ hl, hk, hsrc, by rw [eu]; exact hrx.2 hy, hnd.1, hrx.1⟩
      · rw [e2 n hm]
        exact ⟨k1, old⟩
    ur := by rw [eu]; exact h.ur
    up := fun m hm hr => by
      obtain ⟨l, a, b, c, d, e, f⟩ := h.up m hm hr
      refine ⟨l, a, by rw [eu]; exact b, c, d, e, ?_⟩
      rcases f with f | ⟨y, hy, q1, q2, q3⟩
      · exact .inl (ek _ _ f)
      · rcases List.mem_cons.1 hy with rfl | hy
        · left
          rw [ht] at q3
          subst q3
          rw [hsrc, e1]
          simp [q2]
        · exact .inr ⟨y, hy, q1, q2, q3⟩
    rk := h.rk
    ct := by
      have := h.ct
      have e : wt x = 1 := by simp [wt, hx]
      rw [List.map_cons, List.sum_cons, e] at this
      omega }
/-- A flood is heard where one was heard already. -/
theorem Inv.again (ho : G.Ok) (h : Inv G r T (x :: left) many ord ρ) (hx : x.reply = false) (hv : (T (G.dst x.l)).e = 1) : Inv G r T (left ++ [⟨G.bk x.l, true, false⟩]) (many + 1) ord ρ := by
  obtain ⟨hl, hs⟩ := h.wl x (List.mem_cons_self ..)
  have ht : G.tag x = x.l := by simp [Gr.tag, hx]
  rw [ht] at hs
  have hd := (h.vis _ (ho.d _ hl)).1 hv
  refine Inv.perm (way := ⟨G.bk x.l, true, false⟩ :: left) ?_ (List.perm_append_comm (l₁ := [_]))
  have ht' : G.tag ⟨G.bk x.l, true, false⟩ = x.l := by simp [Gr.tag, ho.bb _ hl]
  exact { h with
    tn := by have := h.tn; rw [List.map_cons, ht] at this; rw [List.map_cons, ht']; exact this
    wl := fun y hy => by
      rcases List.mem_cons.1 hy with rfl | hy
      · rw [ht']; exact ⟨ho.b _ hl, hs⟩
      · exact h.wl y (List.mem_cons_of_mem _ hy)
    cn := fun n hn => by rw [h.cn n hn, List.countP_cons, List.countP_cons, ht, ht']
    rp := fun y hy hr => by
      rcases List.mem_cons.1 hy with rfl | hy
      · rw [ht']; exact ⟨hd, fun q => by cases q⟩
      · exact h.rp y (List.mem_cons_of_mem _ hy) hr
    cl := fun l h1 h2 => by
      rcases h.cl l h1 h2 with h3 | ⟨y, hy, h3, h4⟩
      · exact .inl h3
      · rcases List.mem_cons.1 hy with rfl | hy
        · left; rw [← h4]; exact hd
        · exact .inr ⟨y, List.mem_cons_of_mem _ hy, h3, h4⟩
    kd := fun n hn => by
      have := h.kd n hn
      rw [List.map_cons, ht] at this
      rw [List.map_cons, ht']
      exact this
    up := fun m hm hr => by
      obtain ⟨l, a, b, c, d, e, f⟩ := h.up m hm hr
      refine ⟨l, a, b, c, d, e, f.imp id fun ⟨y, hy, q1, q2, q3⟩ => ?_⟩
      rcases List.mem_cons.1 hy with rfl | hy
      · rw [hx] at q1; cases q1
      · exact ⟨y, List.mem_cons_of_mem _ hy, q1, q2, q3⟩
    ct := by
      have := h.ct
      have e : wt x = 2 := by simp [wt, hx]
      have e' : wt ⟨G.bk x.l, true, false⟩ = 1 := rfl
      rw [List.map_cons, List.sum_cons, e] at this
      rw [List.map_cons, List.sum_cons, e']
      omega }
theorem cnt_more (G : Gr) {ord : List Nat} {n : Nat} (h : n ∉ ord) : G.cnt (ord ++ [n]) = G.cnt ord + (G.os n).length := by
  unfold Gr.cnt Gr.os
  generalize List.range G.L = ls
  induction ls with
  | nil => rfl
  | cons l ls ih =>
    rw [List.countP_cons, List.countP_cons, List.filter_cons, ih]
    by_cases h1 : G.src l = n
    · subst h1; simp [h]; omega
    · simp [h1]; omega
theorem sum_floods (l : List Nat) : ((l.map fun k => (⟨k, false, false⟩ : Lt)).map wt).sum = 2 * l.length := by
  induction l with
  | nil => rfl
  | cons x l ih => simp only [List.map_cons, List.sum_cons, ih, List.length_cons]; simp [wt]; omega
theorem tag_floods (l : List Nat) : (l.map fun k => (⟨k, false, false⟩ : Lt)).map G.tag = l := by
  rw [List.map_map]; exact List.map_id' l
/-- A flood is heard first. -/
theorem Inv.first (ho : G.Ok) (h : Inv G r T (x :: left) many ord ρ) (hx : x.reply = false) (hv : (T (G.dst x.l)).e ≠ 1)
    (e1 : T' (G.dst x.l) = ⟨1, x.l, ((G.os (G.dst x.l)).length : Nat), []⟩) (e2 : ∀ m, m ≠ G.dst x.l → T' m = T m) :
    Inv G r T' (left ++ [⟨G.bk x.l, true, true⟩] ++ (G.os (G.dst x.l)).map fun k => ⟨k, false, false⟩) (many + 1) (ord ++ [G.dst x.l]) (fun m => if m = G.dst x.l then ord.length else ρ m) := by
  obtain ⟨hl, hs⟩ := h.wl x (List.mem_cons_self ..)
  have ht : G.tag x = x.l := by simp [Gr.tag, hx]
  rw [ht] at hs
  have hn : G.dst x.l ∉ ord := fun q => hv ((h.vis _ (ho.d _ hl)).2 q)
  generalize hnn : G.dst x.l = n at *
  have hnN : n < G.N := by rw [← hnn]; exact ho.d _ hl
  have ht' : G.tag ⟨G.bk x.l, true, true⟩ = x.l := by simp [Gr.tag, ho.bb _ hl]
  have hnd := h.tn
  rw [List.map_cons, List.nodup_cons, ht] at hnd
  refine Inv.perm (way := ⟨G.bk x.l, true, true⟩ :: (left ++ (G.os n).map fun k => ⟨k, false, false⟩)) ?_ ?_
  rotate_left
  · rw [List.append_assoc]
    exact List.perm_middle.symm
  have ne : ∀ m ∈ ord, m ≠ n := fun m hm q => hn (q ▸ hm)
  have tags : (left ++ (G.os n).map fun k => (⟨k, false, false⟩ : Lt)).map G.tag = left.map G.tag ++ G.os n := by rw [List.map_append, tag_floods]
  have notin : ∀ l, G.src l ∈ ord → l ∉ G.os n := fun l q q' => ne _ q (Gr.mem_os.1 q').2
  have mem : ∀ y ∈ (G.os n).map (fun k => (⟨k, false, false⟩ : Lt)), ∃ l, l < G.L ∧ G.src l = n ∧ y = ⟨l, false, false⟩ := fun y hy => by
    obtain ⟨l, q, rfl⟩ := List.mem_map.1 hy
    exact ⟨l, (Gr.mem_os.1 q).1, (Gr.mem_os.1 q).2, rfl⟩
  exact {
    nd := by rw [List.nodup_append]; exact ⟨h.nd, by simp, fun a ha b hb => by simp at hb; subst hb; exact ne a ha⟩
    rt := List.mem_append_left _ h.rt
    lt := fun m hm => by
      rcases List.mem_append.1 hm with hm | hm
      · exact h.lt m hm
      · simp at hm; subst hm; exact hnN
    vis := fun m hm => by
      by_cases q : m = n
      · subst q; rw [e1]; simp
      · rw [e2 m q, h.vis m hm]; simp [q]
    tn := by
      rw [List.map_cons, ht', tags, List.nodup_cons, List.nodup_append]
      refine ⟨fun q => ?_, hnd.2, G.os_nodup n, fun a ha b hb => ?_⟩
      · rcases List.mem_append.1 q with q | q
        · exact hnd.1 q
        · exact notin _ hs q
      · rintro rfl
        obtain ⟨y, hy, rfl⟩ := List.mem_map.1 ha
        exact notin _ (h.wl y (List.mem_cons_of_mem _ hy)).2 hb
    wl := fun y hy => by
      rcases List.mem_cons.1 hy with rfl | hy
      · rw [ht']; exact ⟨ho.b _ hl, List.mem_append_left _ hs⟩
      · rcases List.mem_append.1 hy with hy | hy
        · have := h.wl y (List.mem_cons_of_mem _ hy); exact ⟨this.1, List.mem_append_left _ this.2⟩
        · obtain ⟨l, q1, q2, rfl⟩ := mem y hy
          exact ⟨q1, by show G.src l ∈ _; rw [q2]; simp⟩
    cn := fun m hm => by
      rw [List.countP_cons, List.countP_append, ht']
      by_cases q : m = n
      · subst q
        rw [e1, if_neg (by simpa using ne _ hs)]
        have c1 : left.countP (fun y => G.src (G.tag y) == m) = 0 := by
          rw [List.countP_eq_zero]
          intro y hy q
          exact ne _ (h.wl y (List.mem_cons_of_mem _ hy)).2 (by simpa using q)
        have c2 : ((G.os m).map fun k => (⟨k, false, false⟩ : Lt)).countP (fun y => G.src (G.tag y) == m) = (G.os m).length := by
          rw [List.countP_map, List.countP_eq_length]
          intro l q
          simpa [Gr.tag] using (Gr.mem_os.1 q).2
        rw [c1, c2]
        simp
      · have hm' : m ∈ ord := by simpa [q] using hm
        have c2 : ((G.os n).map fun k => (⟨k, false, false⟩ : Lt)).countP (fun y => G.src (G.tag y) == m) = 0 := by
          rw [List.countP_eq_zero]
          intro y hy q'
          obtain ⟨l, q1, q2, rfl⟩ := mem y hy
          exact q (by rw [← q2]; exact (by simpa [Gr.tag] using q' : G.src l = m).symm)
        rw [e2 m q, h.cn m hm', List.countP_cons, ht, c2]
        rfl
    rp := fun y hy hr => by
      rcases List.mem_cons.1 hy with rfl | hy
      · rw [ht', hnn]
        exact ⟨by simp, fun _ => by rw [e1]⟩
      · rcases List.mem_append.1 hy with hy | hy
        · obtain ⟨q1, q2⟩ := h.rp y (List.mem_cons_of_mem _ hy) hr
          rw [e2 _ (ne _ q1)]
          exact ⟨List.mem_append_left _ q1, q2⟩
        · obtain ⟨l, q1, q2, rfl⟩ := mem y hy
          cases hr
    cl := fun l h1 h2 => by
      rcases List.mem_append.1 h2 with h2 | h2
      · rcases h.cl l h1 h2 with h3 | ⟨y, hy, h3, h4⟩
        · exact .inl (List.mem_append_left _ h3)
        · rcases List.mem_cons.1 hy with rfl | hy
          · left; rw [← h4, hnn]; simp
          · exact .inr ⟨y, List.mem_cons_of_mem _ (List.mem_append_left _ hy), h3, h4⟩
      · simp only [List.mem_cons, List.not_mem_nil, or_false] at h2
        exact .inr ⟨⟨l, false, false⟩, List.mem_cons_of_mem _ (List.mem_append_right _ (List.mem_map.2 ⟨l, Gr.mem_os.2 ⟨h1, h2⟩, rfl⟩)), rfl, rfl⟩
    kd := fun m hm => by
      by_cases q : m = n
      · subst q; rw [e1]; simp
      · have hm' : m ∈ ord := by simpa [q] using hm
        obtain ⟨k1, k2⟩ := h.kd m hm'
        rw [e2 m q]
        refine ⟨k1, fun k hk => ?_⟩
        obtain ⟨l, a, b, c, d, e, f⟩ := k2 k hk
        refine ⟨l, a, b, c, by rw [e2 _ (ne _ f)]; exact d, fun q' => ?_, List.mem_append_left _ f⟩
        rw [List.map_cons, ht', tags] at q'
        rw [List.map_cons, ht] at e
        rcases List.mem_cons.1 q' with q' | q'
        · exact e (q' ▸ List.mem_cons_self ..)
        · rcases List.mem_append.1 q' with q' | q'
          · exact e (List.mem_cons_of_mem _ q')
          · exact notin l (by rw [c]; exact hm') q'
    ur := by rw [e2 r (ne r h.rt)]; exact h.ur
    up := fun m hm hr => by
      by_cases q : m = n
      · subst q
        refine ⟨x.l, hl, by rw [e1], hnn, List.mem_append_left _ hs, ?_, .inr ⟨⟨G.bk x.l, true, true⟩, List.mem_cons_self .., rfl, rfl, ht'⟩⟩
        rw [if_neg (ne _ hs), if_pos rfl]
        exact h.rk _ hs
      · have hm' : m ∈ ord := by simpa [q] using hm
        obtain ⟨l, a, b, c, d, e, f⟩ := h.up m hm' hr
        refine ⟨l, a, by rw [e2 m q]; exact b, c, List.mem_append_left _ d, by rw [if_neg (ne _ d), if_neg q]; exact e, ?_⟩
        rw [e2 _ (ne _ d)]
        refine f.imp id fun ⟨y, hy, q1, q2, q3⟩ => ?_
        rcases List.mem_cons.1 hy with rfl | hy
        · rw [hx] at q1; cases q1
        · exact ⟨y, List.mem_cons_of_mem _ (List.mem_append_left _ hy), q1, q2, q3⟩
    rk := fun m hm => by
      rw [List.length_append]
      simp only [List.length_cons, List.length_nil]
      by_cases q : m = n
      · rw [if_pos q]; omega
      · have hm' : m ∈ ord := by simpa [q] using hm
        have := h.rk m hm'
        rw [if_neg q]; omega
    ct := by
      have := h.ct
      have e : wt x = 2 := by simp [wt, hx]
      have e' : wt ⟨G.bk x.l, true, true⟩ = 1 := rfl
      rw [List.map_cons, List.sum_cons, e] at this
      rw [List.map_cons, List.sum_cons, e', List.map_append, List.sum_append, sum_floods, cnt_more G hn]
      omega }
/-- At the beginning the root's floods are under way. -/
theorem Inv.init (ho : G.Ok) (hr : r < G.N) (e1 : T r = ⟨1, -1, ((G.os r).length : Nat), []⟩) (e2 : ∀ m, m ≠ r → (T m).e ≠ 1) :
    Inv G r T ((G.os r).map fun k => ⟨k, false, false⟩) 0 [r] (fun _ => 0) := by
  have mem : ∀ y ∈ (G.os r).map (fun k => (⟨k, false, false⟩ : Lt)), ∃ l, l < G.L ∧ G.src l = r ∧ y = ⟨l, false, false⟩ := fun y hy => by
    obtain ⟨l, q, rfl⟩ := List.mem_map.1 hy
    exact ⟨l, (Gr.mem_os.1 q).1, (Gr.mem_os.1 q).2, rfl⟩
  exact {
    nd := by simp
    rt := by simp
    lt := fun n hn => by simp at hn; subst hn; exact hr
    vis := fun n hn => by
      by_cases q : n = r
      · subst q; simp [e1]
      · simp [q, e2 n q]
    tn := by rw [tag_floods]; exact G.os_nodup r
    wl := fun y hy => by obtain ⟨l, q1, q2, rfl⟩ := mem y hy; exact ⟨q1, by show G.src l ∈ _; simp [q2]⟩
    cn := fun n hn => by
      simp only [List.mem_cons, List.not_mem_nil, or_false] at hn
      subst hn
      rw [e1, List.countP_map, (List.countP_eq_length).2]
      intro l q
      simpa [Gr.tag] using (Gr.mem_os.1 q).2
    rp := fun y hy h => by obtain ⟨l, q1, q2, rfl⟩ := mem y hy; cases h
    cl := fun l h1 h2 => by
      simp only [List.mem_cons, List.not_mem_nil, or_false] at h2
      exact .inr ⟨⟨l, false, false⟩, List.mem_map.2 ⟨l, Gr.mem_os.2 ⟨h1, h2⟩, rfl⟩, rfl, rfl⟩
    kd := fun n hn => by simp only [List.mem_cons, List.not_mem_nil, or_false] at hn; subst hn; rw [e1]; simp
    ur := by rw [e1]
    up := fun m hm h => by simp only [List.mem_cons, List.not_mem_nil, or_false] at hm; exact absurd hm h
    rk := fun n hn => by simp
    ct := by
      have := cnt_more G (ord := []) (n := r) (by simp)
      rw [List.nil_append] at this
      rw [sum_floods, this]
      simp [Gr.cnt] }
theorem Inv.most (h : Inv G r T way many ord ρ) : many ≤ 2 * G.L ∧ (0 < way.length → many < 2 * G.L) := by
  have h1 := h.ct
  have h2 : G.cnt ord ≤ G.L := by
    have := List.countP_le_length (p := fun l => decide (G.src l ∈ ord)) (l := List.range G.L)
    rwa [List.length_range] at this
  refine ⟨by omega, fun hl => ?_⟩
  cases way with
  | nil => cases hl
  | cons x l =>
    have : 1 ≤ wt x := by unfold wt; split <;> omega
    rw [List.map_cons, List.sum_cons] at h1
    omega
theorem pigeon : ∀ (N : Nat) (l : List Nat), l.Nodup → (∀ n ∈ l, n < N) → l.length ≤ N
  | 0, l, _, h => by
    cases l with
    | nil => exact Nat.le_refl _
    | cons x l => exact absurd (h x (List.mem_cons_self ..)) (Nat.not_lt_zero _)
  | N + 1, l, hn, h => by
    have h1 := pigeon N (l.filter (· != N)) (hn.filter _) fun n hm => by
      simp only [List.mem_filter, bne_iff_ne, ne_eq] at hm
      have := h n hm.1
      omega
    have h2 : l.length ≤ (l.filter (· != N)).length + 1 := by
      clear h1 h
      induction l with
      | nil => simp
      | cons x l ih =>
        rw [List.nodup_cons] at hn
        have := ih hn.2
        rw [List.filter_cons]
        by_cases q : x = N
        · subst q
          have e : l.filter (· != x) = l := by
            rw [List.filter_eq_self]
            intro y hy
            simp only [bne_iff_ne, ne_eq]
            rintro rfl
            exact hn.1 hy
          simp [e]
        · simp [q]; omega
    omega
structure Fin (G : Gr) (r : Nat) (T : Nat → Tr) (many : Nat) (ρ : Nat → Nat) : Prop where
  set : ∀ n, n < G.N → (T n).e = 1 ∧ (T n).w = 0
  many : many = 2 * G.L
  kd : ∀ n, n < G.N → (T n).k.Nodup ∧ ∀ k ∈ (T n).k, ∃ l : Nat, l < G.L ∧ k = (l : Int) ∧ G.src l = n ∧ (T (G.dst l)).u = (l : Int)
  ur : (T r).u = -1
  up : ∀ m, m < G.N → m ≠ r → ∃ l : Nat, l < G.L ∧ (T m).u = (l : Int) ∧ G.dst l = m ∧ ρ (G.src l) < ρ m ∧ (l : Int) ∈ (T (G.src l)).k
  rk : ∀ n, n < G.N → ρ n < G.N
theorem Inv.fin (ho : G.Ok) (h : Inv G r T [] many ord ρ) : Fin G r T many ρ := by
  have all : ∀ n, n < G.N → n ∈ ord := ho.conn (· ∈ ord) r (h.lt r h.rt) h.rt fun l hl hs => (h.cl l hl hs).resolve_right (by simp)
  exact {
    set := fun n hn => ⟨(h.vis n hn).2 (all n hn), by rw [h.cn n (all n hn)]; rfl⟩
    many := by
      have := h.ct
      have e : G.cnt ord = G.L := by
        unfold Gr.cnt
        rw [List.countP_eq_length.2, List.length_range]
        intro l hl
        simpa using all _ (ho.s l (by simpa using hl))
      rw [e] at this
      simpa using this
    kd := fun n hn => ⟨(h.kd n (all n hn)).1, fun k hk => by
      obtain ⟨l, a, b, c, d, _⟩ := (h.kd n (all n hn)).2 k hk
      exact ⟨l, a, b, c, d⟩⟩
    ur := h.ur
    up := fun m hm hr => by
      obtain ⟨l, a, b, c, _, d, e⟩ := h.up m (all m hm) hr
      exact ⟨l, a, b, c, d, e.resolve_right (by simp)⟩
    rk := fun n hn => Nat.lt_of_lt_of_le (h.rk n (all n hn)) (pigeon G.N ord h.nd h.lt) }
/-- All kids. -/
def kidsAll (T : Nat → Tr) (N : Nat) : List Int := (List.range N).flatMap fun n => (T n).k
theorem kids_nodup (h : Fin G r T many ρ) : ∀ n, n ≤ G.N → (kidsAll T n).Nodup := by
  intro n
  induction n with
  | zero => intro _; simp [kidsAll]
  | succ n ih =>
    intro hn
    rw [kidsAll, List.range_succ, List.flatMap_append, List.nodup_append]
    refine ⟨ih (by omega), by simpa using (h.kd n (by omega)).1, ?_⟩
    intro a ha b hb
    rintro rfl
    obtain ⟨m, hm, ha⟩ := List.mem_flatMap.1 ha
    simp only [List.flatMap_cons, List.flatMap_nil, List.append_nil] at hb
    have hm := List.mem_range.1 hm
    obtain ⟨l, _, e1, e2, _⟩ := (h.kd m (by omega)).2 a ha
    obtain ⟨l', _, e1', e2', _⟩ := (h.kd n (by omega)).2 a hb
    have : l = l' := by omega
    subst this
    omega
theorem kids_mem (h : Fin G r T many ρ) {k : Int} (hk : k ∈ kidsAll T G.N) : ∃ l : Nat, l < G.L ∧ k = (l : Int) ∧ (T (G.dst l)).u = (l : Int) := by
  obtain ⟨m, hm, ha⟩ := List.mem_flatMap.1 hk
  obtain ⟨l, a, b, _, d⟩ := (h.kd m (by simpa using hm)).2 k ha
  exact ⟨l, a, b, d⟩
theorem count_one {α : Type} {p : α → Bool} {a : α} : ∀ {l : List α}, l.Nodup → a ∈ l → (∀ x ∈ l, p x = true ↔ x = a) → l.countP p = 1
  | [], _, h, _ => by cases h
  | y :: l, hn, h, hp => by
    rw [List.nodup_cons] at hn
    rw [List.countP_cons]
    by_cases q : y = a
    · subst q
      have : l.countP p = 0 := by
        rw [List.countP_eq_zero]
        intro x hx hq
        have := (hp x (List.mem_cons_of_mem _ hx)).1 hq
        subst this
        exact hn.1 hx
      rw [this, if_pos ((hp y (List.mem_cons_self ..)).2 rfl)]
    · have h2 : a ∈ l := (List.mem_cons.1 h).resolve_left fun e => q e.symm
      rw [count_one hn.2 h2 fun x hx => hp x (List.mem_cons_of_mem _ hx), if_neg fun e => q ((hp y (List.mem_cons_self ..)).1 e)]
theorem kids_count (ho : G.Ok) (h : Fin G r T many ρ) {m : Nat} (hm : m < G.N) : (kidsAll T G.N).countP (fun k => G.dst k.toNat == m) = if m = r then 0 else 1 := by
  split
  · rename_i e
    subst e
    rw [List.countP_eq_zero]
    intro k hk q
    obtain ⟨l, a, rfl, d⟩ := kids_mem h hk
    have : G.dst l = m := by simpa using q
    rw [this, h.ur] at d
    omega
  · rename_i e
    obtain ⟨l, a, b, c, d, f⟩ := h.up m hm e
    refine count_one (a := (l : Int)) (kids_nodup h G.N (Nat.le_refl _)) ?_ ?_
    · exact List.mem_flatMap.2 ⟨G.src l, by simpa using ho.s l a, f⟩
    · intro k hk
      obtain ⟨l', a', rfl, d'⟩ := kids_mem h hk
      simp only [Int.toNat_natCast, beq_iff_eq]
      constructor
      · intro q; rw [q, b] at d'; exact d'.symm
      · intro q
        have : l' = l := by omega
        subst this
        exact c
def bump (G : Gr) (kd : List Int) (k : Int) : List Int := kd.set (G.dst k.toNat) (kd.getD (G.dst k.toNat) 0 + 1)
theorem bump_len (G : Gr) : ∀ (ks : List Int) (kd : List Int), (ks.foldl (bump G) kd).length = kd.length
  | [], _ => rfl
  | k :: ks, kd => by rw [List.foldl_cons, bump_len G ks]; simp [bump]
theorem bump_get (G : Gr) {m : Nat} : ∀ (ks : List Int) (kd : List Int), m < kd.length → (∀ k ∈ ks, G.dst k.toNat < kd.length) → (ks.foldl (bump G) kd).getD m 0 = kd.getD m 0 + (ks.countP fun k => G.dst k.toNat == m : Nat)
  | [], kd, _, _ => by simp
  | k :: ks, kd, hm, hk => by
    rw [List.foldl_cons, bump_get G ks _ (by simpa [bump] using hm) (fun q hq => by simpa [bump] using hk q (List.mem_cons_of_mem _ hq)), List.countP_cons]
    have := hk k (List.mem_cons_self ..)
    by_cases q : G.dst k.toNat = m
    · subst q
      simp [bump, List.getD, this]
      omega
    · simp [bump, List.getD, q]
end Go.Proofs.TT
