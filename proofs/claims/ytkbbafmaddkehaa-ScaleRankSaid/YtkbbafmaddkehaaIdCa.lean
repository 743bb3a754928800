/-
  Calls in the walk: the callee and its arguments are worked out first, then a contract is offered.
-/
import Derived.Test.YtkbbafmaddkehaaIdZ
namespace Go.Idl
variable {P : Program} {h0 : IH}

/-- Where slices lie among a type's cells, and how wide their elements are. -/
def tcn (P : Program) : Nat → TypeId → List (Nat × Nat)
  | 0, _ => []
  | n + 1, t => match P.underlying t with
    | some (.slice e) => [(0, (tsz P e).getD 0)]
    | some (.struct fs) => fs.toList.flatMap fun f => (tcn P n f.type).map fun p => (p.1 + f.offset, p.2)
    | some (.array m e) => (List.range m).flatMap fun i => (tcn P n e).map fun p => (p.1 + i * (tsz P e).getD 0, p.2)
    | _ => []
def tcs (P : Program) (t : TypeId) : List (Nat × Nat) := tcn P 9 t
/-- An empty slice, told as a list. -/
def icanP (sz : Nat) : IV → IV
  | .p (.sc (.slice none 0 0)) => .p (.imm sz [])
  | .p .emp => .p (.imm sz [])
  | x => x
def icanAt : Nat → Nat → List IV → List IV
  | _, _, [] => []
  | 0, sz, x :: r => icanP sz x :: r
  | o + 1, sz, x :: r => x :: icanAt o sz r
def icanL : List (Nat × Nat) → List IV → List IV
  | [], cs => cs
  | (o, sz) :: r, cs => icanL r (icanAt o sz cs)
def ican (l : List (Nat × Nat)) : IV → IV
  | .agg cs => .agg (icanL l cs)
  | .p x => match l with
    | [] => .p x
    | (_, sz) :: _ => icanP sz (.p x)
  | y => y
def icans (P : Program) : List TypeId → List IV → List IV
  | [], xs => xs
  | _ :: _, [] => []
  | t :: ts, x :: xs => ican (tcs P t) x :: icans P ts xs

theorem icanP_wk (sz : Nat) (x : IV) : wk x (icanP sz x) := by
  unfold icanP
  split
  · exact .inr ⟨.inr rfl, sz, rfl⟩
  · exact .inr ⟨.inl rfl, sz, rfl⟩
  · exact wk_refl x
theorem wks_of : ∀ {l m : List IV}, m.length = l.length → (∀ (i : Nat) (x y : IV), l[i]? = some x → m[i]? = some y → wk x y) → wks l m
  | [], m, h, _ => by have : m = [] := List.eq_nil_of_length_eq_zero h; subst this; exact wks_refl []
  | x :: l, [], h, _ => by cases h
  | x :: l, y :: m, h, hw => ⟨hw 0 x y rfl rfl, wks_of (by simpa using h) fun i a b ha hb => hw (i + 1) a b (by simpa using ha) (by simpa using hb)⟩
theorem wkp_trans {a b c : PV} (h : wkp a b) (k : wkp b c) : wkp a c := by
  rcases h with rfl | ⟨h1, sz, rfl⟩
  · exact k
  · rcases k with rfl | ⟨k1, sz', rfl⟩
    · exact .inr ⟨h1, sz, rfl⟩
    · rcases k1 with k1 | k1 <;> cases k1
theorem wk_trans (x : IV) : ∀ y z, wk x y → wk y z → wk x z := by
  apply IV.rec (motive_1 := fun x => ∀ y z, wk x y → wk y z → wk x z) (motive_2 := fun l => ∀ y z, wks l y → wks y z → wks l z)
  · intro a y z h k
    cases y <;> simp only [wk] at h
    cases z <;> simp only [wk] at k
    exact wkp_trans h k
  · intro b g off len y z h k; simp only [wk] at h; subst h; exact k
  · intro b g off len y z h k; simp only [wk] at h; subst h; exact k
  · intro b y z h k; simp only [wk] at h; subst h; exact k
  · intro fn f c _ _ y z h k; simp only [wk] at h; subst h; exact k
  · intro cs ih y z h k
    cases y <;> simp only [wk] at h
    cases z <;> simp only [wk] at k
    exact ih _ _ h k
  · intro cs ih y z h k
    cases y <;> simp only [wk] at h
    cases z <;> simp only [wk] at k
    exact ih _ _ h k
  · intro y z h k; simp only [wk] at h; subst h; exact k
  · intro y z h k; simp only [wks] at h; subst h; exact k
  · intro x l i1 i2 y z h k
    cases y with
    | nil => simp [wks] at h
    | cons y ys =>
      cases z with
      | nil => simp [wks] at k
      | cons z zs => exact ⟨i1 _ _ h.1 k.1, i2 _ _ h.2 k.2⟩
theorem wks_trans : ∀ {l m n : List IV}, wks l m → wks m n → wks l n
  | [], m, n, h, k => by simp only [wks] at h; subst h; exact k
  | x :: l, [], n, h, k => by simp [wks] at h
  | x :: l, y :: m, [], h, k => by simp [wks] at k
  | x :: l, y :: m, z :: n, h, k => ⟨wk_trans x y z h.1 k.1, wks_trans h.2 k.2⟩
theorem icanAt_wk : ∀ (o sz : Nat) (l : List IV), wks l (icanAt o sz l)
  | o, sz, [] => by cases o <;> exact wks_refl []
  | 0, sz, x :: r => ⟨icanP_wk sz x, wks_refl r⟩
  | o + 1, sz, x :: r => ⟨wk_refl x, icanAt_wk o sz r⟩
theorem icanL_wk : ∀ (l : List (Nat × Nat)) (cs : List IV), wks cs (icanL l cs)
  | [], cs => wks_refl cs
  | (o, sz) :: r, cs => wks_trans (icanAt_wk o sz cs) (icanL_wk r _)
theorem ican_wk (l : List (Nat × Nat)) (x : IV) : wk x (ican l x) := by
  unfold ican
  split
  · exact icanL_wk l _
  · split
    · exact wk_refl _
    · exact icanP_wk _ _
  · exact wk_refl _
theorem icans_wk : ∀ (ts : List TypeId) (xs : List IV), wks xs (icans P ts xs)
  | [], xs => wks_refl xs
  | _ :: _, [] => wks_refl []
  | _ :: ts, x :: xs => ⟨ican_wk _ x, icans_wk ts xs⟩

section
variable {sz : Nat} {n : Int} {k : IntKind}
@[go_sem] theorem icanP_nil : icanP sz (.p (.sc (.slice none 0 0))) = .p (.imm sz []) := (rfl)
@[go_sem] theorem icanP_emp : icanP sz (.p .emp) = .p (.imm sz []) := (rfl)
@[go_sem] theorem icanP_imm {s : Nat} {rows : List (List PV)} : icanP sz (.p (.imm s rows)) = .p (.imm s rows) := (rfl)
@[go_sem] theorem icanP_ref {b g o l : Nat} : icanP sz (.ref b g o l) = .ref b g o l := (rfl)
@[go_sem] theorem icanP_agg {cs : List IV} : icanP sz (.agg cs) = .agg cs := (rfl)
@[go_sem] theorem icanP_int : icanP sz (.p (.sc (.int k n))) = .p (.sc (.int k n)) := (rfl)
@[go_sem] theorem ican_ref {l : List (Nat × Nat)} {b g o r : Nat} : ican l (.ref b g o r) = .ref b g o r := (rfl)
@[go_sem] theorem ican_ptr {l : List (Nat × Nat)} {b g o r : Nat} : ican l (.ptr b g o r) = .ptr b g o r := (rfl)
@[go_sem] theorem ican_clo {l : List (Nat × Nat)} {f : Fn} {a c : List IV} : ican l (.clo f a c) = .clo f a c := (rfl)
@[go_sem] theorem ican_mp {l : List (Nat × Nat)} {b : Nat} : ican l (.mp b) = .mp b := (rfl)
@[go_sem] theorem ican_nil {x : PV} : ican [] (.p x) = .p x := (rfl)
@[go_sem] theorem ican_cons {l : List (Nat × Nat)} {o : Nat} {x : PV} : ican ((o, sz) :: l) (.p x) = icanP sz (.p x) := (rfl)
@[go_sem] theorem ican_agg {l : List (Nat × Nat)} {cs : List IV} : ican l (.agg cs) = .agg (icanL l cs) := (rfl)
end
attribute [go_sem] icanAt icanL icans

/-- A call, its callee and arguments known: by a contract. -/
def callA (P : Program) (c : FuncId) (zs : List IV) (G : Nat → Option IBlk) (ok : Prop) (K : IV → List Nat → Prop) : Prop :=
  ok → ∃ x R, PCall P c zs R x ∧ bel 0 x ∧ (∀ p ∈ R, G p.1 = some p.2) ∧ K x (R.map (·.1))
theorem callA_congr {c : FuncId} {zs zs' : List IV} {G : Nat → Option IBlk} {ok : Prop} {K : IV → List Nat → Prop} (h : zs = zs') : callA P c zs G ok K = callA P c zs' G ok K := by rw [h]
attribute [congr] callA_congr
theorem callA_of {c : FuncId} {zs : List IV} {G : Nat → Option IBlk} {ok : Prop} {K : IV → List Nat → Prop} {x : IV} (hp : PCall P c zs [] x) (hx : bel 0 x) (h : K x []) : callA P c zs G ok K :=
  fun _ => ⟨x, [], hp, hx, by simp, h⟩
theorem frz_refs {G : Nat → Option IBlk} (x : IV) : ∀ y, frz G x = some y → (∀ b ∈ refs x, ∃ blk, G b = some blk) ∧ ∀ G' : Nat → Option IBlk, (∀ b ∈ refs x, G' b = G b) → frz G' x = some y := by
  apply IV.rec (motive_1 := fun x => ∀ y, frz G x = some y → (∀ b ∈ refs x, ∃ blk, G b = some blk) ∧ ∀ G' : Nat → Option IBlk, (∀ b ∈ refs x, G' b = G b) → frz G' x = some y)
    (motive_2 := fun l => ∀ ys, frzs G l = some ys → (∀ b ∈ refss l, ∃ blk, G b = some blk) ∧ ∀ G' : Nat → Option IBlk, (∀ b ∈ refss l, G' b = G b) → frzs G' l = some ys)
  · intro x y h; exact ⟨by simp [refs], fun G' _ => by simpa [frz] using h⟩
  · intro b g off len y h
    simp only [frz] at h
    cases hb : G b with
    | none => rw [hb] at h; cases h
    | some blk =>
      refine ⟨by simp [refs, hb], fun G' hG => ?_⟩
      simp only [frz, hG b (by simp [refs]), hb]
      rw [hb] at h; exact h
  · intro b g r j y h
    simp only [frz] at h
    cases hb : G b with
    | none => rw [hb] at h; cases h
    | some blk =>
      refine ⟨by simp [refs, hb], fun G' hG => ?_⟩
      simp only [frz, hG b (by simp [refs]), hb]
      rw [hb] at h; exact h
  · intro b y h; simp [frz] at h
  · intro fn f c _ _ y h; simp [frz] at h
  · intro cs ih y h
    simp only [frz, Option.map_eq_some_iff] at h
    obtain ⟨ys, hy, rfl⟩ := h
    obtain ⟨h1, h2⟩ := ih ys hy
    exact ⟨by simpa [refs] using h1, fun G' hG => by simp only [frz, h2 G' (by simpa [refs] using hG), Option.map_some]⟩
  · intro cs ih y h
    simp only [frz, Option.map_eq_some_iff] at h
    obtain ⟨ys, hy, rfl⟩ := h
    obtain ⟨h1, h2⟩ := ih ys hy
    exact ⟨by simpa [refs] using h1, fun G' hG => by simp only [frz, h2 G' (by simpa [refs] using hG), Option.map_some]⟩
  · intro y h; simp [frz] at h
  · intro ys h; exact ⟨by simp [refss], fun G' _ => by simpa [frzs] using h⟩
  · intro x l i1 i2 ys h
    simp only [frzs] at h
    split at h
    · rename_i y ys' h1 h2
      cases h
      obtain ⟨a1, a2⟩ := i1 y h1
      obtain ⟨b1, b2⟩ := i2 ys' h2
      refine ⟨fun b hb => ?_, fun G' hG => ?_⟩
      · simp only [refss, List.mem_append] at hb
        exact hb.elim (a1 b) (b1 b)
      · simp only [frzs, a2 G' fun b hb => hG b (by simp [refss, hb]), b2 G' fun b hb => hG b (by simp [refss, hb])]
    · cases h
theorem frzs_refs {G : Nat → Option IBlk} {l ys : List IV} (h : frzs G l = some ys) : (∀ b ∈ refss l, ∃ blk, G b = some blk) ∧ ∀ G' : Nat → Option IBlk, (∀ b ∈ refss l, G' b = G b) → frzs G' l = some ys := by
  have := frz_refs (G := G) (.agg l) (.agg ys) (by simp [frz, h])
  refine ⟨fun b hb => this.1 b (by simpa [refs] using hb), fun G' hG => ?_⟩
  have := this.2 G' fun b hb => hG b (by simpa [refs] using hb)
  simpa [frz] using this
theorem seen_look {G : Nat → Option IBlk} {b : Nat} : ∀ {l : List Nat}, b ∈ l → look (seen G l) b = G b
  | [], h => by cases h
  | c :: r, h => by
    unfold seen
    by_cases e : c = b
    · subst e
      cases hc : G c with
      | some blk => simp [look]
      | none =>
        by_cases hr : c ∈ r
        · simpa [hc] using seen_look (G := G) hr
        · cases hl : look (seen G r) c with
          | none => rfl
          | some blk => have := seen_spec _ (look_mem hl); rw [hc] at this; cases this
    · have hr : b ∈ r := by
        rcases List.mem_cons.1 h with h | h
        · exact absurd h.symm e
        · exact h
      cases hc : G c with
      | some blk => simp only [look, if_neg e]; exact seen_look hr
      | none => exact seen_look hr
theorem seen_keys {G : Nat → Option IBlk} : ∀ {l : List Nat}, (∀ b ∈ l, ∃ blk, G b = some blk) → (seen G l).map (·.1) = l
  | [], _ => rfl
  | c :: r, h => by
    obtain ⟨blk, hb⟩ := h c (List.mem_cons_self ..)
    simp only [seen, hb, List.map_cons, seen_keys fun b hb => h b (List.mem_cons_of_mem _ hb)]
/-- A call that is only shown blocks of the caller's, and answers plain values. -/
def callV (P : Program) (c : FuncId) (zs : List IV) (K : IV → Prop) : Prop := ∃ x, PCall P c zs [] x ∧ scalB x = true ∧ K x
theorem callV_congr {c : FuncId} {zs zs' : List IV} {K : IV → Prop} (h : zs = zs') : callV P c zs K = callV P c zs' K := by rw [h]
attribute [congr] callV_congr
theorem callA_view {c : FuncId} {zs : List IV} {G : Nat → Option IBlk} {ok : Prop} {K : IV → List Nat → Prop}
    (h : onSome (frzs G zs) (fun zs' => callV P c zs' fun x => K x (refss zs)) False) : callA P c zs G ok K := by
  intro _
  cases hz : frzs G zs with
  | none => rw [hz] at h; exact h.elim
  | some zs' =>
    rw [hz, onSome_some] at h
    obtain ⟨x, h1, h2, h3⟩ := h
    obtain ⟨g1, g2⟩ := frzs_refs hz
    refine ⟨x, seen G (refss zs), pcall_view (g2 _ fun b hb => seen_look hb) h2 h1, scalB_bel 0 x h2, seen_spec, ?_⟩
    rw [seen_keys g1]
    exact h3
theorem callV_of {c : FuncId} {zs : List IV} {K : IV → Prop} {x : IV} (hp : PCall P c zs [] x) (hx : scalB x = true) (h : K x) : callV P c zs K := ⟨x, hp, hx, h⟩

def want3 (w : Option Bool) (a b : Bool) : Prop := w = some true ∧ a = true ∧ b = true

section
variable {Q : Exit → IState → Prop} {k : List It} {all : Array Oper} {r : List Oper} {dst : Option Tmp} {ty : TypeId} {pos : String} {aft : Array Edge} {N : Nat} {s : List (Nat × IV)} {d : List IDef} {nx : Nat} {l : List (Nat × IBlk)}
  {g : Option (Nat × Bool)} {f : Operand} {args : List Operand} {ts : List TypeId} {K : IState → List FP → Prop} {acc : List FP}
theorem at_call (n : Nat)
    (h : onSome (icallee (ev s) f args) (fun q => (iwant all s ⟨dst, .call { callee := .value f, args := ⟨args⟩, argTypes := ⟨ts⟩ }, ty, pos, aft, g⟩ = some true ∧ fnOk P q.1 = true ∧ dOk N dst = true) ∧
      callA P q.1 (icans P ts q.2) (look (l ++ h0.m)) True fun x _ => vc P h0 Q n (.ops all r :: k) ⟨N, putS dst x s, d, nx, l⟩) False) :
    IRun P h0 (.ops all (⟨dst, .call { callee := .value f, args := ⟨args⟩, argTypes := ⟨ts⟩ }, ty, pos, aft, g⟩ :: r) :: k) ⟨N, s, d, nx, l⟩ Q := by
  cases hc : icallee (ev s) f args with
  | none => rw [hc] at h; exact h.elim
  | some q =>
    rw [hc, onSome_some] at h
    obtain ⟨⟨h1, h2, h3⟩, h4⟩ := h
    obtain ⟨x, R, p1, p2, p3, p4⟩ := h4 trivial
    exact wlk_call n hc (p1.weak (icans_wk ts q.2)) p3 h1 h2 h3 p4
theorem at_dcall
    (h : onSome (icallee (ev s) f args) (fun q => (iwant all s ⟨dst, .call { callee := .value f, args := ⟨args⟩, argTypes := ⟨ts⟩ }, ty, pos, aft, g⟩ = some true ∧ fnOk P q.1 = true ∧ dOk N dst = true) ∧
      callA P q.1 (icans P ts q.2) (look (l ++ h0.m)) True fun x R => dvc P h0 all K r ⟨N, putS dst x s, d, nx, l⟩ (acc ++ [(R, [])])) False) :
    DRun P h0 all (⟨dst, .call { callee := .value f, args := ⟨args⟩, argTypes := ⟨ts⟩ }, ty, pos, aft, g⟩ :: r) ⟨N, s, d, nx, l⟩ acc K := by
  cases hc : icallee (ev s) f args with
  | none => rw [hc] at h; exact h.elim
  | some q =>
    rw [hc, onSome_some] at h
    obtain ⟨⟨h1, h2, h3⟩, h4⟩ := h
    obtain ⟨x, R, p1, p2, p3, p4⟩ := h4 trivial
    exact walk_dcall hc (p1.weak (icans_wk ts q.2)) p3 h1 h2 h3 p2 p4
end
end Go.Idl
