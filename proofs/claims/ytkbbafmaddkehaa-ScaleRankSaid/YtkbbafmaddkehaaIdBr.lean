/-
  From what a row says of its arguments to the ideal machine: plain data that is handed in.
-/
import Derived.Test.YtkbbafmaddkehaaIdZ
import Derived.ProofKit
import Derived.SizedLaws
import Derived.Carry
namespace Go.Idl
open Go.ChangeShapes Go.WideShapes Go.RowKit

def CellsP (W : World) (xs : List PV) (cs : List Value) : Prop :=
  xs.length = cs.length ∧ ∀ (j : Nat) (x : PV) (v : Value), xs[j]? = some x → cs[j]? = some v → v.oneCell' = true ∧ PRel W (fun _ => False) x v

/-- What a type's readings are: plain data, told by their cells. -/
def Opens {α : Type} (P : Program) (t : TypeId) (f : α → List PV) (good : α → Prop) : Prop :=
  ∀ {H : Type} (enc : TypeId × Value → H) (W : World) (base : Nat) (sp : Nat → Bool) (held : Bool) (fuel : Nat) (cs : List Value) (d : DataW H) (ps : List MemPlace),
    DataW.trod enc P W base sp held fuel t cs = some (d, ps) → (∀ n ∈ d.weights P t, n ≤ reachBytes) → ∃ a, good a ∧ CellsP W (f a) cs

variable {P : Program} {t e : TypeId} {α β : Type} {f : α → List PV} {g : β → List PV} {good : α → Prop} {good' : β → Prop}

theorem CellsP.one {W : World} {x : PV} {v : Value} (h1 : v.oneCell' = true) (h : PRel W (fun _ => False) x v) : CellsP W [x] [v] := by
  refine ⟨rfl, fun j y u hy hu => ?_⟩
  cases j with
  | zero => simp at hy hu; subst hy; subst hu; exact ⟨h1, h⟩
  | succ j => simp at hy
theorem CellsP.nil {W : World} : CellsP W [] [] := ⟨rfl, by simp⟩
theorem CellsP.append {W : World} {xs ys : List PV} {cs ds : List Value} (h : CellsP W xs cs) (k : CellsP W ys ds) : CellsP W (xs ++ ys) (cs ++ ds) := by
  refine ⟨by simp [h.1, k.1], fun j y u hy hu => ?_⟩
  by_cases hj : j < xs.length
  · rw [List.getElem?_append_left hj] at hy
    rw [List.getElem?_append_left (by rw [← h.1]; exact hj)] at hu
    exact h.2 j y u hy hu
  · rw [List.getElem?_append_right (by omega)] at hy
    rw [List.getElem?_append_right (by rw [← h.1]; omega), ← h.1] at hu
    exact k.2 _ y u hy hu

theorem opens_int {k : IntKind} (hu : P.underlying t = some (.int k)) : Opens P t (fun n : Int => [.sc (.int k n)]) fun n => k.min ≤ n ∧ n ≤ k.max := by
  intro H enc W base sp held fuel cs d ps h _
  obtain ⟨n, rfl, hx, hw⟩ := DataW.trod_int hu h
  simp only [Lit.wf, Bool.and_eq_true, decide_eq_true_eq] at hw
  exact ⟨n, hw, .one rfl (.sc _)⟩
theorem opens_bool (hu : P.underlying t = some .bool) : Opens P t (fun b : Bool => [.sc (.bool b)]) fun _ => True := by
  intro H enc W base sp held fuel cs d ps h _
  obtain ⟨n, rfl, hx⟩ := DataW.trod_bool hu h
  exact ⟨n, trivial, .one rfl (.sc _)⟩
theorem opens_string (hu : P.underlying t = some .string) : Opens P t (fun s : ByteArray => [.sc (.string s)]) fun s => s.size ≤ reachBytes := by
  intro H enc W base sp held fuel cs d ps h hw
  obtain ⟨s, rfl, hx, _⟩ := DataW.trod_string hu h
  simp only [Prod.mk.injEq] at hx
  obtain ⟨rfl, _⟩ := hx
  refine ⟨s, ?_, .one rfl (.sc _)⟩
  have := hw s.data.toList.length (by simp [DataW.weights])
  simpa using this
theorem opens_f64 (hu : P.underlying t = some (.float .f64)) : Opens P t (fun n : Nat => [.sc (.float .f64 n)]) fun n => n < 2 ^ 64 := by
  intro H enc W base sp held fuel cs d ps h _
  cases fuel with
  | zero => simp [DataW.trod] at h
  | succ n =>
    unfold DataW.trod at h
    rw [hu] at h
    split at h <;> simp_all
    rename_i k k' b aw hk
    obtain ⟨⟨-, hw⟩, _⟩ := h
    subst hk
    simp only [Lit.wf, decide_eq_true_eq] at hw
    exact ⟨b, hw, .one rfl (.sc _)⟩

theorem weights_elem {H : Type} {d : DataW H} {l : List (DataW H)} (h : d ∈ l) : ∀ n ∈ d.weights P e, n ∈ DataW.weightsAll P e l := by
  induction l with
  | nil => cases h
  | cons x l ih =>
    intro n hn
    simp only [DataW.weightsAll, List.mem_append]
    rcases List.mem_cons.1 h with rfl | h
    · exact .inl hn
    · exact .inr (ih h n hn)

/-- Values for each place of a range. -/
theorem list_of {γ : Type} {p : Nat → γ → Prop} : ∀ n : Nat, (∀ i, i < n → ∃ a, p i a) → ∃ l : List γ, l.length = n ∧ ∀ (i : Nat) (a : γ), l[i]? = some a → p i a
  | 0, _ => ⟨[], rfl, by simp⟩
  | n + 1, h => by
    obtain ⟨l, hl, hp⟩ := list_of n fun i hi => h i (by omega)
    obtain ⟨a, ha⟩ := h n (by omega)
    refine ⟨l ++ [a], by simp [hl], fun i b hb => ?_⟩
    by_cases hi : i < n
    · rw [List.getElem?_append_left (by omega)] at hb; exact hp i b hb
    · have hlt := lt_of_get hb
      simp only [List.length_append, List.length_cons, List.length_nil] at hlt
      obtain rfl : i = n := by omega
      rw [List.getElem?_append_right (by omega)] at hb
      simp [hl] at hb; subst hb; exact ha

theorem opens_slice {sz by_ : Nat} (hu : P.underlying t = some (.slice e)) (hc : P.cellsOf e = sz) (hz : 0 < sz) (hb : P.bytesOf e = by_) (h : Opens P e f good) :
    Opens P t (fun l : List α => [.imm sz (pr f l)]) fun l => (∀ a ∈ l, good a) ∧ l.length * by_ ≤ reachBytes ∧ l.length ≤ maxLen := by
  intro H enc W base sp held fuel cs d ps ht hw
  rcases DataW.trod_slice hu ht with ⟨rfl, hx⟩ | ⟨a, len, cap, elems, rest, n, rfl, rfl, hx, hba, hlc, hcm, hlen, hel, -, -⟩
  · refine ⟨[], ⟨by simp, by simp [reachBytes], by simp⟩, .one rfl ?_⟩
    exact .imm sz [] none 0 0 0 (fun _ _ => undef) (Nat.le_refl _) (Nat.zero_le _) (fun h => absurd h (by simp)) (by simp) (by simp) (by simp)
  · simp only [Prod.mk.injEq] at hx
    obtain ⟨rfl, -⟩ := hx
    have hw1 : (elems.length + rest.length) * by_ ≤ reachBytes := by
      have := hw ((elems.length + rest.length) * P.bytesOf e) (by simp [DataW.weights, hu])
      rwa [hb] at this
    have key : ∀ i, i < len → ∃ x : α, good x ∧ ∃ cs', W.cells? base (a.add (i * sz)) sz = some cs' ∧ CellsP W (f x) cs' := by
      intro i hi
      have h1 := hel i hi
      rw [List.getElem?_eq_getElem (by omega), hc] at h1
      obtain ⟨cs', h2, h3⟩ := Option.bind_eq_some_iff.1 h1
      obtain ⟨x, hx1, hx2⟩ := h enc W base sp held n cs' elems[i].1 elems[i].2 h3 (fun k hk => hw k (by
        have := weights_elem (P := P) (e := e) (l := elems.map (·.1)) (List.mem_map_of_mem (List.getElem_mem (show i < elems.length by omega))) k hk
        simp only [DataW.weights, hu, List.mem_cons, List.mem_append]
        first | exact .inr this | exact .inr (.inl this)))
      exact ⟨x, hx1, cs', h2, hx2⟩
    obtain ⟨l, hl, hp⟩ := list_of len key
    subst hl
    refine ⟨l, ⟨fun x hx => ?_, ?_, by omega⟩, .one rfl ?_⟩
    · obtain ⟨i, hi, rfl⟩ := List.getElem_of_mem hx
      exact (hp i _ (List.getElem?_eq_getElem hi)).1
    · refine Nat.le_trans (Nat.mul_le_mul_right _ ?_) hw1; omega
    · have hspot : 0 < l.length → a.spot = none ∧ a.block < W.heap.size := by
        intro h0
        obtain ⟨_, cs', h2, _⟩ := hp 0 _ (List.getElem?_eq_getElem h0)
        refine ⟨?_, ?_⟩
        · obtain ⟨_, hlen', hcl⟩ := World.cells?_some h2
          have h0' := hcl 0 hz
          have hlt : 0 < cs'.length := by omega
          rw [List.getElem?_eq_getElem hlt] at h0'
          simpa [Addr.add] using World.cell?_spot h0'
        · simpa [Addr.add] using World.cells?_block h2 hz
      have hpl : (pr f l).length = l.length := pr_length
      rw [← hpl]
      refine .mk_imm (c := a.block) (o := a.off) (by rw [hpl]; exact hlc) hcm (fun h0 => ?_) (fun i row hi => ?_) (fun i row j x hi hj => ?_)
      · rw [hpl] at h0
        obtain ⟨h1, h2⟩ := hspot h0
        refine ⟨?_, h2, fun h => h⟩
        obtain ⟨b, o, s⟩ := a
        simp at h1; subst h1; rfl
      · simp only [pr, List.getElem?_map, Option.map_eq_some_iff] at hi
        obtain ⟨x, hx, rfl⟩ := hi
        obtain ⟨_, cs', h2, h3⟩ := hp i x hx
        rw [h3.1]
        exact (World.cells?_some h2).2.1
      · simp only [pr, List.getElem?_map, Option.map_eq_some_iff] at hi
        obtain ⟨y, hy, rfl⟩ := hi
        obtain ⟨_, cs', h2, h3⟩ := hp i y hy
        obtain ⟨_, hl', hcl⟩ := World.cells?_some h2
        have hjl := lt_of_get hj
        rw [h3.1] at hjl
        have hcj := List.getElem?_eq_getElem hjl
        have h4 := hcl j (by omega)
        rw [hcj] at h4
        obtain ⟨g1, g2⟩ := h3.2 j x _ hj hcj
        refine ⟨_, ?_, g1, g2⟩
        obtain ⟨hs1, _⟩ := hspot (by have := lt_of_get hy; omega)
        obtain ⟨b, o, s⟩ := a
        simp at hs1; subst hs1
        rw [add_none, add_none, Nat.add_assoc] at h4
        exact h4

theorem Opens.map {γ : Type} {k : γ → List PV} {goodk : γ → Prop} (h : Opens P t f good) (m : α → γ) (hm : ∀ a, k (m a) = f a) (hg : ∀ a, good a → goodk (m a)) : Opens P t k goodk := by
  intro H enc W base sp held fuel cs d ps ht hw
  obtain ⟨a, h1, h2⟩ := h enc W base sp held fuel cs d ps ht hw
  exact ⟨m a, hg a h1, by rw [hm]; exact h2⟩

/-! ### structs -/
/-- Fields from an offset on. -/
def OpensF {α : Type} (P : Program) (fs : List Field) (off : Nat) (f : α → List PV) (good : α → Prop) : Prop :=
  ∀ {H : Type} (enc : TypeId × Value → H) (W : World) (base : Nat) (sp : Nat → Bool) (held : Bool) (n : Nat) (cs : List Value) (xs : List (DataW H × List MemPlace)),
    xs.length = fs.length → (∀ (i : Nat) (x : Field), fs[i]? = some x → DataW.trod enc P W base sp held n x.type ((cs.drop x.offset).take (P.cellsOf x.type)) = xs[i]?) →
    (∀ k ∈ DataW.weightsEach P (fs.map (·.type)) (xs.map (·.1)), k ≤ reachBytes) → ∃ a, good a ∧ CellsP W (f a) (cs.drop off)
theorem opensF_nil {P : Program} {off : Nat} : OpensF P [] off (fun _ : Unit => []) (fun _ => True) → True := fun _ => trivial
theorem opensF_one {x : Field} {off : Nat} (ho : x.offset = off) (h : Opens P x.type f good) : ∀ {total : Nat}, off + P.cellsOf x.type = total →
    ∀ {H : Type} (enc : TypeId × Value → H) (W : World) (base : Nat) (sp : Nat → Bool) (held : Bool) (n : Nat) (cs : List Value) (xs : List (DataW H × List MemPlace)), cs.length = total →
    xs.length = 1 → (∀ (i : Nat) (y : Field), [x][i]? = some y → DataW.trod enc P W base sp held n y.type ((cs.drop y.offset).take (P.cellsOf y.type)) = xs[i]?) →
    (∀ k ∈ DataW.weightsEach P [x.type] (xs.map (·.1)), k ≤ reachBytes) → ∃ a, good a ∧ CellsP W (f a) (cs.drop off) := by
  intro total ht H enc W base sp held n cs xs hcs hl hx hw
  match xs, hl with
  | [y], _ =>
    have := hx 0 x rfl
    simp only [List.getElem?_cons_zero, ho] at this
    rw [List.take_of_length_le (by simp; omega)] at this
    exact h enc W base sp held n _ y.1 y.2 this fun k hk => hw k (by simp [DataW.weightsEach, hk])
/-- Fields whose cells lie one behind the other, up to the end. -/
def Fields {α : Type} (P : Program) (fs : List Field) (off total : Nat) (f : α → List PV) (good : α → Prop) : Prop :=
  ∀ {H : Type} (enc : TypeId × Value → H) (W : World) (base : Nat) (sp : Nat → Bool) (held : Bool) (n : Nat) (cs : List Value) (xs : List (DataW H × List MemPlace)), cs.length = total →
    xs.length = fs.length → (∀ (i : Nat) (y : Field), fs[i]? = some y → DataW.trod enc P W base sp held n y.type ((cs.drop y.offset).take (P.cellsOf y.type)) = xs[i]?) →
    (∀ k ∈ DataW.weightsEach P (fs.map (·.type)) (xs.map (·.1)), k ≤ reachBytes) → ∃ a, good a ∧ CellsP W (f a) (cs.drop off)
theorem fields_one {x : Field} {off total : Nat} (ho : x.offset = off) (ht : off + P.cellsOf x.type = total) (h : Opens P x.type f good) : Fields P [x] off total f good :=
  opensF_one ho h ht
theorem fields_cons {x : Field} {fs : List Field} {off off' total : Nat} (ho : x.offset = off) (hn : off + P.cellsOf x.type = off') (h : Opens P x.type f good) (hf : Fields P fs off' total g good') :
    Fields P (x :: fs) off total (fun a : α × β => f a.1 ++ g a.2) fun a => good a.1 ∧ good' a.2 := by
  intro H enc W base sp held n cs xs hcs hl hx hw
  match xs, hl with
  | y :: ys, hl =>
    have h0 := hx 0 x rfl
    simp only [List.getElem?_cons_zero, ho] at h0
    obtain ⟨a, a1, a2⟩ := h enc W base sp held n _ y.1 y.2 h0 fun k hk => hw k (by simp [DataW.weightsEach, hk])
    obtain ⟨b, b1, b2⟩ := hf enc W base sp held n cs ys hcs (by simpa using hl) (fun i z hz => hx (i + 1) z (by simpa using hz)) fun k hk => hw k (by simp [DataW.weightsEach, hk])
    refine ⟨(a, b), ⟨a1, b1⟩, ?_⟩
    have := a2.append b2
    have e : (cs.drop off).take (P.cellsOf x.type) ++ cs.drop off' = cs.drop off := by
      rw [← hn, ← List.drop_drop, List.take_append_drop]
    rwa [e] at this
theorem opens_struct {fs : List Field} {total : Nat} (hu : P.underlying t = some (.struct fs.toArray)) (hc : P.cellsOf t = total) (h : Fields P fs 0 total f good) : Opens P t f good := by
  intro H enc W base sp held fuel cs d ps ht hw
  obtain ⟨xs, n, rfl, hx, hcs, hl, hf⟩ := DataW.trod_struct hu ht
  simp only [Prod.mk.injEq] at hx
  obtain ⟨rfl, -⟩ := hx
  obtain ⟨a, h1, h2⟩ := h enc W base sp held n cs xs (hcs.trans hc) (by simpa using hl) (fun i y hy => hf i y (by simpa using hy)) fun k hk => hw k (by
    have : fs.map (·.type) = (fs.toArray.map (·.type)).toList := by simp
    simp only [DataW.weights, hu]
    first | exact hk | simpa using hk)
  exact ⟨a, h1, by simpa using h2⟩
/-- An array of two. -/
theorem opens_two {sz : Nat} (hu : P.underlying t = some (.array 2 e)) (hc : P.cellsOf t = 2 * sz) (he : P.cellsOf e = sz) (h : Opens P e f good) :
    Opens P t (fun a : α × α => f a.1 ++ f a.2) fun a => good a.1 ∧ good a.2 := by
  intro H enc W base sp held fuel cs d ps ht hw
  cases fuel with
  | zero => simp [DataW.trod] at ht
  | succ n =>
    unfold DataW.trod at ht
    simp only [hu] at ht
    split at ht
    · rename_i hlen
      simp only [Option.map_eq_some_iff] at ht
      obtain ⟨xs, h1, h2⟩ := ht
      have hr : List.range 2 = [0, 1] := rfl
      rw [hr] at h1
      simp only [List.mapM_cons, List.mapM_nil, Option.bind_eq_bind, Option.pure_def, Option.bind_eq_some_iff, Option.some.injEq] at h1
      obtain ⟨y0, g0, y, ⟨y1, g1, z, rfl, rfl⟩, rfl⟩ := h1
      simp only [Prod.mk.injEq] at h2
      obtain ⟨rfl, -⟩ := h2
      obtain ⟨a, a1, a2⟩ := h enc W base sp held n _ y0.1 y0.2 g0 fun k hk => hw k (by simp [DataW.weights, hu, DataW.weightsAll, hk])
      obtain ⟨b, b1, b2⟩ := h enc W base sp held n _ y1.1 y1.2 g1 fun k hk => hw k (by simp [DataW.weights, hu, DataW.weightsAll, hk])
      refine ⟨(a, b), ⟨a1, b1⟩, ?_⟩
      have := a2.append b2
      rw [he] at this
      have e : (cs.drop (0 * sz)).take sz ++ (cs.drop (1 * sz)).take sz = cs := by
        rw [Nat.zero_mul, Nat.one_mul, List.drop_zero, List.take_of_length_le (l := cs.drop sz) (by simp; omega), List.take_append_drop]
      rwa [e] at this
    · cases ht

/-! ### arguments -/
/-- A row's argument, as the ideal machine has it. -/
def ArgIs (P : Program) (t : TypeId) (xs : List PV) (y : IV) : Prop :=
  match P.underlying t with
  | some (.struct _) | some (.array _ _) => y = .agg (xs.map .p)
  | _ => ∃ x, xs = [x] ∧ y = .p x
theorem arg_one {x : PV} (h : tag P t = some false) : ArgIs P t [x] (.p x) := by
  unfold ArgIs
  unfold tag at h
  split <;> simp_all
theorem arg_agg {xs : List PV} (h : tag P t = some true) : ArgIs P t xs (.agg (xs.map .p)) := by
  unfold ArgIs
  unfold tag at h
  cases hu : P.underlying t with
  | none => simp [hu] at h
  | some d => cases d <;> simp_all
def M0 (W : World) : Mem := ⟨W, ⟨fun _ => False, fun _ => none, fun _ => False⟩, fun _ => none⟩
theorem M0_own {W : World} (c : Nat) : ¬ (M0 W).own c := fun h => h.elim id fun ⟨_, _, _, _, h, _⟩ => by cases h
theorem arg_rel {W : World} {r : Reach} {base : Nat} {v : Value} {xs : List PV} {y : IV} (hv : Value.okWide P W r base t v) (hy : ArgIs P t xs y) (hc : CellsP W xs v.cells.toList) : VRel (M0 W) y v := by
  have ho : (M0 W).own = fun _ => False := by funext c; exact propext ⟨M0_own c, False.elim⟩
  have agg : ∀ cs : Array Value, v = .agg cs → VRel (M0 W) (.agg (xs.map .p)) v := by
    rintro ⟨cs⟩ rfl
    have hc' : CellsP W xs cs := hc
    refine .agg _ cs (by simp [hc'.1]) (fun u hu => ?_) fun i x u hx hu => ?_
    · obtain ⟨i, hi, rfl⟩ := List.getElem_of_mem hu
      have hx := List.getElem?_eq_getElem (show i < xs.length by rw [hc'.1]; exact hi)
      exact (hc'.2 i _ _ hx (List.getElem?_eq_getElem hi)).1
    · simp only [List.getElem?_map, Option.map_eq_some_iff] at hx
      obtain ⟨x, hx, rfl⟩ := hx
      exact .p _ _ (by rw [ho]; exact (hc'.2 i x u hx hu).2)
  unfold ArgIs at hy
  split at hy
  · rename_i hu
    subst hy
    simp only [Value.okWide, hu] at hv
    obtain ⟨cs, rfl, _⟩ := hv
    exact agg cs rfl
  · rename_i hu
    subst hy
    simp only [Value.okWide, hu] at hv
    obtain ⟨cs, rfl, _⟩ := hv
    exact agg cs rfl
  · obtain ⟨x, rfl, rfl⟩ := hy
    have hl := hc.1
    have : v.cells = #[v] ∨ ∃ cs, v = .agg cs := by
      cases v <;> first | exact .inl rfl | exact .inr ⟨_, rfl⟩
    rcases this with h1 | ⟨cs, rfl⟩
    · rw [h1] at hc
      exact .p _ _ (by rw [ho]; exact (hc.2 0 x v rfl rfl).2)
    · rename_i h1 h2
      exfalso
      unfold Value.okWide at hv
      split at hv
      · exact h1 _ ‹_›
      · exact h2 _ _ ‹_›
      · simp [Cell.okWide, Cell.ok] at hv

/-- What is said of a list of arguments. -/
def ArgsAre (W : World) (vs : List Value) (ys : List IV) : Prop :=
  vs.length = ys.length ∧ ∀ (i : Nat) (y : IV) (v : Value), ys[i]? = some y → vs[i]? = some v → VRel (M0 W) y v

variable {H : Type} {enc : TypeId × Value → H} {W : World}

theorem trodAll_stays (hl : laidOutB P = true) {W' : World} (hb : Below W.heap.size W W') : ∀ {ts : List TypeId} {vs : List Value} {ds : List (DataW H)} {ps : List MemPlace},
    (∀ t ∈ ts, P.readableRec t = true ∧ t < P.types.size) → DataW.TrodAll enc P W 0 (fun _ => true) true ts vs ds ps → (∀ x ∈ ps, x.block < W.heap.size) →
    DataW.TrodAll enc P W' 0 (fun b => decide (b < W.heap.size)) true ts vs ds ps
  | [], [], [], ps, _, h, _ => h
  | t :: ts, v :: vs, d :: ds, ps, hr, h, hlt => by
    obtain ⟨p, q, h1, h2, rfl⟩ := h
    obtain ⟨r1, r2⟩ := hr t (List.mem_cons_self ..)
    exact ⟨p, q, Below.trod hl r1 r2 h1 hb (fun x hx => hlt x (List.mem_append_left _ hx)), trodAll_stays hl hb (fun t ht => hr t (List.mem_cons_of_mem _ ht)) h2 (fun x hx => hlt x (List.mem_append_right _ hx)), rfl⟩
  | [], [], _ :: _, _, _, h, _ => h.elim
  | [], _ :: _, _, _, _, h, _ => h.elim
  | _ :: _, [], _, _, _, h, _ => h.elim
  | _ :: _, _ :: _, [], _, _, h, _ => h.elim

/-- A law: whatever fits, the call answers true, and all stays. -/
theorem law_contract {f : FuncId} {fn : Func} {s : ChangeSpec} {tb : TypeId} (hl : laidOutB P = true) (hres : fn.resultTypes = #[tb]) (htb : P.underlying tb = some .bool)
    (hpar : fn.params.toList.all (fun t => P.readableRec t && decide (t < P.types.size)) = true) (hvars : s.vars = [])
    {args : Array Value} {ds gs : List (DataW H)} {before : List MemPlace} (hW : DataW.Whole enc P fn.params.toList s.vars false W args.toList ds gs before)
    (hspec : s.fn H (ds ++ []) = { results := [.lit (.bool true)], args := ds })
    {ivs : List IV} (hargs : ArgsAre W args.toList ivs) (hp : PCall P f ivs [] (scb true)) :
    Calls P f args W fun e W' => ∃ v, e = .returned v ∧ s.post enc P fn false true false false W args v W' := by
  have hM : HRel 0 [] (M0 W) := ⟨⟨fun _ _ h => (by cases h), fun _ _ h => (by cases h), fun _ _ _ _ _ _ _ _ _ h => (by cases h), fun _ hc => hc.elim, fun _ _ _ _ _ h => (by cases h)⟩, fun b h => h.elim, fun b => rfl⟩
  have hA := hp ⟨0, []⟩ (by simp) (M0 W) args.toList hM hargs.1 fun i y v hy hv => hargs.2 i y v hy hv
  refine Calls.mono (show Calls P f args (M0 W).w _ from hA) ?_
  rintro e W' ⟨M', nx', l', r, rfl, st, hh, he, rfl, rfl, rfl⟩
  obtain ⟨v, rfl, hv⟩ := he
  have := hv.sc_inv; subst this
  have hb : Below W.heap.size W M'.w := ⟨st.os, st.tape, st.output, st.size, fun k hk => (st.keep k hk (M0_own k)).1⟩
  have hW' := hW
  obtain ⟨p, q, hA, hV, rfl, _, _⟩ := hW
  rw [hvars] at hV
  obtain ⟨rfl, rfl⟩ := trodVars_none hV
  have hlt : ∀ x ∈ p, x.block < W.heap.size := fun x hx => by simpa using hW'.lt x (by simpa using hx)
  refine ⟨_, rfl, ds, [], p ++ [], [], p, [], hW', ?_, ?_, ?_, hb.frame _, fun h => by cases h⟩
  · rw [hspec, hres]; exact trodAll_mk1 (shut_bool htb true)
  · rw [hspec]
    exact trodAll_stays hl hb (fun t ht => by simpa using List.all_eq_true.1 hpar t ht) hA hlt
  · rw [hspec, hvars]; rfl

/-- All arguments of a call. -/
def ArgsOpen (P : Program) (ts : List TypeId) {γ : Type} (ivs : γ → List IV) (good : γ → Prop) : Prop :=
  ∀ {H : Type} (enc : TypeId × Value → H) (W : World) (base : Nat) (vs : List Value) (ds : List (DataW H)) (ps : List MemPlace),
    (∀ (j : Nat) (t : TypeId) (v : Value), ts[j]? = some t → vs[j]? = some v → Value.okWide P W .any base t v) → DataW.TrodAll enc P W 0 (fun _ => true) true ts vs ds ps →
    (∀ n ∈ DataW.weightsEach P ts ds, n ≤ reachBytes) → ∃ a, good a ∧ ArgsAre W vs (ivs a)
theorem argsOpen_nil : ArgsOpen P [] (fun _ : Unit => []) fun _ => True := by
  intro H enc W base vs ds ps _ h _
  cases vs with
  | nil => exact ⟨(), trivial, rfl, by simp⟩
  | cons v vs => cases ds <;> exact h.elim
theorem argsOpen_cons {γ : Type} {ts : List TypeId} {ivs : γ → List IV} {goodr : γ → Prop} {y : α → IV} (h : Opens P t f good) (ha : ∀ a, ArgIs P t (f a) (y a)) (hs : ArgsOpen P ts ivs goodr) :
    ArgsOpen P (t :: ts) (fun a : α × γ => y a.1 :: ivs a.2) fun a => good a.1 ∧ goodr a.2 := by
  intro H enc W base vs ds ps hok ht hw
  match vs, ds, ht with
  | v :: vs, d :: ds, ht =>
    obtain ⟨p, q, ⟨fuel, h1⟩, h2, -⟩ := ht
    obtain ⟨a, a1, a2⟩ := h enc W 0 _ _ fuel _ d p h1 fun n hn => hw n (by simp [DataW.weightsEach, hn])
    obtain ⟨b, b1, b2, b3⟩ := hs enc W base vs ds q (fun j t' v' ht' hv' => hok (j + 1) t' v' (by simpa using ht') (by simpa using hv')) h2 fun n hn => hw n (by simp [DataW.weightsEach, hn])
    refine ⟨(a, b), ⟨a1, b1⟩, by simp [b2], fun i z u hz hu => ?_⟩
    cases i with
    | zero => simp at hz hu; subst hz; subst hu; exact arg_rel (hok 0 t v rfl rfl) (ha a) a2
    | succ i => exact b3 i z u (by simpa using hz) (by simpa using hu)

/-- A law's row, but for its closed facts. -/
theorem law_lifted {C : Checked} {os : Os} (started : os.Started) {f : FuncId} {fn : Func} {s : ChangeSpec} {tb : TypeId} {H : Type} {enc : TypeId × Value → H} (own : ownKnob C.prog.godebug = none) (noInit : C.prog.inits.idxOf? f = none) (hfn : C.prog.funcs[f]? = some fn)
    (witness : ∃ (w : World) (tape : Tape) (i : Input), w.os = os ∧ (w.forCall tape i).Shaped C.prog ∧ i.vars = [] ∧ Input.okWide C.prog (w.forCall tape i) .any w.heap.size f i ∧
      s.pre6 enc C.prog fn [] false (w.forCall tape i).memory i.args ∧ ({} : Assume).holds C.prog (lone (Frame.enter C.prog f i.args .normal) [] (w.forCall tape i)))
    (hl : laidOutB C.prog = true) (hres : fn.resultTypes = #[tb]) (htb : C.prog.underlying tb = some .bool)
    (hpar : fn.params.toList.all (fun t => C.prog.readableRec t && decide (t < C.prog.types.size)) = true) (hvars : s.vars = [])
    (hspec : ∀ ds : List (DataW H), ds.length = fn.params.toList.length → s.fn H (ds ++ []) = { results := [.lit (.bool true)], args := ds })
    {γ : Type} {ivs : γ → List IV} {good : γ → Prop} (ho : ArgsOpen C.prog fn.params.toList ivs good) (hp : ∀ a, good a → PCall C.prog f (ivs a) [] (scb true)) :
    ReturnsInHanded {} C os f .any (s.pre6 enc C.prog fn [] false) (s.post enc C.prog fn false true false false) := by
  refine returnsInHanded_of_change_sized own started noInit hfn witness ?_
  intro W base args ds gs before hval hW _ hsz _
  have hW' := hW
  obtain ⟨p, q, hA, hV, rfl, _, _⟩ := hW
  rw [hvars] at hV
  obtain ⟨rfl, rfl⟩ := trodVars_none hV
  have hvt : s.plain.varTypes C.prog = [] := by
    have : s.plain.vars = s.vars := rfl
    simp [DataSpec.varTypes, this, hvars]
  rw [hvt, List.append_nil, List.append_nil] at hsz
  have hlen : ∀ {ts : List TypeId} {vs : List Value} {ds : List (DataW H)} {ps : List MemPlace}, DataW.TrodAll enc C.prog W 0 (fun _ => true) true ts vs ds ps → ds.length = ts.length := by
    intro ts
    induction ts with
    | nil => intro vs ds ps h; cases vs <;> cases ds <;> first | rfl | exact h.elim
    | cons t ts ih =>
      intro vs ds ps h
      cases vs with
      | nil => exact h.elim
      | cons v vs =>
        cases ds with
        | nil => exact h.elim
        | cons d ds => obtain ⟨_, _, _, h2, _⟩ := h; simp [ih h2]
  obtain ⟨a, a1, a2⟩ := ho enc W base args.toList ds p (fun j t v ht hv => hval j t v (by simpa using ht) (by simpa using hv)) hA fun n hn => by simpa using List.all_eq_true.1 hsz n hn
  exact law_contract hl hres htb hpar hvars hW' (hspec ds (hlen hA)) a2 (hp a a1)
end Go.Idl
