/-
  Regions that draw their order: soundness, and their walk.
-/
import Derived.Test.YtkbbafmaddkehaaIdU
namespace Go.Idl
variable {P : Program} {h0 : IH}

section
variable {ops : List Oper} {frs : List FR} {S S' : IState} {u : List (Option (List Nat))} {M0 M : Mem} {a : Act}

/-- What two operations that no order holds leave to each other. -/
theorem chk_apart (hst : Stat ops u) (hlen : frs.length = ops.length) (hc : chk u (frs.map FR.fp)) {i j : Nat} {fi fj : FR} (hf : Free ops i j) (hi : frs[i]? = some fi) (hj : frs[j]? = some fj) :
    ∀ p ∈ fj.W, (∀ q ∈ fi.R, q.1 ≠ p.1) ∧ ∀ q ∈ fi.W, q.1 ≠ p.1 := by
  intro p hp
  have hlt := lt_of_get hi
  obtain ⟨l, h1, h2⟩ := chkGo_spec hc (by simp [hst.len, hlen]) j fj.fp (by simp [hj]) (by simp only [FR.fp]; intro e; rw [List.map_eq_nil_iff] at e; rw [e] at hp; cases hp)
  have hmem := hst.un j i l h1 hf (by omega)
  have := apL_spec h2 i hmem fi.fp (by simp [hi]) p.1 (by simp only [FR.fp]; exact List.mem_map_of_mem hp)
  simp only [FR.fp, List.mem_map, not_exists, not_and] at this
  exact ⟨fun q hq => this.1 q hq, fun q hq => this.2 q hq⟩

theorem J.free {L : Nat → Bool} (hst : Stat ops u) (hJ : J M0 h0 ops frs S L M a) {i : Nat} {o : Oper} (ho : ops[i]? = some o) (hr : ∀ e ∈ o.after.toList, Region.binds .any e = true → L e.on = true) (hi : L i = false) :
    ∀ j, L j ≠ decide (j < i) → Free ops i j := by
  intro j hj
  have hne : i ≠ j := by rintro rfl; simp [hi] at hj
  have hlt : ∀ {x y}, Prec ops.toArray x y → x < y := fun h => h.lt hst.low
  have hcl : ∀ {x y}, Prec ops.toArray x y → (L y = true ∨ ∃ o, ops[y]? = some o ∧ ∀ e ∈ o.after.toList, Region.binds .any e = true → L e.on = true) → L x = true := fun h h' => h.listed hJ.closed h'
  refine ⟨hne, fun hb => ?_, fun hb => ?_⟩
  · have hp := hst.prec j i hb
    have := hlt hp
    have hj' : L j = true := by simpa [Nat.not_lt.2 (Nat.le_of_lt this)] using hj
    have := hcl hp (.inl hj')
    rw [hi] at this; cases this
  · have hp := hst.prec i j hb
    have h1 := hlt hp
    have := hcl hp (.inr ⟨o, ho, hr⟩)
    rw [this] at hj
    simp [h1] at hj

theorem J.step {L : Nat → Bool} (hst : Stat ops u) (hd : DSteps P h0 ops.toArray ops S frs S') (hc : chk u (frs.map FR.fp)) (hJ : J M0 h0 ops frs S L M a) {i : Nat} {o : Oper} (ho : ops[i]? = some o)
    (hr : ∀ e ∈ o.after.toList, Region.binds .any e = true → L e.on = true) (hi : L i = false) {K : Act → World → Prop} {Q : Exit → Act → World → Prop}
    (hK : ∀ M' a', J M0 h0 ops frs S (fun k => if k = i then true else L k) M' a' → K a' M'.w) : wpOp P ops.toArray Q i K a M.w := by
  obtain ⟨fr, hfr, hat⟩ := hd.at i o ho
  have hfree := hJ.free hst ho hr hi
  have hlen := hd.length
  have hslot : ∀ t, t ∈ o.looksAt ops.toArray → look (selS ops frs L S.s) t = look (selS ops frs (fun k => decide (k < i)) S.s) t := by
    intro t ht
    refine selS_agree rfl fun j oj hj hne e => ?_
    exact hst.looks i j o oj (hfree j hne) ho hj t e ht
  have hread : ∀ p ∈ fr.R, look (selL frs L S.l ++ h0.m) p.1 = some p.2 := by
    intro p hp
    rw [← hat.reads p hp, look_append, look_append]
    congr 1
    rw [selL_agree (l' := S.l) rfl fun j f hj hne q hq => ?_]
    exact fun e => ((chk_apart hst hlen hc (hfree j hne) hfr hj q hq).1 p hp) e.symm
  have hA : ∀ b, M.H.A b → b < S'.nx := by
    intro b hb
    rcases hJ.A b hb with h | ⟨j, f, _, hf, hb⟩
    · exact Nat.lt_of_lt_of_le h hd.nx
    · exact (hd.fresh.1 j f hf b hb).2
  have hM : HRel S'.nx (selL frs L S.l ++ h0.m) M := ⟨hJ.rel, hA, hJ.G⟩
  have hfresh : ∀ b ∈ fr.F, ¬ M.H.A b := by
    intro b hb hab
    obtain ⟨r1, _⟩ := hd.fresh.1 i fr hfr b hb
    rcases hJ.A b hab with h | ⟨j, f, hLj, hf, hb'⟩
    · omega
    · have hne : j ≠ i := by rintro rfl; rw [hi] at hLj; cases hLj
      rcases Nat.lt_or_gt_of_ne hne with h | h
      · have := hd.fresh.2 j i f fr h hf hfr b hb' b hb; omega
      · have := hd.fresh.2 i j fr f h hfr hf b hb b hb'; omega
  have hops : ∀ y ∈ o.op.operands, ∀ z, ev (selS ops frs (fun k => decide (k < i)) S.s) y = some z → VRel M z (a.eval y) := by
    intro y hy z hz
    refine ev_rel' hJ.slot (fun t ht => hslot t ?_) hz
    subst ht
    exact List.mem_append_left _ (List.mem_filterMap.2 ⟨.tmp t, by simpa using hy, rfl⟩)
  have hguard : ∀ j w d, o.guard = some (j, w) → (ops.toArray[j]?).bind (·.dst) = some d → look (selS ops frs L S.s) d = look (selS ops frs (fun k => decide (k < i)) S.s) d := by
    intro j w d hg hdd
    refine hslot d (List.mem_append_right _ ?_)
    rw [hg]
    simp only [hdd]
    simp
  -- what stands behind the operation
  have hnext : ∀ (v : Value) (M' : Mem), MStep M M' → MRel M' → M'.H = M.H.upd fr.W → VRel M' fr.x v → J M0 h0 ops frs S (fun k => if k = i then true else L k) M' (a.put o.dst v) := by
    intro v M' st rel hH hv
    have hdiff : ∀ j, (if j = i then true else L j) ≠ L j → j = i := by
      intro j h; by_cases e : j = i
      · exact e
      · rw [if_neg e] at h; exact absurd rfl h
    refine ⟨hJ.st.trans st, rel, fun b hb => ?_, fun b => ?_, ?_, fun t x hx => ?_, ?_, fun k ok hk hl e he hb => ?_⟩
    · rw [hH, upd_A] at hb
      rcases hb with hb | ⟨blk, hb⟩
      · rcases hJ.A b hb with h | ⟨j, f, h1, h2, h3⟩
        · exact .inl h
        · exact .inr ⟨j, f, by by_cases e : j = i <;> simp [e, h1], h2, h3⟩
      · rcases hat.new _ hb with h | ⟨blk', h⟩
        · exact .inr ⟨i, fr, by simp, hfr, h⟩
        · have h1 := hread _ h
          simp only at h1
          rw [← hJ.G] at h1
          rcases hJ.A b (hJ.rel.dom b _ h1) with h | ⟨j, f, h1, h2, h3⟩
          · exact .inl h
          · exact .inr ⟨j, f, by by_cases e : j = i <;> simp [e, h1], h2, h3⟩
    · rw [hH, upd_G, look_append]
      cases hw : look fr.W.reverse b with
      | some blk =>
        rw [selL_at (i := i) (by simp) hfr hw fun j f hj hlt hLj p hp e => ?_]
        have hLj' : L j = true := by simpa [show j ≠ i by omega] using hLj
        have hfj := hfree j (by rw [hLj']; simp; omega)
        have hq := look_mem hw
        exact (chk_apart hst hlen hc hfj hfr hj p hp).2 _ (by simpa using hq) e.symm
      | none =>
        rw [selL_agree (l' := S.l) (L' := L) rfl fun j f hj hne p hp e => ?_]
        · rw [hJ.G b, look_append]
        · have := hdiff j hne
          subst this
          rw [hfr] at hj; cases hj
          exact look_none hw p (by simpa using hp) e
    · cases hdst : o.dst with
      | none => exact hJ.size
      | some d => simp only [Act.put, Array.size_setIfInBounds]; exact hJ.size
    · by_cases e : o.dst = some t
      · rw [selS_at (i := i) (by simp) ho hfr e (fun j oj hj hne => hst.dst i j o oj (Ne.symm hne) ho hj t e)] at hx
        cases hx
        have hlt : t < a.tmps.size := by
          have := hat.dst
          rw [e] at this
          rw [hJ.size]; simpa [dOk] using this
        exact ⟨v, by rw [e]; simp [Act.put, hlt], hv⟩
      · rw [selS_agree (L' := L) (s' := S.s) rfl fun j oj hj hne => (by have := hdiff j hne; subst this; rw [ho] at hj; cases hj; exact e)] at hx
        obtain ⟨v', h1, h2⟩ := hJ.slot t x hx
        refine ⟨v', ?_, h2.step st⟩
        cases hdst : o.dst with
        | none => exact h1
        | some d =>
          simp only [Act.put]
          rw [Array.getElem?_setIfInBounds_ne (fun h => e (by rw [hdst, h]))]
          exact h1
    · have : (a.put o.dst v).defers = a.defers := by cases o.dst <;> rfl
      rw [this]
      exact hJ.defs.step st
    · by_cases ek : k = i
      · subst ek
        rw [ho] at hk; cases hk
        have := hr e he hb
        show (if e.on = k then true else L e.on) = true
        split <;> simp [this]
      · have hl' : L k = true := by simpa [ek] using hl
        have := hJ.closed k ok hk hl' e he hb
        show (if e.on = i then true else L e.on) = true
        split <;> simp [this]
  unfold wpOp
  simp only [List.getElem?_toArray, ho]
  rcases hat.does with ⟨hw, hl⟩ | ⟨hw, he⟩
  · rw [if_pos (want_rel' hJ.slot hguard hw)]
    exact .inl (hl S'.nx _ M a hM hread hfresh hops K Q fun v M' st rel hH hv => hK M' _ (hnext v M' st rel hH hv))
  · rw [want_rel' hJ.slot hguard hw]
    simp only [Bool.false_eq_true, if_false]
    refine hK M _ (hnext undef M (.refl M) hJ.rel (by rw [he]; rfl) (by rw [he]; exact skipV _))

theorem drawn_any (hst : Stat ops u) (hd : DSteps P h0 ops.toArray ops S frs S') (hc : chk u (frs.map FR.fp)) {Q : Exit → Act → World → Prop} (hQ : ∀ M a, MStep M0 M → SRel h0 S' M a → Q .normal a M.w) :
    ∀ (fuel : Nat) (listed : Array Bool) (M : Mem) (a : Act), listed.size = ops.length → (listed.toList.filter (· == true)).length + fuel = ops.length →
      J M0 h0 ops frs S (fun k => listed.getD k false) M a → wpAny P .any ops.toArray Q fuel listed a M.w := by
  have hgetD : ∀ (listed : Array Bool) (k : Nat), k < listed.size → listed.getD k true = listed.getD k false := by
    intro listed k hk; simp [hk]
  -- all are listed: the end
  have hend : ∀ (listed : Array Bool) (M : Mem) (a : Act), (∀ k, k < ops.length → listed.getD k false = true) → J M0 h0 ops frs S (fun k => listed.getD k false) M a → Q .normal a M.w := by
    intro listed M a hall hJ
    obtain ⟨l1, l2, l3, l4⟩ := hd.last
    have hlen := hd.length
    refine hQ M a hJ.st ⟨⟨hJ.rel, fun b hb => ?_, fun b => ?_⟩, by rw [l1]; exact hJ.size, fun t x hx => ?_, by rw [l2]; exact hJ.defs⟩
    · rcases hJ.A b hb with h | ⟨j, f, _, h2, h3⟩
      · exact Nat.lt_of_lt_of_le h hd.nx
      · exact (hd.fresh.1 j f h2 b h3).2
    · rw [hJ.G b, l4, look_append, look_append]
      congr 1
      exact selL_agree rfl fun j f hj hne => absurd (hall j (by have := lt_of_get hj; omega)) hne
    · rw [l3] at hx
      refine hJ.slot t x ?_
      rw [← hx]
      exact selS_agree rfl fun j o hj hne => absurd (hall j (lt_of_get hj)) hne
  have hready : ∀ (listed : Array Bool), listed.size = ops.length → Region.ready .any ops.toArray listed = [] → ∀ k, k < ops.length → listed.getD k false = true := by
    intro listed hs hr k
    induction k using Nat.strongRecOn with
    | ind k ih =>
      intro hk
      cases hl : listed.getD k false with
      | true => rfl
      | false =>
        exfalso
        have : k ∈ Region.ready .any ops.toArray listed := by
          rw [mem_ready]
          refine ⟨by rw [hgetD listed k (by omega)]; exact hl, ops[k], by simp [hk], fun e he hb => ?_⟩
          have hlow := hst.low k ops[k] (by simp [hk]) e (by simpa using he) hb
          exact ih e.on hlow (by omega)
        rw [hr] at this
        cases this
  have hcount : ∀ (l : List Bool), (l.filter (· == true)).length = l.length → ∀ k, k < l.length → (l[k]?).getD false = true := by
    intro l
    induction l with
    | nil => intro _ k hk; simp at hk
    | cons b l ih =>
      intro h k hk
      have hle := List.length_filter_le (· == true) l
      cases b with
      | true =>
        simp only [List.filter_cons, beq_self_eq_true, if_true, List.length_cons] at h
        cases k with
        | zero => simp
        | succ k => simpa using ih (by omega) k (by simpa using hk)
      | false =>
        simp at h
        simp at hle
        omega
  have hset : ∀ (l : List Bool) (i : Nat), l[i]? = some false → ((l.set i true).filter (· == true)).length = (l.filter (· == true)).length + 1 := by
    intro l
    induction l with
    | nil => intro i h; simp at h
    | cons b l ih =>
      intro i h
      cases i with
      | zero => simp at h; subst h; simp
      | succ i =>
        have := ih i (by simpa using h)
        simp only [List.set_cons_succ, List.filter_cons]
        split <;> simp_all
  intro fuel
  induction fuel with
  | zero =>
    intro listed M a hs hn hJ
    have hall : ∀ k, k < ops.length → listed.getD k false = true := by
      intro k hk
      have := hcount listed.toList (by simpa [hs] using hn) k (by simpa [hs] using hk)
      simpa using this
    refine ⟨?_, hend listed M a hall hJ⟩
    cases hr : Region.ready .any ops.toArray listed with
    | nil => rfl
    | cons k r =>
      exfalso
      have hk : k ∈ Region.ready .any ops.toArray listed := by rw [hr]; simp
      obtain ⟨h1, o, ho, _⟩ := mem_ready.1 hk
      have hlt : k < ops.length := by simp only [List.getElem?_toArray] at ho; exact lt_of_get ho
      rw [hgetD listed k (by omega), hall k hlt] at h1
      cases h1
  | succ fuel ih =>
    intro listed M a hs hn hJ
    refine ⟨fun hr => hend listed M a (hready listed hs hr) hJ, fun i hi => ?_⟩
    obtain ⟨h1, o, ho, hre⟩ := mem_ready.1 hi
    simp only [List.getElem?_toArray] at ho
    have hlt := lt_of_get ho
    have hfalse : listed.getD i false = false := by rw [← hgetD listed i (by omega)]; exact h1
    refine hJ.step hst hd hc ho (fun e he hb => hre e (by simpa using he) hb) hfalse fun M' a' hJ' => ?_
    refine ih _ M' a' (by simpa using hs) ?_ ?_
    · have hb : listed.toList[i]? = some false := by
        have hi' : i < listed.size := by omega
        simp [hi'] at hfalse
        simp [hi', hfalse]
      have := hset listed.toList i hb
      simp only [Array.toList_setIfInBounds]
      omega
    · have : (fun k => (listed.setIfInBounds i true).getD k false) = fun k => if k = i then true else listed.getD k false := by
        funext k
        by_cases e : k = i
        · subst e
          have hi' : k < listed.size := by omega
          simp [hi']
        · rw [getD_set_ne false (Ne.symm e), if_neg e]
      rw [this]
      exact hJ'

theorem irun_drawn {id : Nat} {k : List It} {Q : Exit → IState → Prop} (hm : P.follows .mixedOrders = true) (hst : stat ops u = true) (hd : DSteps P h0 ops.toArray ops S frs S') (hc : chk u (frs.map FR.fp))
    (h : IRun P h0 k S' Q) : IRun P h0 (.code (.region id ops.toArray true) :: k) S Q := by
  intro M0 hM0 M a hs hr
  refine wp_region_any hm ?_
  have := drawn_any (M0 := M0) (stat_spec hst) hd hc (Q := IPost h0 M0 fun e S => after P h0 Q k e S) (fun M' a' st hrel => ⟨M', S', rfl, st, hrel, h⟩) ops.length (Array.replicate ops.length false)
    { M with w := M.w.drew } a (by simp) (by simp) ?_
  · simp only [List.size_toArray]
    exact this
  · have hsel : (fun k => (Array.replicate ops.length false).getD k false) = fun _ => false := by
      funext k
      simp only [Array.getD_eq_getD_getElem?, Array.getElem?_replicate]
      split <;> rfl
    rw [hsel]
    exact ⟨hs.trans (.drew M), hr.heap.rel.drew, fun b hb => .inl (hr.heap.A b hb), fun b => (by rw [selL_none]; exact hr.heap.G b), hr.size,
      fun t x hx => (by rw [selS_none] at hx; obtain ⟨v, h1, h2⟩ := hr.slot t x hx; exact ⟨v, h1, h2.step (.drew M)⟩), hr.defs.step (.drew M), fun i o ho hl => (by cases hl)⟩
end

/-! ### the walk -/
def DRun (P : Program) (h0 : IH) (all : Array Oper) (l : List Oper) (S : IState) (acc : List FP) (K : IState → List FP → Prop) : Prop :=
  ∃ frs S', DSteps P h0 all l S frs S' ∧ K S' (acc ++ frs.map FR.fp)

theorem drun_nil {all : Array Oper} {S : IState} {acc : List FP} {K : IState → List FP → Prop} (h : K S acc) : DRun P h0 all [] S acc K := ⟨[], S, .nil S, by simpa using h⟩
theorem drun_op {all : Array Oper} {o : Oper} {r : List Oper} {S : IState} {acc : List FP} {K : IState → List FP → Prop} {fr : FR} (hw : iwant all S.s o = some true)
    (hf : fop P (ev S.s) (look (S.l ++ h0.m)) S.nx o.op = some fr) (hd : dOk S.n o.dst = true)
    (h : DRun P h0 all r ⟨S.n, putS o.dst fr.x S.s, S.d, S.nx + fr.F.length, fr.W.reverse ++ S.l⟩ (acc ++ [fr.fp]) K) : DRun P h0 all (o :: r) S acc K := by
  obtain ⟨frs, S', h1, h2⟩ := h
  obtain ⟨hdo, hfit⟩ := fop_sound hf
  exact ⟨fr :: frs, S', .op hw (FDoes.loc hdo) hfit hd h1, by simpa using h2⟩
theorem drun_skip {all : Array Oper} {o : Oper} {r : List Oper} {S : IState} {acc : List FP} {K : IState → List FP → Prop} (hw : iwant all S.s o = some false) (hd : dOk S.n o.dst = true)
    (h : DRun P h0 all r ⟨S.n, putS o.dst (.tup []) S.s, S.d, S.nx, S.l⟩ (acc ++ [([], [])]) K) : DRun P h0 all (o :: r) S acc K := by
  obtain ⟨frs, S', h1, h2⟩ := h
  exact ⟨_ :: frs, S', .skip hw hd h1, by simpa [FR.fp] using h2⟩
theorem drun_call {all : Array Oper} {dst : Option Tmp} {ty : TypeId} {pos : String} {aft : Array Edge} {g : Option (Nat × Bool)} {r : List Oper} {S : IState} {acc : List FP} {K : IState → List FP → Prop} {f : Operand} {args : List Operand} {ts : Array TypeId} {n : FuncId} {zs : List IV} {x : IV} {R : List (Nat × IBlk)}
    (hw : iwant all S.s ⟨dst, .call { callee := .value f, args := ⟨args⟩, argTypes := ts }, ty, pos, aft, g⟩ = some true) (hc : icallee (ev S.s) f args = some (n, zs)) (hn : fnOk P n = true) (hd : dOk S.n dst = true)
    (hR : ∀ p ∈ R, look (S.l ++ h0.m) p.1 = some p.2) (hp : PCall P n zs R x) (hx : bel 0 x)
    (h : DRun P h0 all r ⟨S.n, putS dst x S.s, S.d, S.nx, S.l⟩ (acc ++ [(R.map (·.1), [])]) K) :
    DRun P h0 all (⟨dst, .call { callee := .value f, args := ⟨args⟩, argTypes := ts }, ty, pos, aft, g⟩ :: r) S acc K := by
  obtain ⟨frs, S', h1, h2⟩ := h
  refine ⟨{ x, R } :: frs, S', .op hw (PCall.loc rfl hc hn hx hp) ⟨hR, .inl ⟨rfl, by simp⟩⟩ hd ?_, by simpa [FR.fp] using h2⟩
  simpa using h1

def dvc (P : Program) (h0 : IH) (all : Array Oper) (K : IState → List FP → Prop) : List Oper → IState → List FP → Prop
  | [], S, acc => K S acc
  | ⟨dst, op, ty, pos, aft, none⟩ :: r, S, acc =>
    onSome (fop P (ev S.s) (look (S.l ++ h0.m)) S.nx op)
      (fun fr => if dOk S.n dst then dvc P h0 all K r ⟨S.n, putS dst fr.x S.s, S.d, S.nx + fr.F.length, fr.W.reverse ++ S.l⟩ (acc ++ [fr.fp]) else False)
      (DRun P h0 all (⟨dst, op, ty, pos, aft, none⟩ :: r) S acc K)
  | ⟨dst, op, ty, pos, aft, some g⟩ :: r, S, acc =>
    onSome (iwant all S.s ⟨dst, op, ty, pos, aft, some g⟩)
      (fun b => onBool b
        (onSome (fop P (ev S.s) (look (S.l ++ h0.m)) S.nx op)
          (fun fr => if dOk S.n dst then dvc P h0 all K r ⟨S.n, putS dst fr.x S.s, S.d, S.nx + fr.F.length, fr.W.reverse ++ S.l⟩ (acc ++ [fr.fp]) else False)
          (DRun P h0 all (⟨dst, op, ty, pos, aft, some g⟩ :: r) S acc K))
        (if dOk S.n dst then dvc P h0 all K r ⟨S.n, putS dst (.tup []) S.s, S.d, S.nx, S.l⟩ (acc ++ [([], [])]) else False))
      (DRun P h0 all (⟨dst, op, ty, pos, aft, some g⟩ :: r) S acc K)

theorem dvc_op {all : Array Oper} {o : Oper} {r : List Oper} {S : IState} {acc : List FP} {K : IState → List FP → Prop} (hw : iwant all S.s o = some true)
    (ih : ∀ S acc, dvc P h0 all K r S acc → DRun P h0 all r S acc K)
    (h : onSome (fop P (ev S.s) (look (S.l ++ h0.m)) S.nx o.op)
      (fun fr => if dOk S.n o.dst then dvc P h0 all K r ⟨S.n, putS o.dst fr.x S.s, S.d, S.nx + fr.F.length, fr.W.reverse ++ S.l⟩ (acc ++ [fr.fp]) else False)
      (DRun P h0 all (o :: r) S acc K)) : DRun P h0 all (o :: r) S acc K := by
  cases hf : fop P (ev S.s) (look (S.l ++ h0.m)) S.nx o.op with
  | none => rw [hf] at h; exact h
  | some fr =>
    rw [hf, onSome_some] at h
    split at h
    · rename_i hd
      exact drun_op hw hf hd (ih _ _ h)
    · exact h.elim

theorem dvc_sound {all : Array Oper} {K : IState → List FP → Prop} : ∀ (l : List Oper) (S : IState) (acc : List FP), dvc P h0 all K l S acc → DRun P h0 all l S acc K := by
  intro l
  induction l with
  | nil => intro S acc h; exact drun_nil h
  | cons o r ih =>
    intro S acc h
    obtain ⟨dst, op, ty, pos, aft, g⟩ := o
    cases g with
    | none => exact dvc_op rfl ih h
    | some g =>
      simp only [dvc] at h
      cases hw : iwant all S.s ⟨dst, op, ty, pos, aft, some g⟩ with
      | none => rw [hw, onSome_none] at h; exact h
      | some b =>
        rw [hw, onSome_some] at h
        cases b with
        | true => exact dvc_op hw ih h
        | false =>
          simp only [onBool, Bool.false_eq_true, if_false] at h
          split at h
          · rename_i hd
            exact drun_skip hw hd (ih _ _ h)
          · exact h.elim

/-- A region that draws its order, as the walk takes it. -/
theorem irun_walk {ops : List Oper} {id n : Nat} {k : List It} {S : IState} {Q : Exit → IState → Prop} (u : List (Option (List Nat))) (hm : P.follows .mixedOrders = true) (hst : stat ops u = true)
    (h : dvc P h0 ops.toArray (fun S' fps => chk u fps ∧ vc P h0 Q n k S') ops S []) : IRun P h0 (.code (.region id ops.toArray true) :: k) S Q := by
  obtain ⟨frs, S', h1, h2, h3⟩ := dvc_sound _ _ _ h
  exact irun_drawn hm hst h1 (by simpa using h2) (vc_sound Q n k S' h3)

end Go.Idl
