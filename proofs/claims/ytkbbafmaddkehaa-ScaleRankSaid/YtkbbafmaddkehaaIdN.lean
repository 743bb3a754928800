/-
  Running code from a state of the ideal machine: the judgements and their rules.
-/
import Derived.Test.YtkbbafmaddkehaaIdM
namespace Go.Idl
variable {P : Program} {h0 : IH}

def IPost (h0 : IH) (M0 : Mem) (Q : Exit → IState → Prop) (e : Exit) (a' : Act) (w' : World) : Prop :=
  ∃ M' S', M'.w = w' ∧ MStep M0 M' ∧ SRel h0 S' M' a' ∧ Q e S'

def ICode (P : Program) (h0 : IH) (c : Code) (S : IState) (Q : Exit → IState → Prop) : Prop :=
  ∀ M0, HRel h0.nx h0.m M0 → ∀ M a, MStep M0 M → SRel h0 S M a → c.wp P (IPost h0 M0 Q) a M.w

def IOps (P : Program) (h0 : IH) (all : Array Oper) (l : List Oper) (S : IState) (Q : Exit → IState → Prop) : Prop :=
  ∀ M0, HRel h0.nx h0.m M0 → ∀ M a, MStep M0 M → SRel h0 S M a → wpList P all (IPost h0 M0 Q) l a M.w

inductive IEnd where
  | ret (x : IV)
  | pan (chain : List PanicEntry)
def EndRel (M : Mem) : IEnd → Ending → Prop
  | .ret x, e => ∃ v, e = .returned v ∧ VRel M x v
  | .pan ch, e => e = .panicked ch

/-- A call of a Go function, at any memory that the ideal one tells of. -/
def ICall (P : Program) (f : FuncId) (args : List IV) (h : IH) (Q : IEnd → Nat → List (Nat × IBlk) → Prop) : Prop :=
  ∀ (M : Mem) (vs : List Value), HRel h.nx h.m M → vs.length = args.length → (∀ (i : Nat) (x : IV) (v : Value), args[i]? = some x → vs[i]? = some v → VRel M x v) →
    Calls P f ⟨vs⟩ M.w fun e w' => ∃ M' nx' l' r, M'.w = w' ∧ MStep M M' ∧ HRel nx' (l' ++ h.m) M' ∧ EndRel M' r e ∧ Q r nx' l'

theorem ICall.mono {f : FuncId} {args : List IV} {h : IH} {Q Q' : IEnd → Nat → List (Nat × IBlk) → Prop} (hc : ICall P f args h Q) (hq : ∀ r nx l, Q r nx l → Q' r nx l) : ICall P f args h Q' := by
  intro M vs hM hl hr
  exact (hc M vs hM hl hr).mono fun e w' ⟨M', nx', l', r, h1, h2, h3, h4, h5⟩ => ⟨M', nx', l', r, h1, h2, h3, h4, hq _ _ _ h5⟩

/-! ### operations -/
theorem iops_nil {all : Array Oper} {S : IState} {Q : Exit → IState → Prop} (h : Q .normal S) : IOps P h0 all [] S Q :=
  fun _ _ M _ hs hr => wpList_nil ⟨M, S, rfl, hs, hr, h⟩

def iyield (all : Array Oper) (s : List (Nat × IV)) (j : Nat) : Option (Option Bool) :=
  match (all[j]?).bind (·.dst) with
  | some d => match look s d with
    | some (.p (.sc (.bool b))) => some (some b)
    | some (.tup []) => some none
    | _ => none
  | none => none
def ywant : Option Bool → Bool → Bool
  | some b, w => b == w
  | none, _ => false
def iwant (all : Array Oper) (s : List (Nat × IV)) (o : Oper) : Option Bool :=
  match o.guard with
  | none => some true
  | some (j, want) => (iyield all s j).map fun b => ywant b want

theorem want_rel {all : Array Oper} {S : IState} {M : Mem} {a : Act} (h : SRel h0 S M a) {o : Oper} {b : Bool} (hw : iwant all S.s o = some b) : Region.wanted o (yielded all a.tmps) = b := by
  unfold iwant at hw
  unfold Region.wanted
  split at hw
  · rename_i hg
    simp only [Option.some.injEq] at hw; subst hw
    simp [hg]
  · rename_i j want hg
    simp only [Option.map_eq_some_iff] at hw
    obtain ⟨t, ht, rfl⟩ := hw
    simp only [hg]
    unfold iyield at ht
    split at ht
    · rename_i d hd
      split at ht
      · rename_i t' hl
        simp only [Option.some.injEq] at ht; subst ht
        obtain ⟨v, h1, h2⟩ := h.slot d _ hl
        have := h2.sc_inv; subst this
        have hy : yielded all a.tmps j = some t' := by
          simp only [yielded, hd, Option.bind_some, h1]
        rw [hy]
        cases t' <;> cases want <;> rfl
      · rename_i hl
        simp only [Option.some.injEq] at ht; subst ht
        obtain ⟨v, h1, h2⟩ := h.slot d _ hl
        cases h2 with
        | tup cs vs hl' r =>
          have hy : yielded all a.tmps j = none := by
            simp only [yielded, hd, Option.bind_some, h1]
          rw [hy]
          cases want <;> rfl
      · cases ht
    · cases ht

theorem fits_dom {fr : FR} {nx : Nat} {m : List (Nat × IBlk)} {M : Mem} (hM : HRel nx m M) (h : fr.fits (look m) nx) :
    ∀ b, (b < nx ∨ ∃ blk, (b, blk) ∈ fr.W) → b < nx + fr.F.length := by
  intro b hb
  rcases hb with hb | ⟨blk, hb⟩
  · omega
  · rcases h.new with ⟨hF, hW⟩ | ⟨hF, blk, hW⟩
    · obtain ⟨blk', hb'⟩ := hW _ hb
      have := h.reads _ hb'
      simp only at this
      rw [← hM.G b] at this
      have := hM.A b (hM.rel.dom b _ this)
      omega
    · rw [hW] at hb
      simp only [List.mem_cons, Prod.mk.injEq, List.not_mem_nil, or_false] at hb
      rw [hF, hb.1]
      simp

theorem iops_op {all : Array Oper} {o : Oper} {r : List Oper} {S : IState} {Q : Exit → IState → Prop} {fr : FR} (hw : iwant all S.s o = some true)
    (hf : fop P (ev S.s) (look (S.l ++ h0.m)) S.nx o.op = some fr) (hd : dstOk S o.dst = true)
    (h : IOps P h0 all r (S.put o.dst fr.x (S.nx + fr.F.length) fr.W.reverse) Q) : IOps P h0 all (o :: r) S Q := by
  intro M0 hM0 M a hs hr
  obtain ⟨hdo, hfit⟩ := fop_sound hf
  refine wpList_step fun K hK => ?_
  rw [if_pos (want_rel hr hw)]
  refine hdo M a hr.heap.rel (fun p hp => by rw [hr.heap.G]; exact hfit.reads p hp) (fun b hb => ?_) (fun y _ z hz => ev_rel hr.slot hz) K _ fun v M' st rel hH hv => ?_
  · rcases hfit.new with ⟨hF, _⟩ | ⟨hF, _⟩
    · rw [hF] at hb; cases hb
    · rw [hF] at hb
      simp only [List.mem_cons, List.not_mem_nil, or_false] at hb
      subst hb
      exact fun hb => Nat.lt_irrefl _ (hr.heap.A _ hb)
  · refine hK _ _ (h M0 hM0 M' _ (hs.trans st) (hr.step st hd hv ?_))
    have := hr.heap.upd rel hH (S.nx + fr.F.length) (fits_dom hr.heap hfit)
    rw [List.append_assoc]
    exact this

theorem skipV (M : Mem) : VRel M (.tup []) undef := .tup [] [] rfl (fun i x v h => by simp at h)
theorem iops_skip {all : Array Oper} {o : Oper} {r : List Oper} {S : IState} {Q : Exit → IState → Prop} (hw : iwant all S.s o = some false) (hd : dstOk S o.dst = true)
    (h : IOps P h0 all r (S.put o.dst (.tup []) S.nx []) Q) : IOps P h0 all (o :: r) S Q := by
  intro M0 hM0 M a hs hr
  refine wpList_step fun K hK => ?_
  rw [want_rel hr hw]
  exact hK _ _ (h M0 hM0 M _ hs (hr.step (.refl M) hd (skipV M) hr.heap))

/-- Whom a call calls, and with what. -/
def icallee (ρ : Operand → Option IV) (f : Operand) (args : List Operand) : Option (FuncId × List IV) :=
  match ρ f, rlist ρ args with
  | some (.p (.sc (.func (.func n) ⟨[]⟩ ⟨[]⟩))), some zs => some (n, zs)
  | some (.clo (.func n) first cap), some zs => some (n, first ++ zs ++ cap)
  | _, _ => none

def fnOk (P : Program) (n : FuncId) : Bool :=
  match P.funcs[n]? with
  | some fn => fn.name != "runtime.NumGoroutine" && fn.body.isSome
  | none => false

theorem run_callFunc {n : FuncId} (h : fnOk P n = true) (args : Array Value) (w : World) : (callFunc n args).run P w = .ok (.enter n args) w := by
  unfold fnOk at h
  cases hf : P.funcs[n]? with
  | none => simp [hf] at h
  | some fn =>
    simp only [hf, Bool.and_eq_true, bne_iff_ne, ne_eq] at h
    obtain ⟨h1, h2⟩ := h
    cases hb : fn.body with
    | none => simp [hb] at h2
    | some c => simp [callFunc, hf, h1, hb]

theorem append_rel {M : Mem} {xs ys : List IV} {us vs : List Value} (hl : us.length = xs.length) (h1 : ∀ (i : Nat) (x : IV) (v : Value), xs[i]? = some x → us[i]? = some v → VRel M x v)
    (h2 : ∀ (i : Nat) (x : IV) (v : Value), ys[i]? = some x → vs[i]? = some v → VRel M x v) :
    ∀ (i : Nat) (x : IV) (v : Value), (xs ++ ys)[i]? = some x → (us ++ vs)[i]? = some v → VRel M x v := by
  intro i x v hx hv
  rw [List.getElem?_append] at hx hv
  rw [hl] at hv
  split at hx
  · rename_i hi; rw [if_pos hi] at hv; exact h1 i x v hx hv
  · rename_i hi; rw [if_neg hi] at hv; exact h2 _ x v hx hv

/-- A call as an operation: entered with values that stand to the ideal ones. -/
theorem run_icall {o : Oper} {f : Operand} {args : List Operand} {ts : Array TypeId} {n : FuncId} {zs : List IV} {S : IState} {M : Mem} {a : Act} (hr : SRel h0 S M a)
    (ho : o.op = .call { callee := .value f, args := ⟨args⟩, argTypes := ts }) (hc : icallee (ev S.s) f args = some (n, zs)) (hn : fnOk P n = true) :
    ∃ vs : List Value, (execOp a.eval o).run P M.w = .ok (.enter n ⟨vs⟩) M.w ∧ vs.length = zs.length ∧ ∀ (i : Nat) (x : IV) (v : Value), zs[i]? = some x → vs[i]? = some v → VRel M x v := by
  unfold icallee at hc
  split at hc
  · rename_i n' zs' hf ha
    simp only [Option.some.injEq, Prod.mk.injEq] at hc
    obtain ⟨rfl, rfl⟩ := hc
    have e := (ev_rel hr.slot hf).sc_inv
    obtain ⟨l1, l2⟩ := rlist_rel (M := M) (a := a) ha fun y _ z hz => ev_rel hr.slot hz
    refine ⟨args.map a.eval, ?_, l1, l2⟩
    simp only [execOp, ho, resolve, e, Deferred.ofValue, Sem.run_bind, Sem.run_pure, Result.andThen_ok, invoke]
    rw [run_callFunc hn]
    simp
  · rename_i n' first cap zs' hf ha
    simp only [Option.some.injEq, Prod.mk.injEq] at hc
    obtain ⟨rfl, rfl⟩ := hc
    have hv := ev_rel hr.slot hf
    obtain ⟨l1, l2⟩ := rlist_rel (M := M) (a := a) ha fun y _ z hz => ev_rel hr.slot hz
    generalize hq : a.eval f = q at hv
    cases hv with
    | clo fn first cap vf vc lf lc rf rc =>
      refine ⟨vf ++ args.map a.eval ++ vc, ?_, by simp only [List.length_append, lf, lc, l1], append_rel (by simp only [List.length_append, lf, l1]) (append_rel lf rf l2) rc⟩
      simp only [execOp, ho, resolve, hq, Deferred.ofValue, Sem.run_bind, Sem.run_pure, Result.andThen_ok, invoke]
      rw [run_callFunc hn]
      simp
  · cases hc

theorem iops_call {all : Array Oper} {o : Oper} {r : List Oper} {S : IState} {Q : Exit → IState → Prop} {f : Operand} {args : List Operand} {ts : Array TypeId} {n : FuncId} {zs : List IV}
    (ho : o.op = .call { callee := .value f, args := ⟨args⟩, argTypes := ts }) (hw : iwant all S.s o = some true) (hc : icallee (ev S.s) f args = some (n, zs)) (hn : fnOk P n = true) (hd : dstOk S o.dst = true)
    (h : ICall P n zs ⟨S.nx, S.l ++ h0.m⟩ fun e nx' l' => match e with
      | .ret x => IOps P h0 all r (S.put o.dst x nx' l') Q
      | .pan ch => Q (.panic ch) { S with nx := nx', l := l' ++ S.l }) : IOps P h0 all (o :: r) S Q := by
  intro M0 hM0 M a hs hr
  refine wpList_step fun K hK => ?_
  rw [if_pos (want_rel hr hw)]
  obtain ⟨vs, hrun, hl, hv⟩ := run_icall (P := P) hr ho hc hn
  unfold Oper.wp
  rw [hrun]
  refine Calls.mono (h M vs hr.heap hl hv) fun e w' ⟨M', nx', l', re, e1, st, hh, he, hq⟩ => ?_
  cases re with
  | ret x =>
    obtain ⟨v, rfl, hv⟩ := he
    subst e1
    exact hK _ _ (hq M0 hM0 M' _ (hs.trans st) (hr.step st hd hv (by rw [List.append_assoc]; exact hh)))
  | pan ch =>
    simp only [EndRel] at he
    subst he
    refine ⟨M', { S with nx := nx', l := l' ++ S.l }, e1, hs.trans st, ⟨by simp only [List.append_assoc]; exact hh, hr.size, fun i x hi => (by obtain ⟨u, h1, h2⟩ := hr.slot i x hi; exact ⟨u, h1, h2.step st⟩), hr.defs.step st⟩, hq⟩

/-- The text's own panic, of a value without addresses. -/
theorem iops_panic {all : Array Oper} {o : Oper} {r : List Oper} {S : IState} {Q : Exit → IState → Prop} {x : Operand} {t : TypeId} {v : Value} (ho : o.op = .panic x) (hw : iwant all S.s o = some true)
    (hx : ev S.s x = some (.p (.sc (.iface t v)))) (h : Q (.panic [{ v := .iface t v, recovered := false }]) S) : IOps P h0 all (o :: r) S Q := by
  intro M0 hM0 M a hs hr
  refine wpList_step fun K hK => ?_
  rw [if_pos (want_rel hr hw)]
  have e := (ev_rel hr.slot hx).sc_inv
  unfold Oper.wp
  have hrun : (execOp a.eval o).run P M.w = .halt (.panic (.iface t v)) M.w := by
    simp only [execOp, ho, e, Instr.panic]
    simp
  rw [hrun]
  exact ⟨M, S, rfl, hs, hr, h⟩

/-! ### code -/
inductive It where
  | code (c : Code)
  | blk (id : Nat)
  | ops (all : Array Oper) (l : List Oper)

def after (P : Program) (h0 : IH) (Q : Exit → IState → Prop) : List It → Exit → IState → Prop
  | [], e, S => Q e S
  | .blk id :: k, e, S => match e with
    | .exit i => if i = id then after P h0 Q k .normal S else after P h0 Q k (.exit i) S
    | e => after P h0 Q k e S
  | .code c :: k, e, S => match e with
    | .normal => ICode P h0 c S fun e' S' => after P h0 Q k e' S'
    | e => after P h0 Q k e S
  | .ops all l :: k, e, S => match e with
    | .normal => IOps P h0 all l S fun e' S' => after P h0 Q k e' S'
    | e => after P h0 Q k e S

def IRun (P : Program) (h0 : IH) (k : List It) (S : IState) (Q : Exit → IState → Prop) : Prop := after P h0 Q k .normal S

section
variable {k : List It} {S : IState} {Q : Exit → IState → Prop}

theorem ICode.mono {c : Code} {Q' : Exit → IState → Prop} (h : ICode P h0 c S Q) (hq : ∀ e S, Q e S → Q' e S) : ICode P h0 c S Q' :=
  fun M0 hM0 M a hs hr => wp_mono (h M0 hM0 M a hs hr) fun _ _ _ ⟨M', S', h1, h2, h3, h4⟩ => ⟨M', S', h1, h2, h3, hq _ _ h4⟩

theorem irun_nil (h : Q .normal S) : IRun P h0 [] S Q := h
theorem irun_blk {id : Nat} (h : IRun P h0 k S Q) : IRun P h0 (.blk id :: k) S Q := h
theorem irun_skip (h : IRun P h0 k S Q) : IRun P h0 (.code .skip :: k) S Q :=
  fun _ _ M _ hs hr => wp_skip ⟨M, S, rfl, hs, hr, h⟩
theorem irun_label {l : Nat} (h : IRun P h0 k S Q) : IRun P h0 (.code (.label l) :: k) S Q :=
  fun _ _ M _ hs hr => wp_label ⟨M, S, rfl, hs, hr, h⟩
theorem irun_seq {x y : Code} (h : IRun P h0 (.code x :: .code y :: k) S Q) : IRun P h0 (.code (.seq x y) :: k) S Q := by
  intro M0 hM0 M a hs hr
  refine wp_seq (wp_mono (h M0 hM0 M a hs hr) ?_)
  rintro e a' w' ⟨M', S', rfl, h2, h3, h4⟩
  cases e with
  | normal => exact h4 M0 hM0 M' a' h2 h3
  | exit i => exact ⟨M', S', rfl, h2, h3, h4⟩
  | goto i => exact ⟨M', S', rfl, h2, h3, h4⟩
  | ret => exact ⟨M', S', rfl, h2, h3, h4⟩
  | panic c => exact ⟨M', S', rfl, h2, h3, h4⟩
  | outgrown => exact ⟨M', S', rfl, h2, h3, h4⟩
theorem irun_block {id : Nat} {c : Code} (h : IRun P h0 (.code c :: .blk id :: k) S Q) : IRun P h0 (.code (.block id c) :: k) S Q := by
  intro M0 hM0 M a hs hr
  refine wp_block (wp_mono (h M0 hM0 M a hs hr) ?_)
  rintro e a' w' ⟨M', S', rfl, h2, h3, h4⟩
  cases e with
  | exit i =>
    simp only [Exit.inBlock]
    simp only [after] at h4
    split
    · rename_i hi
      rw [if_pos hi] at h4
      exact ⟨M', S', rfl, h2, h3, h4⟩
    · rename_i hi
      rw [if_neg hi] at h4
      exact ⟨M', S', rfl, h2, h3, h4⟩
  | normal => exact ⟨M', S', rfl, h2, h3, h4⟩
  | goto i => exact ⟨M', S', rfl, h2, h3, h4⟩
  | ret => exact ⟨M', S', rfl, h2, h3, h4⟩
  | panic c => exact ⟨M', S', rfl, h2, h3, h4⟩
  | outgrown => exact ⟨M', S', rfl, h2, h3, h4⟩
theorem irun_exit {id : Nat} (h : after P h0 Q k (.exit id) S) : IRun P h0 (.code (.exit id) :: k) S Q :=
  fun _ _ M _ hs hr => wp_exit ⟨M, S, rfl, hs, hr, h⟩
theorem irun_ret (h : after P h0 Q k .ret S) : IRun P h0 (.code .ret :: k) S Q :=
  fun _ _ M _ hs hr => wp_ret ⟨M, S, rfl, hs, hr, h⟩
theorem irun_cond {c : Operand} {x y : Code} {t : Bool} (hc : ev S.s c = some (.p (.sc (.bool t)))) (h1 : t = true → IRun P h0 (.code x :: k) S Q) (h2 : t = false → IRun P h0 (.code y :: k) S Q) :
    IRun P h0 (.code (.cond c x y) :: k) S Q :=
  fun M0 hM0 M a hs hr => wp_cond_split ((ev_rel hr.slot hc).sc_inv) (fun e => h1 e M0 hM0 M a hs hr) (fun e => h2 e M0 hM0 M a hs hr)
theorem irun_region {id : Nat} {ops : Array Oper} (h : IRun P h0 (.ops ops ops.toList :: k) S Q) : IRun P h0 (.code (.region id ops false) :: k) S Q :=
  fun M0 hM0 M a hs hr => wp_region_list (h M0 hM0 M a hs hr)
theorem irun_ops_nil {all : Array Oper} (h : IRun P h0 k S Q) : IRun P h0 (.ops all [] :: k) S Q := iops_nil h

theorem after_ret : ∀ {k : List It}, Q .ret S → after P h0 Q k .ret S
  | [], h => h
  | .blk _ :: k, h => after_ret (k := k) h
  | .code _ :: k, h => after_ret (k := k) h
  | .ops _ _ :: k, h => after_ret (k := k) h
theorem after_panic {ch : List PanicEntry} : ∀ {k : List It}, Q (.panic ch) S → after P h0 Q k (.panic ch) S
  | [], h => h
  | .blk _ :: k, h => after_panic (k := k) h
  | .code _ :: k, h => after_panic (k := k) h
  | .ops _ _ :: k, h => after_panic (k := k) h
end

end Go.Idl
