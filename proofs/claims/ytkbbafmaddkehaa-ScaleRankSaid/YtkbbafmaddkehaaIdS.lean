/-
  What an operation does at any memory the ideal heap tells of; a call of a function that leaves nothing.
-/
import Derived.Test.YtkbbafmaddkehaaIdR
namespace Go.Idl
variable {P : Program} {h0 : IH}

def Loc (P : Program) (o : Oper) (ρ : Operand → Option IV) (R : List (Nat × IBlk)) (F : List Nat) (x : IV) (W : List (Nat × IBlk)) : Prop :=
  ∀ (nx : Nat) (m : List (Nat × IBlk)) (M : Mem) (a : Act), HRel nx m M → (∀ p ∈ R, look m p.1 = some p.2) → (∀ b ∈ F, ¬ M.H.A b) →
    (∀ y ∈ o.op.operands, ∀ z, ρ y = some z → VRel M z (a.eval y)) →
    ∀ (K : Act → World → Prop) (Q : Exit → Act → World → Prop),
      (∀ v M', MStep M M' → MRel M' → M'.H = M.H.upd W → VRel M' x v → K (a.put o.dst v) M'.w) → o.wp P a M.w K Q

theorem FDoes.loc {o : Oper} {ρ : Operand → Option IV} {R W : List (Nat × IBlk)} {F : List Nat} {x : IV} (h : FDoes P o ρ R F x W) : Loc P o ρ R F x W :=
  fun _ _ M a hM hR hF hr K Q hK => h M a hM.rel (fun p hp => by rw [hM.G]; exact hR p hp) hF hr K Q hK

mutual
def belA (A : Nat → Prop) : IV → Prop
  | .p _ => True
  | .ref b _ _ _ => A b
  | .ptr b _ _ _ => A b
  | .mp b => A b
  | .clo _ f c => belsA A f ∧ belsA A c
  | .agg cs => belsA A cs
  | .tup cs => belsA A cs
  | .dead => True
def belsA (A : Nat → Prop) : List IV → Prop
  | [] => True
  | x :: r => belA A x ∧ belsA A r
end
theorem belsA_get {A : Nat → Prop} : ∀ {l : List IV} {i : Nat} {x : IV}, belsA A l → l[i]? = some x → belA A x
  | [], i, x, _, h => by simp at h
  | y :: l, 0, x, hb, h => by simp at h; subst h; exact hb.1
  | y :: l, i + 1, x, hb, h => belsA_get hb.2 (by simpa using h)
theorem belsA_of {A : Nat → Prop} : ∀ {l : List IV}, (∀ (i : Nat) (x : IV), l[i]? = some x → belA A x) → belsA A l
  | [], _ => trivial
  | y :: l, h => ⟨h 0 y rfl, belsA_of fun i x hx => h (i + 1) x (by simpa using hx)⟩
theorem belA_zero {A : Nat → Prop} (x : IV) : bel 0 x → belA A x := by
  apply IV.rec (motive_1 := fun x => bel 0 x → belA A x) (motive_2 := fun l => bels 0 l → belsA A l)
  · intro x _; trivial
  · intro b g off len h; exact absurd h (Nat.not_lt_zero _)
  · intro b g r j h; exact absurd h (Nat.not_lt_zero _)
  · intro b h; exact absurd h (Nat.not_lt_zero _)
  · intro fn f c i1 i2 h; exact ⟨i1 h.1, i2 h.2⟩
  · intro cs ih h; exact ih h
  · intro cs ih h; exact ih h
  · intro _; trivial
  · intro _; trivial
  · intro x l i1 i2 h; exact ⟨i1 h.1, i2 h.2⟩
theorem VRel.toBelA {M : Mem} {x : IV} {v : Value} (h : VRel M x v) : belA M.H.A x := by
  induction h with
  | p x v h => trivial
  | ref b g off len v hA' hv h => exact hA'
  | ptr b g r j v hA' hv h => exact hA'
  | mp b v hA' hv h => exact hA'
  | clo fn first cap vf vc hf hc rf rc i1 i2 =>
    refine ⟨belsA_of fun i x hx => ?_, belsA_of fun i x hx => ?_⟩
    · have hlt := lt_of_get hx
      rw [← hf] at hlt
      exact i1 i x _ hx (List.getElem?_eq_getElem hlt)
    · have hlt := lt_of_get hx
      rw [← hc] at hlt
      exact i2 i x _ hx (List.getElem?_eq_getElem hlt)
  | agg cs vs hl h1 r ih =>
    refine belsA_of fun i x hx => ?_
    have hlt := lt_of_get hx
    rw [← hl] at hlt
    exact ih i x _ hx (List.getElem?_eq_getElem hlt)
  | tup cs vs hl r ih =>
    refine belsA_of fun i x hx => ?_
    have hlt := lt_of_get hx
    rw [← hl] at hlt
    exact ih i x _ hx (List.getElem?_eq_getElem hlt)
  | dead v => trivial
/-- The memory with other numbers in use. -/
def Mem.useA (M : Mem) (A : Nat → Prop) : Mem := ⟨M.w, ⟨A, M.H.G, M.H.O⟩, M.β⟩
theorem VRel.useA {M : Mem} {A : Nat → Prop} {x : IV} {v : Value} (h : VRel M x v) : belA A x → VRel (M.useA A) x v := by
  induction h with
  | p x v h => intro _; exact .p x v h
  | ref b g off len v hA' hv h => intro hb; exact .ref b g off len v hb hv h
  | ptr b g r j v hA' hv h => intro hb; exact .ptr b g r j v hb hv h
  | mp b v hA' hv h => intro hb; exact .mp b v hb hv h
  | clo fn first cap vf vc hf hc rf rc i1 i2 =>
    intro hb
    exact .clo fn first cap vf vc hf hc (fun i x v hx hv => i1 i x v hx hv (belsA_get hb.1 hx)) (fun i x v hx hv => i2 i x v hx hv (belsA_get hb.2 hx))
  | agg cs vs hl h1 r ih => intro hb; exact .agg cs vs hl h1 fun i x v hx hv => ih i x v hx hv (belsA_get hb hx)
  | tup cs vs hl r ih => intro hb; exact .tup cs vs hl fun i x v hx hv => ih i x v hx hv (belsA_get hb hx)
  | dead v => intro _; exact .dead v

theorem mem_useA {M M' : Mem} (hM : MRel M) (hM' : MRel M') (s : MStep M M') (hG : M'.H.G = M.H.G) : MStep M (M'.useA M.H.A) ∧ MRel (M'.useA M.H.A) := by
  refine ⟨⟨s.os, s.tape, s.output, s.size, s.keep, fun b hb => hb, fun b blk' hA hb => s.comp b blk' hA hb, s.oeq, s.ofix⟩, ⟨fun b blk hb => hM.dom b blk (by rw [← hG]; exact hb), fun b blk hb => ?_, hM'.inj, hM'.olt, hM'.odis⟩⟩
  have hb' : M'.H.G b = some blk := hb
  have hr := hM'.blk b blk hb'
  have hb0 : M.H.G b = some blk := by rw [← hG]; exact hb'
  have hr0 := hM.blk b blk hb0
  obtain ⟨blk0, g0, _, _, _, g1⟩ := s.comp b blk (hM.dom b blk hb0) hb'
  rw [hb0] at g0; cases g0
  obtain ⟨gβ, _⟩ := g1 rfl
  cases blk with
  | arr sz g rows =>
    refine ⟨hr.1, hr.2.1, fun c o n hc => ?_⟩
    obtain ⟨cs, ty, q1, q2, q3, q4, q5⟩ := hr.2.2 c o n hc
    refine ⟨cs, ty, q1, q2, q3, q4, fun i row j x hi hj => ?_⟩
    obtain ⟨v, v1, v2, v3⟩ := q5 i row j x hi hj
    obtain ⟨cs0, ty0, _, _, _, _, p5⟩ := hr0.2.2 c o n (by rw [← gβ]; exact hc)
    obtain ⟨v0, _, _, w3⟩ := p5 i row j x hi hj
    exact ⟨v, v1, v2, v3.useA w3.toBelA⟩
  | mp es =>
    obtain ⟨c, o, n, hc, es', clock, q1, q2, q3⟩ := hr
    refine ⟨c, o, n, hc, es', clock, q1, q2, fun i k x hi => ?_⟩
    obtain ⟨e, e1, e2, e3⟩ := q3 i k x hi
    obtain ⟨c0, o0, n0, _, es0, clock0, _, _, p3⟩ := hr0
    obtain ⟨_, _, _, w3⟩ := p3 i k x hi
    exact ⟨e, e1, e2, e3.useA w3.toBelA⟩

theorem run_pcall {o : Oper} {ρ : Operand → Option IV} {f : Operand} {args : List Operand} {ts : Array TypeId} {n : FuncId} {zs : List IV} {M : Mem} {a : Act}
    (hr : ∀ y ∈ o.op.operands, ∀ z, ρ y = some z → VRel M z (a.eval y))
    (ho : o.op = .call { callee := .value f, args := ⟨args⟩, argTypes := ts }) (hc : icallee ρ f args = some (n, zs)) (hn : fnOk P n = true) :
    ∃ vs : List Value, (execOp a.eval o).run P M.w = .ok (.enter n ⟨vs⟩) M.w ∧ vs.length = zs.length ∧ ∀ (i : Nat) (x : IV) (v : Value), zs[i]? = some x → vs[i]? = some v → VRel M x v := by
  have h1 : ∀ z, ρ f = some z → VRel M z (a.eval f) := fun z hz => hr f (by simp [ho, Op.operands, Call.operands]) z hz
  have h2 : ∀ y ∈ args, ∀ z, ρ y = some z → VRel M z (a.eval y) := fun y hy z hz => hr y (by simp [ho, Op.operands, Call.operands, hy]) z hz
  unfold icallee at hc
  split at hc
  · rename_i n' zs' hf ha
    simp only [Option.some.injEq, Prod.mk.injEq] at hc
    obtain ⟨rfl, rfl⟩ := hc
    have e := (h1 _ hf).sc_inv
    obtain ⟨l1, l2⟩ := rlist_rel (M := M) (a := a) ha h2
    refine ⟨args.map a.eval, ?_, l1, l2⟩
    simp only [execOp, ho, resolve, e, Deferred.ofValue, Sem.run_bind, Sem.run_pure, Result.andThen_ok, invoke]
    rw [run_callFunc hn]
    simp
  · rename_i n' first cap zs' hf ha
    simp only [Option.some.injEq, Prod.mk.injEq] at hc
    obtain ⟨rfl, rfl⟩ := hc
    have hv := h1 _ hf
    obtain ⟨l1, l2⟩ := rlist_rel (M := M) (a := a) ha h2
    generalize hq : a.eval f = q at hv
    cases hv with
    | clo fn first cap vf vc lf lc rf rc =>
      refine ⟨vf ++ args.map a.eval ++ vc, ?_, by simp only [List.length_append, lf, lc, l1], append_rel (by simp only [List.length_append, lf, l1]) (append_rel lf rf l2) rc⟩
      simp only [execOp, ho, resolve, hq, Deferred.ofValue, Sem.run_bind, Sem.run_pure, Result.andThen_ok, invoke]
      rw [run_callFunc hn]
      simp
  · cases hc

/-- A function of its arguments, and of the blocks R: it gives x and leaves nothing. -/
def PCall (P : Program) (f : FuncId) (args : List IV) (R : List (Nat × IBlk)) (x : IV) : Prop :=
  ∀ h : IH, (∀ p ∈ R, look h.m p.1 = some p.2) → ICall P f args h fun r nx l => r = .ret x ∧ nx = h.nx ∧ l = []

theorem PCall.loc {o : Oper} {ρ : Operand → Option IV} {f : Operand} {args : List Operand} {ts : Array TypeId} {n : FuncId} {zs : List IV} {R : List (Nat × IBlk)} {x : IV}
    (ho : o.op = .call { callee := .value f, args := ⟨args⟩, argTypes := ts }) (hc : icallee ρ f args = some (n, zs)) (hn : fnOk P n = true) (hx : bel 0 x)
    (hp : PCall P n zs R x) : Loc P o ρ R [] x [] := by
  intro nx m M a hM hR _ hr K Q hK
  obtain ⟨vs, hrun, hl, hv⟩ := run_pcall hr ho hc hn
  unfold Oper.wp
  rw [hrun]
  refine Calls.mono (hp ⟨nx, m⟩ hR M vs hM hl hv) fun e w' ⟨M', nx', l', re, e1, st, hh, he, h1, h2, h3⟩ => ?_
  subst h1 h2 h3
  obtain ⟨v, rfl, hv⟩ := he
  subst e1
  have hG : M'.H.G = M.H.G := by funext b; rw [hh.G, hM.G]; rfl
  obtain ⟨g1, g2⟩ := mem_useA hM.rel hh.rel st hG
  refine hK v (M'.useA M.H.A) g1 g2 ?_ (hv.useA (belA_zero x hx))
  simp only [Mem.useA, AH.upd, List.foldl_nil, hG, st.oeq]

/-- A call in a region in its text's order. -/
theorem iops_pcall {all : Array Oper} {dst : Option Tmp} {ty : TypeId} {pos : String} {aft : Array Edge} {g : Option (Nat × Bool)} {r : List Oper} {S : IState} {Q : Exit → IState → Prop} {f : Operand} {args : List Operand} {ts : Array TypeId} {n : FuncId} {zs : List IV} {x : IV} {R : List (Nat × IBlk)}
    (hw : iwant all S.s ⟨dst, .call { callee := .value f, args := ⟨args⟩, argTypes := ts }, ty, pos, aft, g⟩ = some true) (hc : icallee (ev S.s) f args = some (n, zs)) (hn : fnOk P n = true) (hd : dOk S.n dst = true)
    (hR : ∀ p ∈ R, look (S.l ++ h0.m) p.1 = some p.2) (hp : PCall P n zs R x)
    (h : IOps P h0 all r ⟨S.n, putS dst x S.s, S.d, S.nx, S.l⟩ Q) : IOps P h0 all (⟨dst, .call { callee := .value f, args := ⟨args⟩, argTypes := ts }, ty, pos, aft, g⟩ :: r) S Q := by
  refine iops_call rfl hw hc hn (by cases dst <;> simp_all [dOk, dstOk]) ((hp ⟨S.nx, S.l ++ h0.m⟩ hR).mono ?_)
  rintro e nx' l' ⟨rfl, rfl, rfl⟩
  simp only [put_eq, List.nil_append]
  exact h
end Go.Idl
