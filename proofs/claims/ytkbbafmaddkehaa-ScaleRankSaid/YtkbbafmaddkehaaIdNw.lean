/-
  Calls that give memory of their own: one new block, that the caller owns from then on.
-/
import Derived.Test.YtkbbafmaddkehaaIdCa
namespace Go.Idl
variable {P : Program} {h0 : IH}

mutual
/-- A value whose blocks all are of one number, told of another one. -/
def rn (b : Nat) : IV → IV
  | .ref _ g o l => .ref b g o l
  | .ptr _ g r j => .ptr b g r j
  | .mp _ => .mp b
  | .clo f x c => .clo f (rns b x) (rns b c)
  | .agg cs => .agg (rns b cs)
  | .tup cs => .tup (rns b cs)
  | .p x => .p x
  | .dead => .dead
def rns (b : Nat) : List IV → List IV
  | [] => []
  | x :: r => rn b x :: rns b r
end
mutual
/-- It tells of no block but of that one, and of that as a slice. -/
def only (b : Nat) : IV → Bool
  | .ref c _ _ _ => c == b
  | .agg cs => onlys b cs
  | .tup cs => onlys b cs
  | .p _ => true
  | .dead => true
  | _ => false
def onlys (b : Nat) : List IV → Bool
  | [] => true
  | x :: r => only b x && onlys b r
end
theorem rns_get {b : Nat} : ∀ {l : List IV} {i : Nat} {y : IV}, (rns b l)[i]? = some y → ∃ x, l[i]? = some x ∧ y = rn b x
  | [], i, y, h => by simp [rns] at h
  | x :: r, i, y, h => by
    cases i with
    | zero => simp [rns] at h; exact ⟨x, rfl, h.symm⟩
    | succ i => obtain ⟨z, h1, h2⟩ := rns_get (l := r) (by simpa [rns] using h); exact ⟨z, by simpa using h1, h2⟩
theorem rns_length (b : Nat) : ∀ l : List IV, (rns b l).length = l.length
  | [] => rfl
  | x :: r => by simp [rns, rns_length b r]
theorem onlys_get {b : Nat} : ∀ {l : List IV} {i : Nat} {x : IV}, onlys b l = true → l[i]? = some x → only b x = true
  | [], i, x, _, h => by simp at h
  | y :: r, i, x, h, hx => by
    simp only [onlys, Bool.and_eq_true] at h
    cases i with
    | zero => simp at hx; subst hx; exact h.1
    | succ i => exact onlys_get h.2 (by simpa using hx)
theorem rn_rn (b c : Nat) (x : IV) : rn b (rn c x) = rn b x := by
  apply IV.rec (motive_1 := fun x => rn b (rn c x) = rn b x) (motive_2 := fun l => rns b (rns c l) = rns b l) <;> simp_all [rn, rns]
theorem rn_wk {b : Nat} (x : IV) : ∀ y, wk x y → wk (rn b x) (rn b y) := by
  apply IV.rec (motive_1 := fun x => ∀ y, wk x y → wk (rn b x) (rn b y)) (motive_2 := fun l => ∀ y, wks l y → wks (rns b l) (rns b y))
  · intro a y h; cases y <;> simp only [wk] at h; exact h
  · intro c g off len y h; simp only [wk] at h; subst h; exact wk_refl _
  · intro c g off len y h; simp only [wk] at h; subst h; exact wk_refl _
  · intro c y h; simp only [wk] at h; subst h; exact wk_refl _
  · intro fn f c _ _ y h; simp only [wk] at h; subst h; exact wk_refl _
  · intro cs ih y h; cases y <;> simp only [wk] at h; exact ih _ h
  · intro cs ih y h; cases y <;> simp only [wk] at h; exact ih _ h
  · intro y h; simp only [wk] at h; subst h; exact wk_refl _
  · intro y h; simp only [wks] at h; subst h; exact wks_refl _
  · intro x l i1 i2 y h
    cases y with
    | nil => simp [wks] at h
    | cons y ys => exact ⟨i1 _ h.1, i2 _ h.2⟩

/-- A function of plain data that gives x, and one block, of which x tells. (In x that block bears any number.) -/
def PNew (P : Program) (f : FuncId) (args : List IV) (x : IV) (blk : IBlk) : Prop :=
  ∀ (nx : Nat) (m : List (Nat × IBlk)) (M : Mem) (vs : List Value), HRel nx m M → vs.length = args.length → (∀ (i : Nat) (y : IV) (v : Value), args[i]? = some y → vs[i]? = some v → VRel M y v) →
    ∀ b, ¬ M.H.A b → Calls P f ⟨vs⟩ M.w fun e w' => ∃ M', M'.w = w' ∧ MStep M M' ∧ MRel M' ∧ M'.H = M.H.put b blk ∧ ∃ v, e = .returned v ∧ VRel M' (rn b x) v

def oneNew (x : IV) (blk : IBlk) (r : IEnd) (l : List (Nat × IBlk)) : Prop :=
  ∃ b y, r = .ret y ∧ l = [(b, blk)] ∧ only b y = true ∧ wk (rn 0 y) x

theorem pnew_here {f : FuncId} {args : List IV} {x : IV} {blk : IBlk} (ha : bels 0 args) (hbl : blkBel 0 blk) (hmp : blk.isMp = false)
    (h : ICall P f args ⟨0, []⟩ fun r _ l => oneNew x blk r l) : PNew P f args x blk := by
  intro nx m M vs hM hl hr b hb
  have hb0 : HRel 0 [] M.bare := ⟨hM.rel.bare, fun b h => h.elim, fun b => rfl⟩
  refine (h M.bare vs hb0 hl fun i y v hy hv => VRel.bare (M := M) (M' := M.bare) rfl (fun c h => (M.bare_own c).1 h) (hr i y v hy hv) (bels_get ha hy)).mono ?_
  rintro e w' ⟨M', nx', l', r, rfl, st, hh, he, b', y, rfl, rfl, hon, hwk⟩
  obtain ⟨v, rfl, hv⟩ := he
  have hold : ∀ c, c < M.w.heap.size → M'.w.heap[c]? = M.w.heap[c]? := by
    intro c hc
    by_cases ho : M.own c
    · exact st.ofix c ho
    · exact (st.keep c hc fun h => ho ((M.bare_own c).1 h)).1
  have hO : M'.H.O = M.own := st.oeq
  have hG' : M'.H.G b' = some blk := by rw [hh.G]; simp [look]
  let M3 : Mem := ⟨M'.w, M.H.put b blk, fun k => if k = b then M'.β b' else M.β k⟩
  have own3 : ∀ c, M3.own c → M'.own c := by
    rintro c (hc | ⟨k, bk, o, n, h1, h2⟩)
    · exact .inl (by rw [hO]; exact .inl hc)
    · by_cases e : k = b
      · subst e
        simp only [M3, if_true] at h2
        exact .inr ⟨b', blk, o, n, hG', h2⟩
      · simp only [M3, AH.put, e, if_false] at h1 h2
        exact .inl (by rw [hO]; exact .inr ⟨k, bk, o, n, h1, h2⟩)
  have s : MStep M M3 := by
    refine ⟨st.os, st.tape, st.output, st.size, fun c hc ho => ⟨hold c hc, fun h3 => ?_⟩, fun _ h => .inl h, fun k bk hA hk => ?_, rfl, fun c hc => hold c (hM.rel.olt c hc)⟩
    · exact (st.keep c hc fun h => ho ((M.bare_own c).1 h)).2 (own3 c h3)
    · have e : k ≠ b := fun e => hb (e ▸ hA)
      simp only [M3, AH.put, e, if_false] at hk
      exact ⟨bk, hk, rfl, rfl, Nat.le_refl _, fun _ => ⟨by simp [M3, e], rfl⟩⟩
  have pure3 : ∀ {y : IV} {u : Value}, VRel M' y u → bel 0 y → VRel M3 y u := fun hy hb => VRel.bare (M := M') (M' := M3) rfl own3 hy hb
  have r3 : MRel M3 := by
    refine hM.rel.change s b (.inr rfl) (fun k e => by simp [M3, AH.put, e]) (fun k e => by simp [M3, e]) (fun k bk c o n e h1 h2 => hold c (hM.rel.lt (.inr ⟨k, bk, o, n, h1, h2⟩))) (fun bk hbk => ?_) (fun bk c o n h1 h2 k bk' o' n' e h3 h4 => ?_) (fun bk c o n h1 h2 h3 => ?_)
    · simp only [M3, AH.put, if_true, Option.some.injEq] at hbk
      subst hbk
      have hb' := hh.rel.blk b' _ hG'
      cases blk with
      | mp es => cases hmp
      | arr sz g rows =>
        refine ⟨hb'.1, fun hn => hb'.2.1 (by simpa [M3] using hn), fun c o n hc => ?_⟩
        obtain ⟨cs, ty, q1, q2, q3, q4, q5⟩ := hb'.2.2 c o n (by simpa [M3] using hc)
        refine ⟨cs, ty, q1, q2, q3, q4, fun i row j z hi hj => ?_⟩
        obtain ⟨u, u1, u2, u3⟩ := q5 i row j z hi hj
        exact ⟨u, u1, u2, pure3 u3 (bels_get (hbl row (List.mem_of_getElem? hi)) hj)⟩
    · simp only [M3, if_true] at h2
      have := hh.rel.odis b' blk c o n hG' h2
      exact this (by rw [hO]; exact .inr ⟨k, bk', o', n', h3, h4⟩)
    · simp only [M3, if_true] at h2
      exact hh.rel.odis b' blk c o n hG' h2 (by rw [hO]; exact .inl h3)
  refine ⟨M3, rfl, s, r3, rfl, v, rfl, ?_⟩
  have key : ∀ {y : IV} {u : Value}, VRel M' y u → only b' y = true → VRel M3 (rn b y) u := by
    intro y u hy
    induction hy with
    | p x u h => intro _; exact .p _ _ (h.own own3)
    | ref c g off len u hA hv' hg =>
      intro ho
      have e : c = b' := by simpa [only] using ho
      subst e
      refine .ref b g off len u (.inr rfl) hv' fun bk hbk => ?_
      simp only [M3, AH.put, if_true, Option.some.injEq] at hbk
      subst hbk
      have := hg _ hG'
      simpa [M3] using this
    | ptr c g r j u => intro ho; simp [only] at ho
    | mp c u => intro ho; simp [only] at ho
    | clo fn first cap vf vc hf hc rf rc i1 i2 => intro ho; simp [only] at ho
    | agg cs us hl h1 r ih =>
      intro ho
      refine .agg _ us (by rw [rns_length]; exact hl) h1 fun i z u hz hu => ?_
      obtain ⟨z', h2, rfl⟩ := rns_get hz
      exact ih i z' u h2 hu (onlys_get ho h2)
    | tup cs us hl r ih =>
      intro ho
      refine .tup _ us (by rw [rns_length]; exact hl) fun i z u hz hu => ?_
      obtain ⟨z', h2, rfl⟩ := rns_get hz
      exact ih i z' u h2 hu (onlys_get ho h2)
    | dead u => intro _; exact .dead u
  have h5 := key hv hon
  have h6 := rn_wk (b := b) _ _ hwk
  rw [rn_rn] at h6
  exact h5.wk h6

/-- The ends of a function that gives one block. -/
def endN (P : Program) (fn : Func) (x0 : IV) (blk0 : IBlk) (S : IState) : Prop :=
  onSome (ires P S (S.l ++ []) fn.results.toList) (fun x => match refs x with
    | [b] => onSome (look S.l b) (fun k => k = blk0 ∧ only b x = true ∧ wk (rn 0 x) x0) False
    | _ => False) False
def EndN (P : Program) (fn : Func) (x0 : IV) (blk0 : IBlk) : Exit → IState → Prop
  | .normal, S => S.d = [] ∧ endN P fn x0 blk0 S
  | .ret, S => S.d = [] ∧ endN P fn x0 blk0 S
  | _, _ => False
section
variable {fn : Func} {x0 : IV} {blk0 : IBlk} {N : Nat} {s : List (Nat × IV)} {d : List IDef} {nx : Nat} {l : List (Nat × IBlk)}
@[go_sem ↓] theorem EndN_normal : EndN P fn x0 blk0 .normal ⟨N, s, d, nx, l⟩ = (d = [] ∧ endN P fn x0 blk0 ⟨N, s, d, nx, l⟩) := (rfl)
@[go_sem ↓] theorem EndN_ret : EndN P fn x0 blk0 .ret ⟨N, s, d, nx, l⟩ = (d = [] ∧ endN P fn x0 blk0 ⟨N, s, d, nx, l⟩) := (rfl)
@[go_sem ↓] theorem endN_eq : endN P fn x0 blk0 ⟨N, s, d, nx, l⟩ =
    onSome (ires P ⟨N, s, d, nx, l⟩ (l ++ []) fn.results.toList) (fun x => match refs x with
      | [b] => onSome (look l b) (fun k => k = blk0 ∧ only b x = true ∧ wk (rn 0 x) x0) False
      | _ => False) False := (rfl)
end
attribute [go_sem] rn rns only onlys
theorem endN_fin {fn : Func} {x0 : IV} {blk0 : IBlk} {S : IState} (e : Exit) (he : e = .normal ∨ e = .ret) (hd : S.d = []) (h : endN P fn x0 blk0 S) : FinOk P fn ⟨0, []⟩ (fun r _ l => oneNew x0 blk0 r l) e S := by
  unfold endN at h
  cases hi : ires P S (S.l ++ []) fn.results.toList with
  | none => rw [hi] at h; exact h.elim
  | some x =>
    rw [hi, onSome_some] at h
    split at h
    · rename_i b hb
      cases hk : look S.l b with
      | none => rw [hk] at h; exact h.elim
      | some k =>
        rw [hk, onSome_some] at h
        obtain ⟨rfl, h2, h3⟩ := h
        have hl : Leave ⟨0, []⟩ [] S x x S.nx [(b, k)] :=
          ⟨⟨rfl, rfl, .inl hd, Nat.zero_le _, Nat.le_refl _, by simp, fun p hp => by
            simp only [List.mem_singleton] at hp; subst hp
            exact ⟨k, by rw [look_append, hk], .refl _, .inl rfl⟩, fun p _ => .inl (Nat.zero_le _), by simp⟩, .refl x, .inl rfl⟩
        rcases he with rfl | rfl
        · exact .norm S x x [] _ _ hd hi hl ⟨b, x, rfl, rfl, h2, h3⟩
        · exact .ret S x x [] _ _ hd hi hl ⟨b, x, rfl, rfl, h2, h3⟩
    · exact h.elim
theorem pnew0 (n : Nat) {f : FuncId} {fn : Func} {c : Code} {args : List IV} {x : IV} {blk : IBlk} (hf : P.funcs[f]? = some fn) (hb : fn.body = some c) (hn : args.length ≤ fn.ntmps) (ha : bels 0 args) (hbl : blkBel 0 blk) (hmp : blk.isMp = false)
    (hc : isms args → vc P ⟨0, []⟩ (EndN P fn x blk) n [.code c] ⟨fn.ntmps, enum 0 args, [], 0, []⟩) : PNew P f args x blk := by
  refine pnew_here ha hbl hmp ?_
  intro M vs hM hl hr
  have hs : isms args := isms_of fun i x hx => (hr i x _ hx (List.getElem?_eq_getElem (by have := lt_of_get hx; omega))).small
  refine icall_of hf hb hn (ICode.mono (vc_sound _ _ _ _ (hc hs)) fun e S he => ?_) M vs hM hl hr
  cases e with
  | normal => exact endN_fin _ (.inl rfl) he.1 he.2
  | ret => exact endN_fin _ (.inr rfl) he.1 he.2
  | exit id => exact he.elim
  | goto l => exact he.elim
  | panic ch => exact he.elim
  | outgrown => exact he.elim

theorem PNew.weak {f : FuncId} {args args' : List IV} {x : IV} {blk : IBlk} (h : PNew P f args' x blk) (hw : wks args args') : PNew P f args x blk := by
  intro nx m M vs hM hl hr b hb
  obtain ⟨e1, e2⟩ := wks_get hw
  refine h nx m M vs hM (by omega) (fun i y v hy hv => ?_) b hb
  have hlt := lt_of_get hy
  have hx := List.getElem?_eq_getElem (show i < args.length by omega)
  exact (hr i _ v hx hv).wk (e2 i _ y hx hy)
theorem PNew.icall {f : FuncId} {args : List IV} {x : IV} {blk : IBlk} (h : PNew P f args x blk) (hi : IH) : ICall P f args hi fun r nx l => r = .ret (rn hi.nx x) ∧ nx = hi.nx + 1 ∧ l = [(hi.nx, blk)] := by
  intro M vs hM hl hr
  refine (h hi.nx hi.m M vs hM hl hr hi.nx fun hA => absurd (hM.A _ hA) (Nat.lt_irrefl _)).mono ?_
  rintro e w' ⟨M', rfl, st, r, hH, v, rfl, hv⟩
  refine ⟨M', _, _, .ret (rn hi.nx x), rfl, st, ⟨r, fun k hk => ?_, fun k => ?_⟩, ⟨v, rfl, hv⟩, rfl, rfl, rfl⟩
  · rw [hH] at hk
    rcases hk with hk | rfl
    · exact Nat.lt_succ_of_lt (hM.A k hk)
    · exact Nat.lt_succ_self _
  · rw [hH]
    simp only [AH.put, List.cons_append, List.nil_append, look]
    by_cases e : k = hi.nx
    · subst e; simp
    · rw [if_neg e, if_neg (fun h => e h.symm), hM.G]
theorem PNew.loc {o : Oper} {ρ : Operand → Option IV} {f : Operand} {args : List Operand} {ts : Array TypeId} {n : FuncId} {zs : List IV} {x : IV} {blk : IBlk} (b : Nat)
    (ho : o.op = .call { callee := .value f, args := ⟨args⟩, argTypes := ts }) (hc : icallee ρ f args = some (n, zs)) (hn : fnOk P n = true)
    (hp : PNew P n zs x blk) : Loc P o ρ [] [b] (rn b x) [(b, blk)] := by
  intro nx m M a hM _ hF hr K Q hK
  obtain ⟨vs, hrun, hl, hv⟩ := run_pcall hr ho hc hn
  unfold Oper.wp
  rw [hrun]
  refine Calls.mono (hp nx m M vs hM hl hv b (hF b (by simp))) fun e w' ⟨M', e1, st, r, hH, v, he, hv⟩ => ?_
  subst e1 he
  exact hK v M' st r hH hv

/-- A call that gives a block, by a contract. -/
def callN (P : Program) (c : FuncId) (zs : List IV) (K : IV → IBlk → Prop) : Prop := ∃ x blk, PNew P c zs x blk ∧ K x blk
theorem callN_congr {c : FuncId} {zs zs' : List IV} {K : IV → IBlk → Prop} (h : zs = zs') : callN P c zs K = callN P c zs' K := by rw [h]
attribute [congr] callN_congr
theorem callN_of {c : FuncId} {zs : List IV} {K : IV → IBlk → Prop} {x : IV} {blk : IBlk} (hp : PNew P c zs x blk) (h : K x blk) : callN P c zs K := ⟨x, blk, hp, h⟩
section
variable {Q : Exit → IState → Prop} {k : List It} {all : Array Oper} {r : List Oper} {dst : Option Tmp} {ty : TypeId} {pos : String} {aft : Array Edge} {N : Nat} {s : List (Nat × IV)} {d : List IDef} {nx : Nat} {l : List (Nat × IBlk)}
  {g : Option (Nat × Bool)} {f : Operand} {args : List Operand} {ts : List TypeId} {K : IState → List FP → Prop} {acc : List FP}
theorem at_new (n : Nat)
    (h : onSome (icallee (ev s) f args) (fun q => (iwant all s ⟨dst, .call { callee := .value f, args := ⟨args⟩, argTypes := ⟨ts⟩ }, ty, pos, aft, g⟩ = some true ∧ fnOk P q.1 = true ∧ dOk N dst = true) ∧
      callN P q.1 (icans P ts q.2) fun x blk => vc P h0 Q n (.ops all r :: k) ⟨N, putS dst (rn nx x) s, d, nx + 1, (nx, blk) :: l⟩) False) :
    IRun P h0 (.ops all (⟨dst, .call { callee := .value f, args := ⟨args⟩, argTypes := ⟨ts⟩ }, ty, pos, aft, g⟩ :: r) :: k) ⟨N, s, d, nx, l⟩ Q := by
  cases hc : icallee (ev s) f args with
  | none => rw [hc] at h; exact h.elim
  | some q =>
    rw [hc, onSome_some] at h
    obtain ⟨⟨h1, h2, h3⟩, x, blk, p1, p2⟩ := h
    refine iops_call (S := ⟨N, s, d, nx, l⟩) rfl h1 hc h2 (by cases dst <;> simp_all [dOk, dstOk]) (((p1.weak (icans_wk ts q.2)).icall ⟨nx, l ++ h0.m⟩).mono ?_)
    rintro e nx' l' ⟨rfl, rfl, rfl⟩
    simp only [put_eq, List.cons_append, List.nil_append]
    exact vc_sound Q n _ _ p2
theorem at_dnew
    (h : onSome (icallee (ev s) f args) (fun q => (iwant all s ⟨dst, .call { callee := .value f, args := ⟨args⟩, argTypes := ⟨ts⟩ }, ty, pos, aft, g⟩ = some true ∧ fnOk P q.1 = true ∧ dOk N dst = true) ∧
      callN P q.1 (icans P ts q.2) fun x blk => dvc P h0 all K r ⟨N, putS dst (rn nx x) s, d, nx + 1, (nx, blk) :: l⟩ (acc ++ [([], [nx])])) False) :
    DRun P h0 all (⟨dst, .call { callee := .value f, args := ⟨args⟩, argTypes := ⟨ts⟩ }, ty, pos, aft, g⟩ :: r) ⟨N, s, d, nx, l⟩ acc K := by
  cases hc : icallee (ev s) f args with
  | none => rw [hc] at h; exact h.elim
  | some q =>
    rw [hc, onSome_some] at h
    obtain ⟨⟨h1, h2, h3⟩, x, blk, p1, p2⟩ := h
    obtain ⟨frs, S', g1, g2⟩ := dvc_sound _ _ _ p2
    refine ⟨{ x := rn nx x, R := [], F := [nx], W := [(nx, blk)] } :: frs, S', .op (S := ⟨N, s, d, nx, l⟩) h1 (PNew.loc nx rfl hc h2 (p1.weak (icans_wk ts q.2))) ⟨by simp, .inr ⟨rfl, blk, rfl⟩⟩ h3 ?_, by simpa [FR.fp] using g2⟩
    simpa using g1
end
end Go.Idl
