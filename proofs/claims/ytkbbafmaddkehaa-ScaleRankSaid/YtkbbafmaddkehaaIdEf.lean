/-
  Contracts of functions that change blocks of their caller's.
-/
import Derived.Test.YtkbbafmaddkehaaIdSt
namespace Go.Idl
variable {P : Program}
/-- It finds the blocks R, answers x, and leaves the blocks W as they are told there. -/
def PEff (P : Program) (f : FuncId) (args : List IV) (R : List (Nat × IBlk)) (x : IV) (W : List (Nat × IBlk)) : Prop :=
  ∀ h : IH, (∀ p ∈ R, look h.m p.1 = some p.2) → ICall P f args h fun r nx l => r = .ret x ∧ nx = h.nx ∧ l = W
def allSeen (G : Nat → Option IBlk) : List (Nat × IBlk) → Prop
  | [] => True
  | p :: r => G p.1 = some p.2 ∧ allSeen G r
def allLow (n : Nat) : List (Nat × IBlk) → Prop
  | [] => True
  | p :: r => p.1 < n ∧ blkBel n p.2 ∧ allLow n r
def allIn (n : Nat) (W : List Nat) : List Nat → Prop
  | [] => True
  | b :: r => (n ≤ b ∨ b ∈ W) ∧ allIn n W r
theorem allSeen_mem {G : Nat → Option IBlk} : ∀ {W : List (Nat × IBlk)}, allSeen G W → ∀ p ∈ W, G p.1 = some p.2
  | [], _, p, hp => by cases hp
  | q :: r, h, p, hp => by rcases List.mem_cons.1 hp with rfl | hp; exact h.1; exact allSeen_mem h.2 p hp
theorem allLow_mem {n : Nat} : ∀ {W : List (Nat × IBlk)}, allLow n W → ∀ p ∈ W, p.1 < n ∧ blkBel n p.2
  | [], _, p, hp => by cases hp
  | q :: r, h, p, hp => by rcases List.mem_cons.1 hp with rfl | hp; exact ⟨h.1, h.2.1⟩; exact allLow_mem h.2.2 p hp
theorem allIn_mem {n : Nat} {W : List Nat} : ∀ {l : List Nat}, allIn n W l → ∀ b ∈ l, n ≤ b ∨ b ∈ W
  | [], _, b, hb => by cases hb
  | c :: r, h, b, hb => by rcases List.mem_cons.1 hb with rfl | hb; exact h.1; exact allIn_mem h.2 b hb

theorem leave_eff {h : IH} {S : IState} {x y : IV} {W : List (Nat × IBlk)} (hd : S.d = []) (hnx : h.nx ≤ S.nx) (hk : allIn h.nx (W.map (·.1)) (S.l.map (·.1))) (hs : allSeen (look (S.l ++ h.m)) W) (hw : allLow h.nx W)
    (hx : geAll h.nx (refs x)) (hf : frz (look (S.l ++ h.m)) x = some y) : Leave h (refs x) S x y h.nx W := by
  obtain ⟨h1, h2⟩ := frz_Fz x y (refs x) hf (fun b hb => hb)
  refine ⟨⟨rfl, rfl, .inl hd, Nat.le_refl _, hnx, by simp, fun p hp => ⟨p.2, allSeen_mem hs p hp, .refl _, .inr (allLow_mem hw p hp)⟩, fun p hp => ?_, fun b hb => ⟨geAll_mem hx b hb, fun p hp e => ?_⟩⟩, h1, .inr (bel_mono (Nat.zero_le _) _ h2)⟩
  · rcases allIn_mem hk _ (List.mem_map_of_mem hp) with h3 | h3
    · exact .inl h3
    · obtain ⟨q, hq, e⟩ := List.mem_map.1 h3
      exact .inr ⟨q.2, by rw [← e]; exact hq⟩
  · have := (allLow_mem hw p hp).1
    have := geAll_mem hx b hb
    omega
def EndE (P : Program) (fn : Func) (h : IH) (x : IV) (W : List (Nat × IBlk)) : Exit → IState → Prop
  | .normal, S => S.d = [] ∧ h.nx ≤ S.nx ∧ allIn h.nx (W.map (·.1)) (S.l.map (·.1)) ∧ allSeen (look (S.l ++ h.m)) W ∧ endP P fn h (fun y => wk y x) S
  | .ret, S => S.d = [] ∧ h.nx ≤ S.nx ∧ allIn h.nx (W.map (·.1)) (S.l.map (·.1)) ∧ allSeen (look (S.l ++ h.m)) W ∧ endP P fn h (fun y => wk y x) S
  | _, _ => False
section
variable {fn : Func} {h : IH} {x : IV} {W : List (Nat × IBlk)} {N : Nat} {s : List (Nat × IV)} {d : List IDef} {nx : Nat} {l : List (Nat × IBlk)}
@[go_sem ↓] theorem EndE_normal : EndE P fn h x W .normal ⟨N, s, d, nx, l⟩ = (d = [] ∧ h.nx ≤ nx ∧ allIn h.nx (W.map (·.1)) (l.map (·.1)) ∧ allSeen (look (l ++ h.m)) W ∧ endP P fn h (fun y => wk y x) ⟨N, s, d, nx, l⟩) := (rfl)
@[go_sem ↓] theorem EndE_ret : EndE P fn h x W .ret ⟨N, s, d, nx, l⟩ = (d = [] ∧ h.nx ≤ nx ∧ allIn h.nx (W.map (·.1)) (l.map (·.1)) ∧ allSeen (look (l ++ h.m)) W ∧ endP P fn h (fun y => wk y x) ⟨N, s, d, nx, l⟩) := (rfl)
@[go_sem] theorem allSeen_nil {G : Nat → Option IBlk} : allSeen G [] = True := (rfl)
@[go_sem] theorem allSeen_cons {G : Nat → Option IBlk} {p : Nat × IBlk} {r : List (Nat × IBlk)} : allSeen G (p :: r) = (G p.1 = some p.2 ∧ allSeen G r) := (rfl)
@[go_sem] theorem allIn_nil {n : Nat} {w : List Nat} : allIn n w [] = True := (rfl)
@[go_sem] theorem allIn_cons {n b : Nat} {w l : List Nat} : allIn n w (b :: l) = ((n ≤ b ∨ b ∈ w) ∧ allIn n w l) := (rfl)
end
theorem fin_eff {fn : Func} {h : IH} {x : IV} {S : IState} {W : List (Nat × IBlk)} (e : Exit) (he : e = .normal ∨ e = .ret) (hd : S.d = []) (hnx : h.nx ≤ S.nx) (hk : allIn h.nx (W.map (·.1)) (S.l.map (·.1)))
    (hs : allSeen (look (S.l ++ h.m)) W) (hw : allLow h.nx W) (hx : endP P fn h (fun y => wk y x) S) : FinOk P fn h (fun r nx l => ∃ y, r = .ret y ∧ wk y x ∧ nx = h.nx ∧ l = W) e S := by
  unfold endP at hx
  cases hi : ires P S (S.l ++ h.m) fn.results.toList with
  | none => rw [hi] at hx; exact hx.elim
  | some z =>
    rw [hi, onSome_some] at hx
    cases hf : frz (look (S.l ++ h.m)) z with
    | none => rw [hf] at hx; exact hx.elim
    | some y =>
      rw [hf, onSome_some] at hx
      rcases he with rfl | rfl
      · exact .norm S z y _ h.nx W hd hi (leave_eff hd hnx hk hs hw hx.1 hf) ⟨y, rfl, hx.2, rfl, rfl⟩
      · exact .ret S z y _ h.nx W hd hi (leave_eff hd hnx hk hs hw hx.1 hf) ⟨y, rfl, hx.2, rfl, rfl⟩
/-- A function that changes blocks: walked over any heap that has the blocks R. -/
theorem peff_of (n : Nat) {f : FuncId} {fn : Func} {c : Code} {args : List IV} {R W : List (Nat × IBlk)} {x : IV} (hf : P.funcs[f]? = some fn) (hb : fn.body = some c) (hn : args.length ≤ fn.ntmps)
    (hW : ∀ n, (∀ p ∈ R, p.1 < n) → allLow n W)
    (hc : ∀ h : IH, (∀ p ∈ R, look h.m p.1 = some p.2) → (∀ p ∈ R, p.1 < h.nx) → isms args → vc P h (EndE P fn h x W) n [.code c] ⟨fn.ntmps, enum 0 args, [], h.nx, []⟩) : PEff P f args R x W := by
  intro h hR M vs hM hl hr
  have hs : isms args := isms_of fun i x hx => (hr i x _ hx (List.getElem?_eq_getElem (by have := lt_of_get hx; omega))).small
  have hlt : ∀ p ∈ R, p.1 < h.nx := fun p hp => hM.A _ (hM.rel.dom _ p.2 (by rw [hM.G]; exact hR p hp))
  have : ICall P f args h fun r nx l => ∃ y, r = .ret y ∧ wk y x ∧ nx = h.nx ∧ l = W := by
    refine icall_of hf hb hn (ICode.mono (vc_sound _ _ _ _ (hc h hR hlt hs)) fun e S he => ?_)
    cases e with
    | normal => exact fin_eff _ (.inl rfl) he.1 he.2.1 he.2.2.1 he.2.2.2.1 (hW _ hlt) he.2.2.2.2
    | ret => exact fin_eff _ (.inr rfl) he.1 he.2.1 he.2.2.1 he.2.2.2.1 (hW _ hlt) he.2.2.2.2
    | exit id => exact he.elim
    | goto l => exact he.elim
    | panic ch => exact he.elim
    | outgrown => exact he.elim
  refine (this M vs hM hl hr).mono fun e w' ⟨M', nx', l', r, h1, h2, h3, h4, y, h5, h6, h7, h8⟩ => ⟨M', nx', l', .ret x, h1, h2, h3, ?_, rfl, h7, h8⟩
  subst h5
  obtain ⟨v, e1, e2⟩ := h4
  exact ⟨v, e1, e2.wk h6⟩
theorem PEff.weak {f : FuncId} {args args' : List IV} {R W : List (Nat × IBlk)} {x : IV} (h : PEff P f args' R x W) (hw : wks args args') : PEff P f args R x W := by
  intro hp hR M vs hM hl hr
  obtain ⟨e1, e2⟩ := wks_get hw
  refine h hp hR M vs hM (by omega) fun i y v hy hv => ?_
  have hlt := lt_of_get hy
  have hx := List.getElem?_eq_getElem (show i < args.length by omega)
  exact (hr i _ v hx hv).wk (e2 i _ y hx hy)
/-- The call of such a function, its arguments worked out. -/
def callE (P : Program) (c : FuncId) (zs : List IV) (G : Nat → Option IBlk) (K : IV → List (Nat × IBlk) → Prop) : Prop := ∃ x R W, PEff P c zs R x W ∧ allSeen G R ∧ K x W
theorem callE_congr {c : FuncId} {zs zs' : List IV} {G : Nat → Option IBlk} {K : IV → List (Nat × IBlk) → Prop} (h : zs = zs') : callE P c zs G K = callE P c zs' G K := by rw [h]
attribute [congr] callE_congr
theorem callE_of {c : FuncId} {zs : List IV} {G : Nat → Option IBlk} {K : IV → List (Nat × IBlk) → Prop} {x : IV} {R W : List (Nat × IBlk)} (hp : PEff P c zs R x W) (hR : allSeen G R) (h : K x W) : callE P c zs G K := ⟨x, R, W, hp, hR, h⟩
section
variable {h0 : IH} {Q : Exit → IState → Prop} {k : List It} {all : Array Oper} {r : List Oper} {dst : Option Tmp} {ty : TypeId} {pos : String} {aft : Array Edge} {N : Nat} {s : List (Nat × IV)} {d : List IDef} {nx : Nat} {l : List (Nat × IBlk)}
  {g : Option (Nat × Bool)} {f : Operand} {args : List Operand} {ts : List TypeId}
theorem at_eff (n : Nat)
    (h : onSome (icallee (ev s) f args) (fun q => (iwant all s ⟨dst, .call { callee := .value f, args := ⟨args⟩, argTypes := ⟨ts⟩ }, ty, pos, aft, g⟩ = some true ∧ fnOk P q.1 = true ∧ dOk N dst = true) ∧
      callE P q.1 (icans P ts q.2) (look (l ++ h0.m)) fun x W => vc P h0 Q n (.ops all r :: k) ⟨N, putS dst x s, d, nx, W ++ l⟩) False) :
    IRun P h0 (.ops all (⟨dst, .call { callee := .value f, args := ⟨args⟩, argTypes := ⟨ts⟩ }, ty, pos, aft, g⟩ :: r) :: k) ⟨N, s, d, nx, l⟩ Q := by
  cases hc : icallee (ev s) f args with
  | none => rw [hc] at h; exact h.elim
  | some q =>
    rw [hc, onSome_some] at h
    obtain ⟨⟨h1, h2, h3⟩, x, R, W, p1, p2, p3⟩ := h
    refine iops_call (S := ⟨N, s, d, nx, l⟩) rfl h1 hc h2 (by cases dst <;> simp_all [dOk, dstOk]) (((p1.weak (icans_wk ts q.2)) ⟨nx, l ++ h0.m⟩ (allSeen_mem p2)).mono ?_)
    rintro e nx' l' ⟨rfl, rfl, rfl⟩
    simp only [put_eq]
    exact vc_sound Q n _ _ p3
end
/-- A call of a function that reads the blocks R of its caller's. -/
theorem callA_R {c : FuncId} {zs : List IV} {G : Nat → Option IBlk} {ok : Prop} {K : IV → List Nat → Prop} {x : IV} {R : List (Nat × IBlk)} (hp : PCall P c zs R x) (hx : bel 0 x) (hR : allSeen G R) (h : K x (R.map (·.1))) : callA P c zs G ok K :=
  fun _ => ⟨x, R, hp, hx, allSeen_mem hR, h⟩
end Go.Idl
