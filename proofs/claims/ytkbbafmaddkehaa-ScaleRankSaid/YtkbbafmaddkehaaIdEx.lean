/-
  Functions of the library that have no Go text here: the bits of a number, and what lies below it.
-/
import Derived.Test.YtkbbafmaddkehaaIdL
import Derived.Laws.Externs
namespace Go.Idl
variable {P : Program} {o : Oper} {ρ : Operand → Option IV} {G : Nat → Option IBlk}

inductive XK where
  | bits | frombits | floor
  deriving DecidableEq
def xkName : XK → String
  | .bits => "math.Float64bits"
  | .frombits => "math.Float64frombits"
  | .floor => "math.archFloor"
def fxk (P : Program) (n : FuncId) : Option XK :=
  match P.funcs[n]? with
  | some fn => if fn.body.isNone && fn.origin == "" then
      if fn.name == "math.Float64bits" then some .bits else if fn.name == "math.Float64frombits" then some .frombits else if fn.name == "math.archFloor" then some .floor else none
    else none
  | none => none
def floorOf (x : Nat) : Option Value :=
  match FloatKind.f64.decode x with
  | .nan _ _ => none
  | d => some (.float .f64 (FloatKind.f64.encode (d.integral .down)))
def fext : XK → List IV → Option Value
  | .bits, [.p (.sc (.float .f64 b))] => some (.int .u64 b)
  | .frombits, [.p (.sc (.int .u64 n))] => some (.float .f64 n.toNat)
  | .floor, [.p (.sc (.float .f64 x))] => floorOf x
  | _, _ => none
def fcallx (P : Program) (ρ : Operand → Option IV) (f : Operand) (args : List Operand) : Option FR :=
  match ρ f, rlist ρ args with
  | some (.p (.sc (.func (.func n) ⟨[]⟩ ⟨[]⟩))), some zs => match fxk P n with
    | some k => (fext k zs).map fun v => { x := .p (.sc v) }
    | none => none
  | _, _ => none

theorem next_none {s : String} (h : Extern.allNextRows.lookup s = none) {fn : Func} (hn : fn.name = s) (ho : fn.origin = "") : Extern.findNext fn = none := by
  have h0 : Extern.allNextRows.lookup "" = none := by kernel_rfl
  simp only [Extern.findNext, hn, ho, h, h0, Option.map_none]
  rfl
theorem find_some {s : String} {e : Array Value → Sem Value} (h1 : Extern.allGenericRows.lookup s = none) (h2 : Extern.allTypedRows.lookup s = none) (h3 : Extern.allRows.lookup s = some e) {fn : Func} (hn : fn.name = s) : Extern.find fn = some e := by
  simp only [Extern.find, hn, h1, h2, h3, Option.map_none]
  rfl
theorem fxk_run {n : FuncId} {k : XK} (h : fxk P n = some k) (args : Array Value) (w : World) :
    ∃ e, Extern.allRows.lookup (xkName k) = some e ∧ (callFunc n args).run P w = ((e args).run P w).andThen fun v w' => .ok (.value v) w' := by
  unfold fxk at h
  split at h
  · rename_i fn hf
    split at h
    · rename_i hb
      simp only [Bool.and_eq_true, beq_iff_eq] at hb
      split at h
      · rename_i hn
        have hn := beq_iff_eq.1 hn
        cases h
        refine ⟨_, (by kernel_rfl : Extern.allRows.lookup "math.Float64bits" = some Extern.MathFloatBits.float64bits), ?_⟩
        exact run_callFunc_extern hf (by rw [hn]; rfl) hb.1 (next_none (by kernel_rfl) hn hb.2) (find_some (by kernel_rfl) (by kernel_rfl) (by kernel_rfl) hn) args w
      · split at h
        · rename_i hn
          have hn := beq_iff_eq.1 hn
          cases h
          refine ⟨_, (by kernel_rfl : Extern.allRows.lookup "math.Float64frombits" = some Extern.MathFloatBits.float64frombits), ?_⟩
          exact run_callFunc_extern hf (by rw [hn]; rfl) hb.1 (next_none (by kernel_rfl) hn hb.2) (find_some (by kernel_rfl) (by kernel_rfl) (by kernel_rfl) hn) args w
        · split at h
          · rename_i hn
            have hn := beq_iff_eq.1 hn
            cases h
            refine ⟨_, (by kernel_rfl : Extern.allRows.lookup "math.archFloor" = some (Extern.MathFloor.toIntegral "math.archFloor" .down)), ?_⟩
            exact run_callFunc_extern hf (by rw [hn]; rfl) hb.1 (next_none (by kernel_rfl) hn hb.2) (find_some (by kernel_rfl) (by kernel_rfl) (by kernel_rfl) hn) args w
          · cases h
    · cases h
  · cases h
theorem floor_number {x : Nat} {s : Bool} {m : Nat} {e : Int} (hd : FloatKind.f64.decode x = .number s m e) :
    Extern.MathFloor.toIntegral "math.archFloor" .down #[.float .f64 x] = pure (.float .f64 (FloatKind.f64.encode ((Ieee.Datum.number s m e).integral .down))) := by
  rw [Extern.MathFloor.toIntegral.eq_1]
  generalize FloatKind.f64.decode = dec at hd ⊢
  conv => lhs; whnf
  rw [hd]
theorem floor_infinity {x : Nat} {s : Bool} (hd : FloatKind.f64.decode x = .infinity s) :
    Extern.MathFloor.toIntegral "math.archFloor" .down #[.float .f64 x] = pure (.float .f64 (FloatKind.f64.encode ((Ieee.Datum.infinity s).integral .down))) := by
  rw [Extern.MathFloor.toIntegral.eq_1]
  generalize FloatKind.f64.decode = dec at hd ⊢
  conv => lhs; whnf
  rw [hd]
theorem fext_run {k : XK} {zs : List IV} {v : Value} (h : fext k zs = some v) {M : Mem} {vs : List Value} (hl : vs.length = zs.length) (hv : ∀ (i : Nat) (x : IV) (v : Value), zs[i]? = some x → vs[i]? = some v → VRel M x v)
    {e : Array Value → Sem Value} (he : Extern.allRows.lookup (xkName k) = some e) (w : World) : (e ⟨vs⟩).run P w = .ok v w := by
  unfold fext at h
  have one : ∀ {u : Value}, zs = [.p (.sc u)] → vs = [u] := by
    intro u hz
    subst hz
    match vs, hl with
    | [x], _ => have := (hv 0 _ x rfl rfl).sc_inv; rw [this]
  split at h
  · rename_i b
    have hvs := one rfl
    subst hvs
    cases h
    have e1 : e = Extern.MathFloatBits.float64bits := Option.some.inj (he.symm.trans (by kernel_rfl : Extern.allRows.lookup "math.Float64bits" = some Extern.MathFloatBits.float64bits))
    subst e1
    rfl
  · rename_i n
    have hvs := one rfl
    subst hvs
    cases h
    have e1 : e = Extern.MathFloatBits.float64frombits := Option.some.inj (he.symm.trans (by kernel_rfl : Extern.allRows.lookup "math.Float64frombits" = some Extern.MathFloatBits.float64frombits))
    subst e1
    rfl
  · rename_i x
    have hvs := one rfl
    subst hvs
    have e1 : e = Extern.MathFloor.toIntegral "math.archFloor" .down := Option.some.inj (he.symm.trans (by kernel_rfl : Extern.allRows.lookup "math.archFloor" = some (Extern.MathFloor.toIntegral "math.archFloor" .down)))
    subst e1
    show (Extern.MathFloor.toIntegral "math.archFloor" .down #[.float .f64 x]).run P w = _
    unfold floorOf at h
    cases hd : FloatKind.f64.decode x with
    | nan s t => rw [hd] at h; cases h
    | number s m e => rw [hd] at h; cases h; rw [floor_number hd]; rfl
    | infinity s => rw [hd] at h; cases h; rw [floor_infinity hd]; rfl
  · cases h
theorem f_callx {f : Operand} {args : List Operand} {ts : Array TypeId} {fr : FR} (ho : o.op = .call { callee := .value f, args := ⟨args⟩, argTypes := ts }) (h : fcallx P ρ f args = some fr) : fr.ok P o ρ ∧ fr.R = [] ∧ fr.F = [] ∧ fr.W = [] := by
  unfold fcallx at h
  split at h
  · rename_i n zs hf ha
    split at h
    · rename_i k hk
      simp only [Option.map_eq_some_iff] at h
      obtain ⟨v, hv, rfl⟩ := h
      refine ⟨FDoes.read fun M a _ _ hr => ⟨v, ?_, .sc M v⟩, rfl, rfl, rfl⟩
      have h1 : ∀ z, ρ f = some z → VRel M z (a.eval f) := fun z hz => hr f (by simp [ho, Op.operands, Call.operands]) z hz
      have h2 : ∀ y ∈ args, ∀ z, ρ y = some z → VRel M z (a.eval y) := fun y hy z hz => hr y (by simp [ho, Op.operands, Call.operands, hy]) z hz
      have e := (h1 _ hf).sc_inv
      obtain ⟨l1, l2⟩ := rlist_rel (M := M) (a := a) ha h2
      obtain ⟨g, g1, g2⟩ := fxk_run hk ⟨args.map a.eval⟩ M.w
      have g3 := fext_run (P := P) hv l1 l2 g1 M.w
      simp only [execOp, ho, resolve, e, Deferred.ofValue, Sem.run_bind, Sem.run_pure, Result.andThen_ok, invoke]
      simp only [List.append_toArray, List.nil_append, Array.append_empty, List.map_toArray]
      rw [g2, g3]
      rfl
    · cases h
  · cases h
end Go.Idl
