/-
  Operators, conversions, parts and builds of values.
-/
import Derived.Test.YtkbbafmaddkehaaIdC
namespace Go.Idl
variable {P : Program} {o : Oper} {ρ : Operand → Option IV} {G : Nat → Option IBlk}

/-! ### operators -/
def ibin : BinOp → IntKind → Int → Int → Option Value
  | .add, k, a, b => some (.int k (k.wrap (a + b)))
  | .sub, k, a, b => some (.int k (k.wrap (a - b)))
  | .mul, k, a, b => some (.int k (k.wrap (a * b)))
  | .quo, k, a, b => if b = 0 then none else some (.int k (k.wrap (a.tdiv b)))
  | .rem, k, a, b => if b = 0 then none else some (.int k (a.tmod b))
  | .and, k, a, b => some (.int k (bits .and k a b))
  | .or, k, a, b => some (.int k (bits .or k a b))
  | .xor, k, a, b => some (.int k (bits .xor k a b))
  | .andNot, k, a, b => some (.int k (bits .andNot k a b))
  | .eql, _, a, b => some (.bool (a == b))
  | .neq, _, a, b => some (.bool (a != b))
  | .lss, _, a, b => some (.bool (decide (a < b)))
  | .leq, _, a, b => some (.bool (decide (a ≤ b)))
  | .gtr, _, a, b => some (.bool (decide (b < a)))
  | .geq, _, a, b => some (.bool (decide (b ≤ a)))
  | _, _, _, _ => none

def shbin : BinOp → IntKind → Int → Int → Option Value
  | .shl, k, a, b => if b < 0 then none else some (.int k (k.wrap (a * 2 ^ (min b.toNat k.bits))))
  | .shr, k, a, b => if b < 0 then none else some (.int k (a.fdiv (2 ^ (min b.toNat k.bits))))
  | _, _, _, _ => none

def strbin : BinOp → ByteArray → ByteArray → Option Value
  | .add, a, b => if a.size + b.size ≤ 9223372036854775807 then some (.string (a ++ b)) else none
  | .eql, a, b => some (.bool (a.toList == b.toList))
  | .neq, a, b => some (.bool !(a.toList == b.toList))
  | .lss, a, b => some (.bool (Op.bytesLess a.toList b.toList))
  | .leq, a, b => some (.bool (Op.bytesLess a.toList b.toList || a.toList == b.toList))
  | .gtr, a, b => some (.bool !(Op.bytesLess a.toList b.toList || a.toList == b.toList))
  | .geq, a, b => some (.bool !(Op.bytesLess a.toList b.toList))
  | _, _, _ => none

def flbin : BinOp → FloatKind → Nat → Nat → Option Value
  | .add, k, a, b => (k.format.add a b).map fun r => .float k r
  | .sub, k, a, b => (k.format.sub a b).map fun r => .float k r
  | .mul, k, a, b => (k.format.mul a b).map fun r => .float k r
  | .quo, k, a, b => (k.format.div a b).map fun r => .float k r
  | .eql, k, a, b => some (.bool (k.format.order a b == some .eq))
  | .neq, k, a, b => some (.bool (k.format.order a b != some .eq))
  | .lss, k, a, b => some (.bool (k.format.order a b == some .lt))
  | .leq, k, a, b => some (.bool (k.format.order a b == some .lt || k.format.order a b == some .eq))
  | .gtr, k, a, b => some (.bool (k.format.order a b == some .gt))
  | .geq, k, a, b => some (.bool (k.format.order a b == some .gt || k.format.order a b == some .eq))
  | _, _, _, _ => none

def sbin (P : Program) (op : BinOp) (t : TypeId) : Value → Value → Option Value
  | .int k a, .int k' b =>
    match op with
    | .shl | .shr => shbin op k a b
    | _ => if k = k' then ibin op k a b else none
  | .string a, .string b => strbin op a b
  | .float k a, .float k' b => if k = k' then flbin op k a b else none
  | .bool a, .bool b => match op, tkd P t with
    | .eql, some .bool => some (.bool (a == b))
    | .neq, some .bool => some (.bool !(a == b))
    | _, _ => none
  | _, _ => none

theorem und_tkd_bool {t : TypeId} (h : tkd P t = some .bool) : P.underlying t = some .bool := by
  unfold tkd at h
  cases hu : P.underlying t with
  | none => simp [hu] at h
  | some d => cases d <;> simp_all

theorem eqGuard_key (t : TypeId) (x y : Operand) (a b : Value) (w : World) (m : Bool) :
    ¬ (a = .nilIface ∧ b = .nilIface) → (∀ xs ys, ¬ (a = .agg xs ∧ b = .agg ys)) → ((if (!m) = true then pure () else match a, b with
      | .nilIface, .nilIface =>
        if (x matches .const _) || (y matches .const _) then pure () else do
          if ← Op.eqGuardIn Op.maxDepth t a b then unsupported (.noEntry "binop/eql: two nil values of an interface type with methods, neither of them the literal nil") else pure ()
      | .agg _, .agg _ => do
        if !(← program).eqGuardType (← program).depth t then pure () else do
          if ← Op.eqGuardIn Op.maxDepth t a b then unsupported (.noEntry "binop/eql: two nil values of an interface type with methods, in a part of a struct or an array") else pure ()
      | _, _ => pure () : Sem Unit)).run P w = .ok () w := by
  intro h h2
  cases m
  · rfl
  · rw [if_neg (by simp)]
    split
    · exact absurd ⟨rfl, rfl⟩ h
    · exact absurd ⟨rfl, rfl⟩ (h2 _ _)
    · rfl

theorem run_eqGuard_plain (op : BinOp) (t : TypeId) (x y : Operand) {a b : Value} (h : ¬ (a = .nilIface ∧ b = .nilIface)) (h2 : ∀ xs ys, ¬ (a = .agg xs ∧ b = .agg ys)) (w : World) :
    (eqGuard op t x y a b).run P w = .ok () w := by
  cases op <;> first | exact eqGuard_key t x y a b w false h h2 | exact eqGuard_key t x y a b w true h h2

theorem run_sbin {op : BinOp} {t : TypeId} {a b v : Value} (h : sbin P op t a b = some v) (x y : Operand) (w : World) :
    (do eqGuard op t x y a b; binOp op t a b : Sem Value).run P w = .ok v w := by
  unfold sbin at h
  split at h
  · rename_i k a k' b
    rw [Sem.run_bind, run_eqGuard_plain op t x y (by simp) (by simp) w, Result.andThen_ok]
    split at h
    · unfold shbin at h
      simp only at h
      split at h
      · cases h
      · rename_i hb; simp only [Option.some.injEq] at h; subst h; simp [binOp, Op.shift, hb]
    · unfold shbin at h
      simp only at h
      split at h
      · cases h
      · rename_i hb; simp only [Option.some.injEq] at h; subst h; simp [binOp, Op.shift, hb]
    · split at h
      · rename_i hk
        subst hk
        cases op <;> simp only [ibin, Option.some.injEq, reduceCtorEq] at h
        case quo =>
          split at h
          · cases h
          · rename_i hb; simp only [Option.some.injEq] at h; subst h; simp [binOp, Op.intDiv, hb]
        case rem =>
          split at h
          · cases h
          · rename_i hb; simp only [Option.some.injEq] at h; subst h; simp [binOp, Op.intDiv, hb]
        all_goals (subst h; simp [binOp, Op.intArith, Op.intBits, Op.intCmp, bits])
      · cases h
  · rename_i a b
    rw [Sem.run_bind, run_eqGuard_plain op t x y (by simp) (by simp) w, Result.andThen_ok]
    cases op <;> simp only [strbin, Option.some.injEq, reduceCtorEq] at h
    case add =>
      split at h
      · rename_i hb
        simp only [Option.some.injEq] at h; subst h
        have hx : ¬ (((a.size + b.size : Nat) : Int) > IntKind.i64.max) := by
          have : IntKind.i64.max = 9223372036854775807 := by decide
          rw [this]; omega
        simp only [binOp, Op.stringOp, hx, if_false, Sem.run_pure]
      · cases h
    all_goals (subst h; simp [binOp, Op.stringOp])
  · rename_i k a k' b
    rw [Sem.run_bind, run_eqGuard_plain op t x y (by simp) (by simp) w, Result.andThen_ok]
    split at h
    · rename_i hk
      subst hk
      cases op <;> simp only [flbin, Option.some.injEq, reduceCtorEq, Option.map_eq_some_iff] at h
      case add => obtain ⟨r, hr, rfl⟩ := h; simp [binOp, Op.floatArith, hr]
      case sub => obtain ⟨r, hr, rfl⟩ := h; simp [binOp, Op.floatArith, hr]
      case mul => obtain ⟨r, hr, rfl⟩ := h; simp [binOp, Op.floatArith, hr]
      case quo => obtain ⟨r, hr, rfl⟩ := h; simp [binOp, Op.floatArith, hr]
      all_goals (subst h; simp [binOp, Op.floatCmp])
    · cases h
  · rename_i a b
    rw [Sem.run_bind, run_eqGuard_plain op t x y (by simp) (by simp) w, Result.andThen_ok]
    split at h
    · rename_i ht
      simp only [Option.some.injEq] at h; subst h
      simp only [binOp]
      simp [Op.equal, Op.maxDepth, run_equalIn_bool' w 9999 t a b (und_tkd_bool ht)]
    · rename_i ht
      simp only [Option.some.injEq] at h; subst h
      simp only [binOp]
      simp [Op.equal, Op.maxDepth, run_equalIn_bool' w 9999 t a b (und_tkd_bool ht)]
    · cases h
  · cases h

def fbin (P : Program) (op : BinOp) (t : TypeId) : IV → IV → Option FR
  | .p (.sc a), .p (.sc b) => (sbin P op t a b).map fun v => { x := .p (.sc v) }
  | _, _ => none

theorem f_bin {op : BinOp} {t t' : TypeId} {x y : Operand} {zx zy : IV} {fr : FR} (ho : o.op = .binOp op t x y t') (hx : ρ x = some zx) (hy : ρ y = some zy)
    (h : fbin P op t zx zy = some fr) : fr.ok P o ρ := by
  unfold fbin at h
  split at h
  · rename_i a b
    cases hs : sbin P op t a b with
    | none => simp [hs] at h
    | some v =>
      simp only [hs, Option.map_some, Option.some.injEq] at h
      subst h
      refine .read fun M ac _ _ hr => ⟨v, ?_, .sc M v⟩
      have e1 := (hr x (by simp [ho, Op.operands]) _ hx).sc_inv
      have e2 := (hr y (by simp [ho, Op.operands]) _ hy).sc_inv
      have hrun := run_sbin hs x y M.w
      simp only [execOp, ho, e1, e2]
      rw [Sem.run_bind, hrun]
      rfl
  · cases h

def sun : UnOp → Value → Option Value
  | .not, .bool b => some (.bool !b)
  | .neg, .int k n => some (.int k (k.wrap (0 - n)))
  | .xor, .int k n => some (.int k (bits .xor k (if k.signed then -1 else k.max) n))
  | .neg, .float k b => some (.float k (Op.negFloat k b))
  | _, _ => none
def fun1 (op : UnOp) : IV → Option FR
  | .p (.sc a) => (sun op a).map fun v => { x := .p (.sc v) }
  | _ => none
theorem f_un {op : UnOp} {t : TypeId} {x : Operand} {zx : IV} {fr : FR} (ho : o.op = .unOp op t x) (hx : ρ x = some zx) (h : fun1 op zx = some fr) : fr.ok P o ρ := by
  unfold fun1 at h
  split at h
  · rename_i a
    cases hs : sun op a with
    | none => simp [hs] at h
    | some v =>
      simp only [hs, Option.map_some, Option.some.injEq] at h
      subst h
      refine .read fun M ac _ _ hr => ⟨v, ?_, .sc M v⟩
      have e1 := (hr x (by simp [ho, Op.operands]) _ hx).sc_inv
      simp only [execOp, ho, e1]
      unfold sun at hs
      split at hs <;> simp only [Option.some.injEq, reduceCtorEq] at hs <;> subst hs <;> simp [Op.unary, Op.intArith, Op.intBits, bits]
  · cases h

/-! ### conversions -/
def scv (P : Program) (src dst : TypeId) : Value → Option Value
  | .int _ n => match tkd P src, tkd P dst with
    | some _, some (.int k) => some (.int k (k.wrap n))
    | some _, some (.float k) => some (.float k (k.nearest n))
    | _, _ => none
  | .float s b => match tkd P src, tkd P dst with
    | some _, some (.int k) => match (s.decode b).toInt .zero with
      | some n => if k.min ≤ n ∧ n ≤ k.max then some (.int k n) else none
      | none => none
    | _, _ => none
  | .string s => match tkd P src, tkd P dst with
    | some _, some .string => some (.string s)
    | _, _ => none
  | _ => none
theorem und_tkd {t : TypeId} {k : TK} (h : tkd P t = some k) : ∃ d, P.underlying t = some d ∧ (match k with
    | .bool => d = .bool | .int k => d = .int k | .float k => d = .float k | .string => d = .string | .slice e => d = .slice e | .map a b => d = .map a b | .iface => ∃ ms, d = .interface ms | .other => True) := by
  unfold tkd at h
  cases hu : P.underlying t with
  | none => simp [hu] at h
  | some d =>
    refine ⟨d, rfl, ?_⟩
    simp only [hu, Option.map_some, Option.some.injEq] at h
    cases d <;> simp only at h <;> subst h <;> simp
theorem run_scv {src dst : TypeId} {a v : Value} (h : scv P src dst a = some v) (w : World) : (convert src dst a).run P w = .ok v w := by
  unfold scv at h
  split at h
  · split at h
    · rename_i k1 k h1 h2
      simp only [Option.some.injEq] at h; subst h
      obtain ⟨d1, u1, _⟩ := und_tkd h1
      obtain ⟨d2, u2, e2⟩ := und_tkd h2
      simp only at e2; subst e2
      unfold convert
      rw [Sem.run_bind, run_underlying u1, Result.andThen_ok, Sem.run_bind, run_underlying u2, Result.andThen_ok]
      simp [Conv.intToInt]
    · rename_i k1 k h1 h2
      simp only [Option.some.injEq] at h; subst h
      obtain ⟨d1, u1, _⟩ := und_tkd h1
      obtain ⟨d2, u2, e2⟩ := und_tkd h2
      simp only at e2; subst e2
      unfold convert
      rw [Sem.run_bind, run_underlying u1, Result.andThen_ok, Sem.run_bind, run_underlying u2, Result.andThen_ok]
      simp [Conv.intToFloat]
    · cases h
  · split at h
    · rename_i k1 k h1 h2
      obtain ⟨d1, u1, _⟩ := und_tkd h1
      obtain ⟨d2, u2, e2⟩ := und_tkd h2
      simp only at e2; subst e2
      split at h
      · rename_i n hn
        split at h
        · rename_i hc
          simp only [Option.some.injEq] at h; subst h
          unfold convert
          rw [Sem.run_bind, run_underlying u1, Result.andThen_ok, Sem.run_bind, run_underlying u2, Result.andThen_ok]
          simp [Conv.floatToInt, hn, hc]
        · cases h
      · cases h
    · cases h
  · split at h
    · rename_i k1 h1 h2
      obtain ⟨d1, u1, _⟩ := und_tkd h1
      obtain ⟨d2, u2, e2⟩ := und_tkd h2
      simp only at e2; subst e2
      simp only [Option.some.injEq] at h; subst h
      unfold convert
      rw [Sem.run_bind, run_underlying u1, Result.andThen_ok, Sem.run_bind, run_underlying u2, Result.andThen_ok]
      simp
    · cases h
  · cases h
def fconv (P : Program) (src dst : TypeId) : IV → Option FR
  | .p (.sc a) => (scv P src dst a).map fun v => { x := .p (.sc v) }
  | _ => none
theorem f_conv {src dst : TypeId} {x : Operand} {zx : IV} {fr : FR} (ho : o.op = .convert src dst x) (hx : ρ x = some zx) (h : fconv P src dst zx = some fr) : fr.ok P o ρ := by
  unfold fconv at h
  split at h
  · rename_i a
    cases hs : scv P src dst a with
    | none => simp [hs] at h
    | some v =>
      simp only [hs, Option.map_some, Option.some.injEq] at h
      subst h
      refine .read fun M ac _ _ hr => ⟨v, ?_, .sc M v⟩
      have e1 := (hr x (by simp [ho, Op.operands]) _ hx).sc_inv
      simp only [execOp, ho, e1]
      rw [Sem.run_bind, run_scv hs]
      rfl
  · cases h

/-! ### parts of values -/
def fpart (P : Program) (t : TypeId) (cs : List IV) (off : Nat) : Option IV :=
  match tag P t with
  | some true => match tsz P t with
    | some n => some (.agg ((cs.drop off).take n))
    | none => none
  | some false => cs[off]?
  | none => none
theorem run_part' {M : Mem} {t : TypeId} {cs : List IV} {off : Nat} {x : IV} {vs : List Value} (h : fpart P t cs off = some x) (hl : vs.length = cs.length)
    (h1 : ∀ v ∈ vs, v.oneCell' = true) (hr : ∀ (i : Nat) (x : IV) (v : Value), cs[i]? = some x → vs[i]? = some v → VRel M x v) :
    ∃ v, (part t ⟨vs⟩ off).run P M.w = .ok v M.w ∧ VRel M x v := by
  unfold fpart at h
  split at h
  · rename_i ha
    split at h
    · rename_i n hn
      simp only [Option.some.injEq] at h; subst h
      refine ⟨.agg ⟨(vs.drop off).take n⟩, ?_, .agg _ _ (by simp [hl]) (fun v hv => h1 v (List.mem_of_mem_drop (List.mem_of_mem_take hv))) fun i y v hy hv => ?_⟩
      · unfold part
        rw [Sem.run_bind, run_isAgg' ha]
        simp only [Result.andThen_ok, if_true, Sem.run_bind, run_sizeOf' hn, Sem.run_pure]
        congr 2
        simp
      · rw [List.getElem?_take] at hy hv
        split at hy
        · rename_i hin
          rw [if_pos hin] at hv
          rw [List.getElem?_drop] at hy hv
          exact hr _ _ _ hy hv
        · cases hy
    · cases h
  · rename_i ha
    have hlt : off < vs.length := by
      rw [hl]
      rcases Nat.lt_or_ge off cs.length with h' | h'
      · exact h'
      · rw [List.getElem?_eq_none h'] at h; cases h
    refine ⟨vs[off], ?_, hr off x _ h (List.getElem?_eq_getElem hlt)⟩
    unfold part
    rw [Sem.run_bind, run_isAgg' ha]
    simp [hlt]
  · cases h
def ffield (P : Program) (t : TypeId) (f : Nat) : IV → Option FR
  | .agg cs => match tfo P t f with
    | some (off, ft) => (fpart P ft cs off).map fun x => { x }
    | none => none
  | _ => none
theorem f_field {t : TypeId} {x : Operand} {f : Nat} {zx : IV} {fr : FR} (ho : o.op = .field t x f) (hx : ρ x = some zx) (h : ffield P t f zx = some fr) : fr.ok P o ρ := by
  unfold ffield at h
  split at h
  · rename_i cs
    split at h
    · rename_i off ft hf
      cases hp : fpart P ft cs off with
      | none => simp [hp] at h
      | some z =>
        simp only [hp, Option.map_some, Option.some.injEq] at h
        subst h
        refine .read fun M ac _ _ hr => ?_
        obtain ⟨vs, e, hl, h1, hv⟩ := (hr x (by simp [ho, Op.operands]) _ hx).agg_inv
        obtain ⟨fs, fx, hu, hfx, rfl, rfl⟩ := und_tfo hf
        obtain ⟨v, hrun, hrel⟩ := run_part' (P := P) hp hl h1 hv
        refine ⟨v, ?_, hrel⟩
        simp only [execOp, ho, e]
        simp only [Instr.field, Sem.run_bind, run_underlying hu, Result.andThen_ok, hfx, asAgg, Sem.run_pure, hrun]
    · cases h
  · cases h
/-- `x[i]` of an array's value or a string. -/
def findex (P : Program) (t : TypeId) (x i : IV) : Option FR :=
  match x with
  | .agg cs => match tar P t with
    | some (len, e) => match tsz P e, idx i len with
      | some n, some k => (fpart P e cs (k * n)).map fun x => { x }
      | _, _ => none
    | none => none
  | .p (.sc (.string s)) => match tkd P t, idx i s.size with
    | some .string, some k => (s.data[k]?).map fun b => { x := sci .u8 b.toNat }
    | _, _ => none
  | _ => none
theorem f_index {t : TypeId} {x i : Operand} {zx zi : IV} {fr : FR} (ho : o.op = .index t x i) (hx : ρ x = some zx) (hi : ρ i = some zi) (h : findex P t zx zi = some fr) : fr.ok P o ρ := by
  unfold findex at h
  split at h
  · rename_i cs
    split at h
    · rename_i len e he
      split at h
      · rename_i n k hn hk
        cases hp : fpart P e cs (k * n) with
        | none => simp [hp] at h
        | some z =>
          simp only [hp, Option.map_some, Option.some.injEq] at h
          subst h
          refine .read fun M ac _ _ hr => ?_
          obtain ⟨vs, e1, hl, h1, hv⟩ := (hr x (by simp [ho, Op.operands]) _ hx).agg_inv
          obtain ⟨kd, m, e2, h6, h7, h8, h9⟩ := idx_inv hk (hr i (by simp [ho, Op.operands]) _ hi)
          obtain ⟨v, hrun, hrel⟩ := run_part' (P := P) hp hl h1 hv
          refine ⟨v, ?_, hrel⟩
          have hu := und_tar he
          simp only [execOp, ho, e1, e2]
          simp only [Instr.index, asIntOf, Sem.run_bind, Sem.run_pure, Result.andThen_ok, run_underlying hu, h6, h7, and_self, if_true, run_sizeOf' hn, h8, hrun]
      · cases h
    · cases h
  · rename_i s
    split at h
    · rename_i k ht hk
      obtain ⟨d, hu, hd⟩ := und_tkd ht
      simp only at hd; subst hd
      cases hb : s.data[k]? with
      | none => simp [hb] at h
      | some b =>
        simp only [hb, Option.map_some, Option.some.injEq] at h
        subst h
        refine .read fun M ac _ _ hr => ⟨.int .u8 b.toNat, ?_, .sc M _⟩
        have e1 := (hr x (by simp [ho, Op.operands]) _ hx).sc_inv
        obtain ⟨kd, m, e2, h6, h7, h8, h9⟩ := idx_inv hk (hr i (by simp [ho, Op.operands]) _ hi)
        simp only [execOp, ho, e1, e2]
        have hs : s[k]? = some b := by
          obtain ⟨hlt, hb'⟩ := Array.getElem?_eq_some_iff.1 hb
          have : s[k]? = some (s[k]'hlt) := getElem?_pos s k hlt
          rw [this]; congr 1
        simp only [Instr.index, asIntOf, Sem.run_bind, Sem.run_pure, Result.andThen_ok, run_underlying hu, h6, if_true, h8, hs]
    · cases h
  · cases h

def fextract (i : Nat) : IV → Option FR
  | .tup cs => (cs[i]?).map fun x => { x }
  | _ => none
theorem f_extract {x : Operand} {i : Nat} {zx : IV} {fr : FR} (ho : o.op = .extract x i) (hx : ρ x = some zx) (h : fextract i zx = some fr) : fr.ok P o ρ := by
  unfold fextract at h
  split at h
  · rename_i cs
    cases hi : cs[i]? with
    | none => simp [hi] at h
    | some z =>
      simp only [hi, Option.map_some, Option.some.injEq] at h
      subst h
      refine .read fun M ac _ _ hr => ?_
      obtain ⟨vs, e, hl, hv⟩ := (hr x (by simp [ho, Op.operands]) _ hx).tup_inv
      have hlt : i < vs.length := by
        rw [hl]
        rcases Nat.lt_or_ge i cs.length with h' | h'
        · exact h'
        · rw [List.getElem?_eq_none h'] at hi; cases hi
      refine ⟨vs[i], ?_, hv i z _ hi (List.getElem?_eq_getElem hlt)⟩
      simp [execOp, ho, e, Instr.extract, hlt]
  · cases h

end Go.Idl
