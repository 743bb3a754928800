/-
  Slices that are written out.
-/
import Derived.Test.YtkbbafmaddkehaaIdJ
namespace Go.Idl
variable {P : Program} {o : Oper} {ρ : Operand → Option IV} {G : Nat → Option IBlk}

def pvs : List IV → Option (List PV)
  | [] => some []
  | .p x :: r => (pvs r).map (x :: ·)
  | _ => none
theorem pvs_eq : ∀ {cs : List IV} {ps : List PV}, pvs cs = some ps → cs = ps.map .p
  | [], ps, h => by simp only [pvs, Option.some.injEq] at h; subst h; rfl
  | x :: r, ps, h => by
    unfold pvs at h
    split at h
    · rename_i h0; cases h0
    · rename_i y r' e
      injection e with e1 e2
      subst e1; subst e2
      cases hr : pvs r with
      | none => simp [hr] at h
      | some ps' => simp only [hr, Option.map_some, Option.some.injEq] at h; subst h; rw [pvs_eq hr]; rfl
    · cases h

def chunk {α : Type} (sz n : Nat) (l : List α) : List (List α) := (List.range n).map fun i => (l.drop (i * sz)).take sz
theorem chunk_get {α : Type} {sz n : Nat} {l : List α} {i j : Nat} {row : List α} {x : α} (hi : (chunk sz n l)[i]? = some row) (hj : row[j]? = some x) : i < n ∧ j < sz ∧ l[i * sz + j]? = some x := by
  have hlt := lt_of_get hi
  simp only [chunk, List.length_map, List.length_range] at hlt
  simp only [chunk, List.getElem?_map, List.getElem?_range hlt, Option.map_some, Option.some.injEq] at hi
  subst hi
  rw [List.getElem?_take] at hj
  split at hj
  · rename_i h
    rw [List.getElem?_drop] at hj
    exact ⟨hlt, h, hj⟩
  · cases hj
theorem chunk_wid {α : Type} {sz n : Nat} {l : List α} (h : l.length = n * sz) : ∀ row ∈ chunk sz n l, row.length = sz := by
  intro row hrow
  simp only [chunk, List.mem_map, List.mem_range] at hrow
  obtain ⟨i, hi, rfl⟩ := hrow
  have : (i + 1) * sz ≤ n * sz := Nat.mul_le_mul_right _ hi
  rw [Nat.add_mul, Nat.one_mul] at this
  rw [List.length_take, List.length_drop]; omega

/-- The cells of a literal: the zero ones, and the parts laid over them. -/
def flit (P : Program) (t : TypeId) (len : Nat) (parts : List (Nat × IV)) : Option (Nat × List IV) :=
  match tel P t with
  | some e => match tsz P e, tze P e with
    | some sz, some zs => if zs.all (·.oneCell') ∧ zs.length = sz ∧ len * sz ≤ 16777216 ∧ 0 < sz then
        (ifill (fun i => some (i * sz, sz)) (List.replicate len (zcs zs)).flatten parts).map fun cs => (sz, cs)
      else none
    | _, _ => none
  | none => none

theorem ifill_len {place : Nat → Option (Nat × Nat)} : ∀ {ps : List (Nat × IV)} {cs cs' : List IV}, ifill place cs ps = some cs' → cs'.length = cs.length
  | [], cs, cs', h => by simp only [ifill, Option.some.injEq] at h; rw [h]
  | (i, x) :: ps, cs, cs', h => by
    unfold ifill at h
    split at h
    · rename_i off size xs hp hx
      split at h
      · have := ifill_len h
        rw [this]
        have hs : ∀ (xs : List IV) (j : Nat) (cs : List IV), (iset off xs j cs).length = cs.length := by
          intro xs
          induction xs with
          | nil => intro j cs; rfl
          | cons x xs ih => intro j cs; simp only [iset]; rw [ih]; simp
        exact hs xs 0 cs
      · cases h
    · cases h

theorem run_lit {t : TypeId} {len : Nat} {parts : List (Nat × IV)} {sz : Nat} {cs : List IV} (h : flit P t len parts = some (sz, cs)) :
    cs.length = len * sz ∧ len ≤ maxLen ∧ ∃ e, ∀ (M : Mem) (us : List (Nat × Value)), us.length = parts.length →
      (∀ (k : Nat) p u, parts[k]? = some p → us[k]? = some u → u.1 = p.1 ∧ VRel M p.2 u.2) →
      ∃ vs : List Value, CellsAre M cs vs ∧ (Instr.buildSlice t len ⟨us⟩).run P M.w = .ok (.slice (some ⟨M.w.heap.size, 0, none⟩) len len) (M.w.alloc (.cells ⟨vs⟩ e)) := by
  unfold flit at h
  split at h
  · rename_i e he
    split at h
    · rename_i s zs hs hz
      split at h
      · rename_i hcd
        obtain ⟨c1, c2, c3, c4⟩ := hcd
        cases hf : ifill (fun i => some (i * s, s)) (List.replicate len (zcs zs)).flatten parts with
        | none => simp [hf] at h
        | some cs' =>
          simp only [hf, Option.map_some, Option.some.injEq, Prod.mk.injEq] at h
          obtain ⟨rfl, rfl⟩ := h
          have hfl : (List.replicate len (zcs zs)).flatten.length = len * s := by simp [zcs, c2]
          refine ⟨(ifill_len hf).trans hfl, by have : len * 1 ≤ len * s := Nat.mul_le_mul_left _ c4; unfold maxLen; omega, e, fun M us hl hr => ?_⟩
          obtain ⟨z, hzc, hzr⟩ := zero_of hz
          have hza := zcs_are M c1
          -- the zero cells of the model
          have hzero : ∀ k, k < len * s → ((List.replicate len zs).flatten)[k]? = zs[k % s]? := by
            intro k hk
            obtain ⟨i, j, hi, hj, rfl⟩ := flat_split hk
            have e2 : (i * s + j) % s = j := by rw [Nat.mul_comm, Nat.mul_add_mod, Nat.mod_eq_of_lt hj]
            rw [e2]
            clear hk e2 hfl hf hl hr c3
            induction len generalizing i with
            | zero => omega
            | succ n ih =>
              rw [List.replicate_succ, List.flatten_cons, List.getElem?_append]
              cases i with
              | zero => rw [if_pos (by omega)]; simp
              | succ i =>
                rw [if_neg (by rw [c2, Nat.add_mul]; omega)]
                have := ih i (by omega)
                rw [← this, c2]; congr 1; rw [Nat.add_mul]; omega
          have hrep : CellsAre M (List.replicate len (zcs zs)).flatten (List.replicate len zs).flatten := by
            clear hfl hf hl hr c3 hzero
            induction len with
            | zero => exact ⟨rfl, by simp, by simp⟩
            | succ n ih =>
              rw [List.replicate_succ, List.replicate_succ, List.flatten_cons, List.flatten_cons]
              have hzl : (zcs zs).length = zs.length := hza.len.symm
              refine ⟨by simp only [List.length_append, ih.len, hzl], fun v hv => ?_, fun i x v hi hv => ?_⟩
              · rcases List.mem_append.1 hv with h | h
                · exact hza.one v h
                · exact ih.one v h
              · rw [List.getElem?_append] at hi hv
                rw [hzl] at hi
                split at hi
                · rename_i h; rw [if_pos h] at hv; exact hza.rel i x v hi hv
                · rename_i h; rw [if_neg h] at hv; exact ih.rel _ x v hi hv
          obtain ⟨vs, g1, g2⟩ := fill_are hf hl hr hrep
          refine ⟨vs, g2, ?_⟩
          have harr : (Array.range (len * s)).map (fun k => (if len * s = 0 then (#[] : Array Value) else ⟨zs⟩)[k % (if len * s = 0 then (#[] : Array Value) else ⟨zs⟩).size]!) = ⟨(List.replicate len zs).flatten⟩ := by
            apply Array.ext'
            apply List.ext_getElem?
            intro k
            simp only [Array.toList_map, Array.toList_range]
            by_cases hk : k < len * s
            · have hne : ¬ len * s = 0 := by omega
              have hm : k % s < zs.length := by rw [c2]; exact Nat.mod_lt _ c4
              rw [hzero k hk, List.getElem?_map, List.getElem?_range hk]
              simp only [Option.map_some, hne, if_false, List.size_toArray, c2]
              rw [List.getElem?_eq_getElem hm, getElem!_pos (⟨zs⟩ : Array Value) (k % s) (by simpa using hm)]
              rfl
            · rw [List.getElem?_eq_none (by simp; omega), List.getElem?_eq_none (by simp [c2]; omega)]
          unfold Instr.buildSlice
          rw [Sem.run_bind, run_underlying (und_tel he)]
          simp only [Result.andThen_ok, Sem.run_bind, run_sizeOf' hs]
          rw [if_neg (by simp only [Nat.reducePow]; omega)]
          by_cases h0 : len * s = 0
          · simp only [h0, if_true] at harr
            simp only [h0, if_true, Sem.run_bind, Sem.run_pure, Result.andThen_ok, harr, g1, newRow, run_newObj, World.alloc_eq]
          · simp only [h0, if_false] at harr
            simp only [h0, if_false, Sem.run_bind, Sem.run_pure, Result.andThen_ok, hzr, hzc, harr, g1, newRow, run_newObj, World.alloc_eq]
      · cases h
    · cases h
  · cases h

/-- As a slice that nobody writes to. -/
def fbslice (P : Program) (t : TypeId) (len : Nat) (parts : List (Nat × IV)) : Option FR :=
  match flit P t len parts with
  | some (sz, cs) => match pvs cs with
    | some ps => some { x := if len = 0 then .p .emp else .p (.imm sz (chunk sz len ps)) }
    | none => none
  | none => none

theorem f_bslice {t : TypeId} {len : Nat} {parts : List (Nat × Operand)} {zs : List (Nat × IV)} {fr : FR} (ho : o.op = .buildSlice t len ⟨parts⟩) (hz : rparts ρ parts = some zs)
    (h : fbslice P t len zs = some fr) : fr.ok P o ρ := by
  unfold fbslice at h
  split at h
  · rename_i sz cs hl
    split at h
    · rename_i ps hp
      simp only [Option.some.injEq] at h; subst h
      obtain ⟨hcl, hlm, e, hrun⟩ := run_lit hl
      have hce := pvs_eq hp
      refine .does fun M a hM _ _ hr => ?_
      obtain ⟨l1, l2⟩ := rparts_rel (M := M) (a := a) hz fun p hp => hr p.2 (by
        simp only [ho, Op.operands]; simp; exact ⟨p.1, hp⟩)
      obtain ⟨vs, g1, g2⟩ := hrun M (parts.map fun p => (p.1, a.eval p.2)) l1 l2
      have hvl := g1.len
      refine ⟨.slice (some ⟨M.w.heap.size, 0, none⟩) len len, { M with w := M.w.alloc (.cells ⟨vs⟩ e) }, ?_, .alloc hM _, hM.alloc _, rfl, ?_⟩
      · simp only [execOp, ho, Sem.run_bind]
        have e : (Array.map (fun x => (x.1, a.eval x.2)) ⟨parts⟩ : Array (Nat × Value)) = ⟨parts.map fun p => (p.1, a.eval p.2)⟩ := by simp
        rw [show (Array.map (fun x : Nat × Operand => match x with | (i, x) => (i, a.eval x)) ⟨parts⟩ : Array (Nat × Value)) = ⟨parts.map fun p => (p.1, a.eval p.2)⟩ from e, g2]
        rfl
      · have hown : ¬ ({ M with w := M.w.alloc (.cells ⟨vs⟩ e) } : Mem).own M.w.heap.size := fun ho => absurd (hM.lt (c := M.w.heap.size) ho) (by omega)
        split
        · rename_i h0; subst h0; exact .p _ _ (.emp _)
        · have hps : ps.length = len * sz := by rw [← hcl, hce]; simp
          have hchl : (chunk sz len ps).length = len := by simp [chunk]
          have key : PRel (M.w.alloc (.cells ⟨vs⟩ e)) ({ M with w := M.w.alloc (.cells ⟨vs⟩ e) } : Mem).own (.imm sz (chunk sz len ps)) (.slice (some ⟨M.w.heap.size, 0, none⟩) (chunk sz len ps).length len) := by
            refine .mk_imm (c := M.w.heap.size) (o := 0) (by omega) hlm (fun _ => ⟨rfl, by simp, hown⟩) (fun i row hi => chunk_wid hps row (List.mem_of_getElem? hi)) ?_
            intro i row j y hi hj
            obtain ⟨_, _, hy⟩ := chunk_get hi hj
            obtain ⟨u, u1, u2, u3⟩ := (g1.step (.alloc hM (.cells ⟨vs⟩ e))).get (i := i * sz + j) (x := .p y) (by rw [hce]; simp [hy])
            refine ⟨u, by simpa using u1, u2, ?_⟩
            cases u3 with
            | p x v h => exact h
          rw [hchl] at key
          exact .p _ _ key
    · cases h
  · cases h

end Go.Idl
