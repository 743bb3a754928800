/- Facts that the proofs of this claim lean on. -/
import Derived.Test.YtoiledoommblcaaRPa
import Derived.Test.YtoiledoommblcaaRD
set_option linter.unusedSimpArgs false
set_option linter.unusedVariables false
/- Reading numbers: plain law. -/
namespace Go.Proofs.TR
open Go Go.Idl
/-- The bytes of a text. -/
def by8 (t : ByteArray) : List Nat := t.data.toList.map UInt8.toNat
theorem by8_len (t : ByteArray) : (by8 t).length = t.size := by simp [by8]
theorem by8_get (t : ByteArray) (i : Nat) : (by8 t)[i]? = (t.data[i]?).map UInt8.toNat := by simp [by8]
theorem by8_lt (t : ByteArray) : ∀ b ∈ by8 t, b < 256 := by
  intro b hb
  obtain ⟨x, _, rfl⟩ := List.mem_map.1 hb
  exact x.toNat_lt
/-- The number at a place, from its byte i on; the place behind it, and the error. -/
def rdN (bs : List Nat) (a : Nat) : Nat → Nat → Nat → Int × Int × Int
  | 0, _, _ => (0, 0, 2)
  | f + 1, i, n => match bs[a + i]? with
    | none => (0, 0, 5)
    | some c => if 2147483647 < n + c % 128 * 128 ^ i ∨ (128 ≤ c ∧ f = 0) then (0, 0, 2)
      else if c < 128 then (if c = 0 ∧ 0 < i then (0, 0, 4) else (((n + c % 128 * 128 ^ i : Nat) : Int), ((a + i + 1 : Nat) : Int), 0))
      else rdN bs a f (i + 1) (n + c % 128 * 128 ^ i)
def getV (bs : List Nat) (a : Int) : Int × Int × Int := if a < 0 ∨ (bs.length : Int) < a then (0, 0, 1) else rdN bs a.toNat 5 0 0
/-- The next number, and the place behind it. -/
def nxt (bs : List Nat) (a : Nat) : Option (Int × Nat) := if (getV bs a).2.2 = 0 then some ((getV bs a).1, (getV bs a).2.1.toNat) else none
theorem rdN_err {bs : List Nat} {a : Nat} : ∀ {f i n : Nat}, (rdN bs a f i n).2.2 ≠ 0 → (rdN bs a f i n).1 = 0 ∧ (rdN bs a f i n).2.1 = 0
  | 0, i, n, _ => ⟨rfl, rfl⟩
  | f + 1, i, n, h => by
    unfold rdN at h ⊢
    split at h
    · exact ⟨rfl, rfl⟩
    · rename_i c e
      split at h
      · rename_i e1; rw [if_pos e1]; exact ⟨rfl, rfl⟩
      · rename_i e1
        rw [if_neg e1]
        split at h
        · rename_i e2
          rw [if_pos e2]
          split at h
          · rename_i e3; rw [if_pos e3]; exact ⟨rfl, rfl⟩
          · exact absurd rfl h
        · rename_i e2; rw [if_neg e2]; exact rdN_err h
theorem rdN_ok {bs : List Nat} {a : Nat} : ∀ {f i n : Nat}, (rdN bs a f i n).2.2 = 0 → ∃ v to : Nat, rdN bs a f i n = ((v : Int), (to : Int), 0) ∧ v ≤ 2147483647 ∧ a + i < to ∧ to ≤ bs.length
  | 0, i, n, h => by cases h
  | f + 1, i, n, h => by
    unfold rdN at h ⊢
    split at h
    · cases h
    · rename_i c e
      have hl : a + i < bs.length := by
        rcases Nat.lt_or_ge (a + i) bs.length with h | h
        · exact h
        · rw [List.getElem?_eq_none h] at e; cases e
      split at h
      · cases h
      · rename_i e1
        rw [if_neg e1]
        split at h
        · rename_i e2
          rw [if_pos e2]
          split at h
          · cases h
          · rename_i e3
            rw [if_neg e3]
            exact ⟨_, _, rfl, by omega, by omega, by omega⟩
        · rename_i e2
          rw [if_neg e2]
          obtain ⟨v, to, h1, h2, h3, h4⟩ := rdN_ok h
          exact ⟨v, to, h1, h2, by omega, h4⟩
theorem getV_nat {bs : List Nat} {a : Nat} (h : a ≤ bs.length) : getV bs (a : Int) = rdN bs a 5 0 0 := by
  unfold getV
  rw [if_neg (by omega)]; rfl
theorem nxt_ok {bs : List Nat} {a : Nat} {x : Int × Nat} (h : nxt bs a = some x) : getV bs a = (x.1, (x.2 : Int), 0) ∧ 0 ≤ x.1 ∧ x.1 ≤ 2147483647 ∧ a < x.2 ∧ x.2 ≤ bs.length := by
  unfold nxt at h
  split at h
  · rename_i e
    have ha : a ≤ bs.length := by
      rcases Nat.lt_or_ge bs.length a with h1 | h1
      · unfold getV at e; rw [if_pos (by omega)] at e; cases e
      · exact h1
    rw [getV_nat ha] at e h ⊢
    obtain ⟨v, to, h1, h2, h3, h4⟩ := rdN_ok e
    rw [h1] at h ⊢
    cases h
    simp only [Int.toNat_natCast]
    exact ⟨trivial, by omega, by omega, by omega, h4⟩
  · cases h
theorem getV_err {bs : List Nat} {a : Int} (h : (getV bs a).2.2 ≠ 0) : (getV bs a).1 = 0 ∧ (getV bs a).2.1 = 0 := by
  unfold getV at h ⊢
  split
  · exact ⟨rfl, rfl⟩
  · rename_i e1
    rw [if_neg e1] at h
    exact rdN_err h
theorem nxt_no {bs : List Nat} {a : Nat} (h : nxt bs a = none) : (getV bs a).2.2 ≠ 0 ∧ getV bs a = (0, 0, (getV bs a).2.2) := by
  unfold nxt at h
  split at h
  · cases h
  · rename_i e
    refine ⟨e, ?_⟩
    unfold getV at e ⊢
    split
    · rfl
    · rename_i e1
      rw [if_neg e1] at e
      obtain ⟨h1, h2⟩ := rdN_err e
      exact Prod.ext h1 (Prod.ext h2 rfl)
theorem shl7 (c i : Nat) (hi : i ≤ 4) (h : c < 128) : IntKind.i64.wrap ((c : Int) * 2 ^ min (7 * (i : Int)).toNat 64) = ((c * 128 ^ i : Nat) : Int) := by
  match i, hi with
  | 0, _ => exact (w64 (n := (c : Int) * 2 ^ 0) (by omega)).trans (by omega)
  | 1, _ => exact (w64 (n := (c : Int) * 2 ^ 7) (by omega)).trans (by omega)
  | 2, _ => exact (w64 (n := (c : Int) * 2 ^ 14) (by omega)).trans (by omega)
  | 3, _ => exact (w64 (n := (c : Int) * 2 ^ 21) (by omega)).trans (by omega)
  | 4, _ => exact (w64 (n := (c : Int) * 2 ^ 28) (by omega)).trans (by omega)
end Go.Proofs.TR

/- Reading scripts: plain law. -/
namespace Go.Proofs.TR
open Go Go.Idl
section
variable {α : Type}
/-- So many of a kind. -/
def pRep (f : Nat → Option (α × Nat)) : Nat → List α → Nat → Option (List α × Nat)
  | 0, acc, a => some (acc, a)
  | n + 1, acc, a => match f a with
    | none => none
    | some x => pRep f n (acc ++ [x.1]) x.2
def pMany (f : List Nat → Nat → Option (α × Nat)) (bs : List Nat) (a : Nat) : Option (List α × Nat) := match nxt bs a with
  | none => none
  | some x => pRep (f bs) x.1.toNat [] x.2
/-- It goes on, and not too far. -/
def Goes (bs : List Nat) (f : List Nat → Nat → Option (α × Nat)) : Prop := ∀ a x, f bs a = some x → a < x.2 ∧ x.2 ≤ bs.length
theorem pRep_goes {f : List Nat → Nat → Option (α × Nat)} {bs : List Nat} (hf : Goes bs f) : ∀ {n : Nat} {acc : List α} {a : Nat} {x : List α × Nat}, a ≤ bs.length → pRep (f bs) n acc a = some x → a ≤ x.2 ∧ x.2 ≤ bs.length
  | 0, acc, a, x, h, e => by rw [pRep] at e; cases e; exact ⟨Nat.le_refl _, h⟩
  | n + 1, acc, a, x, h, e => by
    rw [pRep] at e
    split at e
    · cases e
    · rename_i y hy
      obtain ⟨h1, h2⟩ := hf _ _ hy
      obtain ⟨h3, h4⟩ := pRep_goes hf h2 e
      exact ⟨by omega, h4⟩
theorem nxt_goes (bs : List Nat) : Goes bs nxt := fun a x h => by obtain ⟨_, _, _, h1, h2⟩ := nxt_ok h; exact ⟨h1, h2⟩
theorem pMany_goes {f : List Nat → Nat → Option (α × Nat)} {bs : List Nat} (hf : Goes bs f) : Goes bs (pMany f) := fun a x h => by
  unfold pMany at h
  split at h
  · cases h
  · rename_i y hy
    obtain ⟨h1, h2⟩ := nxt_goes bs _ _ hy
    obtain ⟨h3, h4⟩ := pRep_goes hf h2 h
    exact ⟨by omega, h4⟩
end
def p2 (bs : List Nat) (a : Nat) : Option ((Int × Int) × Nat) := match nxt bs a with
  | none => none
  | some x => match nxt bs x.2 with
    | none => none
    | some y => some ((x.1, y.1), y.2)
def p3 (bs : List Nat) (a : Nat) : Option ((Int × Int × Int) × Nat) := match nxt bs a with
  | none => none
  | some x => match nxt bs x.2 with
    | none => none
    | some y => match nxt bs y.2 with
      | none => none
      | some z => some ((x.1, y.1, z.1), z.2)
def pPk (bs : List Nat) (a : Nat) : Option ((Int × List (Int × Int)) × Nat) := match nxt bs a with
  | none => none
  | some x => match pMany p2 bs x.2 with
    | none => none
    | some y => some ((x.1, y.1), y.2)
def pSt (bs : List Nat) (a : Nat) : Option (St × Nat) := match nxt bs a with
  | none => none
  | some m => match pMany nxt bs m.2 with
    | none => none
    | some w => match pMany pPk bs w.2 with
      | none => none
      | some p => match pMany p3 bs p.2 with
        | none => none
        | some k => some (⟨m.1, w.1, p.1, k.1⟩, k.2)
def pNd (bs : List Nat) (a : Nat) : Option (Nd × Nat) := match nxt bs a with
  | none => none
  | some x => match pMany pSt bs x.2 with
    | none => none
    | some y => some (⟨x.1, y.1⟩, y.2)
/-- An application: nodes, links, whether first in first out, the table. -/
def pApp (bs : List Nat) (a : Nat) : Option ((Int × List (Int × Int) × Bool × List Nd) × Nat) := match nxt bs a with
  | none => none
  | some x => match pMany p2 bs x.2 with
    | none => none
    | some l => match nxt bs l.2 with
      | none => none
      | some f => if 1 < f.1 then none else match pMany pNd bs f.2 with
        | none => none
        | some n => some ((x.1, l.1, decide (f.1 = 1), n.1), n.2)
theorem p2_goes (bs : List Nat) : Goes bs p2 := fun a x h => by
  unfold p2 at h
  split at h
  · cases h
  · rename_i y hy
    obtain ⟨h1, h2⟩ := nxt_goes bs _ _ hy
    split at h
    · cases h
    · rename_i z hz
      obtain ⟨h3, h4⟩ := nxt_goes bs _ _ hz
      cases h
      exact ⟨by simp only; omega, h4⟩
theorem p3_goes (bs : List Nat) : Goes bs p3 := fun a x h => by
  unfold p3 at h
  split at h
  · cases h
  · rename_i y hy
    obtain ⟨h1, h2⟩ := nxt_goes bs _ _ hy
    split at h
    · cases h
    · rename_i z hz
      obtain ⟨h3, h4⟩ := nxt_goes bs _ _ hz
      split at h
      · cases h
      · rename_i u hu
        obtain ⟨h5, h6⟩ := nxt_goes bs _ _ hu
        cases h
        exact ⟨by simp only; omega, h6⟩
theorem pPk_goes (bs : List Nat) : Goes bs pPk := fun a x h => by
  unfold pPk at h
  split at h
  · cases h
  · rename_i y hy
    obtain ⟨h1, h2⟩ := nxt_goes bs _ _ hy
    split at h
    · cases h
    · rename_i z hz
      obtain ⟨h3, h4⟩ := pMany_goes (p2_goes bs) _ _ hz
      cases h
      exact ⟨by simp only; omega, h4⟩
theorem pSt_goes (bs : List Nat) : Goes bs pSt := fun a x h => by
  unfold pSt at h
  split at h
  · cases h
  · rename_i y hy
    obtain ⟨h1, h2⟩ := nxt_goes bs _ _ hy
    split at h
    · cases h
    · rename_i z hz
      obtain ⟨h3, h4⟩ := pMany_goes (nxt_goes bs) _ _ hz
      split at h
      · cases h
      · rename_i u hu
        obtain ⟨h5, h6⟩ := pMany_goes (pPk_goes bs) _ _ hu
        split at h
        · cases h
        · rename_i v hv
          obtain ⟨h7, h8⟩ := pMany_goes (p3_goes bs) _ _ hv
          cases h
          exact ⟨by simp only; omega, h8⟩
theorem pNd_goes (bs : List Nat) : Goes bs pNd := fun a x h => by
  unfold pNd at h
  split at h
  · cases h
  · rename_i y hy
    obtain ⟨h1, h2⟩ := nxt_goes bs _ _ hy
    split at h
    · cases h
    · rename_i z hz
      obtain ⟨h3, h4⟩ := pMany_goes (pSt_goes bs) _ _ hz
      cases h
      exact ⟨by simp only; omega, h4⟩
theorem pApp_goes (bs : List Nat) : Goes bs pApp := fun a x h => by
  unfold pApp at h
  split at h
  · cases h
  · rename_i y hy
    obtain ⟨h1, h2⟩ := nxt_goes bs _ _ hy
    split at h
    · cases h
    · rename_i z hz
      obtain ⟨h3, h4⟩ := pMany_goes (p2_goes bs) _ _ hz
      split at h
      · cases h
      · rename_i u hu
        obtain ⟨h5, h6⟩ := nxt_goes bs _ _ hu
        split at h
        · cases h
        · split at h
          · cases h
          · rename_i v hv
            obtain ⟨h7, h8⟩ := pMany_goes (pNd_goes bs) _ _ hv
            cases h
            exact ⟨by simp only; omega, h8⟩
end Go.Proofs.TR
