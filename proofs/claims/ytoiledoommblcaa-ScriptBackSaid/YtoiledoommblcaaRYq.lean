/- The script of bytes: plain law. -/
import Derived.Test.YtoiledoommblcaaRYp
import Derived.Test.YtoiledoommblcaaRPc
set_option linter.unusedSimpArgs false
set_option linter.unusedVariables false
namespace Go.Proofs.TR
open Go Go.Idl Go.Proofs Go.GP Go.FL
/-- A number of bytes, the least ones first. -/
def leN (bs : List Nat) (a : Nat) : Nat → Nat
  | 0 => 0
  | i + 1 => leN bs a i + (bs[a + i]?).getD 0 * 256 ^ i
theorem leN_lt {bs : List Nat} (h : ∀ b ∈ bs, b < 256) (a : Nat) : ∀ i, leN bs a i < 256 ^ i
  | 0 => by simp [leN]
  | i + 1 => by
    have ih := leN_lt h a i
    have hc : (bs[a + i]?).getD 0 < 256 := by
      cases e : bs[a + i]? with
      | none => simp
      | some b => simpa using h b (List.mem_of_getElem? e)
    rw [leN, Nat.pow_succ]
    have : (bs[a + i]?).getD 0 * 256 ^ i ≤ 255 * 256 ^ i := Nat.mul_le_mul_right _ (by omega)
    omega
theorem or64 (x c i : Nat) (hi : i ≤ 7) (hx : x < 256 ^ i) (hc : c < 256) : bits .or .u64 (x : Int) ((c * 256 ^ i : Nat) : Int) = ((x + c * 256 ^ i : Nat) : Int) := by
  have h8 : (256 : Nat) ^ i = 2 ^ (8 * i) := by rw [Nat.pow_mul]
  have hp : (256 : Nat) ^ i ≤ 256 ^ 7 := Nat.pow_le_pow_right (by decide) hi
  have hp' : (256 : Nat) ^ i ≤ 72057594037927936 := hp
  have hm : c * 256 ^ i ≤ 255 * 256 ^ i := Nat.mul_le_mul_right _ (by omega)
  have e1 : (BitVec.ofInt IntKind.u64.bits (x : Int)).toNat = x := by
    show (BitVec.ofInt 64 (x : Int)).toNat = x
    rw [BitVec.toNat_ofInt]
    omega
  have e2 : (BitVec.ofInt IntKind.u64.bits ((c * 256 ^ i : Nat) : Int)).toNat = c * 256 ^ i := by
    show (BitVec.ofInt 64 ((c * 256 ^ i : Nat) : Int)).toNat = c * 256 ^ i
    rw [BitVec.toNat_ofInt]
    generalize c * 256 ^ i = z at *
    omega
  have e : bits .or .u64 (x : Int) ((c * 256 ^ i : Nat) : Int) = IntKind.u64.wrap ((((BitVec.ofInt IntKind.u64.bits (x : Int)) ||| (BitVec.ofInt IntKind.u64.bits ((c * 256 ^ i : Nat) : Int))).toNat : Nat) : Int) := rfl
  rw [e, BitVec.toNat_or, e1, e2]
  have e3 : x ||| c * 256 ^ i = x + c * 256 ^ i := by
    rw [h8] at hx ⊢
    have := Nat.two_pow_add_eq_or_of_lt hx c
    rw [Nat.mul_comm c, Nat.or_comm, ← this, Nat.add_comm]
  rw [e3, IntKind.wrap_u64]
  generalize c * 256 ^ i = z at *
  omega
theorem shl8 (c i : Nat) (hi : i ≤ 7) (h : c < 256) : IntKind.u64.wrap ((c : Int) * 2 ^ min (8 * (i : Int)).toNat 64) = ((c * 256 ^ i : Nat) : Int) := by
  have hp : (256 : Nat) ^ i ≤ 256 ^ 7 := Nat.pow_le_pow_right (by decide) hi
  have hp' : (256 : Nat) ^ i ≤ 72057594037927936 := hp
  have hm : c * 256 ^ i ≤ 255 * 256 ^ i := Nat.mul_le_mul_right _ (by omega)
  have e1 : min (8 * (i : Int)).toNat 64 = 8 * i := by omega
  have e2 : ((c : Int) * 2 ^ (8 * i)) = ((c * 256 ^ i : Nat) : Int) := by
    rw [Int.natCast_mul, Int.natCast_pow, Int.pow_mul]; rfl
  rw [e1, e2, IntKind.wrap_u64]
  generalize c * 256 ^ i = z at *
  omega
section
variable {α : Type} {f : List Nat → Nat → Option (α × Nat)} {bs : List Nat}
theorem pRep_all {P : α → Prop} (hf : ∀ a x, f bs a = some x → P x.1) : ∀ {n : Nat} {acc : List α} {a : Nat} {r : List α × Nat}, pRep (f bs) n acc a = some r → (∀ x ∈ acc, P x) → ∀ x ∈ r.1, P x
  | 0, acc, a, r, h, hp => by rw [pRep] at h; cases h; exact hp
  | n + 1, acc, a, r, h, hp => by
    rw [pRep] at h
    split at h
    · cases h
    · rename_i y hy
      refine pRep_all hf h fun x hx => ?_
      rcases List.mem_append.1 hx with hx | hx
      · exact hp x hx
      · rw [List.mem_singleton.1 hx]; exact hf _ _ hy
theorem pRep_len (hg : Goes bs f) : ∀ {n : Nat} {acc : List α} {a : Nat} {r : List α × Nat}, a ≤ bs.length → pRep (f bs) n acc a = some r → r.1.length + a ≤ acc.length + r.2
  | 0, acc, a, r, _, h => by rw [pRep] at h; cases h; exact Nat.le_refl _
  | n + 1, acc, a, r, ha, h => by
    rw [pRep] at h
    split at h
    · cases h
    · rename_i y hy
      obtain ⟨h1, h2⟩ := hg _ _ hy
      have := pRep_len hg h2 h
      simp only [List.length_append, List.length_cons, List.length_nil] at this
      omega
theorem pMany_len (hg : Goes bs f) {a : Nat} {r : List α × Nat} (h : pMany f bs a = some r) : r.1.length ≤ bs.length := by
  have h2 := (pMany_goes hg _ _ h).2
  unfold pMany at h
  split at h
  · cases h
  · rename_i y hy
    obtain ⟨h3, h4⟩ := nxt_goes bs _ _ hy
    have := pRep_len hg h4 h
    simp only [List.length_nil] at this
    omega
theorem pMany_all {P : α → Prop} (hf : ∀ a x, f bs a = some x → P x.1) {a : Nat} {r : List α × Nat} (h : pMany f bs a = some r) : ∀ x ∈ r.1, P x := by
  unfold pMany at h
  split at h
  · cases h
  · exact pRep_all hf h (by simp)
end
theorem pSt_small {bs : List Nat} (hb : bs.length ≤ 1000000) {a : Nat} {x : St × Nat} (h : pSt bs a = some x) : SmallSt x.1 := by
  unfold pSt at h
  split at h
  · cases h
  · split at h
    · cases h
    · rename_i w hw
      split at h
      · cases h
      · rename_i p hp
        split at h
        · cases h
        · rename_i k hk
          cases h
          exact ⟨Nat.le_trans (pMany_len (nxt_goes bs) hw) hb, Nat.le_trans (pMany_len (pPk_goes bs) hp) hb, Nat.le_trans (pMany_len (p3_goes bs) hk) hb⟩
theorem pNd_small {bs : List Nat} (hb : bs.length ≤ 1000000) {a : Nat} {x : Nd × Nat} (h : pNd bs a = some x) : x.1.states.length ≤ 1000000 ∧ ∀ s ∈ x.1.states, SmallSt s := by
  unfold pNd at h
  split at h
  · cases h
  · split at h
    · cases h
    · rename_i w hw
      cases h
      exact ⟨Nat.le_trans (pMany_len (pSt_goes bs) hw) hb, pMany_all (fun a x hx => pSt_small hb hx) hw⟩
theorem pApp_small {bs : List Nat} (hb : bs.length ≤ 1000000) {a : Nat} {x : (Int × List (Int × Int) × Bool × List Nd) × Nat} (h : pApp bs a = some x) : SmallT x.1.2.2.2 := by
  unfold pApp at h
  split at h
  · cases h
  · split at h
    · cases h
    · split at h
      · cases h
      · split at h
        · cases h
        · split at h
          · cases h
          · rename_i n hn
            cases h
            refine ⟨Nat.le_trans (pMany_len (pNd_goes bs) hn) hb, fun i y hy => ?_⟩
            obtain ⟨h1, h2⟩ := pMany_all (P := fun n : Nd => n.states.length ≤ 1000000 ∧ ∀ s ∈ n.states, SmallSt s) (fun a x hx => pNd_small hb hx) hn y (List.mem_of_getElem? hy)
            exact ⟨h1, fun j s hs => h2 s (List.mem_of_getElem? hs)⟩
/-- The script that bytes are, and nothing behind it. -/
def pSc (bs : List Nat) : Option Sc := match pApp bs 0 with
  | none => none
  | some A => if bs.length < A.2 + 8 then none else match pMany p3 bs (A.2 + 8) with
    | none => none
    | some c => if c.2 = bs.length then some ⟨A.1.1, A.1.2.1, A.1.2.2.2, A.1.2.2.1, leN bs A.2 8, c.1⟩ else none
def zSc : Sc := ⟨0, [], [], false, 0, []⟩
noncomputable def decL (bs : List Nat) : Sc × Int := match pSc bs with
  | none => (zSc, 4)
  | some s => if errL s = 0 then (s, 0) else (zSc, errL s)
end Go.Proofs.TR
