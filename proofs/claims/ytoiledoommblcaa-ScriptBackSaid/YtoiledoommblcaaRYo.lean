/- Facts that the proofs of this claim lean on. -/
import Derived.Test.YtoiledoommblcaaRYq
set_option linter.unusedSimpArgs false
set_option linter.unusedVariables false
/- Reading is the other way round of writing: plain law. -/
namespace Go.Proofs.TR
open Go Go.Idl Go.Proofs Go.GP Go.FL
def putM : Nat → Nat → List Nat
  | 0, n => [n]
  | f + 1, n => if n < 128 then [n] else (n % 128 + 128) :: putM f (n / 128)
theorem putN_M : ∀ (f n : Nat), (putN f n).map Int.toNat = putM f n
  | 0, n => by simp [putN, putM]
  | f + 1, n => by
    unfold putN putM
    split
    · simp
    · rw [List.map_cons, putN_M f]; rfl
def putB (v : Int) : List Nat := (putL v).map Int.toNat
theorem putB_eq {v : Int} (h : OkP v) : putB v = putM 4 v.toNat := by
  unfold putB putL
  rw [putN_M]
  congr 1
  obtain ⟨h1, h2⟩ := h
  unfold clampN; omega
theorem drop_at {bs : List Nat} {a c : Nat} (h : bs[a]? = some c) : bs.drop a = c :: bs.drop (a + 1) := by
  obtain ⟨h1, h2⟩ := List.getElem?_eq_some_iff.1 h
  rw [List.drop_eq_getElem_cons h1, h2]
theorem pre_cons {bs l : List Nat} {a c : Nat} : c :: l <+: bs.drop a ↔ bs[a]? = some c ∧ l <+: bs.drop (a + 1) := by
  constructor
  · rintro ⟨r, h⟩
    have h1 : bs[a]? = some c := by
      have : (bs.drop a)[0]? = some c := by rw [← h]; rfl
      simpa using this
    refine ⟨h1, r, ?_⟩
    rw [drop_at h1, List.cons_append, List.cons.injEq] at h
    exact h.2
  · rintro ⟨h1, r, h2⟩
    exact ⟨r, by rw [drop_at h1, List.cons_append, h2]⟩
theorem pre_app {bs l k : List Nat} {a : Nat} : l ++ k <+: bs.drop a ↔ l <+: bs.drop a ∧ k <+: bs.drop (a + l.length) := by
  induction l generalizing a with
  | nil => simp
  | cons c l ih =>
    rw [List.cons_append, pre_cons, pre_cons, ih, and_assoc, List.length_cons, show a + 1 + l.length = a + (l.length + 1) by omega]
theorem rd_fwd {bs : List Nat} (hb : ∀ b ∈ bs, b < 256) {a : Nat} : ∀ (f i n : Nat) (v to : Int), rdN bs a (f + 1) i n = (v, to, 0) →
    ∃ m, putM f m <+: bs.drop (a + i) ∧ to = ((a + i + (putM f m).length : Nat) : Int) ∧ v = ((n + m * 128 ^ i : Nat) : Int) ∧ (0 < i → m ≠ 0) ∧ n + m * 128 ^ i ≤ 2147483647
  | f, i, n, v, to, h => by
    rw [rdN] at h
    split at h
    · cases h
    · rename_i c hc
      have hc256 := hb c (List.mem_of_getElem? hc)
      split at h
      · cases h
      · rename_i h1
        split at h
        · rename_i h2
          split at h
          · cases h
          · rename_i h3
            simp only [Prod.mk.injEq] at h
            obtain ⟨rfl, rfl, _⟩ := h
            have e : putM f c = [c] := by cases f <;> simp [putM, h2]
            have em : c % 128 = c := Nat.mod_eq_of_lt h2
            rw [em] at h1 ⊢
            refine ⟨c, ?_, ?_, rfl, by omega, by omega⟩
            · rw [e, pre_cons]; exact ⟨hc, List.nil_prefix⟩
            · rw [e]; rfl
        · rename_i h2
          cases f with
          | zero => exact absurd (.inr ⟨by omega, rfl⟩) h1
          | succ f =>
            obtain ⟨m, g1, g2, g3, g4, g5⟩ := rd_fwd hb f (i + 1) _ v to h
            have hm := g4 (by omega)
            have e : putM (f + 1) (c % 128 + 128 * m) = c :: putM f m := by
              rw [putM, if_neg (by omega), show (c % 128 + 128 * m) % 128 + 128 = c by omega, show (c % 128 + 128 * m) / 128 = m by omega]
            have ev : n + c % 128 * 128 ^ i + m * 128 ^ (i + 1) = n + (c % 128 + 128 * m) * 128 ^ i := by
              rw [Nat.pow_succ, Nat.add_mul, Nat.mul_comm (128 ^ i) 128, ← Nat.mul_assoc, Nat.mul_comm m 128, Nat.add_assoc]
            refine ⟨c % 128 + 128 * m, ?_, ?_, ?_, by omega, ?_⟩
            · rw [e, pre_cons]; exact ⟨hc, by rw [show a + i + 1 = a + (i + 1) by omega]; exact g1⟩
            · rw [e, g2, List.length_cons]; congr 1; omega
            · rw [g3, ev]
            · rw [← ev]; exact g5
theorem rd_bwd {bs : List Nat} {a : Nat} : ∀ (f i n m : Nat), putM f m <+: bs.drop (a + i) → m < 128 ^ (f + 1) → (0 < i → m ≠ 0) → n + m * 128 ^ i ≤ 2147483647 →
    rdN bs a (f + 1) i n = (((n + m * 128 ^ i : Nat) : Int), ((a + i + (putM f m).length : Nat) : Int), 0)
  | f, i, n, m, h, hm, hi, hv => by
    by_cases h2 : m < 128
    · have e : putM f m = [m] := by cases f <;> simp [putM, h2]
      rw [e, pre_cons] at h
      have em : m % 128 = m := Nat.mod_eq_of_lt h2
      rw [rdN, h.1, e]
      simp only
      rw [em, if_neg (by omega), if_pos h2, if_neg (by omega)]
      rfl
    · cases f with
      | zero => simp at hm; omega
      | succ f =>
        have e : putM (f + 1) m = (m % 128 + 128) :: putM f (m / 128) := by rw [putM, if_neg h2]
        rw [e, pre_cons] at h
        have ev : n + m % 128 * 128 ^ i + m / 128 * 128 ^ (i + 1) = n + m * 128 ^ i := by
          rw [Nat.pow_succ, Nat.mul_comm (128 ^ i) 128, ← Nat.mul_assoc, Nat.add_assoc, ← Nat.add_mul]
          congr 2; omega
        have hle : m % 128 * 128 ^ i ≤ m * 128 ^ i := Nat.mul_le_mul_right _ (Nat.mod_le _ _)
        have hrec := rd_bwd f (i + 1) (n + m % 128 * 128 ^ i) (m / 128) (by rw [show a + (i + 1) = a + i + 1 by omega]; exact h.2)
          (by rw [Nat.div_lt_iff_lt_mul (by omega), ← Nat.pow_succ]; exact hm) (fun _ => by omega) (by rw [ev]; exact hv)
        rw [rdN, h.1]
        simp only
        rw [show (m % 128 + 128) % 128 = m % 128 by omega, if_neg (by omega), if_neg (by omega), hrec, ev, e, List.length_cons]
        congr 2; omega
theorem putM_pos (f n : Nat) : 0 < (putM f n).length := by cases f <;> simp [putM]; split <;> simp
/-- The next number: just if its bytes stand there. -/
theorem nxt_iff {bs : List Nat} (hb : ∀ b ∈ bs, b < 256) {a : Nat} {v : Int} {b : Nat} : nxt bs a = some (v, b) ↔ OkP v ∧ putB v <+: bs.drop a ∧ b = a + (putB v).length := by
  constructor
  · intro h
    obtain ⟨h1, h2, h3, h4, h5⟩ := nxt_ok h
    simp only at h1 h2 h3 h4 h5
    rw [getV_nat (by omega)] at h1
    obtain ⟨m, g1, g2, g3, g4, g5⟩ := rd_fwd hb 4 0 0 _ _ h1
    simp only [Nat.zero_add, Nat.pow_zero, Nat.mul_one, Nat.add_zero] at g1 g2 g3 g5
    have hv : OkP v := ⟨h2, h3⟩
    have e : putB v = putM 4 m := by rw [putB_eq hv, g3]; rfl
    rw [e]
    exact ⟨hv, g1, by omega⟩
  · rintro ⟨h1, h2, h3⟩
    rw [putB_eq h1] at h2 h3
    have hm : v.toNat ≤ 2147483647 := by have := h1.2; omega
    have hl : a ≤ bs.length := by
      rcases Nat.lt_or_ge bs.length a with h | h
      · rw [List.drop_eq_nil_of_le (by omega), List.prefix_nil] at h2
        have := putM_pos 4 v.toNat
        rw [h2] at this; cases this
      · exact h
    have := rd_bwd (bs := bs) (a := a) 4 0 0 v.toNat (by simpa using h2) (by omega) (by omega) (by simpa using hm)
    simp only [Nat.zero_add, Nat.pow_zero, Nat.mul_one, Nat.add_zero] at this
    unfold nxt
    rw [getV_nat hl, this]
    simp only [if_true, Option.some.injEq, Prod.mk.injEq, Int.toNat_natCast]
    have := h1.1
    exact ⟨by omega, h3.symm⟩
/-- A reading, by the bytes that it reads. -/
def Codec {α : Type} (bs : List Nat) (f : List Nat → Nat → Option (α × Nat)) (L : α → List Nat) (V : α → Prop) : Prop := ∀ a x b, f bs a = some (x, b) ↔ V x ∧ L x <+: bs.drop a ∧ b = a + (L x).length
section
variable {α : Type} {bs : List Nat} {f : List Nat → Nat → Option (α × Nat)} {L : α → List Nat} {V : α → Prop}
theorem rep_iff (h : Codec bs f L V) : ∀ (n : Nat) (acc r : List α) (a b : Nat), pRep (f bs) n acc a = some (r, b) ↔ ∃ xs, r = acc ++ xs ∧ xs.length = n ∧ (∀ x ∈ xs, V x) ∧ xs.flatMap L <+: bs.drop a ∧ b = a + (xs.flatMap L).length
  | 0, acc, r, a, b => by
    rw [pRep]
    constructor
    · intro e; cases e; exact ⟨[], by simp, rfl, by simp, List.nil_prefix, rfl⟩
    · rintro ⟨xs, rfl, h1, _, _, rfl⟩
      have : xs = [] := List.eq_nil_of_length_eq_zero h1
      subst this; simp
  | n + 1, acc, r, a, b => by
    rw [pRep]
    constructor
    · intro e
      split at e
      · cases e
      · rename_i y hy
        obtain ⟨x, c⟩ := y
        obtain ⟨h1, h2, h3⟩ := (h a x c).1 hy
        obtain ⟨xs, g1, g2, g3, g4, g5⟩ := (rep_iff h n _ r _ b).1 e
        simp only at g4 g5
        refine ⟨x :: xs, by rw [g1]; simp, by simp [g2], ?_, ?_, ?_⟩
        · intro z hz
          rcases List.mem_cons.1 hz with rfl | hz
          · exact h1
          · exact g3 z hz
        · rw [List.flatMap_cons, pre_app, ← h3]; exact ⟨h2, g4⟩
        · rw [List.flatMap_cons, List.length_append]; omega
    · rintro ⟨xs, rfl, h1, h2, h3, rfl⟩
      match xs, h1 with
      | x :: xs, h1 =>
        rw [List.flatMap_cons, pre_app] at h3
        have hx := (h a x _).2 ⟨h2 x (List.mem_cons_self ..), h3.1, rfl⟩
        rw [hx]
        simp only
        exact (rep_iff h n _ _ _ _).2 ⟨xs, by simp, by simpa using h1, fun z hz => h2 z (List.mem_cons_of_mem _ hz), h3.2, by rw [List.flatMap_cons, List.length_append]; omega⟩
theorem many_codec (hb : ∀ b ∈ bs, b < 256) (h : Codec bs f L V) : Codec bs (pMany f) (fun xs => putB xs.length ++ xs.flatMap L) (fun xs => OkP xs.length ∧ ∀ x ∈ xs, V x) := by
  intro a xs b
  unfold pMany
  constructor
  · intro e
    split at e
    · cases e
    · rename_i y hy
      obtain ⟨v, c⟩ := y
      obtain ⟨h1, h2, h3⟩ := (nxt_iff hb).1 hy
      obtain ⟨ys, g1, g2, g3, g4, g5⟩ := (rep_iff h _ _ _ _ _).1 e
      rw [List.nil_append] at g1
      subst g1
      have hv : v = (xs.length : Int) := by have := h1.1; simp only at g2; omega
      subst hv
      simp only at g4 g5
      refine ⟨⟨h1, g3⟩, ?_, ?_⟩
      · rw [pre_app, ← h3]; exact ⟨h2, g4⟩
      · rw [List.length_append]; omega
  · rintro ⟨⟨h1, h2⟩, h3, rfl⟩
    rw [pre_app] at h3
    rw [(nxt_iff hb).2 ⟨h1, h3.1, rfl⟩]
    simp only
    exact (rep_iff h _ _ _ _ _).2 ⟨xs, by simp, by simp, h2, h3.2, by rw [List.length_append]; omega⟩
theorem nxt_codec (hb : ∀ b ∈ bs, b < 256) : Codec bs nxt putB OkP := fun _ _ _ => nxt_iff hb
end
def bMany {α : Type} (L : α → List Nat) (xs : List α) : List Nat := putB xs.length ++ xs.flatMap L
def vMany {α : Type} (V : α → Prop) (xs : List α) : Prop := OkP xs.length ∧ ∀ x ∈ xs, V x
def b2 (x : Int × Int) : List Nat := putB x.1 ++ putB x.2
def v2 (x : Int × Int) : Prop := OkP x.1 ∧ OkP x.2
def b3 (x : Int × Int × Int) : List Nat := putB x.1 ++ (putB x.2.1 ++ putB x.2.2)
def v3 (x : Int × Int × Int) : Prop := OkP x.1 ∧ OkP x.2.1 ∧ OkP x.2.2
def bPk (p : Int × List (Int × Int)) : List Nat := putB p.1 ++ bMany b2 p.2
def vPk (p : Int × List (Int × Int)) : Prop := OkP p.1 ∧ vMany v2 p.2
def bSt (s : St) : List Nat := putB s.mode ++ (bMany putB s.waits ++ (bMany bPk s.picks ++ bMany b3 s.takes))
def vSt (s : St) : Prop := OkP s.mode ∧ vMany OkP s.waits ∧ vMany vPk s.picks ∧ vMany v3 s.takes
def bNd (n : Nd) : List Nat := putB n.start ++ bMany bSt n.states
def vNd (n : Nd) : Prop := OkP n.start ∧ vMany vSt n.states
def bApp (p : Int × List (Int × Int) × Bool × List Nd) : List Nat := putB p.1 ++ (bMany b2 p.2.1 ++ (putB (fifoN p.2.2.1) ++ bMany bNd p.2.2.2))
def vApp (p : Int × List (Int × Int) × Bool × List Nd) : Prop := OkP p.1 ∧ vMany v2 p.2.1 ∧ vMany vNd p.2.2.2
theorem manyC {α : Type} {bs : List Nat} (hb : ∀ b ∈ bs, b < 256) {f : List Nat → Nat → Option (α × Nat)} {L : α → List Nat} {V : α → Prop} (h : Codec bs f L V) : Codec bs (pMany f) (bMany L) (vMany V) := many_codec hb h
section
variable {bs : List Nat} (hb : ∀ b ∈ bs, b < 256)
include hb
theorem p2_codec : Codec bs p2 b2 v2 := by
  intro a x b
  unfold p2
  constructor
  · intro e
    split at e
    · cases e
    · rename_i y0 hy0
      obtain ⟨u0, c0⟩ := y0
      obtain ⟨h0a, h0b, h0c⟩ := (nxt_codec hb _ _ _).1 hy0
      split at e
      · cases e
      · rename_i y1 hy1
        obtain ⟨u1, c1⟩ := y1
        obtain ⟨h1a, h1b, h1c⟩ := (nxt_codec hb _ _ _).1 hy1
        simp only [Option.some.injEq, Prod.mk.injEq] at e
        obtain ⟨rfl, rfl⟩ := e
        unfold b2 v2
        refine ⟨⟨h0a, h1a⟩, ?_, ?_⟩
        · simp only [pre_app]; subst h0c h1c; simp only [Nat.add_assoc] at *; exact ⟨h0b, h1b⟩
        · simp only [List.length_append] at *; omega
  · unfold b2 v2
    rintro ⟨⟨v0, v1⟩, hp, rfl⟩
    simp only [pre_app] at hp
    obtain ⟨p0, p1⟩ := hp
    rw [(nxt_codec hb _ _ _).2 ⟨v0, p0, rfl⟩]
    simp only
    rw [(nxt_codec hb _ _ _).2 ⟨v1, p1, rfl⟩]
    simp only
    refine congrArg some (Prod.ext rfl ?_)
    simp only [List.length_append]; omega
theorem p3_codec : Codec bs p3 b3 v3 := by
  intro a x b
  unfold p3
  constructor
  · intro e
    split at e
    · cases e
    · rename_i y0 hy0
      obtain ⟨u0, c0⟩ := y0
      obtain ⟨h0a, h0b, h0c⟩ := (nxt_codec hb _ _ _).1 hy0
      split at e
      · cases e
      · rename_i y1 hy1
        obtain ⟨u1, c1⟩ := y1
        obtain ⟨h1a, h1b, h1c⟩ := (nxt_codec hb _ _ _).1 hy1
        split at e
        · cases e
        · rename_i y2 hy2
          obtain ⟨u2, c2⟩ := y2
          obtain ⟨h2a, h2b, h2c⟩ := (nxt_codec hb _ _ _).1 hy2
          simp only [Option.some.injEq, Prod.mk.injEq] at e
          obtain ⟨rfl, rfl⟩ := e
          unfold b3 v3
          refine ⟨⟨h0a, h1a, h2a⟩, ?_, ?_⟩
          · simp only [pre_app]; subst h0c h1c h2c; simp only [Nat.add_assoc] at *; exact ⟨h0b, h1b, h2b⟩
          · simp only [List.length_append] at *; omega
  · unfold b3 v3
    rintro ⟨⟨v0, v1, v2⟩, hp, rfl⟩
    simp only [pre_app] at hp
    obtain ⟨p0, p1, p2⟩ := hp
    rw [(nxt_codec hb _ _ _).2 ⟨v0, p0, rfl⟩]
    simp only
    rw [(nxt_codec hb _ _ _).2 ⟨v1, p1, rfl⟩]
    simp only
    rw [(nxt_codec hb _ _ _).2 ⟨v2, p2, rfl⟩]
    simp only
    refine congrArg some (Prod.ext rfl ?_)
    simp only [List.length_append]; omega
theorem pk_codec : Codec bs pPk bPk vPk := by
  intro a x b
  unfold pPk
  constructor
  · intro e
    split at e
    · cases e
    · rename_i y0 hy0
      obtain ⟨u0, c0⟩ := y0
      obtain ⟨h0a, h0b, h0c⟩ := (nxt_codec hb _ _ _).1 hy0
      split at e
      · cases e
      · rename_i y1 hy1
        obtain ⟨u1, c1⟩ := y1
        obtain ⟨h1a, h1b, h1c⟩ := (manyC hb (p2_codec hb) _ _ _).1 hy1
        simp only [Option.some.injEq, Prod.mk.injEq] at e
        obtain ⟨rfl, rfl⟩ := e
        unfold bPk vPk
        refine ⟨⟨h0a, h1a⟩, ?_, ?_⟩
        · simp only [pre_app]; subst h0c h1c; simp only [Nat.add_assoc] at *; exact ⟨h0b, h1b⟩
        · simp only [List.length_append] at *; omega
  · unfold bPk vPk
    rintro ⟨⟨v0, v1⟩, hp, rfl⟩
    simp only [pre_app] at hp
    obtain ⟨p0, p1⟩ := hp
    rw [(nxt_codec hb _ _ _).2 ⟨v0, p0, rfl⟩]
    simp only
    rw [(manyC hb (p2_codec hb) _ _ _).2 ⟨v1, p1, rfl⟩]
    simp only
    refine congrArg some (Prod.ext rfl ?_)
    simp only [List.length_append]; omega
theorem st_codec : Codec bs pSt bSt vSt := by
  intro a x b
  unfold pSt
  constructor
  · intro e
    split at e
    · cases e
    · rename_i y0 hy0
      obtain ⟨u0, c0⟩ := y0
      obtain ⟨h0a, h0b, h0c⟩ := (nxt_codec hb _ _ _).1 hy0
      split at e
      · cases e
      · rename_i y1 hy1
        obtain ⟨u1, c1⟩ := y1
        obtain ⟨h1a, h1b, h1c⟩ := (manyC hb (nxt_codec hb) _ _ _).1 hy1
        split at e
        · cases e
        · rename_i y2 hy2
          obtain ⟨u2, c2⟩ := y2
          obtain ⟨h2a, h2b, h2c⟩ := (manyC hb (pk_codec hb) _ _ _).1 hy2
          split at e
          · cases e
          · rename_i y3 hy3
            obtain ⟨u3, c3⟩ := y3
            obtain ⟨h3a, h3b, h3c⟩ := (manyC hb (p3_codec hb) _ _ _).1 hy3
            simp only [Option.some.injEq, Prod.mk.injEq] at e
            obtain ⟨rfl, rfl⟩ := e
            unfold bSt vSt
            refine ⟨⟨h0a, h1a, h2a, h3a⟩, ?_, ?_⟩
            · simp only [pre_app]; subst h0c h1c h2c h3c; simp only [Nat.add_assoc] at *; exact ⟨h0b, h1b, h2b, h3b⟩
            · simp only [List.length_append] at *; omega
  · unfold bSt vSt
    rintro ⟨⟨v0, v1, v2, v3⟩, hp, rfl⟩
    simp only [pre_app] at hp
    obtain ⟨p0, p1, p2, p3⟩ := hp
    rw [(nxt_codec hb _ _ _).2 ⟨v0, p0, rfl⟩]
    simp only
    rw [(manyC hb (nxt_codec hb) _ _ _).2 ⟨v1, p1, rfl⟩]
    simp only
    rw [(manyC hb (pk_codec hb) _ _ _).2 ⟨v2, p2, rfl⟩]
    simp only
    rw [(manyC hb (p3_codec hb) _ _ _).2 ⟨v3, p3, rfl⟩]
    simp only
    refine congrArg some (Prod.ext rfl ?_)
    simp only [List.length_append]; omega
theorem nd_codec : Codec bs pNd bNd vNd := by
  intro a x b
  unfold pNd
  constructor
  · intro e
    split at e
    · cases e
    · rename_i y0 hy0
      obtain ⟨u0, c0⟩ := y0
      obtain ⟨h0a, h0b, h0c⟩ := (nxt_codec hb _ _ _).1 hy0
      split at e
      · cases e
      · rename_i y1 hy1
        obtain ⟨u1, c1⟩ := y1
        obtain ⟨h1a, h1b, h1c⟩ := (manyC hb (st_codec hb) _ _ _).1 hy1
        simp only [Option.some.injEq, Prod.mk.injEq] at e
        obtain ⟨rfl, rfl⟩ := e
        unfold bNd vNd
        refine ⟨⟨h0a, h1a⟩, ?_, ?_⟩
        · simp only [pre_app]; subst h0c h1c; simp only [Nat.add_assoc] at *; exact ⟨h0b, h1b⟩
        · simp only [List.length_append] at *; omega
  · unfold bNd vNd
    rintro ⟨⟨v0, v1⟩, hp, rfl⟩
    simp only [pre_app] at hp
    obtain ⟨p0, p1⟩ := hp
    rw [(nxt_codec hb _ _ _).2 ⟨v0, p0, rfl⟩]
    simp only
    rw [(manyC hb (st_codec hb) _ _ _).2 ⟨v1, p1, rfl⟩]
    simp only
    refine congrArg some (Prod.ext rfl ?_)
    simp only [List.length_append]; omega
theorem app_codec : Codec bs pApp bApp vApp := by
  intro a x b
  unfold pApp
  constructor
  · intro e
    split at e
    · cases e
    · rename_i y0 hy0
      obtain ⟨u0, c0⟩ := y0
      obtain ⟨h0a, h0b, h0c⟩ := (nxt_codec hb _ _ _).1 hy0
      split at e
      · cases e
      · rename_i y1 hy1
        obtain ⟨u1, c1⟩ := y1
        obtain ⟨h1a, h1b, h1c⟩ := (manyC hb (p2_codec hb) _ _ _).1 hy1
        split at e
        · cases e
        · rename_i y2 hy2
          obtain ⟨u2, c2⟩ := y2
          obtain ⟨h2a, h2b, h2c⟩ := (nxt_codec hb _ _ _).1 hy2
          split at e
          · cases e
          · rename_i hx
            split at e
            · cases e
            · rename_i y3 hy3
              obtain ⟨u3, c3⟩ := y3
              obtain ⟨h3a, h3b, h3c⟩ := (manyC hb (nd_codec hb) _ _ _).1 hy3
              simp only [Option.some.injEq, Prod.mk.injEq] at e
              obtain ⟨rfl, rfl⟩ := e
              unfold bApp vApp
              have hf : fifoN (decide (u2 = 1)) = u2 := by
                have := h2a.1
                unfold fifoN
                by_cases h : u2 = 1
                · simp [h]
                · simp [h]; omega
              simp only [hf]
              refine ⟨⟨h0a, h1a, h3a⟩, ?_, ?_⟩
              · simp only [pre_app]; subst h0c h1c h2c h3c; simp only [Nat.add_assoc] at *; exact ⟨h0b, h1b, h2b, h3b⟩
              · simp only [List.length_append] at *; omega
  · unfold bApp vApp
    rintro ⟨⟨v0, v1, v3⟩, hp, rfl⟩
    simp only [pre_app] at hp
    obtain ⟨p0, p1, p2, p3⟩ := hp
    rw [(nxt_codec hb _ _ _).2 ⟨v0, p0, rfl⟩]
    simp only
    rw [(manyC hb (p2_codec hb) _ _ _).2 ⟨v1, p1, rfl⟩]
    simp only
    rw [(nxt_codec hb _ _ _).2 ⟨(by unfold fifoN; split <;> exact ⟨by omega, by omega⟩), p2, rfl⟩]
    simp only
    rw [if_neg (by unfold fifoN; split <;> omega)]
    rw [(manyC hb (nd_codec hb) _ _ _).2 ⟨v3, p3, rfl⟩]
    simp only
    refine congrArg some (Prod.ext (Prod.ext rfl (Prod.ext rfl (Prod.ext (by unfold fifoN; simp only; cases x.2.2.1 <;> rfl) rfl))) ?_)
    simp only [List.length_append]; omega
end
end Go.Proofs.TR

/- The script of bytes: just if they are what is encoded of it. -/
namespace Go.Proofs.TR
open Go Go.Idl Go.Proofs Go.GP Go.FL
def flN (r : Nat) : List Nat := [r % 256, r / 256 % 256, r / 65536 % 256, r / 16777216 % 256, r / 4294967296 % 256, r / 1099511627776 % 256, r / 281474976710656 % 256, r / 72057594037927936 % 256]
theorem byteF_nat (r i : Nat) (hi : i < 8) : (byteF r i).toNat = r / 256 ^ i % 256 := by
  unfold byteF
  have e1 : min (8 * (i : Int)).toNat 64 = 8 * i := by omega
  have e2 : ((r : Int).fdiv (2 ^ (8 * i))) = ((r / 256 ^ i : Nat) : Int) := by
    have : (2 : Int) ^ (8 * i) = ((256 ^ i : Nat) : Int) := by rw [Int.pow_mul, Int.natCast_pow]; rfl
    rw [this, Int.fdiv_eq_ediv_of_nonneg _ (Int.natCast_nonneg _)]; rfl
  rw [e1, e2, IntKind.wrap_u8]
  omega
theorem flB_nat (r : Nat) : (flB r).map Int.toNat = flN r := by
  have h : ∀ i, i < 8 → (byteF r i).toNat = r / 256 ^ i % 256 := fun i hi => byteF_nat r i hi
  show [(byteF r 0).toNat, (byteF r 1).toNat, (byteF r 2).toNat, (byteF r 3).toNat, (byteF r 4).toNat, (byteF r 5).toNat, (byteF r 6).toNat, (byteF r 7).toNat] = flN r
  rw [h 0 (by decide), h 1 (by decide), h 2 (by decide), h 3 (by decide), h 4 (by decide), h 5 (by decide), h 6 (by decide), h 7 (by decide)]
  simp [flN]
theorem le_bwd {bs : List Nat} {a r : Nat} (h : flN r <+: bs.drop a) (hr : r < 18446744073709551616) : leN bs a 8 = r ∧ a + 8 ≤ bs.length := by
  have hl : a + 8 ≤ bs.length := by
    have := h.length_le
    rw [List.length_drop] at this
    have e : (flN r).length = 8 := rfl
    omega
  unfold flN at h
  simp only [pre_cons] at h
  obtain ⟨h0, h1, h2, h3, h4, h5, h6, h7, _⟩ := h
  refine ⟨?_, hl⟩
  simp only [leN, Nat.add_assoc, Nat.reduceAdd, Nat.add_zero] at h1 h2 h3 h4 h5 h6 h7 ⊢
  rw [h0, h1, h2, h3, h4, h5, h6, h7]
  simp only [Option.getD_some, Nat.reducePow, Nat.mul_one, Nat.zero_add]
  omega
theorem le_fwd {bs : List Nat} (hb : ∀ b ∈ bs, b < 256) {a : Nat} (h : a + 8 ≤ bs.length) : flN (leN bs a 8) <+: bs.drop a := by
  have hc : ∀ i, i < 8 → ∃ c, bs[a + i]? = some c ∧ c < 256 := fun i hi => by
    have e := List.getElem?_eq_getElem (show a + i < bs.length by omega)
    exact ⟨_, e, hb _ (List.mem_of_getElem? e)⟩
  obtain ⟨c0, h0, l0⟩ := hc 0 (by decide)
  obtain ⟨c1, h1, l1⟩ := hc 1 (by decide)
  obtain ⟨c2, h2, l2⟩ := hc 2 (by decide)
  obtain ⟨c3, h3, l3⟩ := hc 3 (by decide)
  obtain ⟨c4, h4, l4⟩ := hc 4 (by decide)
  obtain ⟨c5, h5, l5⟩ := hc 5 (by decide)
  obtain ⟨c6, h6, l6⟩ := hc 6 (by decide)
  obtain ⟨c7, h7, l7⟩ := hc 7 (by decide)
  have e : leN bs a 8 = c0 + c1 * 256 + c2 * 65536 + c3 * 16777216 + c4 * 4294967296 + c5 * 1099511627776 + c6 * 281474976710656 + c7 * 72057594037927936 := by
    simp only [leN, h0, h1, h2, h3, h4, h5, h6, h7, Option.getD_some, Nat.reducePow, Nat.mul_one, Nat.zero_add]
  have e0 : flN (leN bs a 8) = [c0, c1, c2, c3, c4, c5, c6, c7] := by
    rw [e]
    unfold flN
    refine List.cons_eq_cons.2 ⟨by omega, List.cons_eq_cons.2 ⟨by omega, List.cons_eq_cons.2 ⟨by omega, List.cons_eq_cons.2 ⟨by omega, List.cons_eq_cons.2 ⟨by omega, List.cons_eq_cons.2 ⟨by omega, List.cons_eq_cons.2 ⟨by omega, List.cons_eq_cons.2 ⟨by omega, rfl⟩⟩⟩⟩⟩⟩⟩⟩
  rw [e0]
  simp only [pre_cons, Nat.add_assoc, Nat.reduceAdd]
  rw [Nat.add_zero] at h0
  exact ⟨h0, h1, h2, h3, h4, h5, h6, h7, List.nil_prefix⟩
/-- What of a script may be written. -/
def vSc (s : Sc) : Prop := vApp (s.N, s.ls, s.fifo, s.T) ∧ s.room < 18446744073709551616 ∧ vMany v3 s.acts
def bSc (s : Sc) : List Nat := bApp (s.N, s.ls, s.fifo, s.T) ++ (flN s.room ++ bMany b3 s.acts)
theorem pSc_iff {bs : List Nat} (hb : ∀ b ∈ bs, b < 256) (s : Sc) : pSc bs = some s ↔ vSc s ∧ bs = bSc s := by
  unfold pSc
  constructor
  · intro h
    split at h
    · cases h
    · rename_i A hA
      obtain ⟨A, a⟩ := A
      obtain ⟨h1, h2, h3⟩ := (app_codec hb _ _ _).1 hA
      split at h
      · cases h
      · rename_i hl
        split at h
        · cases h
        · rename_i c hc
          obtain ⟨acts, b⟩ := c
          obtain ⟨g1, g2, g3⟩ := (manyC hb (p3_codec hb) _ _ _).1 hc
          split at h
          · rename_i he
            simp only at hl he h g2 g3
            cases h
            have hf := le_fwd hb (a := a) (by omega)
            refine ⟨⟨h1, leN_lt hb a 8, g1⟩, ?_⟩
            have hp : bSc ⟨A.1, A.2.1, A.2.2.2, A.2.2.1, leN bs a 8, acts⟩ <+: bs.drop 0 := by
              unfold bSc
              rw [pre_app, pre_app]
              refine ⟨h2, ?_, ?_⟩
              · rw [← h3]; exact hf
              · rw [← h3]; exact g2
            rw [List.drop_zero] at hp
            refine (hp.eq_of_length ?_).symm
            have : (flN (leN bs a 8)).length = 8 := rfl
            unfold bSc
            rw [List.length_append, List.length_append, this]
            have h3' : a = 0 + (bApp (A.1, A.2.1, A.2.2.1, A.2.2.2)).length := h3
            (try simp only)
            omega
          · cases h
  · rintro ⟨⟨h1, h2, h3⟩, he⟩
    have hp : bSc s <+: bs.drop 0 := by rw [List.drop_zero, ← he]; exact List.prefix_rfl
    unfold bSc at hp
    rw [pre_app, pre_app] at hp
    obtain ⟨p1, p2, p3⟩ := hp
    obtain ⟨q1, q2⟩ := le_bwd p2 h2
    have e8 : (flN s.room).length = 8 := rfl
    rw [e8] at p3
    rw [(app_codec hb _ _ _).2 ⟨h1, p1, rfl⟩]
    simp only
    rw [if_neg (by omega), (manyC hb (p3_codec hb) _ _ _).2 ⟨h3, p3, rfl⟩]
    simp only
    rw [if_pos, q1]
    · have : bs.length = (bSc s).length := by rw [← he]
      unfold bSc at this
      rw [List.length_append, List.length_append, e8] at this
      omega
theorem pSc_less {bs cs : List Nat} (hb : ∀ b ∈ bs, b < 256) (hc : ∀ b ∈ cs, b < 256) {s : Sc} (h : pSc bs = some s) (hp : bs <+: cs) (hne : bs.length ≠ cs.length) : pSc cs = none := by
  obtain ⟨⟨h1, h2, h3⟩, he⟩ := (pSc_iff hb s).1 h
  cases hz : pSc cs with
  | none => rfl
  | some z =>
    exfalso
    have hp0 : bSc s <+: cs.drop 0 := by rw [List.drop_zero, ← he]; exact hp
    unfold bSc at hp0
    rw [pre_app, pre_app] at hp0
    obtain ⟨p1, p2, p3⟩ := hp0
    obtain ⟨q1, q2⟩ := le_bwd p2 h2
    have e8 : (flN s.room).length = 8 := rfl
    rw [e8] at p3
    unfold pSc at hz
    rw [(app_codec hc _ _ _).2 ⟨h1, p1, rfl⟩] at hz
    simp only at hz
    rw [if_neg (by omega), (manyC hc (p3_codec hc) _ _ _).2 ⟨h3, p3, rfl⟩] at hz
    simp only at hz
    split at hz
    · rename_i e
      have : bs.length = (bSc s).length := by rw [← he]
      unfold bSc at this
      rw [List.length_append, List.length_append, e8] at this
      omega
    · cases hz
end Go.Proofs.TR

/- Laws of encoding and decoding: no program in sight. -/
namespace Go.Proofs.TR
open Go Go.Idl Go.Proofs Go.GP Go.FL
def bytesS (s : Sc) : List Int := (appL s).flatMap putL ++ flB s.room ++ (actsL s.acts).flatMap putL
theorem bytesS_nat (s : Sc) : (bytesS s).map Int.toNat = bSc s := by
  obtain ⟨N, ls, T, fifo, room, acts⟩ := s
  unfold bytesS bSc
  rw [List.map_append, List.map_append, flB_nat, List.append_assoc]
  have e1 : List.map Int.toNat (List.flatMap putL (appL ⟨N, ls, T, fifo, room, acts⟩)) = bApp (N, ls, fifo, T) := by
    have h1 : ∀ l : List Int, List.map Int.toNat (l.flatMap putL) = l.flatMap putB := fun l => by rw [List.map_flatMap]; rfl
    rw [h1]
    have hst : ∀ s : St, (stL s).flatMap putB = bSt s := fun s => by
      simp only [stL, List.flatMap_append, List.flatMap_cons, List.flatMap_nil, List.append_assoc, List.append_nil, List.flatMap_assoc]
      have hpk : ∀ p : Int × List (Int × Int), (pkL p).flatMap putB = bPk p := fun p => by
        simp only [pkL, List.flatMap_append, List.flatMap_cons, List.flatMap_nil, List.append_assoc, List.append_nil, List.flatMap_assoc]; rfl
      rw [funext hpk]; simp only [bSt, bMany, List.append_assoc]; rfl
    have hnd : ∀ n : Nd, (ndL n).flatMap putB = bNd n := fun n => by
      simp only [ndL, List.flatMap_append, List.flatMap_cons, List.flatMap_nil, List.append_assoc, List.append_nil, List.flatMap_assoc]
      rw [funext hst]; rfl
    simp only [appL, List.flatMap_append, List.flatMap_cons, List.flatMap_nil, List.append_assoc, List.append_nil, List.flatMap_assoc]
    rw [funext hnd]; simp only [bApp, bMany, List.append_assoc]; rfl
  have e2 : List.map Int.toNat (List.flatMap putL (actsL acts)) = bMany b3 acts := by
    rw [List.map_flatMap]
    show (actsL acts).flatMap putB = _
    simp only [actsL, List.flatMap_append, List.flatMap_cons, List.flatMap_nil, List.append_assoc, List.append_nil, List.flatMap_assoc]
    rfl
  rw [e1, e2]
def IsB (n : Int) : Prop := 0 ≤ n ∧ n < 256
theorem putN_rng : ∀ (f n : Nat), (n < 128 ^ (f + 1)) → ∀ x ∈ putN f n, IsB x
  | 0, n, h, x, hx => by simp [putN] at hx; subst hx; exact ⟨by omega, by simp at h; omega⟩
  | f + 1, n, h, x, hx => by
    unfold putN at hx
    split at hx
    · simp at hx; subst hx; exact ⟨by omega, by omega⟩
    · rcases List.mem_cons.1 hx with rfl | hx
      · exact ⟨by omega, by omega⟩
      · exact putN_rng f _ (by rw [Nat.div_lt_iff_lt_mul (by omega), ← Nat.pow_succ]; exact h) x hx
theorem putL_rng (v : Int) : ∀ x ∈ putL v, IsB x := putN_rng 4 _ (by have := clamp_le v; omega)
theorem flB_rng (r : Nat) : ∀ x ∈ flB r, IsB x := by
  intro x hx
  unfold flB at hx
  obtain ⟨i, _, rfl⟩ := List.mem_map.1 hx
  unfold byteF
  rw [IntKind.wrap_u8]
  exact ⟨by omega, by omega⟩
theorem bytesS_rng (s : Sc) : ∀ x ∈ bytesS s, IsB x := by
  intro x hx
  unfold bytesS at hx
  rcases List.mem_append.1 hx with hx | hx
  · rcases List.mem_append.1 hx with hx | hx
    · obtain ⟨v, _, h⟩ := List.mem_flatMap.1 hx; exact putL_rng v x h
    · exact flB_rng _ x hx
  · obtain ⟨v, _, h⟩ := List.mem_flatMap.1 hx; exact putL_rng v x h
theorem by8_strOf {l : List Int} (h : ∀ x ∈ l, IsB x) : by8 (strOf l) = l.map Int.toNat := by
  unfold by8 strOf
  simp only [List.map_map]
  refine List.map_congr_left fun x hx => ?_
  have := h x hx
  simp only [Function.comp_apply, UInt8.toNat_ofNat']
  unfold IsB at this
  omega
theorem by8_inj {a b : ByteArray} (h : by8 a = by8 b) : a = b := by
  apply ByteArray.ext
  rw [← Array.toList_inj]
  unfold by8 at h
  exact List.map_inj_right (fun x y e => UInt8.toNat_inj.1 e) |>.1 h
theorem by8_bytes (s : Sc) : by8 (strOf (bytesS s)) = bSc s := by rw [by8_strOf (bytesS_rng s), bytesS_nat]
theorem by8_extract (t : ByteArray) (a b : Nat) : by8 (t.extract a b) = ((by8 t).drop a).take (b - a) := by
  unfold by8
  simp only [ByteArray.data_extract]
  simp [List.map_take, List.map_drop]
theorem by8_app (a b : ByteArray) : by8 (a ++ b) = by8 a ++ by8 b := by
  unfold by8
  simp [ByteArray.data_append]
theorem okN {n : Nat} (h : n ≤ 1000000) : OkP (n : Int) := ⟨by omega, by omega⟩
theorem v_of_right {s : Sc} (hf : Fit s) (hr : s.room < 18446744073709551616) (h : errL s = 0) : vSc s := by
  obtain ⟨f1, f2, f3, f4⟩ := hf
  unfold errL at h
  split at h
  · omega
  · rename_i hR
    split at h
    · omega
    · rename_i hT
      split at h
      · rename_i hc; exact absurd h hc
      · split at h
        · rename_i hA
          have hA : ActsP s.acts := tB_iff.1 hA
          have hT : TabP s.N s.ls s.T := tB_iff.1 (by simpa using hT)
          obtain ⟨⟨r1, r2, r3, r4, _⟩, t2, t3⟩ := hT
          have hls : ∀ x ∈ s.ls, (0 ≤ x.1 ∧ x.1 < s.N) ∧ 0 ≤ x.2 ∧ x.2 < s.N := fun x hx => by
            obtain ⟨j, hj, rfl⟩ := List.getElem_of_mem hx
            obtain ⟨a, b, _⟩ := r4 j _ (List.getElem?_eq_getElem hj)
            exact ⟨a, b⟩
          have okl : ∀ {n : Int}, 0 ≤ n → n < s.N → OkP n := fun h1 h2 => ⟨h1, by omega⟩
          refine ⟨⟨⟨by simp only; omega, by simp only; omega⟩, ⟨okN (by simp only; omega), fun x hx => ?_⟩, okN (by simp only; omega), fun n hn => ?_⟩, hr, okN (by omega), fun t ht => ?_⟩
          · obtain ⟨⟨a, b⟩, c, d⟩ := hls x hx
            exact ⟨okl a b, okl c d⟩
          · obtain ⟨i, hi, rfl⟩ := List.getElem_of_mem hn
            simp only at hi ⊢
            obtain ⟨g1, g2⟩ := f3 _ (List.getElem_mem hi)
            obtain ⟨n1, n2, n3, n4⟩ := t3 i _ (List.getElem?_eq_getElem hi)
            generalize s.T[i] = x at *
            refine ⟨⟨n3.1, by have := n3.2; omega⟩, okN (by omega), fun st hst => ?_⟩
            obtain ⟨o1, o2, o3, o4⟩ := g2 st hst
            obtain ⟨j, hj, rfl⟩ := List.getElem_of_mem hst
            obtain ⟨m1, m2, m3, m4, _⟩ := n4 j _ (List.getElem?_eq_getElem hj)
            generalize x.states[j] = st at *
            refine ⟨⟨m1.1, by have := m1.2; omega⟩, ⟨okN (by omega), fun w hw => ?_⟩, ⟨okN (by omega), fun p hp => ?_⟩, okN (by omega), fun t ht => ?_⟩
            · rcases m2 with ⟨_, e⟩ | ⟨_, _, e⟩
              · rw [List.eq_nil_of_length_eq_zero e] at hw; cases hw
              · obtain ⟨k, hk, rfl⟩ := List.getElem_of_mem hw
                obtain ⟨⟨a, b⟩, _⟩ := hls _ (e k _ (List.getElem?_eq_getElem hk)).1
                exact okl a b
            · have q := o3 p hp
              obtain ⟨k, hk, rfl⟩ := List.getElem_of_mem hp
              obtain ⟨a, b, c⟩ := m3.2.2 k _ (List.getElem?_eq_getElem hk)
              refine ⟨⟨a.1, by have := a.2; omega⟩, okN (by omega), fun y hy => ?_⟩
              obtain ⟨u, hu, rfl⟩ := List.getElem_of_mem hy
              obtain ⟨d, e⟩ := c u _ (List.getElem?_eq_getElem hu)
              obtain ⟨_, d1, d2⟩ := hls _ d
              exact ⟨okl d1 d2, e.1, by have := e.2; omega⟩
            · obtain ⟨k, hk, rfl⟩ := List.getElem_of_mem ht
              obtain ⟨a, b, c, _⟩ := m4 k _ (List.getElem?_eq_getElem hk)
              obtain ⟨⟨d1, d2⟩, _⟩ := hls _ a
              exact ⟨okl d1 d2, ⟨b.1, by have := b.2; omega⟩, c.1, by have := c.2; omega⟩
          · obtain ⟨k, hk, rfl⟩ := List.getElem_of_mem ht
            obtain ⟨a, b, c, _⟩ := hA k _ (List.getElem?_eq_getElem hk)
            exact ⟨⟨a.1, by omega⟩, b, c⟩
        · omega
theorem bSc_lt (s : Sc) : ∀ b ∈ bSc s, b < 256 := by
  rw [← by8_bytes]; exact by8_lt _
/-- A right script is decoded as it was. -/
theorem dec_enc {s : Sc} (hf : Fit s) (hr : s.room < 18446744073709551616) (h : errL s = 0) : decL (bSc s) = (s, 0) := by
  unfold decL
  rw [(pSc_iff (bSc_lt s) s).2 ⟨v_of_right hf hr h, rfl⟩]
  simp only
  rw [if_pos h]
theorem dec_none {bs : List Nat} (h : pSc bs = none) : decL bs = (zSc, 4) := by
  unfold decL; rw [h]
theorem dec_cut {s : Sc} (hf : Fit s) (hr : s.room < 18446744073709551616) (h : errL s = 0) {k : Nat} (hk : k < (bSc s).length) : decL ((bSc s).take k) = (zSc, 4) := by
  refine dec_none ?_
  cases e : pSc ((bSc s).take k) with
  | none => rfl
  | some y =>
    have := pSc_less (fun b hb => bSc_lt s b (List.mem_of_mem_take hb)) (bSc_lt s) e (List.take_prefix k _) (by rw [List.length_take]; omega)
    rw [(pSc_iff (bSc_lt s) s).2 ⟨v_of_right hf hr h, rfl⟩] at this
    cases this
theorem dec_more {s : Sc} (hf : Fit s) (hr : s.room < 18446744073709551616) (h : errL s = 0) {c : Nat} (hc : c < 256) : decL (bSc s ++ [c]) = (zSc, 4) := by
  refine dec_none (pSc_less (bSc_lt s) (fun b hb => ?_) ((pSc_iff (bSc_lt s) s).2 ⟨v_of_right hf hr h, rfl⟩) (List.prefix_append _ _) (by simp))
  rcases List.mem_append.1 hb with hb | hb
  · exact bSc_lt s b hb
  · rw [List.mem_singleton.1 hb]; exact hc
theorem dec_ok {bs : List Nat} (h : (decL bs).2 = 0) : pSc bs = some (decL bs).1 ∧ errL (decL bs).1 = 0 := by
  unfold decL at h ⊢
  cases e : pSc bs with
  | none => rw [e] at h; cases h
  | some s =>
    rw [e] at h
    simp only at h ⊢
    split at h
    · rename_i h0; rw [if_pos h0]; exact ⟨rfl, h0⟩
    · rename_i h0; exact absurd h h0
theorem dec_no {bs : List Nat} (h : (decL bs).2 ≠ 0) : (decL bs).1 = zSc := by
  unfold decL at h ⊢
  cases e : pSc bs with
  | none => rfl
  | some s =>
    rw [e] at h
    simp only at h ⊢
    split at h
    · exact absurd rfl h
    · rename_i h0; rw [if_neg h0]
theorem flat_ge (l : List Int) : l.length ≤ (l.flatMap putL).length := by
  induction l with
  | nil => simp
  | cons a l ih => simp only [List.flatMap_cons, List.length_append, List.length_cons]; have := putL_pos a; omega
/-- What is decoded is small, and is encoded as it was. -/
theorem dec_small {t : ByteArray} (ht : t.size ≤ 1000000) {y : Sc} (h : pSc (by8 t) = some y) :
    SmallT y.T ∧ y.acts.length ≤ 1000000 ∧ (appL y).length ≤ 1000000 ∧ (actsL y.acts).length ≤ 1000000 ∧ y.room < 18446744073709551616 ∧ strOf (bytesS y) = t := by
  obtain ⟨⟨h1, h2, h3⟩, he⟩ := (pSc_iff (by8_lt t) y).1 h
  have hs : strOf (bytesS y) = t := by8_inj (by rw [by8_bytes, he])
  have hl : (bytesS y).length ≤ 1000000 := by
    have : (bSc y).length = t.size := by rw [← he, by8_len]
    rw [← bytesS_nat, List.length_map] at this
    omega
  unfold bytesS at hl
  simp only [List.length_append] at hl
  have a1 := flat_ge (appL y)
  have a2 := flat_ge (actsL y.acts)
  have a3 : y.acts.length ≤ (actsL y.acts).length := by
    unfold actsL
    have : ∀ l : List (Int × Int × Int), l.length ≤ (l.flatMap fun t => [t.1, t.2.1, t.2.2]).length := by
      intro l
      induction l with
      | nil => simp
      | cons a l ih => simp only [List.flatMap_cons, List.length_append, List.length_cons, List.length_nil]; omega
    have := this y.acts
    simp only [List.length_append, List.length_cons, List.length_nil]; omega
  refine ⟨?_, by omega, by omega, by omega, h2, hs⟩
  unfold pSc at h
  split at h
  · cases h
  · rename_i A hA
    split at h
    · cases h
    · split at h
      · cases h
      · split at h
        · cases h; exact pApp_small (by rw [by8_len]; exact ht) hA
        · cases h
end Go.Proofs.TR
