/- ScriptActs: what the bytes of a script are with an act more. No program in sight. -/
import Derived.Test.YtoiledoommblcaaGreatZPc
import Derived.Test.YtoiledoommblcaaGreatZPd
import Derived.Test.YtoiledoommblcaaGreatZK
namespace Go.Proofs.TZ
open Go Go.Idl Go.Proofs Go.GP Go.FL
theorem and3 (k : Int) : 0 ≤ bits .and .i64 k 3 ∧ bits .and .i64 k 3 < 4 := by
  have h : ((BitVec.ofInt IntKind.i64.bits k) &&& (BitVec.ofInt IntKind.i64.bits 3)).toNat ≤ 3 := by
    rw [BitVec.toNat_and]
    exact Nat.le_trans Nat.and_le_right (by decide)
  have e : bits .and .i64 k 3 = IntKind.i64.wrap ((((BitVec.ofInt IntKind.i64.bits k) &&& (BitVec.ofInt IntKind.i64.bits 3)).toNat : Nat) : Int) := rfl
  rw [e, IntKind.wrap_i64]
  omega
theorem strOf_extract (l : List Int) (a b : Nat) : (strOf l).extract a b = strOf ((l.drop a).take (b - a)) := by
  apply ByteArray.ext
  simp only [strOf, ByteArray.data_extract]
  rw [← Array.toList_inj]
  simp [List.map_take, List.map_drop]
def preL (s : Sc) : List Int := (appL s).flatMap putL ++ flB s.room
def actB (l : List (Int × Int × Int)) : List Int := l.flatMap fun t => putL t.1 ++ putL t.2.1 ++ putL t.2.2
theorem actsL_bytes (l : List (Int × Int × Int)) : (actsL l).flatMap putL = putL l.length ++ actB l := by
  unfold actsL actB
  simp only [List.flatMap_append, List.flatMap_cons, List.flatMap_nil, List.append_nil, List.flatMap_assoc, List.append_assoc]
/-- Which scripts of the same application and room are refused: by their acts. -/
theorem errL_acts {s : Sc} (h : errL s = 0) (l : List (Int × Int × Int)) : errL ⟨s.N, s.ls, s.T, s.fifo, s.room, l⟩ = if tB (ActsP l) = true then 0 else 4 := by
  unfold errL at h ⊢
  simp only at h ⊢
  split at h
  · omega
  · rename_i h1
    rw [if_neg h1]
    split at h
    · omega
    · rename_i h2
      rw [if_neg h2]
      split at h
      · rename_i h3; exact absurd h h3
      · rename_i h3; rw [if_neg h3]
theorem errL_ok {s : Sc} (h : errL s = 0) : ActsP s.acts := by
  have e := errL_acts h s.acts
  have : errL s = errL ⟨s.N, s.ls, s.T, s.fifo, s.room, s.acts⟩ := rfl
  rw [this, e] at h
  split at h
  · rename_i q; exact tB_iff.1 q
  · omega
theorem errL_none {s : Sc} (h : errL s = 0) : errL ⟨s.N, s.ls, s.T, s.fifo, s.room, []⟩ = 0 := by
  rw [errL_acts h, tB_pos (P := ActsP []) (fun j t q => by simp at q), if_pos rfl]
theorem errL_more {s : Sc} (h : errL s = 0) {t : Int × Int × Int} (ht : ActP t) : errL ⟨s.N, s.ls, s.T, s.fifo, s.room, s.acts ++ [t]⟩ = 0 := by
  rw [errL_acts h, tB_pos (P := ActsP (s.acts ++ [t])) (fun j u q => ?_), if_pos rfl]
  rw [List.getElem?_append] at q
  split at q
  · exact errL_ok h j u q
  · rename_i hj
    cases hd : j - s.acts.length with
    | zero => rw [hd] at q; simp at q; subst q; exact ht
    | succ m => rw [hd] at q; simp at q
theorem errL_bad {s : Sc} (h : errL s = 0) {t : Int × Int × Int} (ht : ¬ ActP t) : errL ⟨s.N, s.ls, s.T, s.fifo, s.room, s.acts ++ [t]⟩ = 4 := by
  rw [errL_acts h, tB_neg (P := ActsP (s.acts ++ [t])) (fun q => ht (q s.acts.length t (by simp))), if_neg (by decide)]
theorem Encode_ok (s : Sc) (hf : Fit s) (hr : s.room < 18446744073709551616) (he : errL s = 0) (P : List Int) (hP : preL s = P) :
    Pure Tryz.prog 6 [lSc s] (.tup [.p (.sc (.string (strOf (P ++ (putL s.acts.length ++ actB s.acts))))), sci .i64 0]) := by
  have := Encode_spec s hf hr
  rw [if_pos he, he] at this
  rw [← hP, preL, ← actsL_bytes]
  exact this
theorem Encode_no (s : Sc) (hf : Fit s) (hr : s.room < 18446744073709551616) (he : ¬ errL s = 0) :
    Pure Tryz.prog 6 [lSc s] (.tup [.p (.sc (.string (strOf []))), sci .i64 (errL s)]) := by
  have := Encode_spec s hf hr
  rw [if_neg he] at this
  exact this
theorem pre_len {s : Sc} (hf : Fit s) : (preL s).length ≤ 300000 := by
  have p1 : ((appL s).flatMap putL).length ≤ 5 * (appL s).length := flat_le fun n _ => putL_le n
  have p3 : (flB s.room).length = 8 := by simp [flB]
  have := appL_small hf
  simp only [preL, List.length_append]; omega
theorem actB_len {s : Sc} (hf : Fit s) : (actB s.acts).length ≤ 1500 := by
  have p1 : (actB s.acts).length ≤ 15 * s.acts.length := flat_le fun t _ => by
    have := putL_le t.1; have := putL_le t.2.1; have := putL_le t.2.2
    simp only [List.length_append]; omega
  have := hf.2.2.2
  omega
theorem actB_more (l : List (Int × Int × Int)) (t : Int × Int × Int) : actB (l ++ [t]) = actB l ++ (putL t.1 ++ putL t.2.1 ++ putL t.2.2) := by
  simp [actB]
theorem x1 (P R : List Int) : (strOf (P ++ R)).extract 0 P.length = strOf P := by rw [strOf_extract]; simp
theorem x2 (P H B : List Int) (n : Nat) (hn : n = P.length + (H.length + B.length)) : (strOf (P ++ (H ++ B))).extract (P.length + H.length) n = strOf B := by
  rw [strOf_extract, hn, ← List.append_assoc]
  have : (P ++ H).length = P.length + H.length := by simp
  rw [← this, List.drop_left, List.take_of_length_le (by simp; omega)]
theorem put0 : putL ((([] : List (Int × Int × Int)).length : Nat) : Int) ++ actB [] = [0] := rfl
theorem put0' : putL 0 ++ actB [] = [0] := rfl
/-- An act's numbers that cannot be. -/
theorem act_no {k a b : Int} (hk : 0 ≤ k ∧ k < 4) (ha : 0 ≤ a) (hb : 0 ≤ b) (hkb : k ≤ 1 ∨ b = 0) : ActP (k, a, b) ↔ a ≤ 2147483647 ∧ b ≤ 2147483647 :=
  ⟨fun h => ⟨h.2.1.2, h.2.2.1.2⟩, fun h => ⟨hk, ⟨ha, h.1⟩, ⟨hb, h.2⟩, hkb⟩⟩
end Go.Proofs.TZ
