/- Whether two scripts are the same: by what their numbers are. -/
import Derived.Test.YtoiledoommblcaaGreatZH
import Derived.Test.YtoiledoommblcaaGreatZK
namespace Go.Proofs.TZ
open Go Go.Idl Go.Proofs
def I64 (n : Int) : Prop := -9223372036854775808 ≤ n ∧ n ≤ 9223372036854775807
theorem byteN_eq (n : Int) (i : Nat) (hi : i < 8) : byteN n i = (n / 256 ^ i) % 256 := by
  have e : (2 : Int) ^ min (8 * (i : Int)).toNat 64 = 256 ^ i := by
    have : min (8 * (i : Int)).toNat 64 = 8 * i := by omega
    rw [this, Int.pow_mul]; rfl
  unfold byteN
  rw [e, Int.fdiv_eq_ediv_of_nonneg _ (Int.le_of_lt (Int.pow_pos (by omega))), IntKind.wrap_u8]
theorem le8_eq (n : Int) : le8 n = [n % 256, n / 256 % 256, n / 65536 % 256, n / 16777216 % 256, n / 4294967296 % 256, n / 1099511627776 % 256, n / 281474976710656 % 256, n / 72057594037927936 % 256] := by
  have : le8 n = (List.range 8).map fun i => (n / 256 ^ i) % 256 := by
    unfold le8
    apply List.map_congr_left
    intro i hi
    exact byteN_eq n i (List.mem_range.1 hi)
  rw [this]
  simp [List.range_succ]
theorem le8_inj {n m : Int} (hn : I64 n) (hm : I64 m) (h : le8 n = le8 m) : n = m := by
  rw [le8_eq, le8_eq] at h
  simp only [List.cons.injEq, and_true] at h
  obtain ⟨h0, h1, h2, h3, h4, h5, h6, h7⟩ := h
  unfold I64 at hn hm
  omega
theorem le8_mem {n b : Int} (h : b ∈ le8 n) : 0 ≤ b ∧ b < 256 := by
  rw [le8_eq] at h
  simp only [List.mem_cons, List.not_mem_nil, or_false] at h
  omega
theorem flat_le8_inj : ∀ {l k : List Int}, (∀ n ∈ l, I64 n) → (∀ n ∈ k, I64 n) → l.flatMap le8 = k.flatMap le8 → l = k
  | [], [], _, _, _ => rfl
  | [], m :: k, _, _, h => by
    have := congrArg List.length h
    simp only [List.flatMap_nil, List.flatMap_cons, List.length_append, List.length_nil, le8_len] at this
    omega
  | n :: l, [], _, _, h => by
    have := congrArg List.length h
    simp only [List.flatMap_nil, List.flatMap_cons, List.length_append, List.length_nil, le8_len] at this
    omega
  | n :: l, m :: k, hl, hk, h => by
    simp only [List.flatMap_cons] at h
    obtain ⟨h1, h2⟩ := List.append_inj h (by rw [le8_len, le8_len])
    rw [le8_inj (hl n (List.mem_cons_self ..)) (hk m (List.mem_cons_self ..)) h1,
      flat_le8_inj (fun x hx => hl x (List.mem_cons_of_mem _ hx)) (fun x hx => hk x (List.mem_cons_of_mem _ hx)) h2]
theorem strOf_toList (l : List Int) : (strOf l).toList = l.map fun n => UInt8.ofNat n.toNat := by
  rw [ByteArray.toList_eq]; rfl
theorem strOf_inj {l k : List Int} (hl : ∀ n ∈ l, 0 ≤ n ∧ n < 256) (hk : ∀ n ∈ k, 0 ≤ n ∧ n < 256) (h : (strOf l).toList = (strOf k).toList) : l = k := by
  rw [strOf_toList, strOf_toList] at h
  apply List.ext_getElem
  · simpa using congrArg List.length h
  · intro i h1 h2
    have := congrArg (fun x => x[i]?) h
    simp only [List.getElem?_map, List.getElem?_eq_getElem h1, List.getElem?_eq_getElem h2, Option.map_some, Option.some.injEq] at this
    have a1 := hl l[i] (List.getElem_mem h1)
    have a2 := hk k[i] (List.getElem_mem h2)
    have := congrArg UInt8.toNat this
    simp only [UInt8.toNat_ofNat'] at this
    omega
theorem flat_mem {l : List Int} {b : Int} (h : b ∈ l.flatMap le8) : 0 ≤ b ∧ b < 256 := by
  obtain ⟨n, _, h⟩ := List.mem_flatMap.1 h
  exact le8_mem h
theorem text_eq {l k : List Int} (hl : ∀ n ∈ l, I64 n) (hk : ∀ n ∈ k, I64 n) : ((strOf (l.flatMap le8)).toList == (strOf (k.flatMap le8)).toList) = decide (l = k) := by
  rw [Bool.eq_iff_iff, beq_iff_eq, decide_eq_true_iff]
  refine ⟨fun h => flat_le8_inj hl hk (strOf_inj (fun _ => flat_mem) (fun _ => flat_mem) h), fun h => by rw [h]⟩
theorem flB_eq (n : Nat) : flB n = le8 (n : Int) := by
  unfold flB le8
  rfl
theorem bits_eq {a b : Nat} (ha : a < 18446744073709551616) (hb : b < 18446744073709551616) : ((strOf (flB a)).toList == (strOf (flB b)).toList) = decide (a = b) := by
  rw [Bool.eq_iff_iff, beq_iff_eq, decide_eq_true_iff]
  refine ⟨fun h => ?_, fun h => by rw [h]⟩
  have h := strOf_inj (fun n hn => le8_mem (by rw [← flB_eq]; exact hn)) (fun n hn => le8_mem (by rw [← flB_eq]; exact hn)) h
  rw [flB_eq, flB_eq, le8_eq, le8_eq] at h
  simp only [List.cons.injEq, and_true] at h
  obtain ⟨h0, h1, h2, h3, h4, h5, h6, h7⟩ := h
  omega
/-- Numbers that a machine has. -/
def InSt (s : St) : Prop := ∀ n ∈ stL s, I64 n
def InSc (s : Sc) : Prop := (∀ n ∈ appL s, I64 n) ∧ s.room < 18446744073709551616 ∧ ∀ n ∈ actsL s.acts, I64 n
theorem sameB_eq {x y : Sc} (hx : InSc x) (hy : InSc y) : sameB x y = decide (appL x = appL y ∧ x.room = y.room ∧ actsL x.acts = actsL y.acts) := by
  unfold sameB
  rw [text_eq hx.1 hy.1, bits_eq hx.2.1 hy.2.1, text_eq hx.2.2 hy.2.2]
  simp only [Bool.decide_and]
end Go.Proofs.TZ
