/- Bytes of numbers. -/
import Derived.Test.YtoiledoommblcaaRH
import Derived.Test.YtoiledoommblcaaRX
set_option linter.unusedSimpArgs false
set_option linter.unusedVariables false
namespace Go.Proofs.TR
open Go Go.Idl Go.Proofs Go.GP
set_option maxHeartbeats 20000000
set_option maxRecDepth 100000
/-- A number's bytes, 7 bits each. -/
def putN : Nat → Nat → List Int
  | 0, n => [(n : Int)]
  | f + 1, n => if n < 128 then [(n : Int)] else ((n % 128 + 128 : Nat) : Int) :: putN f (n / 128)
def clampN (n : Int) : Nat := (min (max n 0) 2147483647).toNat
def putL (n : Int) : List Int := putN 4 (clampN n)
theorem clamp_le (n : Int) : clampN n ≤ 2147483647 := by unfold clampN; omega
theorem putN_len : ∀ (f n : Nat), (putN f n).length ≤ f + 1 ∧ 0 < (putN f n).length
  | 0, n => by simp [putN]
  | f + 1, n => by
    unfold putN
    split
    · simp
    · have := putN_len f (n / 128); simp only [List.length_cons]; omega
theorem or8 (x : Nat) (h : x < 128) : bits .or .u8 (x : Int) 128 = ((x + 128 : Nat) : Int) := by
  have : ∀ y : Fin 128, bits .or .u8 ((y.val : Nat) : Int) 128 = ((y.val + 128 : Nat) : Int) := by decide +kernel
  exact this ⟨x, h⟩
theorem Put_spec (n : Int) : Pure Try.prog 41 [sci .i64 n] (.p (.sc (.string (strOf (putL n))))) := by
  
  refine pcall0 200 (fn := Try.f41) Try.func41 rfl (by simp [Try.ntmps41]) zB zB fun hs => ?_
  have hc : (if 2147483647 < if n < 0 then 0 else n then 2147483647 else if n < 0 then 0 else n) = ((clampN n : Nat) : Int) := by unfold clampN; split <;> split <;> omega
  (try simp (maxSteps := 2000000) (disch := omega) only [go_sem, simprocAttr, if_pos, if_neg, w64, beqT, beqF, bneT, bneF, pr_get, ir_get, decide_eq_true, decide_eq_false, hc])
  have hle := clamp_le n
  unfold putL
  generalize clampN n = c at *
  refine walk_own 3 1 trivial rfl (.inr rfl) ?_
  (refine walk_trim [0, 3] trivial zL ?_; ((try refine zW ?_); (try with_reducible exact True.intro)))
  refine walk_floop 200 200 (fun i : Nat × Nat × Nat × List Int => i.2.2.1 < 128 ^ (i.1 + 1) ∧ i.2.2.2.length + i.1 ≤ 4 ∧ i.2.2.2 ++ putN i.1 i.2.2.1 = putN 4 c)
    (fun i => ⟨24, [(0, sci .i64 i.2.2.1), (3, .ref 0 i.2.1 0 i.2.2.2.length)], [], 1, [(0, .arr 1 i.2.1 (ir eY i.2.2.2))]⟩) (fun i => i.1) (4, 0, c, []) [] ?_ ?_ ?_
  · exact ⟨by simp only; omega, by simp, rfl⟩
  · constructor <;> ((try refine zO ?_); (try with_reducible exact True.intro))
  · rintro ⟨f, g, m, acc⟩ ⟨h1, h2, h3⟩
    simp only at h1 h2 h3
    ((try refine zW ?_); (try with_reducible exact True.intro))
    by_cases hm : 128 ≤ m
    · cases f with
      | zero => simp at h1; omega
      | succ f =>
        have h1' : m / 128 < 128 ^ (f + 1) := by rw [Nat.div_lt_iff_lt_mul (by omega), ← Nat.pow_succ]; exact h1
        rw [putN, if_neg (by omega)] at h3
        have ht : (m : Int).tmod 128 = ((m % 128 : Nat) : Int) := rfl
        have hw : IntKind.u8.wrap ((m % 128 : Nat) : Int) = ((m % 128 : Nat) : Int) := by rw [IntKind.wrap_u8]; omega
        have ho := or8 (m % 128) (by omega)
        have hs : (m : Int).fdiv (2 ^ min 7 64) = ((m / 128 : Nat) : Int) := by
          have e : (2 : Int) ^ min 7 64 = ((128 : Nat) : Int) := by decide
          rw [e, Int.fdiv_eq_ediv_of_nonneg _ (by omega)]; rfl
        (try simp (maxSteps := 2000000) (disch := omega) only [go_sem, simprocAttr, if_pos, if_neg, w64, beqT, beqF, bneT, bneF, pr_get, ir_get, decide_eq_true, decide_eq_false, ht, hw, ho, hs])
        refine ⟨(f, g + 1, m / 128, acc ++ [((m % 128 : Nat) : Int) + 128]), [], ⟨h1', by simp only [List.length_append, List.length_cons, List.length_nil]; omega, by simpa using h3⟩, by simp only; omega, ?_⟩
        constructor <;> ((try refine zO ?_); (try with_reducible exact True.intro))
    · have hl : putN f m = [(m : Int)] := by cases f <;> simp [putN]; omega
      rw [hl] at h3
      have hw : IntKind.u8.wrap (m : Int) = (m : Int) := by rw [IntKind.wrap_u8]; omega
      rw [← h3]
      (try simp (maxSteps := 2000000) (disch := omega) only [go_sem, simprocAttr, if_pos, if_neg, w64, beqT, beqF, bneT, bneF, pr_get, ir_get, decide_eq_true, decide_eq_false, hw])
theorem putL_pos (n : Int) : 0 < (putL n).length := (putN_len 4 _).2
theorem putL_le (n : Int) : (putL n).length ≤ 5 := (putN_len 4 _).1
theorem strOf_size (l : List Int) : (strOf l).size = l.length := by
  show (strOf l).data.size = _
  simp [strOf]
theorem strOf_app (l k : List Int) : strOf l ++ strOf k = strOf (l ++ k) := by
  apply ByteArray.ext
  simp [strOf, ByteArray.data_append]
theorem Puts_spec (l : List Int) (hb : l.length ≤ 1000000) : Pure Try.prog 18 [lI l] (.p (.sc (.string (strOf (l.flatMap putL))))) := by
  obtain ⟨F, F0, Fs, Fn, Fl, Fk⟩ := flat_acc (putL) ([]) (l) putL_pos
  have Fz := Fl 0 (Nat.zero_le _)
  rw [F0] at Fz
  (try simp only [List.length_append, List.length_range, List.length_cons, List.length_nil, List.length_map, List.length_take] at Fz Fk)
  simp only [List.nil_append] at Fn
  rw [← Fn]
  have e0 : strOf (F 0) = ⟨#[]⟩ := by rw [F0]; rfl
  have hlen : ∀ i, i ≤ l.length → (F i).length ≤ 5 * i := by
    intro i
    induction i with
    | zero => intro _; rw [F0]; simp
    | succ i ih => intro hi; have h1 := putL_le l[i]; rw [Fs i hi, List.length_append]; have := ih (by omega); omega
  refine pcall0 200 (fn := Try.f18) Try.func18 rfl (by simp [Try.ntmps18]) zB zB fun hs => ?_
  ((try refine zO ?_); (try with_reducible exact True.intro))
  (refine walk_trim [3, 6, 7, 8] trivial zL ?_; ((try refine zW ?_); (try with_reducible exact True.intro)))
  refine walk_floop 200 200 (fun i : Nat => i ≤ l.length)
    (fun i => ⟨18, [(3, .p (.sc (.string (strOf (F i))))), (6, lI l), (7, sci .i64 l.length), (8, sci .i64 i)], [], 0, []⟩) (fun i => l.length - i) (0) [] ?_ ?_ ?_
  · simp
  · constructor <;> (try simp (disch := omega) only [go_sem, simprocAttr, if_pos, if_neg, w64, beqT, beqF, bneT, bneF, pr_get, ir_get, decide_eq_true, decide_eq_false, Int.natCast_zero, List.take_of_length_le, List.append_assoc, e0])
  · rintro i hi
    ((try refine zW ?_); (try with_reducible exact True.intro))
    by_cases li : i < l.length
    · have he := Fs i li
      have h1 := hlen i hi
      generalize hp : l[i] = p at *
      (try simp (disch := omega) only [go_sem, simprocAttr, if_pos, if_neg, w64, beqT, beqF, bneT, bneF, pr_get, ir_get, decide_eq_true, decide_eq_false, eI, hp])
      (refine at_call 200 ?_; (refine zW ?_; try with_reducible exact True.intro); refine callA_of (Put_spec p) zB ?_; ((try refine zW ?_); (try with_reducible exact True.intro)))
      have h2 := putL_le p
      have hz : (strOf (F i)).size + (strOf (putL p)).size ≤ 9223372036854775807 := by rw [strOf_size, strOf_size]; omega
      (try simp (disch := omega) only [go_sem, simprocAttr, if_pos, if_neg, w64, beqT, beqF, bneT, bneF, pr_get, ir_get, decide_eq_true, decide_eq_false, strOf_app, ← he, hz])
      refine ⟨i + 1, [], by first | assumption | omega, ?_, ?_⟩
      · (try simp only []); omega
      · constructor <;> (try simp (disch := omega) only [go_sem, simprocAttr, if_pos, if_neg, w64, beqT, beqF, bneT, bneF, pr_get, ir_get, decide_eq_true, decide_eq_false, List.append_assoc])
    · obtain rfl : i = l.length := by omega
      ((try refine zO ?_); (try with_reducible exact True.intro))
end Go.Proofs.TR
