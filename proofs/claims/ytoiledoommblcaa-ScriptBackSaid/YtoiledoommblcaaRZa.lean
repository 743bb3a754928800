/- ScriptCut. -/
import Derived.Test.YtoiledoommblcaaRYk
import Derived.Test.YtoiledoommblcaaRYo
import Derived.Test.YtoiledoommblcaaRM
import Derived.Test.YtoiledoommblcaaRK
set_option linter.unusedSimpArgs false
set_option linter.unusedVariables false
namespace Go.Proofs.TR
open Go Go.Idl Go.Proofs Go.GP Go.FL
set_option maxHeartbeats 20000000
set_option maxRecDepth 100000
theorem Enc_ok (s : Sc) (fs : Fit s) (sr : s.room < 18446744073709551616) (h : errL s = 0) : Pure Try.prog 8 [lSc s] (.tup [.p (.sc (.string (strOf (bytesS s)))), sci .i64 0]) := by
  have := Encode_spec s fs sr
  rw [h] at this
  exact this
theorem Enc_no (s : Sc) (fs : Fit s) (sr : s.room < 18446744073709551616) (h : ¬ errL s = 0) : Pure Try.prog 8 [lSc s] (.tup [.p (.sc (.string (strOf []))), sci .i64 (errL s)]) := by
  have := Encode_spec s fs sr
  rw [if_neg h] at this
  exact this
theorem bytes_le (s : Sc) (fs : Fit s) : (bytesS s).length ≤ 300000 ∧ 0 < (bytesS s).length := by
  have p1 : ((appL s).flatMap putL).length ≤ 5 * (appL s).length := flat_le fun n _ => putL_le n
  have p2 : ((actsL s.acts).flatMap putL).length ≤ 5 * (actsL s.acts).length := flat_le fun n _ => putL_le n
  have p3 : (flB s.room).length = 8 := by simp [flB]
  have := appL_small fs
  have := actsL_small fs
  unfold bytesS
  simp only [List.length_append]
  omega
theorem ScriptCut_spec (s : Sc) (at_ c : Int) (hs0 : gSc s) (ha : 0 ≤ at_ ∧ at_ < 65536) (hc : 0 ≤ c ∧ c < 256) : Pure Try.prog 4 [lSc s, sci .u16 at_, sci .u8 c] (scb true) := by
  have fs := cutSc_fit s
  have gs := cutSc_g hs0
  refine pcall0 200 (fn := Try.f4) Try.func4 rfl (by simp [Try.ntmps4]) zB zB fun hs => ?_
  ((try refine zW ?_); (try with_reducible exact True.intro))
  (refine at_call 200 ?_; (refine zW ?_; try with_reducible exact True.intro); refine callA_of (L21Cut_spec s) zB ?_; ((try refine zW ?_); (try with_reducible exact True.intro)))
  ((try refine zW ?_); (try with_reducible exact True.intro))
  generalize cutSc s = s at *
  have sr := gs.2.2.2.1
  by_cases he : errL s = 0
  · (refine at_call 200 ?_; (refine zW ?_; try with_reducible exact True.intro); refine callA_of (Enc_ok s fs sr he) zB ?_; ((try refine zW ?_); (try with_reducible exact True.intro)))
    obtain ⟨b1, b2⟩ := bytes_le s fs
    have hb8 := by8_bytes s
    have hsz : (strOf (bytesS s)).size = (bytesS s).length := strOf_size _
    have hbl : (bSc s).length = (bytesS s).length := by rw [← bytesS_nat, List.length_map]
    obtain ⟨a, rfl⟩ := Int.eq_ofNat_of_zero_le ha.1
    obtain ⟨d, rfl⟩ := Int.eq_ofNat_of_zero_le hc.1
    generalize hT : strOf (bytesS s) = T at *
    have hne : ((T.size : Int) == 0) = false := beq_eq_false_iff_ne.2 (by omega)
    have hn0 : ¬ (T.size : Int) = 0 := by omega
    have hmod : ((a : Int)).tmod (T.size : Int) = ((a % T.size : Nat) : Int) := rfl
    have hlt : a % T.size < T.size := Nat.mod_lt _ (by omega)
    have hw : IntKind.i64.wrap (a : Int) = (a : Int) := by rw [IntKind.wrap_i64]; omega
    have d1 : decL (by8 (T.extract 0 (a % T.size))) = (zSc, 4) := by
      rw [by8_extract, hb8, List.drop_zero, Nat.sub_zero]
      exact dec_cut fs sr he (by omega)
    have d2 : decL (by8 (T ++ strOf [(d : Int)])) = (zSc, 4) := by
      have : by8 (strOf [(d : Int)]) = [d] := by rw [by8_strOf (by intro x hx; rw [List.mem_singleton.1 hx]; exact ⟨by omega, by omega⟩)]; rfl
      rw [by8_app, hb8, this]
      exact dec_more fs sr he (by omega)
    generalize a % T.size = k at *
    have hs1 : (T.extract 0 k).size ≤ 1000000 := by rw [← by8_len, by8_extract, List.length_take, List.length_drop, by8_len]; omega
    have hs2 : (T ++ strOf [(d : Int)]).size ≤ 1000000 := by rw [← by8_len, by8_app, List.length_append, by8_len, by8_len, strOf_size]; simp only [List.length_cons, List.length_nil]; omega
    have D1 := Decode_spec (T.extract 0 k) hs1
    have D2 := Decode_spec (T ++ strOf [(d : Int)]) hs2
    rw [d1] at D1
    rw [d2] at D2
    have hz : T.size + (strOf [(d : Int)]).size ≤ 9223372036854775807 := by rw [strOf_size]; simp only [List.length_cons, List.length_nil]; omega
    have hB : bytesR [[.p (.sc (.int .u8 (d : Int)))]] = some [(d : Int)] := rfl
    clear d1 d2
    (try simp (disch := omega) only [go_sem, simprocAttr, if_pos, if_neg, w64, beqT, beqF, bneT, bneF, pr_get, ir_get, decide_eq_true, decide_eq_false, hne, hn0, hmod, hw])
    (refine at_call 200 ?_; (refine zW ?_; try with_reducible exact True.intro); refine callA_of (D1) zB ?_; ((try refine zW ?_); (try with_reducible exact True.intro)))
    (try simp (disch := omega) only [go_sem, simprocAttr, if_pos, if_neg, w64, beqT, beqF, bneT, bneF, pr_get, ir_get, decide_eq_true, decide_eq_false, hz, hB])
    (refine at_call 200 ?_; (refine zW ?_; try with_reducible exact True.intro); refine callA_of (D2) zB ?_; ((try refine zW ?_); (try with_reducible exact True.intro)))
    ((try refine zO ?_); (try with_reducible exact True.intro))
    (refine at_call 200 ?_; (refine zW ?_; try with_reducible exact True.intro); refine callA_of (fixed_spec) zB ?_; ((try refine zW ?_); (try with_reducible exact True.intro)))
    ((try refine zO ?_); (try with_reducible exact True.intro))
  · (refine at_call 200 ?_; (refine zW ?_; try with_reducible exact True.intro); refine callA_of (Enc_no s fs sr he) zB ?_; ((try refine zW ?_); (try with_reducible exact True.intro)))
    have h1 : (errL s != 0) = true := by simpa using he
    (try simp (disch := omega) only [go_sem, simprocAttr, if_pos, if_neg, w64, beqT, beqF, bneT, bneF, pr_get, ir_get, decide_eq_true, decide_eq_false, h1])
    (refine at_call 200 ?_; (refine zW ?_; try with_reducible exact True.intro); refine callA_of (fixed_spec) zB ?_; ((try refine zW ?_); (try with_reducible exact True.intro)))
    ((try refine zO ?_); (try with_reducible exact True.intro))
end Go.Proofs.TR
