/- ScriptBack. -/
import Derived.Test.YtoiledoommblcaaRZb
set_option linter.unusedSimpArgs false
set_option linter.unusedVariables false
namespace Go.Proofs.TR
open Go Go.Idl Go.Proofs Go.GP Go.FL
set_option maxHeartbeats 20000000
set_option maxRecDepth 100000
theorem ScriptBack_spec (s : Sc) (t : ByteArray) (hs0 : gSc s) : Pure Try.prog 3 [lSc s, .p (.sc (.string t))] (scb true) := by
  have fs := cutSc_fit s
  have gs := cutSc_g hs0
  
  refine pcall0 200 (fn := Try.f3) Try.func3 rfl (by simp [Try.ntmps3]) zB zB fun hs => ?_
  ((try refine zW ?_); (try with_reducible exact True.intro))
  (refine at_call 200 ?_; (refine zW ?_; try with_reducible exact True.intro); refine callA_of (L21Cut_spec s) zB ?_; ((try refine zW ?_); (try with_reducible exact True.intro)))
  generalize cutSc s = s at *
  have is := in_of fs gs
  have sr := gs.2.2.2.1
  have s1 : (appL s).length ≤ 1000000 := Nat.le_trans (appL_small fs) (by omega)
  have s2 : (actsL s.acts).length ≤ 1000000 := Nat.le_trans (actsL_small fs) (by omega)
  have e1 : sameB s s = true := by rw [sameB_eq is is]; simp
  ((try refine zO ?_); (try with_reducible exact True.intro))
  have hu : (t.extract 0 (if 400 < (t.size : Int) then 400 else (t.size : Int)).toNat).size ≤ 1000000 := by
    rw [← by8_len, by8_extract, List.length_take, List.length_drop, by8_len]
    split <;> omega
  generalize t.extract 0 (if 400 < (t.size : Int) then 400 else (t.size : Int)).toNat = u at *
  have hD := Decode_spec u hu
  by_cases he : errL s = 0
  · (refine at_call 200 ?_; (refine zW ?_; try with_reducible exact True.intro); refine callA_of (Enc_ok s fs sr he) zB ?_; ((try refine zW ?_); (try with_reducible exact True.intro)))
    obtain ⟨b1, b2⟩ := bytes_le _ fs
    have hd := dec_enc fs sr he
    have hD2 := Decode_spec (strOf (bytesS s)) (by rw [strOf_size]; omega)
    rw [by8_bytes, hd] at hD2
    generalize strOf (bytesS s) = T at *
    ((try refine zO ?_); (try with_reducible exact True.intro))
    (refine at_call 200 ?_; (refine zW ?_; try with_reducible exact True.intro); refine callA_of (scRight_spec s fs sr) zB ?_; ((try refine zW ?_); (try with_reducible exact True.intro)))
    (try simp (maxSteps := 2000000) (disch := omega) only [go_sem, simprocAttr, if_pos, if_neg, w64, beqT, beqF, bneT, bneF, pr_get, ir_get, decide_eq_true, decide_eq_false, he])
    (refine at_call 200 ?_; (refine zW ?_; try with_reducible exact True.intro); refine callA_of (hD2) zB ?_; ((try refine zW ?_); (try with_reducible exact True.intro)))
    ((try refine zO ?_); (try with_reducible exact True.intro))
    (refine walk_trim [1, 2, 7, 8] trivial zL ?_; ((try refine zW ?_); (try with_reducible exact True.intro)))
    (refine walk_trim [1, 2, 7, 8] trivial zL ?_; (refine zW ?_; try with_reducible exact True.intro); refine irun_walk (id := 8) (n := 200) [none, none, none, none, some [5], none, some [], some [], none, none] mixed (by kernel_rfl) ?_)
    ((try refine zW ?_); (try with_reducible exact True.intro))
    (refine at_dcall ?_; (refine zW ?_; try with_reducible exact True.intro); refine callA_of (L21Ref_spec s fs.2.1 fs.2.2.1 fs.2.2.2) zB ?_; ((try refine zW ?_); (try with_reducible exact True.intro)))
    ((try refine zW ?_); (try with_reducible exact True.intro))
    (refine at_dcall ?_; (refine zW ?_; try with_reducible exact True.intro); refine callA_of (L21Ref_spec s fs.2.1 fs.2.2.1 fs.2.2.2) zB ?_; ((try refine zW ?_); (try with_reducible exact True.intro)))
    ((try refine zW ?_); (try with_reducible exact True.intro))
    (refine at_dcall ?_; (refine zW ?_; try with_reducible exact True.intro); refine callA_of (R21Same_spec s s sr sr s1 s2 s1 s2) zB ?_; ((try refine zW ?_); (try with_reducible exact True.intro)))
    have e3 : decide (appL s = appL s ∧ s.room = s.room ∧ actsL s.acts = actsL s.acts) = true := by simp
    (try simp (maxSteps := 2000000) (disch := omega) only [go_sem, simprocAttr, if_pos, if_neg, w64, beqT, beqF, bneT, bneF, pr_get, ir_get, decide_eq_true, decide_eq_false, e3])
    (refine walk_trim [1, 55] trivial zL ?_; ((try refine zW ?_); (try with_reducible exact True.intro)))
    clear hd hD2 e3 e1 s1 s2 is b1 b2
    by_cases h0 : (decL (by8 u)).2 = 0
    · obtain ⟨p1, p2⟩ := dec_ok h0
      obtain ⟨m1, m2, m3, m4, m5, m6⟩ := dec_small hu p1
      rw [h0] at hD
      generalize (decL (by8 u)).1 = y at *
      have hE := Encode_gen y m1 m2 m3 m4 m5
      rw [p2, if_pos rfl] at hE
      have hE : Pure Try.prog 8 [lSc y] (.tup [.p (.sc (.string (strOf (bytesS y)))), sci .i64 0]) := hE
      rw [m6] at hE
      have hR := scRight_gen y m1 m2 m5
      rw [p2] at hR
      (refine at_call 200 ?_; (refine zW ?_; try with_reducible exact True.intro); refine callA_of (hD) zB ?_; ((try refine zW ?_); (try with_reducible exact True.intro)))
      ((try refine zO ?_); (try with_reducible exact True.intro))
      (refine at_call 200 ?_; (refine zW ?_; try with_reducible exact True.intro); refine callA_of (hE) zB ?_; ((try refine zW ?_); (try with_reducible exact True.intro)))
      (try simp (maxSteps := 2000000) (disch := omega) only [go_sem, simprocAttr, if_pos, if_neg, w64, beqT, beqF, bneT, bneF, pr_get, ir_get, decide_eq_true, decide_eq_false, beq_self_eq_true])
      (refine at_call 200 ?_; (refine zW ?_; try with_reducible exact True.intro); refine callA_of (hR) zB ?_; ((try refine zW ?_); (try with_reducible exact True.intro)))
      ((try refine zO ?_); (try with_reducible exact True.intro))
      (refine at_call 200 ?_; (refine zW ?_; try with_reducible exact True.intro); refine callA_of (fixed_spec) zB ?_; ((try refine zW ?_); (try with_reducible exact True.intro)))
      ((try refine zO ?_); (try with_reducible exact True.intro))
    · rw [dec_no h0] at hD
      generalize (decL (by8 u)).2 = e at *
      have h1 : (e != 0) = true := by simpa using h0
      (refine at_call 200 ?_; (refine zW ?_; try with_reducible exact True.intro); refine callA_of (hD) zB ?_; ((try refine zW ?_); (try with_reducible exact True.intro)))
      (try simp (maxSteps := 2000000) (disch := omega) only [go_sem, simprocAttr, if_pos, if_neg, w64, beqT, beqF, bneT, bneF, pr_get, ir_get, decide_eq_true, decide_eq_false, h1, zSc])
      (refine at_call 200 ?_; (refine zW ?_; try with_reducible exact True.intro); refine callA_of (fixed_spec) zB ?_; ((try refine zW ?_); (try with_reducible exact True.intro)))
      ((try refine zO ?_); (try with_reducible exact True.intro))
  · (refine at_call 200 ?_; (refine zW ?_; try with_reducible exact True.intro); refine callA_of (Enc_no s fs sr he) zB ?_; ((try refine zW ?_); (try with_reducible exact True.intro)))
    have hS : strOf [] = ⟨#[]⟩ := rfl
    have h1 : (errL s != 0) = true := by simpa using he
    have h2 : (errL s == 0) = false := by simpa using he
    have h3 : (((⟨#[]⟩ : ByteArray).toList == (⟨#[]⟩ : ByteArray).toList)) = true := beq_self_eq_true _
    (try simp (maxSteps := 2000000) (disch := omega) only [go_sem, simprocAttr, if_pos, if_neg, w64, beqT, beqF, bneT, bneF, pr_get, ir_get, decide_eq_true, decide_eq_false, hS])
    (refine at_call 200 ?_; (refine zW ?_; try with_reducible exact True.intro); refine callA_of (scRight_spec s fs sr) zB ?_; ((try refine zW ?_); (try with_reducible exact True.intro)))
    (try simp (maxSteps := 2000000) (disch := omega) only [go_sem, simprocAttr, if_pos, if_neg, w64, beqT, beqF, bneT, bneF, pr_get, ir_get, decide_eq_true, decide_eq_false, h1, h2, h3, bne_self_eq_false])
    (refine walk_trim [1, 55] trivial zL ?_; ((try refine zW ?_); (try with_reducible exact True.intro)))
    by_cases h0 : (decL (by8 u)).2 = 0
    · obtain ⟨p1, p2⟩ := dec_ok h0
      obtain ⟨m1, m2, m3, m4, m5, m6⟩ := dec_small hu p1
      rw [h0] at hD
      generalize (decL (by8 u)).1 = y at *
      have hE := Encode_gen y m1 m2 m3 m4 m5
      rw [p2, if_pos rfl] at hE
      have hE : Pure Try.prog 8 [lSc y] (.tup [.p (.sc (.string (strOf (bytesS y)))), sci .i64 0]) := hE
      rw [m6] at hE
      have hR := scRight_gen y m1 m2 m5
      rw [p2] at hR
      (refine at_call 200 ?_; (refine zW ?_; try with_reducible exact True.intro); refine callA_of (hD) zB ?_; ((try refine zW ?_); (try with_reducible exact True.intro)))
      ((try refine zO ?_); (try with_reducible exact True.intro))
      (refine at_call 200 ?_; (refine zW ?_; try with_reducible exact True.intro); refine callA_of (hE) zB ?_; ((try refine zW ?_); (try with_reducible exact True.intro)))
      (try simp (maxSteps := 2000000) (disch := omega) only [go_sem, simprocAttr, if_pos, if_neg, w64, beqT, beqF, bneT, bneF, pr_get, ir_get, decide_eq_true, decide_eq_false, beq_self_eq_true])
      (refine at_call 200 ?_; (refine zW ?_; try with_reducible exact True.intro); refine callA_of (hR) zB ?_; ((try refine zW ?_); (try with_reducible exact True.intro)))
      ((try refine zO ?_); (try with_reducible exact True.intro))
      (refine at_call 200 ?_; (refine zW ?_; try with_reducible exact True.intro); refine callA_of (fixed_spec) zB ?_; ((try refine zW ?_); (try with_reducible exact True.intro)))
      ((try refine zO ?_); (try with_reducible exact True.intro))
    · rw [dec_no h0] at hD
      generalize (decL (by8 u)).2 = e at *
      have h1 : (e != 0) = true := by simpa using h0
      (refine at_call 200 ?_; (refine zW ?_; try with_reducible exact True.intro); refine callA_of (hD) zB ?_; ((try refine zW ?_); (try with_reducible exact True.intro)))
      (try simp (maxSteps := 2000000) (disch := omega) only [go_sem, simprocAttr, if_pos, if_neg, w64, beqT, beqF, bneT, bneF, pr_get, ir_get, decide_eq_true, decide_eq_false, h1, zSc])
      (refine at_call 200 ?_; (refine zW ?_; try with_reducible exact True.intro); refine callA_of (fixed_spec) zB ?_; ((try refine zW ?_); (try with_reducible exact True.intro)))
      ((try refine zO ?_); (try with_reducible exact True.intro))
end Go.Proofs.TR
