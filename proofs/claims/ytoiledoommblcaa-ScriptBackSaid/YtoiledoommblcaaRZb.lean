/- ScriptRooms. -/
import Derived.Test.YtoiledoommblcaaRZa
set_option linter.unusedSimpArgs false
set_option linter.unusedVariables false
namespace Go.Proofs.TR
open Go Go.Idl Go.Proofs Go.GP Go.FL
set_option maxHeartbeats 20000000
set_option maxRecDepth 100000
theorem one_le {b : Nat} (h : (capN b).2 = 0) : (flt 4607182418800017408 b || feq b 4607182418800017408) = true := by
  have hn : ¬ (nan b = true ∨ neg b = true ∨ rung b < 4607182418800017408) := fun q => by rw [capN_none q] at h; cases h
  have h1 : nan b = false := by cases e : nan b <;> simp_all
  have h2 : neg b = false := by cases e : neg b <;> simp_all
  have h3 : ¬ rung b < 4607182418800017408 := fun q => hn (.inr (.inr q))
  have k0 : skey 4607182418800017408 = 4607182418800017408 := by decide
  have k1 : nan 4607182418800017408 = false := by decide
  unfold flt feq
  rw [k0, k1, h1]
  unfold skey
  rw [h2]
  simp only [Bool.not_false, Bool.true_and, Bool.false_eq_true, if_false, Bool.or_eq_true, decide_eq_true_eq]
  omega
theorem err_cap {s : Sc} (h : errL s = 0) : (capN s.room).2 = 0 := by
  unfold errL at h
  split at h
  · omega
  · split at h
    · omega
    · split at h
      · rename_i hc; exact absurd h hc
      · rename_i hc; omega
theorem ScriptRooms_spec (s0 : Sc) (bits : Int) (hs0 : gSc s0) (hb : 0 ≤ bits ∧ bits < 18446744073709551616) : Pure Try.prog 5 [lApp s0, sci .u64 bits] (scb true) := by
  have fs0 := cutSc_fit s0
  have gs0 := cutSc_g hs0
  obtain ⟨b, rfl⟩ := Int.eq_ofNat_of_zero_le hb.1
  have hbl : b < 18446744073709551616 := by omega
  have hbn : ((b : Nat) : Int).toNat = b := rfl
  refine pcall0 200 (fn := Try.f5) Try.func5 rfl (by simp [Try.ntmps5]) zB zB fun hs => ?_
  ((try refine zW ?_); (try with_reducible exact True.intro))
  (refine at_call 200 ?_; (refine zW ?_; try with_reducible exact True.intro); refine callA_of (L5Cut_spec s0) zB ?_; ((try refine zW ?_); (try with_reducible exact True.intro)))
  generalize cutSc s0 = z at *
  have fs : Fit ⟨z.N, z.ls, z.T, z.fifo, b, []⟩ := ⟨fs0.1, fs0.2.1, fs0.2.2.1, by simp⟩
  (refine walk_trim [1, 2] trivial zL ?_; (refine zW ?_; try with_reducible exact True.intro); refine irun_walk (id := 2) (n := 200) [none, none, some [0, 4], none, some [0, 1, 2, 3], some []] mixed (by kernel_rfl) ?_)
  (try simp (disch := omega) only [go_sem, simprocAttr, if_pos, if_neg, w64, beqT, beqF, bneT, bneF, pr_get, ir_get, decide_eq_true, decide_eq_false, hbn])
  by_cases he : errL ⟨z.N, z.ls, z.T, z.fifo, b, []⟩ = 0
  · (refine at_call 200 ?_; (refine zW ?_; try with_reducible exact True.intro); refine callA_of (Enc_ok ⟨z.N, z.ls, z.T, z.fifo, b, []⟩ fs hbl he) zB ?_; ((try refine zW ?_); (try with_reducible exact True.intro)))
    obtain ⟨b1, b2⟩ := bytes_le _ fs
    have hd := dec_enc fs hbl he
    have hD := Decode_spec (strOf (bytesS ⟨z.N, z.ls, z.T, z.fifo, b, []⟩)) (by rw [strOf_size]; omega)
    rw [by8_bytes, hd] at hD
    generalize strOf (bytesS ⟨z.N, z.ls, z.T, z.fifo, b, []⟩) = T at *
    ((try refine zO ?_); (try with_reducible exact True.intro))
    (refine at_call 200 ?_; (refine zW ?_; try with_reducible exact True.intro); refine callA_of (hD) zB ?_; ((try refine zW ?_); (try with_reducible exact True.intro)))
    have h1 : (flt 4607182418800017408 b || feq b 4607182418800017408) = true := one_le (err_cap he)
    (try simp (disch := omega) only [go_sem, simprocAttr, if_pos, if_neg, w64, beqT, beqF, bneT, bneF, pr_get, ir_get, decide_eq_true, decide_eq_false, hbn, h1])
    (refine at_call 200 ?_; (refine zW ?_; try with_reducible exact True.intro); refine callA_of (fixed_spec) zB ?_; ((try refine zW ?_); (try with_reducible exact True.intro)))
    ((try refine zO ?_); (try with_reducible exact True.intro))
  · (refine at_call 200 ?_; (refine zW ?_; try with_reducible exact True.intro); refine callA_of (Enc_no ⟨z.N, z.ls, z.T, z.fifo, b, []⟩ fs hbl he) zB ?_; ((try refine zW ?_); (try with_reducible exact True.intro)))
    have h1 : (errL ⟨z.N, z.ls, z.T, z.fifo, b, []⟩ != 0) = true := by simpa using he
    have hS : strOf [] = ⟨#[]⟩ := rfl
    (try simp (disch := omega) only [go_sem, simprocAttr, if_pos, if_neg, w64, beqT, beqF, bneT, bneF, pr_get, ir_get, decide_eq_true, decide_eq_false, h1, hS, beq_self_eq_true])
    (refine at_call 200 ?_; (refine zW ?_; try with_reducible exact True.intro); refine callA_of (scRight_gen ⟨z.N, z.ls, z.T, z.fifo, b, []⟩ (fit_small fs) (by simp) hbl) zB ?_; ((try refine zW ?_); (try with_reducible exact True.intro)))
    (try simp (disch := omega) only [go_sem, simprocAttr, if_pos, if_neg, w64, beqT, beqF, bneT, bneF, pr_get, ir_get, decide_eq_true, decide_eq_false, beq_self_eq_true])
    (refine at_call 200 ?_; (refine zW ?_; try with_reducible exact True.intro); refine callA_of (fixed_spec) zB ?_; ((try refine zW ?_); (try with_reducible exact True.intro)))
    ((try refine zO ?_); (try with_reducible exact True.intro))
end Go.Proofs.TR
