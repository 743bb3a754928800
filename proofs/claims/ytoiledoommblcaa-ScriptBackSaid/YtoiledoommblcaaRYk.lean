/- The script of bytes: its walk. -/
import Derived.Test.YtoiledoommblcaaRYj
import Derived.Test.YtoiledoommblcaaRYq
set_option linter.unusedSimpArgs false
set_option linter.unusedVariables false
namespace Go.Proofs.TR
open Go Go.Idl Go.Proofs Go.GP Go.FL
set_option maxHeartbeats 20000000
set_option maxRecDepth 100000
theorem tzvS : tzv Try.prog 72 = some (.agg ⟨[]⟩) := by kernel_rfl
theorem Decode_spec (t : ByteArray) (ht : t.size ≤ 1000000) : Pure Try.prog 10 [.p (.sc (.string t))] (.tup [lSc (decL (by8 t)).1, sci .i64 (decL (by8 t)).2]) := by
  
  refine pcall_d0 200 (fn := Try.f10) Try.func10 rfl (by simp [Try.ntmps10]) zB zB fun hs => ?_
  ((try refine zW ?_); (try with_reducible exact True.intro))
  refine at_defer 200 (x := ⟨.func 26, [.ptr 0 0 0 0, .ptr 1 0 0 0], []⟩) rfl rfl rfl ?_
  ((try refine zW ?_); (try with_reducible exact True.intro))
  have hA := rapp_spec t 0 ht
  cases h1 : pApp (by8 t) 0 with
  | none =>
    have e : decL (by8 t) = (zSc, 4) := by unfold decL pSc; simp only [h1]
    rw [h1] at hA
    rw [e]
    (refine at_x ?_; (refine zW ?_; try with_reducible exact True.intro); refine callXG_of [2] (hA) zU ?_)
    rintro W ⟨b', rfl⟩
    ((try refine zO ?_); (try with_reducible exact True.intro)); unfold sch; refine leaves_rec 200 rfl Try.func26 rfl (by simp [Try.ntmps26]) rfl ?_; (try simp (maxSteps := 2000000) only [go_sem, simprocAttr, tzvS]); (refine leaves_end ?_ ?_ ?_ <;> (try simp (maxSteps := 2000000) (disch := omega) only [go_sem, simprocAttr, if_pos, if_neg, w64, beqT, beqF, bneT, bneF, pr_get, ir_get, decide_eq_true, decide_eq_false, zSc]))
  | some A =>
    obtain ⟨⟨N, ls, f, ns⟩, a⟩ := A
    obtain ⟨_, ha⟩ := pApp_goes (by8 t) _ _ h1
    rw [by8_len] at ha
    have hsm := pApp_small (by rw [by8_len]; exact ht) h1
    simp only at ha hsm
    rw [h1] at hA
    (refine at_g 200 ?_; (refine zW ?_; try with_reducible exact True.intro); refine callG_of [2] (hA) zU ?_; ((try refine zW ?_); (try with_reducible exact True.intro)))
    clear hA
    by_cases h8 : (by8 t).length < a + 8
    · have e : decL (by8 t) = (zSc, 4) := by unfold decL pSc; simp only [h1, if_pos h8]
      rw [by8_len] at h8
      have h8' : ¬ 8 ≤ (t.size : Int) - (a : Int) := by omega
      rw [e]
      (try simp (maxSteps := 2000000) (disch := omega) only [go_sem, simprocAttr, if_pos, if_neg, w64, beqT, beqF, bneT, bneF, pr_get, ir_get, decide_eq_true, decide_eq_false, h8'])
      (refine at_x ?_; (refine zW ?_; try with_reducible exact True.intro); refine callXG_of [] (smust_px) zU ?_)
      rintro W rfl
      ((try refine zO ?_); (try with_reducible exact True.intro)); unfold sch; refine leaves_rec 200 rfl Try.func26 rfl (by simp [Try.ntmps26]) rfl ?_; (try simp (maxSteps := 2000000) only [go_sem, simprocAttr, tzvS]); (refine leaves_end ?_ ?_ ?_ <;> (try simp (maxSteps := 2000000) (disch := omega) only [go_sem, simprocAttr, if_pos, if_neg, w64, beqT, beqF, bneT, bneF, pr_get, ir_get, decide_eq_true, decide_eq_false, zSc]))
    · have hd : decL (by8 t) = match (match pMany p3 (by8 t) (a + 8) with | none => none | some c => if c.2 = (by8 t).length then some (⟨N, ls, ns, f, leN (by8 t) a 8, c.1⟩ : Sc) else none) with | none => (zSc, 4) | some s => if errL s = 0 then (s, 0) else (zSc, errL s) := by
        unfold decL pSc; simp only [h1, if_neg h8]
        cases pMany p3 (by8 t) (a + 8) <;> rfl
      have hrm := leN_lt (by8_lt t) a 8
      rw [by8_len] at h8
      have h8' : 8 ≤ (t.size : Int) - (a : Int) := by omega
      (try simp (maxSteps := 2000000) (disch := omega) only [go_sem, simprocAttr, if_pos, if_neg, w64, beqT, beqF, bneT, bneF, pr_get, ir_get, decide_eq_true, decide_eq_false, h8'])
      (refine at_call 200 ?_; (refine zW ?_; try with_reducible exact True.intro); refine callA_of (smust_spec) zB ?_; ((try refine zW ?_); (try with_reducible exact True.intro)))
      (refine walk_trim [0, 2, 3, 4, 5, 24, 31, 33] trivial zL ?_; ((try refine zW ?_); (try with_reducible exact True.intro)))
      refine walk_loop 200 200 (fun i : Nat => i ≤ 8) (fun i => ⟨70, [(0, .p (.sc (.string t))), (2, .ptr 0 0 0 0), (3, .ptr 1 0 0 0), (4, .ptr 3 0 0 0), (5, sci .u64 (leN (by8 t) a i : Nat)), (24, sci .i64 (i : Int))], [⟨.func 26, [.ptr 0 0 0 0, .ptr 1 0 0 0], []⟩], 4,
        [(0, .arr 6 0 [[sci .i64 N, lII ls, .p (.imm 2 (pr eNd ns)), scb f, .p (.sc (.float .f64 0)), nilS]]), (1, .arr 1 0 [[sci .i64 0]]), (2, rd t a), (3, cP 2)]⟩) (fun i => 8 - i) 0 ?_ ?_ ?_
      · exact Nat.zero_le _
      · constructor <;> (try simp (maxSteps := 2000000) (disch := omega) only [go_sem, simprocAttr, if_pos, if_neg, w64, beqT, beqF, bneT, bneF, pr_get, ir_get, decide_eq_true, decide_eq_false, leN, Int.natCast_zero])
      · intro i hi
        ((try refine zW ?_); (try with_reducible exact True.intro))
        by_cases li : i < 8
        · have li' : (i : Int) < 8 := by omega
          have hx : ∃ x, t.data[a + i]? = some x := ⟨_, Array.getElem?_eq_getElem (show a + i < t.data.size by have : t.data.size = t.size := rfl; omega)⟩
          obtain ⟨x, hx⟩ := hx
          have hg : (by8 t)[a + i]? = some x.toNat := by rw [by8_get, hx]; rfl
          have ti : ((a : Int) + (i : Int)).toNat = a + i := by omega
          have hl : (a : Int) + (i : Int) < (t.size : Int) := by omega
          have hs8 := shl8 x.toNat i (by omega) x.toNat_lt
          have ho := or64 (leN (by8 t) a i) x.toNat i (by omega) (leN_lt (by8_lt t) a i) x.toNat_lt
          have hn : leN (by8 t) a (i + 1) = leN (by8 t) a i + x.toNat * 256 ^ i := by rw [leN, hg]; rfl
          have hw : IntKind.u64.wrap (x.toNat : Int) = (x.toNat : Int) := by rw [IntKind.wrap_u64]; have := x.toNat_lt; omega
          (try simp (maxSteps := 2000000) (disch := omega) only [go_sem, simprocAttr, if_pos, if_neg, w64, beqT, beqF, bneT, bneF, pr_get, ir_get, decide_eq_true, decide_eq_false, li', hl, ti, hx, hw, hs8, ho, ← hn])
          refine ⟨i + 1, li, by omega, ?_⟩
          constructor <;> (try simp (maxSteps := 2000000) (disch := omega) only [go_sem, simprocAttr, if_pos, if_neg, w64, beqT, beqF, bneT, bneF, pr_get, ir_get, decide_eq_true, decide_eq_false, Int.natCast_add, Int.natCast_one])
        · obtain rfl : i = 8 := by omega
          generalize leN (by8 t) a 8 = r at *
          generalize hz : a + 8 = a8 at *
          have e8 : (a : Int) + 8 = (a8 : Int) := by omega
          have hr0 : ((r : Nat) : Int).toNat = r := rfl
          have hrm' : r < 18446744073709551616 := hrm
          (try simp (maxSteps := 2000000) (disch := omega) only [go_sem, simprocAttr, if_pos, if_neg, w64, beqT, beqF, bneT, bneF, pr_get, ir_get, decide_eq_true, decide_eq_false, e8, hr0])
          refine walk_ownB 0 0 5 3 trivial rfl rfl rfl (.inr rfl) ?_
          ((try refine zW ?_); (try with_reducible exact True.intro))
          have hm := m9_spec N ls ns f r t a8 ht
          cases h2 : pMany p3 (by8 t) a8 with
          | none =>
            simp only [h2] at hd
            rw [h2] at hm
            rw [hd]
            (refine at_x ?_; (refine zW ?_; try with_reducible exact True.intro); refine callXG_of [0, 3, 2, 4] (hm) zU ?_)
            rintro W ⟨b', acc', rfl⟩
            ((try refine zO ?_); (try with_reducible exact True.intro)); unfold sch; refine leaves_rec 200 rfl Try.func26 rfl (by simp [Try.ntmps26]) rfl ?_; (try simp (maxSteps := 2000000) only [go_sem, simprocAttr, tzvS]); (refine leaves_end ?_ ?_ ?_ <;> (try simp (maxSteps := 2000000) (disch := omega) only [go_sem, simprocAttr, if_pos, if_neg, w64, beqT, beqF, bneT, bneF, pr_get, ir_get, decide_eq_true, decide_eq_false, zSc]))
          | some c =>
            obtain ⟨acts, b⟩ := c
            have hal := pMany_len (p3_goes _) h2
            rw [by8_len] at hal
            simp only [h2] at hd
            rw [h2] at hm
            (refine at_g 0 ?_; (refine zW ?_; try with_reducible exact True.intro); refine callG_of [0, 3, 2, 4] (hm) zU ?_; rw [vc_zero])
            clear hm
            refine walk_fcut 200 [4] ⟨70, [(0, .p (.sc (.string t))), (2, .ptr 0 0 0 0), (3, .ptr 1 0 0 0), (4, .ptr 3 0 0 0)], [⟨.func 26, [.ptr 0 0 0 0, .ptr 1 0 0 0], []⟩], 5, [(0, .arr 6 0 [[sci .i64 N, lII ls, .p (.imm 2 (pr eNd ns)), scb f, .p (.sc (.float .f64 r)), .p (.imm 3 (pr eIII acts))]]), (1, .arr 1 0 [[sci .i64 0]]), (2, rd t b), (3, cP 2)]⟩ trivial ?_ ?_
            · constructor <;> (try simp (maxSteps := 2000000) (disch := omega) only [go_sem, simprocAttr, if_pos, if_neg, w64, beqT, beqF, bneT, bneF, pr_get, ir_get, decide_eq_true, decide_eq_false, List.take_length])
            ((try refine zW ?_); (try with_reducible exact True.intro))
            by_cases hb : b = t.size
            · have hb' : ((b : Int) == (t.size : Int)) = true := by rw [hb]; exact beq_self_eq_true _
              rw [if_pos (by rw [by8_len]; exact hb)] at hd
              simp only at hd
              (try simp (maxSteps := 2000000) (disch := omega) only [go_sem, simprocAttr, if_pos, if_neg, w64, beqT, beqF, bneT, bneF, pr_get, ir_get, decide_eq_true, decide_eq_false, hb'])
              (refine at_call 200 ?_; (refine zW ?_; try with_reducible exact True.intro); refine callA_of (smust_spec) zB ?_; ((try refine zW ?_); (try with_reducible exact True.intro)))
              (refine at_call 200 ?_; (refine zW ?_; try with_reducible exact True.intro); refine callA_of (scRight_gen ⟨N, ls, ns, f, r, acts⟩ hsm (Nat.le_trans hal ht) hrm') zB ?_; ((try refine zW ?_); (try with_reducible exact True.intro)))
              generalize hE : errL ⟨N, ls, ns, f, r, acts⟩ = E at *
              by_cases hE0 : E = 0
              · rw [if_pos hE0] at hd
                rw [hd]
                have hE' : (E != 0) = false := by rw [hE0]; rfl
                (try simp (maxSteps := 2000000) (disch := omega) only [go_sem, simprocAttr, if_pos, if_neg, w64, beqT, beqF, bneT, bneF, pr_get, ir_get, decide_eq_true, decide_eq_false, hE'])
                refine leaves_rec 200 rfl Try.func26 rfl (by simp [Try.ntmps26]) rfl ?_; (try simp (maxSteps := 2000000) only [go_sem, simprocAttr, tzvS]); (refine leaves_end ?_ ?_ ?_ <;> (try simp (maxSteps := 2000000) (disch := omega) only [go_sem, simprocAttr, if_pos, if_neg, w64, beqT, beqF, bneT, bneF, pr_get, ir_get, decide_eq_true, decide_eq_false, zSc]))
              · rw [if_neg hE0] at hd
                rw [hd]
                have hE' : (E != 0) = true := by simpa using hE0
                (try simp (maxSteps := 2000000) (disch := omega) only [go_sem, simprocAttr, if_pos, if_neg, w64, beqT, beqF, bneT, bneF, pr_get, ir_get, decide_eq_true, decide_eq_false, hE'])
                refine leaves_rec 200 rfl Try.func26 rfl (by simp [Try.ntmps26]) rfl ?_; (try simp (maxSteps := 2000000) only [go_sem, simprocAttr, tzvS]); (refine leaves_end ?_ ?_ ?_ <;> (try simp (maxSteps := 2000000) (disch := omega) only [go_sem, simprocAttr, if_pos, if_neg, w64, beqT, beqF, bneT, bneF, pr_get, ir_get, decide_eq_true, decide_eq_false, zSc]))
            · have hb' : ((b : Int) == (t.size : Int)) = false := by simpa using fun h : (b : Int) = t.size => hb (by omega)
              rw [if_neg (by rw [by8_len]; exact hb)] at hd
              simp only at hd
              rw [hd]
              (try simp (maxSteps := 2000000) (disch := omega) only [go_sem, simprocAttr, if_pos, if_neg, w64, beqT, beqF, bneT, bneF, pr_get, ir_get, decide_eq_true, decide_eq_false, hb'])
              (refine at_x ?_; (refine zW ?_; try with_reducible exact True.intro); refine callXG_of [] (smust_px) zU ?_)
              rintro W rfl
              ((try refine zO ?_); (try with_reducible exact True.intro)); unfold sch; refine leaves_rec 200 rfl Try.func26 rfl (by simp [Try.ntmps26]) rfl ?_; (try simp (maxSteps := 2000000) only [go_sem, simprocAttr, tzvS]); (refine leaves_end ?_ ?_ ?_ <;> (try simp (maxSteps := 2000000) (disch := omega) only [go_sem, simprocAttr, if_pos, if_neg, w64, beqT, beqF, bneT, bneF, pr_get, ir_get, decide_eq_true, decide_eq_false, zSc]))
end Go.Proofs.TR
