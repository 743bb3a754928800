/- Facts that the proofs of this claim lean on. -/
import Derived.Test.YtoiledoommblcaaIdRc
import Derived.Test.YtoiledoommblcaaRWa
import Derived.Test.YtoiledoommblcaaRYp
set_option linter.unusedSimpArgs false
set_option linter.unusedVariables false
/- The number at a place: its walk. -/
namespace Go.Proofs.TR
open Go Go.Idl Go.Proofs Go.GP
set_option maxHeartbeats 20000000
set_option maxRecDepth 100000
theorem wmust_px (e : Int) : PX Try.prog 93 [scb false, sci .i64 e] [] (wch e) (fun W => W = []) := by
  refine px_of 200 (fn := Try.f93) Try.func93 rfl (by simp [Try.ntmps93]) 0 rfl zC zC fun hs => ?_
  ((try refine zW ?_); (try with_reducible exact True.intro))
  refine at_panic rfl rfl ?_
  (refine endX_of [] ?_ ?_ ?_ ?_ ?_ <;> first | exact rfl | decide | omega | exact zU)
theorem smust_px : PX Try.prog 28 [scb false] [] sch (fun W => W = []) := by
  refine px_of 200 (fn := Try.f28) Try.func28 rfl (by simp [Try.ntmps28]) 0 rfl zC zC fun hs => ?_
  ((try refine zW ?_); (try with_reducible exact True.intro))
  refine at_panic rfl rfl ?_
  (refine endX_of [] ?_ ?_ ?_ ?_ ?_ <;> first | exact rfl | decide | omega | exact zU)
abbrev cI (n : Int) : IBlk := .arr 1 0 [[sci .i64 n]]
abbrev cS (t : ByteArray) : IBlk := .arr 1 0 [[.p (.sc (.string t))]]
attribute [go_sem] cI cS
theorem rnext_no (t : ByteArray) (a i : Nat) (n : Int) (ht : t.size ≤ 1000000) (ha : a ≤ t.size) (hi : i ≤ 4) (hc : (by8 t)[a + i]? = none) :
    PX Try.prog 94 [.ptr 0 0 0 0, .ptr 1 0 0 0, .ptr 2 0 0 0, .ptr 3 0 0 0] [cI a, cI i, cS t, cI n] (wch 5) (fun W => W = []) := by
  have hl : ¬ (a : Int) + (i : Int) < (t.size : Int) := by
    rw [List.getElem?_eq_none_iff, by8_len] at hc; omega
  refine px_of 200 (fn := Try.f94) Try.func94 rfl (by simp [Try.ntmps94]) 4 rfl zC zC fun hs => ?_
  (try simp (disch := omega) only [go_sem, simprocAttr, if_pos, if_neg, w64, beqT, beqF, bneT, bneF, pr_get, ir_get, decide_eq_true, decide_eq_false, hl])
  (refine at_x ?_; (refine zW ?_; try with_reducible exact True.intro); refine callXG_of [] (wmust_px 5) zU ?_)
  rintro W rfl
  (refine endX_of [] ?_ ?_ ?_ ?_ ?_ <;> first | exact rfl | decide | omega | exact zU)
theorem rnext_ok (t : ByteArray) (a i c n z : Nat) (ht : t.size ≤ 1000000) (ha : a ≤ t.size) (hi : i ≤ 4) (hn : n ≤ 2147483647) (hc : (by8 t)[a + i]? = some c) (hz : n + c % 128 * 128 ^ i = z) :
    PG Try.prog 94 [.ptr 0 0 0 0, .ptr 1 0 0 0, .ptr 2 0 0 0, .ptr 3 0 0 0] [cI a, cI i, cS t, cI n] 0 (sci .u8 c) [(1, cI ((i : Int) + 1)), (3, cI (z : Int))] := by
  subst hz
  have hl : (a : Int) + (i : Int) < (t.size : Int) := by
    have := (List.getElem?_eq_some_iff.1 hc).1
    rw [by8_len] at this; omega
  have hc256 : c < 256 := by8_lt t c (List.mem_of_getElem? hc)
  rw [by8_get] at hc
  obtain ⟨x, hx, rfl⟩ := Option.map_eq_some_iff.1 hc
  refine pg_of 200 (fn := Try.f94) Try.func94 rfl (by simp [Try.ntmps94]) 4 rfl zC zC zC zC zC fun hs => ?_
  (try simp (disch := omega) only [go_sem, simprocAttr, if_pos, if_neg, w64, beqT, beqF, bneT, bneF, pr_get, ir_get, decide_eq_true, decide_eq_false, hl])
  (refine at_call 200 ?_; (refine zW ?_; try with_reducible exact True.intro); refine callA_of (wmust_spec 5) zB ?_; ((try refine zW ?_); (try with_reducible exact True.intro)))
  have ti : ((a : Int) + (i : Int)).toNat = a + i := by omega
  (try simp (disch := omega) only [go_sem, simprocAttr, if_pos, if_neg, w64, beqT, beqF, bneT, bneF, pr_get, ir_get, decide_eq_true, decide_eq_false, hl, ti, hx])
  (refine walk_trim [1, 3, 5] trivial zL ?_; (refine zW ?_; try with_reducible exact True.intro); refine irun_walk (id := 3) (n := 200) [none, none, none, none, none, none, none, none, some []] mixed (by kernel_rfl) ?_)
  have hm : ((x.toNat : Int)).tmod 128 = ((x.toNat % 128 : Nat) : Int) := rfl
  have h7 := shl7 (x.toNat % 128) i hi (by omega)
  have hb : (x.toNat % 128) * 128 ^ i ≤ 127 * 128 ^ 4 := Nat.mul_le_mul (by omega) (Nat.pow_le_pow_right (by decide) hi)
  have hb : (x.toNat % 128) * 128 ^ i ≤ 34091302912 := hb
  generalize (x.toNat % 128) * 128 ^ i = z at *
  (try simp (disch := omega) only [go_sem, simprocAttr, if_pos, if_neg, w64, beqT, beqF, bneT, bneF, pr_get, ir_get, decide_eq_true, decide_eq_false, hm, h7, Int.natCast_add])
theorem read_spec (t : ByteArray) (a : Int) (ht : t.size ≤ 1000000) :
    PB Try.prog 79 [.p (.sc (.string t)), sci .i64 a] [] (wch (getV (by8 t) a).2.2) (fun W => W = []) (if (getV (by8 t) a).2.2 = 0 then .ok 0 (.tup [sci .i64 (getV (by8 t) a).1, sci .i64 (getV (by8 t) a).2.1]) [] else .pan) := by
  refine pb_of 200 (fn := Try.f79) Try.func79 rfl (by simp [Try.ntmps79]) 0 rfl zC zC zC fun hs => ?_
  ((try refine zO ?_); (try with_reducible exact True.intro))
  by_cases ha : a < 0 ∨ ((by8 t).length : Int) < a
  · have e : getV (by8 t) a = (0, 0, 1) := by unfold getV; rw [if_pos ha]
    rw [by8_len] at ha
    rw [e]
    rcases ha with ha | ha
    · (try simp (disch := omega) only [go_sem, simprocAttr, if_pos, if_neg, w64, beqT, beqF, bneT, bneF, pr_get, ir_get, decide_eq_true, decide_eq_false, ha])
      (refine at_x ?_; (refine zW ?_; try with_reducible exact True.intro); refine callXG_of [] (wmust_px 1) zU ?_)
      rintro W rfl
      (refine endX_of [] ?_ ?_ ?_ ?_ ?_ <;> first | exact rfl | decide | omega | exact zU)
    · have ha1 : ¬ a < 0 := by omega
      have ha2 : ¬ a ≤ (t.size : Int) := by omega
      (try simp (disch := omega) only [go_sem, simprocAttr, if_pos, if_neg, w64, beqT, beqF, bneT, bneF, pr_get, ir_get, decide_eq_true, decide_eq_false, ha1, ha2])
      (refine at_x ?_; (refine zW ?_; try with_reducible exact True.intro); refine callXG_of [] (wmust_px 1) zU ?_)
      rintro W rfl
      (refine endX_of [] ?_ ?_ ?_ ?_ ?_ <;> first | exact rfl | decide | omega | exact zU)
  · obtain ⟨a, rfl⟩ := Int.eq_ofNat_of_zero_le (show 0 ≤ a by omega)
    have hal : a ≤ (by8 t).length := by omega
    rw [getV_nat hal]
    generalize hres : rdN (by8 t) a 5 0 0 = res
    rw [by8_len] at hal
    have ha1 : ¬ (a : Int) < 0 := by omega
    have ha2 : (a : Int) ≤ (t.size : Int) := by omega
    (try simp (disch := omega) only [go_sem, simprocAttr, if_pos, if_neg, w64, beqT, beqF, bneT, bneF, pr_get, ir_get, decide_eq_true, decide_eq_false, ha1, ha2])
    (refine at_call 200 ?_; (refine zW ?_; try with_reducible exact True.intro); refine callA_of (wmust_spec 1) zB ?_; ((try refine zW ?_); (try with_reducible exact True.intro)))
    (refine walk_trim [3, 6, 7, 8] trivial zL ?_; ((try refine zW ?_); (try with_reducible exact True.intro)))
    refine walk_loop 200 200 (fun p : Nat × Nat => p.1 ≤ 4 ∧ p.2 ≤ 2147483647 ∧ rdN (by8 t) a (5 - p.1) p.1 p.2 = res) (fun p => ⟨46, [(3, .ptr 1 0 0 0), (6, .ptr 2 0 0 0), (7, .ptr 3 0 0 0), (8, .clo (.func 94) [] [.ptr 1 0 0 0, .ptr 3 0 0 0, .ptr 0 0 0 0, .ptr 2 0 0 0])], [], 4, [(3, cI p.1), (2, cI p.2), (1, cI a), (0, cS t)]⟩) (fun p => 5 - p.1) (0, 0) ?_ ?_ ?_
    · exact ⟨by simp, by simp, hres⟩
    · constructor <;> (try simp (disch := omega) only [go_sem, simprocAttr, if_pos, if_neg, w64, beqT, beqF, bneT, bneF, pr_get, ir_get, decide_eq_true, decide_eq_false, Int.natCast_zero])
    · rintro ⟨i, n⟩ ⟨i1, i2, i3⟩
      simp only at i1 i2 i3
      rw [show 5 - i = (4 - i) + 1 by omega, rdN] at i3
      ((try refine zW ?_); (try with_reducible exact True.intro))
      cases hc : (by8 t)[a + i]? with
      | none =>
        rw [hc] at i3
        subst i3
        (refine at_x ?_; (refine zW ?_; try with_reducible exact True.intro); refine callXG_of [1, 3, 0, 2] (rnext_no t a i n ht hal i1 hc) zU ?_)
        rintro W rfl
        (refine endX_of [] ?_ ?_ ?_ ?_ ?_ <;> first | exact rfl | decide | omega | exact zU)
      | some c =>
        simp only [hc] at i3
        have hc256 : c < 256 := by8_lt t c (List.mem_of_getElem? hc)
        generalize hz : n + c % 128 * 128 ^ i = z at *
        (refine at_g 200 ?_; (refine zW ?_; try with_reducible exact True.intro); refine callG_of [1, 3, 0, 2] (rnext_ok t a i c n z ht hal i1 i2 hc hz) zU ?_; ((try refine zW ?_); (try with_reducible exact True.intro)))
        by_cases h1 : 2147483647 < z
        · rw [if_pos (.inl h1)] at i3
          subst i3
          have h1' : ¬ (z : Int) ≤ 2147483647 := by omega
          (try simp (disch := omega) only [go_sem, simprocAttr, if_pos, if_neg, w64, beqT, beqF, bneT, bneF, pr_get, ir_get, decide_eq_true, decide_eq_false, h1'])
          (refine at_x ?_; (refine zW ?_; try with_reducible exact True.intro); refine callXG_of [] (wmust_px 2) zU ?_)
          rintro W rfl
          (refine endX_of [] ?_ ?_ ?_ ?_ ?_ <;> first | exact rfl | decide | omega | exact zU)
        · have h1' : (z : Int) ≤ 2147483647 := by omega
          by_cases h2 : 128 ≤ c ∧ 4 - i = 0
          · rw [if_pos (.inr h2)] at i3
            subst i3
            have h2' : ¬ (c : Int) < 128 := by omega
            have h3' : ¬ ((i : Int) + 1) < 5 := by omega
            (try simp (disch := omega) only [go_sem, simprocAttr, if_pos, if_neg, w64, beqT, beqF, bneT, bneF, pr_get, ir_get, decide_eq_true, decide_eq_false, h1', h2', h3', Int.natCast_add, Int.natCast_one])
            (refine at_x ?_; (refine zW ?_; try with_reducible exact True.intro); refine callXG_of [] (wmust_px 2) zU ?_)
            rintro W rfl
            (refine endX_of [] ?_ ?_ ?_ ?_ ?_ <;> first | exact rfl | decide | omega | exact zU)
          · rw [if_neg (by omega)] at i3
            by_cases h4 : c < 128
            · have h4' : (c : Int) < 128 := by omega
              rw [if_pos h4] at i3
              (try simp (disch := omega) only [go_sem, simprocAttr, if_pos, if_neg, w64, beqT, beqF, bneT, bneF, pr_get, ir_get, decide_eq_true, decide_eq_false, h1', h4'])
              (refine at_call 200 ?_; (refine zW ?_; try with_reducible exact True.intro); refine callA_of (wmust_spec 2) zB ?_; ((try refine zW ?_); (try with_reducible exact True.intro)))
              (try simp (disch := omega) only [go_sem, simprocAttr, if_pos, if_neg, w64, beqT, beqF, bneT, bneF, pr_get, ir_get, decide_eq_true, decide_eq_false, h4'])
              by_cases h5 : c = 0 ∧ 0 < i
              · rw [if_pos h5] at i3
                subst i3
                have h6 : ¬ (0 : Int) < (c : Int) := by omega
                have h7 : ¬ ((i : Int) + 1) = 1 := by omega
                (try simp (disch := omega) only [go_sem, simprocAttr, if_pos, if_neg, w64, beqT, beqF, bneT, bneF, pr_get, ir_get, decide_eq_true, decide_eq_false, h6, h7, Int.natCast_add, Int.natCast_one])
                (refine at_x ?_; (refine zW ?_; try with_reducible exact True.intro); refine callXG_of [] (wmust_px 4) zU ?_)
                rintro W rfl
                (refine endX_of [] ?_ ?_ ?_ ?_ ?_ <;> first | exact rfl | decide | omega | exact zU)
              · rw [if_neg h5] at i3
                subst i3
                by_cases h6 : (0 : Int) < (c : Int)
                · (try simp (disch := omega) only [go_sem, simprocAttr, if_pos, if_neg, w64, beqT, beqF, bneT, bneF, pr_get, ir_get, decide_eq_true, decide_eq_false, h6])
                  (refine at_call 200 ?_; (refine zW ?_; try with_reducible exact True.intro); refine callA_of (wmust_spec 4) zB ?_; ((try refine zW ?_); (try with_reducible exact True.intro)))
                  (refine walk_trim [3, 6, 7] trivial zL ?_; (refine zW ?_; try with_reducible exact True.intro); refine irun_walk (id := 8) (n := 200) [none, none, none, none, none, none] mixed (by kernel_rfl) ?_)
                  (try simp (disch := omega) only [go_sem, simprocAttr, if_pos, if_neg, w64, beqT, beqF, bneT, bneF, pr_get, ir_get, decide_eq_true, decide_eq_false, Int.natCast_add, Int.natCast_one, Int.add_assoc])
                · have h7 : (i : Int) + 1 = 1 := by omega
                  (try simp (disch := omega) only [go_sem, simprocAttr, if_pos, if_neg, w64, beqT, beqF, bneT, bneF, pr_get, ir_get, decide_eq_true, decide_eq_false, h6, h7, Int.natCast_add, Int.natCast_one])
                  (refine at_call 200 ?_; (refine zW ?_; try with_reducible exact True.intro); refine callA_of (wmust_spec 4) zB ?_; ((try refine zW ?_); (try with_reducible exact True.intro)))
                  (refine walk_trim [3, 6, 7] trivial zL ?_; (refine zW ?_; try with_reducible exact True.intro); refine irun_walk (id := 8) (n := 200) [none, none, none, none, none, none] mixed (by kernel_rfl) ?_)
                  (try simp (disch := omega) only [go_sem, simprocAttr, if_pos, if_neg, w64, beqT, beqF, bneT, bneF, pr_get, ir_get, decide_eq_true, decide_eq_false, Int.natCast_add, Int.natCast_one, Int.add_assoc])
            · have h4' : ¬ (c : Int) < 128 := by omega
              have h3' : ((i : Int) + 1) < 5 := by omega
              rw [if_neg h4] at i3
              (try simp (disch := omega) only [go_sem, simprocAttr, if_pos, if_neg, w64, beqT, beqF, bneT, bneF, pr_get, ir_get, decide_eq_true, decide_eq_false, h1', h4', h3', Int.natCast_add, Int.natCast_one])
              (refine at_call 200 ?_; (refine zW ?_; try with_reducible exact True.intro); refine callA_of (wmust_spec 2) zB ?_; ((try refine zW ?_); (try with_reducible exact True.intro)))
              (try simp (disch := omega) only [go_sem, simprocAttr, if_pos, if_neg, w64, beqT, beqF, bneT, bneF, pr_get, ir_get, decide_eq_true, decide_eq_false, h4'])
              refine ⟨(i + 1, z), ⟨by simp only; omega, by simp only; omega, ?_⟩, by simp only; omega, ?_⟩
              · rw [show 5 - (i + 1) = 4 - i by omega]; exact i3
              · constructor <;> (try simp (disch := omega) only [go_sem, simprocAttr, if_pos, if_neg, w64, beqT, beqF, bneT, bneF, pr_get, ir_get, decide_eq_true, decide_eq_false, Int.natCast_add, Int.natCast_one])
end Go.Proofs.TR

/- The number at a place, and its error. -/
namespace Go.Proofs.TR
open Go Go.Idl Go.Proofs Go.GP
set_option maxHeartbeats 20000000
set_option maxRecDepth 100000
theorem tzvW : tzv Try.prog 162 = some (.agg ⟨[.int .i64 0]⟩) := by kernel_rfl
theorem Get_spec (t : ByteArray) (a : Int) (ht : t.size ≤ 1000000) : Pure Try.prog 55 [.p (.sc (.string t)), sci .i64 a] (.tup [sci .i64 (getV (by8 t) a).1, sci .i64 (getV (by8 t) a).2.1, sci .i64 (getV (by8 t) a).2.2]) := by
  have hp := read_spec t a ht
  have he := @getV_err (by8 t) a
  generalize hr : getV (by8 t) a = r at *
  obtain ⟨v, to, e⟩ := r
  simp only at hp he ⊢
  refine pcall_d0 200 (fn := Try.f55) Try.func55 rfl (by simp [Try.ntmps55]) zB zB fun hs => ?_
  ((try refine zW ?_); (try with_reducible exact True.intro))
  refine at_defer 200 (x := ⟨.func 78, [], [.ptr 0 0 0 0]⟩) rfl rfl rfl ?_
  ((try refine zW ?_); (try with_reducible exact True.intro))
  by_cases h0 : e = 0
  · subst h0
    rw [if_pos rfl] at hp
    (refine at_g 200 ?_; (refine zW ?_; try with_reducible exact True.intro); refine callG_of [] (hp) zU ?_; ((try refine zW ?_); (try with_reducible exact True.intro)))
    refine leaves_rec 200 rfl Try.func78 rfl (by simp [Try.ntmps78]) rfl ?_
    (try simp only [go_sem, simprocAttr, tzvW])
    refine leaves_end ?_ ?_ ?_ <;> ((try refine zO ?_); (try with_reducible exact True.intro))
  · obtain ⟨rfl, rfl⟩ := he h0
    rw [if_neg h0] at hp
    (refine at_x ?_; (refine zW ?_; try with_reducible exact True.intro); refine callXG_of [] (hp) zU ?_)
    rintro W rfl
    ((try refine zO ?_); (try with_reducible exact True.intro))
    unfold wch
    refine leaves_rec 200 rfl Try.func78 rfl (by simp [Try.ntmps78]) rfl ?_
    (try simp only [go_sem, simprocAttr, tzvW])
    refine leaves_end ?_ ?_ ?_ <;> ((try refine zO ?_); (try with_reducible exact True.intro))
end Go.Proofs.TR
