/- The reader of scripts: its next number; what a state waits for. -/
import Derived.Test.YtoiledoommblcaaRWc
import Derived.Test.YtoiledoommblcaaRYp
set_option linter.unusedSimpArgs false
set_option linter.unusedVariables false
namespace Go.Proofs.TR
open Go Go.Idl Go.Proofs Go.GP
set_option maxHeartbeats 20000000
set_option maxRecDepth 100000
abbrev rd (t : ByteArray) (a : Nat) : IBlk := .arr 2 0 [[.p (.sc (.string t)), sci .i64 (a : Int)]]
abbrev cP (b : Nat) : IBlk := .arr 1 0 [[.ptr b 0 0 0]]
attribute [go_sem] rd cP
@[go_sem] theorem snocII {l : List (Int × Int)} {a b : Int} : ir eII l ++ [[.p (.sc (.int .i64 a)), .p (.sc (.int .i64 b))]] = ir eII (l ++ [(a, b)]) := by simp [ir, eII]
@[go_sem] theorem snocIII {l : List (Int × Int × Int)} {a b c : Int} : ir eIII l ++ [[.p (.sc (.int .i64 a)), .p (.sc (.int .i64 b)), .p (.sc (.int .i64 c))]] = ir eIII (l ++ [(a, b, c)]) := by simp [ir, eIII]
theorem next_ok (t : ByteArray) (a : Nat) (x : Int × Nat) (ht : t.size ≤ 1000000) (h : nxt (by8 t) a = some x) :
    PG Try.prog 31 [.ptr 0 0 0 0] [rd t a] 0 (sci .i64 x.1) [(0, rd t x.2)] := by
  obtain ⟨h1, _⟩ := nxt_ok h
  have hG := Get_spec t a ht
  rw [h1] at hG
  refine pg_of 200 (fn := Try.f31) Try.func31 rfl (by simp [Try.ntmps31]) 1 rfl zC zC zC zC zC fun hs => ?_
  (refine walk_trim [0] trivial zL ?_; (refine zW ?_; try with_reducible exact True.intro); refine irun_walk (id := 1) (n := 200) [none, none, none, none, none, none, none, none, some [], none, none, none, none, none, none, none] mixed (by kernel_rfl) ?_)
  ((try refine zW ?_); (try with_reducible exact True.intro))
  (refine at_dcall ?_; (refine zW ?_; try with_reducible exact True.intro); refine callA_of (hG) zB ?_; ((try refine zW ?_); (try with_reducible exact True.intro)))
  ((try refine zO ?_); (try with_reducible exact True.intro))
  (refine at_call 200 ?_; (refine zW ?_; try with_reducible exact True.intro); refine callA_of (smust_spec) zB ?_; ((try refine zW ?_); (try with_reducible exact True.intro)))
  ((try refine zO ?_); (try with_reducible exact True.intro))
theorem next_no (t : ByteArray) (a : Nat) (ht : t.size ≤ 1000000) (h : nxt (by8 t) a = none) :
    PX Try.prog 31 [.ptr 0 0 0 0] [rd t a] sch (fun W => W = []) := by
  obtain ⟨h0, h1⟩ := nxt_no h
  have hG := Get_spec t a ht
  rw [h1] at hG
  generalize (getV (by8 t) a).2.2 = e at *
  refine px_of 200 (fn := Try.f31) Try.func31 rfl (by simp [Try.ntmps31]) 1 rfl zC zC fun hs => ?_
  (refine walk_trim [0] trivial zL ?_; (refine zW ?_; try with_reducible exact True.intro); refine irun_walk (id := 1) (n := 200) [none, none, none, none, none, none, none, none, some [], none, none, none, none, none, none, none] mixed (by kernel_rfl) ?_)
  ((try refine zW ?_); (try with_reducible exact True.intro))
  (refine at_dcall ?_; (refine zW ?_; try with_reducible exact True.intro); refine callA_of (hG) zB ?_; ((try refine zW ?_); (try with_reducible exact True.intro)))
  (try simp (disch := omega) only [go_sem, simprocAttr, if_pos, if_neg, w64, beqT, beqF, bneT, bneF, pr_get, ir_get, decide_eq_true, decide_eq_false, h0])
  (refine at_x ?_; (refine zW ?_; try with_reducible exact True.intro); refine callXG_of [] (smust_px) zU ?_)
  rintro W rfl
  (refine endX_of [] ?_ ?_ ?_ ?_ ?_ <;> first | exact rfl | decide | omega | exact zU)
abbrev nilS : IV := .p (.sc (.slice none 0 0))
attribute [go_sem] nilS
abbrev sB (x y z w : IV) : IBlk := .arr 4 0 [[x, y, z, w]]
attribute [go_sem] sB
theorem st1_ok (t : ByteArray) (m : Int) (a : Nat) (ws : List Int) (x : Int × Nat) (ht : t.size ≤ 1000000) (hw : ws.length ≤ 1000000) (h : nxt (by8 t) a = some x) :
    PG Try.prog 74 [.ptr 0 0 0 0, .ptr 1 0 0 0] [sB (sci .i64 m) (.ref 3 ws.length 0 ws.length) nilS nilS, cP 2, rd t a, .arr 1 ws.length (ir eI ws)] 0 (.tup [])
      [(0, sB (sci .i64 m) (.ref 3 (ws.length + 1) 0 (ws.length + 1)) nilS nilS), (2, rd t x.2), (3, .arr 1 (ws.length + 1) (ir eI (ws ++ [x.1])))] := by
  refine pg_of 200 (fn := Try.f74) Try.func74 rfl (by simp [Try.ntmps74]) 4 rfl zC zC zC zC zC fun hs => ?_
  (refine walk_trim [0, 1] trivial zL ?_; (refine zW ?_; try with_reducible exact True.intro); refine irun_walk (id := 0) (n := 200) [none, none, none, some [0, 1], some [0, 1], some [], none, some []] mixed (by kernel_rfl) ?_)
  ((try refine zO ?_); (try with_reducible exact True.intro))
  (refine at_dg ?_; (refine zW ?_; try with_reducible exact True.intro); refine callG_of [2] (next_ok t a x ht h) zU ?_; ((try refine zW ?_); (try with_reducible exact True.intro)))
  ((try refine zO ?_); (try with_reducible exact True.intro))
theorem st1_no (t : ByteArray) (m : Int) (a : Nat) (ws : List Int) (ht : t.size ≤ 1000000) (h : nxt (by8 t) a = none) :
    PX Try.prog 74 [.ptr 0 0 0 0, .ptr 1 0 0 0] [sB (sci .i64 m) (.ref 3 ws.length 0 ws.length) nilS nilS, cP 2, rd t a, .arr 1 ws.length (ir eI ws)] sch (fun W => W = []) := by
  refine px_of 200 (fn := Try.f74) Try.func74 rfl (by simp [Try.ntmps74]) 4 rfl zC zC fun hs => ?_
  (refine walk_trim [0, 1] trivial zL ?_; (refine zW ?_; try with_reducible exact True.intro); refine irun_pan [none, none, none, some [0, 1], some [0, 1], some [], none, some []] 3 [0, 0, 3, 2, 1, 1, 1, 1] mixed (by kernel_rfl) (by kernel_rfl) ?_)
  ((try refine zO ?_); (try with_reducible exact True.intro))
  (refine panAt_of ?_; (refine zW ?_; try with_reducible exact True.intro); refine callXG_of [2] (next_no t a ht h) zU ?_)
  rintro W rfl nx' hnx
  (refine endX_of [] ?_ ?_ ?_ ?_ ?_ <;> first | exact rfl | decide | omega | exact zU)
end Go.Proofs.TR
