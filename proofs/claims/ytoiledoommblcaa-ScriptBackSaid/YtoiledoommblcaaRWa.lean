/- What ends a reading. -/
import Derived.Test.YtoiledoommblcaaIdPd
import Derived.Test.YtoiledoommblcaaRPa
set_option linter.unusedSimpArgs false
set_option linter.unusedVariables false
namespace Go.Proofs.TR
open Go Go.Idl Go.Proofs Go.GP
set_option maxHeartbeats 20000000
set_option maxRecDepth 100000
theorem wmust_spec (e : Int) : Pure Try.prog 93 [scb true, sci .i64 e] (.tup []) := by
  refine pcall0 200 (fn := Try.f93) Try.func93 rfl (by simp [Try.ntmps93]) zB zB fun hs => ?_
  ((try refine zW ?_); (try with_reducible exact True.intro))
theorem smust_spec : Pure Try.prog 28 [scb true] (.tup []) := by
  refine pcall0 200 (fn := Try.f28) Try.func28 rfl (by simp [Try.ntmps28]) zB zB fun hs => ?_
  ((try refine zW ?_); (try with_reducible exact True.intro))
/-- What the numbers' package panics with. -/
def wch (e : Int) : List PanicEntry := [{ v := .iface 162 (.agg #[.int .i64 e]), recovered := false }]
def sch : List PanicEntry := [{ v := .iface 72 (.agg #[]), recovered := false }]
theorem wmust_pan (e : Int) : PPan Try.prog 93 [scb false, sci .i64 e] [] (fun W => W = []) (wch e) := by
  refine ppan_of 200 (fn := Try.f93) Try.func93 rfl (by simp [Try.ntmps93]) fun h hR hlt hs => ?_
  ((try refine zW ?_); (try with_reducible exact True.intro))
  refine at_panic rfl rfl ?_
  ((try refine zW ?_); (try with_reducible exact True.intro))
  exact ⟨rfl, [], trivial, trivial, rfl⟩
theorem smust_pan : PPan Try.prog 28 [scb false] [] (fun W => W = []) sch := by
  refine ppan_of 200 (fn := Try.f28) Try.func28 rfl (by simp [Try.ntmps28]) fun h hR hlt hs => ?_
  ((try refine zW ?_); (try with_reducible exact True.intro))
  refine at_panic rfl rfl ?_
  ((try refine zW ?_); (try with_reducible exact True.intro))
  exact ⟨rfl, [], trivial, trivial, rfl⟩
end Go.Proofs.TR
