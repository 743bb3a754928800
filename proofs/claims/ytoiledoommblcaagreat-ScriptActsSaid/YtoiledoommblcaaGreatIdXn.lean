/-
  A closed call that gives one new owned block, by computing.
-/
import Derived.Test.YtoiledoommblcaaGreatIdTx
namespace Go.Idl
variable {P : Program}
theorem xnew (n : Nat) (z : FuncId → Bool) {f : FuncId} {args : List IV} {x y : IV} {b nx : Nat} {blk : IBlk} (hz : pureB.goB args = true)
    (hx : xf (xr P z n) z P false f args ⟨0, []⟩ = some (.ret y, nx, [(b, blk)])) (hon : only b y = true) (hxy : rn 0 y = x) (hbl : blkBel 0 blk) (hmp : blk.isMp = false) : PNew P f args x blk :=
  pnew_here (goB_bels 0 args hz) hbl hmp (xf_sound (xr_both n).1 hx ⟨b, y, rfl, rfl, hon, by rw [hxy]; exact wk_refl x⟩)
theorem xnew0 (n : Nat) (z : FuncId → Bool) (nx : Nat) {f : FuncId} {args : List IV} {x : IV} {blk : IBlk} (hz : pureB.goB args = true)
    (hx : xf (xr P z n) z P false f args ⟨0, []⟩ = some (.ret x, nx, [(0, blk)])) (hon : only 0 x = true) (hxy : rn 0 x = x) (hbl : blkBel 0 blk) (hmp : blk.isMp = false) : PNew P f args x blk :=
  xnew n z hz hx hon hxy hbl hmp
end Go.Idl
