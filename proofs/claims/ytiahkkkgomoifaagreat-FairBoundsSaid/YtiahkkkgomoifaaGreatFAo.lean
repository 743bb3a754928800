/- How the arguments of the laws of serving links read. -/
import Derived.Test.YtiahkkkgomoifaaGreatFTypes
import Derived.Test.YtiahkkkgomoifaaGreatIdTx
import Derived.Test.YtiahkkkgomoifaaGreatIdCn
import Derived.Test.YtiahkkkgomoifaaGreatRows
set_option linter.unusedSimpArgs false
set_option linter.unusedVariables false
namespace Go.Proofs.YtiahkkkgomoifaaGreat
open Go Go.Idl Go.Proofs
open Go.ChangeShapes Go.WideShapes Go.ChangeAt Go.RowKit
set_option maxRecDepth 100000
theorem Tryz.own:ownKnob Tryz.prog.godebug=none:=by kernel_rfl
theorem Tryz.laidOut:laidOutB Tryz.prog=true:=by kernel_rfl
theorem one {t:TypeId} {x:PV} (h:tag Tryz.prog t=some false):ArgIs Tryz.prog t [x] (.p x):=arg_one h
theorem agg {t:TypeId} {xs:List PV} (h:tag Tryz.prog t=some true):ArgIs Tryz.prog t xs (.agg (xs.map .p)):=arg_agg h
theorem op_int:Opens Tryz.prog 3 (fun n:Int=> [.sc (.int .i64 n)]) fun _=>True:=Opens.map (opens_int Tryz.underlying3) id (fun _=>rfl) fun _ _=>trivial
theorem op_ints:Opens Tryz.prog 41 (fun l:List Int=> [.imm 1 (pr eI l)]) fun _=>True:=
 Opens.map (opens_slice (by_:=8) Tryz.underlying41 (by kernel_rfl) (by decide) (by kernel_rfl) op_int) id (fun _=>rfl) fun _ _=>trivial
theorem op_u8:Opens Tryz.prog 5 (fun n:Int=> [.sc (.int .u8 n)]) fun n=>0≤n∧n < 256:=
 Opens.map (opens_int Tryz.underlying5) id (fun _=>rfl) fun n h=>by
  have e1:IntKind.u8.min=0:=by decide
  have e2:IntKind.u8.max=255:=by decide
  rw [e1,e2] at h
  exact⟨h.1,by have:=h.2;simp only [id];omega⟩
theorem op_u16:Opens Tryz.prog 57 (fun n:Int=> [.sc (.int .u16 n)]) fun n=>0≤n∧n < 65536:=
 Opens.map (opens_int Tryz.underlying57) id (fun _=>rfl) fun n h=>by
  have e1:IntKind.u16.min=0:=by decide
  have e2:IntKind.u16.max=65535:=by decide
  rw [e1,e2] at h
  exact⟨h.1,by have:=h.2;simp only [id];omega⟩
theorem op_two:Opens Tryz.prog 58 (fun a:Int × Int=> [.sc (.int .u16 a.1), .sc (.int .u16 a.2)]) fun a=>(0≤a.1∧a.1 < 65536)∧(0≤a.2∧a.2 < 65536):=
 Opens.map (opens_two (sz:=1) Tryz.underlying58 (by kernel_rfl) (by kernel_rfl) op_u16) id (fun _=>rfl) fun _ h=>h
end Go.Proofs.YtiahkkkgomoifaaGreat
