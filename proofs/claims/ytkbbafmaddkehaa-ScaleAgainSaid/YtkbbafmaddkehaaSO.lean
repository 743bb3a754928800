/- How the arguments of the laws of numbers read. -/
import Derived.Test.YtkbbafmaddkehaaSB
import Derived.Test.YtkbbafmaddkehaaRows
namespace Go.Proofs.Ytkbbafmaddkehaa
open Go Go.Idl Go.Proofs
open Go.ChangeShapes Go.WideShapes Go.ChangeAt Go.RowKit
theorem Try.own : ownKnob Try.prog.godebug = none := by kernel_rfl
theorem Try.laidOut : laidOutB Try.prog = true := by kernel_rfl
theorem op_int : Opens Try.prog 3 (fun n : Int => [.sc (.int .i64 n)]) fun n => IntKind.i64.min ≤ n ∧ n ≤ IntKind.i64.max := opens_int Try.underlying3
theorem op_u8 : Opens Try.prog 5 (fun n : Int => [.sc (.int .u8 n)]) fun n => IntKind.u8.min ≤ n ∧ n ≤ IntKind.u8.max := opens_int Try.underlying5
theorem op_i32 : Opens Try.prog 21 (fun n : Int => [.sc (.int .i32 n)]) fun n => IntKind.i32.min ≤ n ∧ n ≤ IntKind.i32.max := opens_int Try.underlying21
theorem op_u64 : Opens Try.prog 39 (fun n : Int => [.sc (.int .u64 n)]) fun n => IntKind.u64.min ≤ n ∧ n ≤ IntKind.u64.max := opens_int Try.underlying39
theorem op_f64 : Opens Try.prog 22 (fun n : Nat => [.sc (.float .f64 n)]) fun n => n < 2 ^ 64 := opens_f64 Try.underlying22
theorem op_u64s : Opens Try.prog 23 (fun l : List Int => [.imm 1 (pr (fun n : Int => [.sc (.int .u64 n)]) l)]) fun l => (∀ a ∈ l, IntKind.u64.min ≤ a ∧ a ≤ IntKind.u64.max) ∧ l.length * 8 ≤ reachBytes ∧ l.length ≤ maxLen := opens_slice Try.underlying23 (by kernel_rfl) (by decide) (by kernel_rfl) op_u64
theorem one {t : TypeId} {x : PV} (h : tag Try.prog t = some false) : ArgIs Try.prog t [x] (.p x) := arg_one h
theorem u64N {n : Int} (h : IntKind.u64.min ≤ n ∧ n ≤ IntKind.u64.max) : ∃ b : Nat, n = b ∧ b < 18446744073709551616 := by
  have h1 : IntKind.u64.min = 0 := by decide
  have h2 : IntKind.u64.max = 18446744073709551615 := by decide
  rw [h1, h2] at h
  exact ⟨n.toNat, by omega, by omega⟩
theorem u8N {n : Int} (h : IntKind.u8.min ≤ n ∧ n ≤ IntKind.u8.max) : ∃ b : Nat, n = b ∧ b < 256 := by
  have h1 : IntKind.u8.min = 0 := by decide
  have h2 : IntKind.u8.max = 255 := by decide
  rw [h1, h2] at h
  exact ⟨n.toNat, by omega, by omega⟩
theorem i32N {n : Int} (h : IntKind.i32.min ≤ n ∧ n ≤ IntKind.i32.max) : -2147483648 ≤ n ∧ n ≤ 2147483647 := by
  have h1 : IntKind.i32.min = -2147483648 := by decide
  have h2 : IntKind.i32.max = 2147483647 := by decide
  rwa [h1, h2] at h
theorem i64N {n : Int} (h : IntKind.i64.min ≤ n ∧ n ≤ IntKind.i64.max) : -9223372036854775808 ≤ n ∧ n ≤ 9223372036854775807 := by
  have h1 : IntKind.i64.min = -9223372036854775808 := by decide
  have h2 : IntKind.i64.max = 9223372036854775807 := by decide
  rwa [h1, h2] at h
end Go.Proofs.Ytkbbafmaddkehaa
