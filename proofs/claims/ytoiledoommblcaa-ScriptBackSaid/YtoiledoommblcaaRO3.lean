/- More openings of the laws of scripts. -/
import Derived.Test.YtoiledoommblcaaRO
set_option linter.unusedSimpArgs false
set_option linter.unusedVariables false
namespace Go.Proofs.Ytoiledoommblcaa
open Go Go.Idl Go.Proofs
open Go.ChangeShapes Go.WideShapes Go.ChangeAt Go.RowKit
theorem u16N {n : Int} (h : IntKind.u16.min ≤ n ∧ n ≤ IntKind.u16.max) : 0 ≤ n ∧ n < 65536 := by
  have h1 : IntKind.u16.min = 0 := by decide
  have h2 : IntKind.u16.max = 65535 := by decide
  rw [h1, h2] at h; omega
theorem u8N {n : Int} (h : IntKind.u8.min ≤ n ∧ n ≤ IntKind.u8.max) : 0 ≤ n ∧ n < 256 := by
  have h1 : IntKind.u8.min = 0 := by decide
  have h2 : IntKind.u8.max = 255 := by decide
  rw [h1, h2] at h; omega
theorem u64N {n : Int} (h : IntKind.u64.min ≤ n ∧ n ≤ IntKind.u64.max) : 0 ≤ n ∧ n < 18446744073709551616 := by
  have h1 : IntKind.u64.min = 0 := by decide
  have h2 : IntKind.u64.max = 18446744073709551615 := by decide
  rw [h1, h2] at h; omega
theorem op_u16 : Opens Try.prog 50 (fun n : Int => [.sc (.int .u16 n)]) fun n => 0 ≤ n ∧ n < 65536 := Opens.map (opens_int Try.underlying50) id (fun _ => rfl) fun _ => u16N
theorem op_u8 : Opens Try.prog 5 (fun n : Int => [.sc (.int .u8 n)]) fun n => 0 ≤ n ∧ n < 256 := Opens.map (opens_int Try.underlying5) id (fun _ => rfl) fun _ => u8N
theorem op_u64 : Opens Try.prog 53 (fun n : Int => [.sc (.int .u64 n)]) fun n => 0 ≤ n ∧ n < 18446744073709551616 := Opens.map (opens_int Try.underlying53) id (fun _ => rfl) fun _ => u64N
theorem op_str : Opens Try.prog 9 (fun s : ByteArray => [.sc (.string s)]) fun s => s.size ≤ reachBytes := opens_string Try.underlying9
def eAp (s : TR.Sc) : List PV := [.sc (.int .i64 s.N), .imm 2 (pr eII s.ls), .imm 2 (pr TR.eNd s.T), .sc (.bool s.fifo)]
theorem op_ap : Opens Try.prog 27 eAp TR.gSc :=
  Opens.map op_app (fun a => (⟨a.1.1, a.1.2, a.2.1, a.2.2, 0, []⟩ : TR.Sc)) (fun _ => rfl) fun _ h => ⟨h.1.1, h.1.2, h.2.1, (by decide : (0 : Nat) < 18446744073709551616), fun t ht => by cases ht⟩
end Go.Proofs.Ytoiledoommblcaa
