/-
  No cell of these rows narrows 'for every input' (looked for: loops, veiled, ifaces, maps, wideKeys, modest, calm, conditions, laid).
  DERIVED. THE GIVEN ROWS OF THIS SEAT. 8 by the template 'for every input the law returns true; each argument reads behind the call as it read before'; 0 by the template 'total and deterministic' (their statements: YtkbbafmaddkehaaTotals.lean).
  GIVEN WITH THE SEED: the statements are not yours to turn. If you find one false, say at which input.
  Laid BY PROGRAM, IN A SANDBOX (cutbox-rows.mjs): the forced cells as the released guide's own fill.sh prints them over the translation 681e45d921cfd836… (all of the seat's roots in one cut). By AI agents, Wed Nov 11 2026. No macro, syntax, notation, axiom, sorry.
-/
import Derived.Test.YtkbbafmaddkehaaChecked
import GoSem.Claim
import GoSem.ClaimJoined
import GoSem.ClaimMapViews
import Derived.JoinedTies
import Derived.KernelRfl
namespace Go.Proofs.Ytkbbafmaddkehaa
/- THE CELL 'sum', in the pinned program and in every row, IS THE sha256 OF THE DUMP (.gsa) THAT YtkbbafmaddkehaaProg.lean LOADS. Nothing in Lean hashes anything: it is a label: what it is worth is what the hold of that sum in a sandbox is worth. -/
noncomputable def Try.pinned : Pinned := { name := "ytkbbafmaddkehaa", sum := "681e45d921cfd836c29075e36965e8b1dedcf45d694fa4f59757141ec0d88d76", checked := Try.checked }
namespace Rows
def none {H : Type} : Left H := { results := [], args := [] }

/-- 'cameolaw02.ScaleTells': WHATEVER THE INPUT: true; the input reads as it did. -/
def scaleTellsSpec : ChangeSpec := { name := "scaleTells", fn := fun _ => fun
  | [d1, d2, d3] => { results := [.lit (.bool true)], args := [d1, d2, d3] }
  | _ => none }
def scaleTellsRow : OpenClaim := { program := "ytkbbafmaddkehaa", sum := "681e45d921cfd836c29075e36965e8b1dedcf45d694fa4f59757141ec0d88d76", func := "cameo/cameolaw02.ScaleTells", spec := "scaleTells", inPlace := ["math.Float64bits", "math.Float64frombits", "math.archFloor", "math.archTrunc"], unfollowed := true, recurses := true, apart := false }
def ScaleTellsSaid : Prop := scaleTellsRow.holds Try.pinned (OpenSpec.ofChange scaleTellsSpec)

/-- ITS FALSE NEIGHBOUR: 'it returns false'. Refute it at one input. -/
def scaleTellsWrong : ChangeSpec := { name := "scaleTells", fn := fun _ => fun
  | [d1, d2, d3] => { results := [.lit (.bool false)], args := [d1, d2, d3] }
  | _ => none }
def ScaleTellsWrongFalsely : Prop := scaleTellsRow.holds Try.pinned (OpenSpec.ofChange scaleTellsWrong)

/-- 'cameolaw02.ScaleOrder': WHATEVER THE INPUT: true; the input reads as it did. -/
def scaleOrderSpec : ChangeSpec := { name := "scaleOrder", fn := fun _ => fun
  | [d1, d2, d3] => { results := [.lit (.bool true)], args := [d1, d2, d3] }
  | _ => none }
def scaleOrderRow : OpenClaim := { program := "ytkbbafmaddkehaa", sum := "681e45d921cfd836c29075e36965e8b1dedcf45d694fa4f59757141ec0d88d76", func := "cameo/cameolaw02.ScaleOrder", spec := "scaleOrder", inPlace := ["math.Float64frombits", "math.Float64bits", "math.archFloor", "math.archTrunc"], unfollowed := true, recurses := true, apart := false }
def ScaleOrderSaid : Prop := scaleOrderRow.holds Try.pinned (OpenSpec.ofChange scaleOrderSpec)

/-- ITS FALSE NEIGHBOUR: 'it returns false'. Refute it at one input. -/
def scaleOrderWrong : ChangeSpec := { name := "scaleOrder", fn := fun _ => fun
  | [d1, d2, d3] => { results := [.lit (.bool false)], args := [d1, d2, d3] }
  | _ => none }
def ScaleOrderWrongFalsely : Prop := scaleOrderRow.holds Try.pinned (OpenSpec.ofChange scaleOrderWrong)

/-- 'cameolaw02.ScaleRank': WHATEVER THE INPUT: true; the input reads as it did. -/
def scaleRankSpec : ChangeSpec := { name := "scaleRank", fn := fun _ => fun
  | [d] => { results := [.lit (.bool true)], args := [d] }
  | _ => none }
def scaleRankRow : OpenClaim := { program := "ytkbbafmaddkehaa", sum := "681e45d921cfd836c29075e36965e8b1dedcf45d694fa4f59757141ec0d88d76", func := "cameo/cameolaw02.ScaleRank", spec := "scaleRank", inPlace := ["math.Float64frombits", "math.Float64bits", "math.archFloor", "math.archTrunc"], unfollowed := true, recurses := true, apart := false }
def ScaleRankSaid : Prop := scaleRankRow.holds Try.pinned (OpenSpec.ofChange scaleRankSpec)

/-- ITS FALSE NEIGHBOUR: 'it returns false'. Refute it at one input. -/
def scaleRankWrong : ChangeSpec := { name := "scaleRank", fn := fun _ => fun
  | [d] => { results := [.lit (.bool false)], args := [d] }
  | _ => none }
def ScaleRankWrongFalsely : Prop := scaleRankRow.holds Try.pinned (OpenSpec.ofChange scaleRankWrong)

/-- 'cameolaw02.ScaleCaps': WHATEVER THE INPUT: true; the input reads as it did. -/
def scaleCapsSpec : ChangeSpec := { name := "scaleCaps", fn := fun _ => fun
  | [d1, d2, d3] => { results := [.lit (.bool true)], args := [d1, d2, d3] }
  | _ => none }
def scaleCapsRow : OpenClaim := { program := "ytkbbafmaddkehaa", sum := "681e45d921cfd836c29075e36965e8b1dedcf45d694fa4f59757141ec0d88d76", func := "cameo/cameolaw02.ScaleCaps", spec := "scaleCaps", inPlace := ["math.Float64bits", "math.Float64frombits", "math.archFloor", "math.archTrunc"], unfollowed := true, recurses := true, apart := false }
def ScaleCapsSaid : Prop := scaleCapsRow.holds Try.pinned (OpenSpec.ofChange scaleCapsSpec)

/-- ITS FALSE NEIGHBOUR: 'it returns false'. Refute it at one input. -/
def scaleCapsWrong : ChangeSpec := { name := "scaleCaps", fn := fun _ => fun
  | [d1, d2, d3] => { results := [.lit (.bool false)], args := [d1, d2, d3] }
  | _ => none }
def ScaleCapsWrongFalsely : Prop := scaleCapsRow.holds Try.pinned (OpenSpec.ofChange scaleCapsWrong)

/-- 'cameolaw02.ScaleRatios': WHATEVER THE INPUT: true; the input reads as it did. -/
def scaleRatiosSpec : ChangeSpec := { name := "scaleRatios", fn := fun _ => fun
  | [d1, d2, d3] => { results := [.lit (.bool true)], args := [d1, d2, d3] }
  | _ => none }
def scaleRatiosRow : OpenClaim := { program := "ytkbbafmaddkehaa", sum := "681e45d921cfd836c29075e36965e8b1dedcf45d694fa4f59757141ec0d88d76", func := "cameo/cameolaw02.ScaleRatios", spec := "scaleRatios", inPlace := ["math.Float64bits", "math.Float64frombits", "math.archFloor", "math.archTrunc"], unfollowed := true, recurses := true, apart := false }
def ScaleRatiosSaid : Prop := scaleRatiosRow.holds Try.pinned (OpenSpec.ofChange scaleRatiosSpec)

/-- ITS FALSE NEIGHBOUR: 'it returns false'. Refute it at one input. -/
def scaleRatiosWrong : ChangeSpec := { name := "scaleRatios", fn := fun _ => fun
  | [d1, d2, d3] => { results := [.lit (.bool false)], args := [d1, d2, d3] }
  | _ => none }
def ScaleRatiosWrongFalsely : Prop := scaleRatiosRow.holds Try.pinned (OpenSpec.ofChange scaleRatiosWrong)

/-- 'cameolaw02.ScaleTurned': WHATEVER THE INPUT: true; the input reads as it did. -/
def scaleTurnedSpec : ChangeSpec := { name := "scaleTurned", fn := fun _ => fun
  | [d] => { results := [.lit (.bool true)], args := [d] }
  | _ => none }
def scaleTurnedRow : OpenClaim := { program := "ytkbbafmaddkehaa", sum := "681e45d921cfd836c29075e36965e8b1dedcf45d694fa4f59757141ec0d88d76", func := "cameo/cameolaw02.ScaleTurned", spec := "scaleTurned", inPlace := ["math.Float64frombits", "math.Float64bits", "math.archFloor", "math.archTrunc"], unfollowed := true, recurses := true, apart := false }
def ScaleTurnedSaid : Prop := scaleTurnedRow.holds Try.pinned (OpenSpec.ofChange scaleTurnedSpec)

/-- ITS FALSE NEIGHBOUR: 'it returns false'. Refute it at one input. -/
def scaleTurnedWrong : ChangeSpec := { name := "scaleTurned", fn := fun _ => fun
  | [d] => { results := [.lit (.bool false)], args := [d] }
  | _ => none }
def ScaleTurnedWrongFalsely : Prop := scaleTurnedRow.holds Try.pinned (OpenSpec.ofChange scaleTurnedWrong)

/-- 'cameolaw02.ScaleAgain': WHATEVER THE INPUT: true; the input reads as it did. -/
def scaleAgainSpec : ChangeSpec := { name := "scaleAgain", fn := fun _ => fun
  | [d] => { results := [.lit (.bool true)], args := [d] }
  | _ => none }
def scaleAgainRow : OpenClaim := { program := "ytkbbafmaddkehaa", sum := "681e45d921cfd836c29075e36965e8b1dedcf45d694fa4f59757141ec0d88d76", func := "cameo/cameolaw02.ScaleAgain", spec := "scaleAgain", inPlace := ["math.Float64frombits", "math.Float64bits", "math.archFloor", "math.archTrunc"], unfollowed := true, recurses := true, apart := false }
def ScaleAgainSaid : Prop := scaleAgainRow.holds Try.pinned (OpenSpec.ofChange scaleAgainSpec)

/-- ITS FALSE NEIGHBOUR: 'it returns false'. Refute it at one input. -/
def scaleAgainWrong : ChangeSpec := { name := "scaleAgain", fn := fun _ => fun
  | [d] => { results := [.lit (.bool false)], args := [d] }
  | _ => none }
def ScaleAgainWrongFalsely : Prop := scaleAgainRow.holds Try.pinned (OpenSpec.ofChange scaleAgainWrong)

/-- 'cameolaw02.ScaleExact': WHATEVER THE INPUT: true; the input reads as it did. -/
def scaleExactSpec : ChangeSpec := { name := "scaleExact", fn := fun _ => fun
  | [d1, d2] => { results := [.lit (.bool true)], args := [d1, d2] }
  | _ => none }
def scaleExactRow : OpenClaim := { program := "ytkbbafmaddkehaa", sum := "681e45d921cfd836c29075e36965e8b1dedcf45d694fa4f59757141ec0d88d76", func := "cameo/cameolaw02.ScaleExact", spec := "scaleExact", inPlace := ["math.Float64bits", "math.Float64frombits", "math.archFloor", "math.archTrunc"], unfollowed := true, recurses := true, apart := false }
def ScaleExactSaid : Prop := scaleExactRow.holds Try.pinned (OpenSpec.ofChange scaleExactSpec)

/-- ITS FALSE NEIGHBOUR: 'it returns false'. Refute it at one input. -/
def scaleExactWrong : ChangeSpec := { name := "scaleExact", fn := fun _ => fun
  | [d1, d2] => { results := [.lit (.bool false)], args := [d1, d2] }
  | _ => none }
def ScaleExactWrongFalsely : Prop := scaleExactRow.holds Try.pinned (OpenSpec.ofChange scaleExactWrong)

/- THE SECOND FORM. 'bulk': how many values and letters a reading holds, each counted each time it is reached (what is shared counts as often as it is met; a slice's spare places count too). A statement '..UptoSaid' is the law's where the arguments, and the package variables that the reading takes, are together of bulk at most 1048576: NARROWER than '..Said'. Prove '..Said' where nothing that the law and all that it calls make is longer than what came in: it says more and counts as full. Else prove '..UptoSaid'. A law counts once. -/
mutual
def uptoBulk {H : Type} : DataW H → Nat
  | .lit (.string bytes) => bytes.length + 1
  | .lit _ => 1
  | .nil => 1
  | .ptr d => uptoBulk d + 1
  | .slice elems spare => uptoBulkAll elems + uptoBulkAll spare + 1
  | .agg parts => uptoBulkAll parts + 1
  | .iface _ d => uptoBulk d + 1
  | .map entries => uptoBulkEntries entries + 1
  | .held _ => 1
def uptoBulkAll {H : Type} : List (DataW H) → Nat
  | [] => 0
  | d :: r => uptoBulk d + uptoBulkAll r
def uptoBulkEntries {H : Type} : List (Lit × DataW H) → Nat
  | [] => 0
  | x :: r => uptoBulkEntry x + uptoBulkEntries r
def uptoBulkEntry {H : Type} : Lit × DataW H → Nat
  | (.string bytes, d) => bytes.length + uptoBulk d + 1
  | (_, d) => uptoBulk d + 1
 end
def uptoSmall : (H : Type) → List (DataW H) → Bool := fun _ ds => decide (uptoBulkAll ds ≤ 1048576)
def OpenSpec.upto (s : _root_.Go.ChangeSpec) : _root_.Go.OpenSpec := { _root_.Go.OpenSpec.ofChange s with cond := some uptoSmall }

/-- 'cameolaw02.ScaleTells', WHERE WHAT IT READS IS OF BULK AT MOST 1048576: true; the input reads as it did. -/
def scaleTellsUptoRow : OpenClaim := { program := "ytkbbafmaddkehaa", sum := "681e45d921cfd836c29075e36965e8b1dedcf45d694fa4f59757141ec0d88d76", func := "cameo/cameolaw02.ScaleTells", spec := "scaleTells", inPlace := ["math.Float64bits", "math.Float64frombits", "math.archFloor", "math.archTrunc"], unfollowed := true, recurses := true, apart := false, narrowed := true }
def ScaleTellsUptoSaid : Prop := scaleTellsUptoRow.holds Try.pinned (OpenSpec.upto scaleTellsSpec)

/-- 'cameolaw02.ScaleOrder', WHERE WHAT IT READS IS OF BULK AT MOST 1048576: true; the input reads as it did. -/
def scaleOrderUptoRow : OpenClaim := { program := "ytkbbafmaddkehaa", sum := "681e45d921cfd836c29075e36965e8b1dedcf45d694fa4f59757141ec0d88d76", func := "cameo/cameolaw02.ScaleOrder", spec := "scaleOrder", inPlace := ["math.Float64frombits", "math.Float64bits", "math.archFloor", "math.archTrunc"], unfollowed := true, recurses := true, apart := false, narrowed := true }
def ScaleOrderUptoSaid : Prop := scaleOrderUptoRow.holds Try.pinned (OpenSpec.upto scaleOrderSpec)

/-- 'cameolaw02.ScaleRank', WHERE WHAT IT READS IS OF BULK AT MOST 1048576: true; the input reads as it did. -/
def scaleRankUptoRow : OpenClaim := { program := "ytkbbafmaddkehaa", sum := "681e45d921cfd836c29075e36965e8b1dedcf45d694fa4f59757141ec0d88d76", func := "cameo/cameolaw02.ScaleRank", spec := "scaleRank", inPlace := ["math.Float64frombits", "math.Float64bits", "math.archFloor", "math.archTrunc"], unfollowed := true, recurses := true, apart := false, narrowed := true }
def ScaleRankUptoSaid : Prop := scaleRankUptoRow.holds Try.pinned (OpenSpec.upto scaleRankSpec)

/-- 'cameolaw02.ScaleCaps', WHERE WHAT IT READS IS OF BULK AT MOST 1048576: true; the input reads as it did. -/
def scaleCapsUptoRow : OpenClaim := { program := "ytkbbafmaddkehaa", sum := "681e45d921cfd836c29075e36965e8b1dedcf45d694fa4f59757141ec0d88d76", func := "cameo/cameolaw02.ScaleCaps", spec := "scaleCaps", inPlace := ["math.Float64bits", "math.Float64frombits", "math.archFloor", "math.archTrunc"], unfollowed := true, recurses := true, apart := false, narrowed := true }
def ScaleCapsUptoSaid : Prop := scaleCapsUptoRow.holds Try.pinned (OpenSpec.upto scaleCapsSpec)

/-- 'cameolaw02.ScaleRatios', WHERE WHAT IT READS IS OF BULK AT MOST 1048576: true; the input reads as it did. -/
def scaleRatiosUptoRow : OpenClaim := { program := "ytkbbafmaddkehaa", sum := "681e45d921cfd836c29075e36965e8b1dedcf45d694fa4f59757141ec0d88d76", func := "cameo/cameolaw02.ScaleRatios", spec := "scaleRatios", inPlace := ["math.Float64bits", "math.Float64frombits", "math.archFloor", "math.archTrunc"], unfollowed := true, recurses := true, apart := false, narrowed := true }
def ScaleRatiosUptoSaid : Prop := scaleRatiosUptoRow.holds Try.pinned (OpenSpec.upto scaleRatiosSpec)

/-- 'cameolaw02.ScaleTurned', WHERE WHAT IT READS IS OF BULK AT MOST 1048576: true; the input reads as it did. -/
def scaleTurnedUptoRow : OpenClaim := { program := "ytkbbafmaddkehaa", sum := "681e45d921cfd836c29075e36965e8b1dedcf45d694fa4f59757141ec0d88d76", func := "cameo/cameolaw02.ScaleTurned", spec := "scaleTurned", inPlace := ["math.Float64frombits", "math.Float64bits", "math.archFloor", "math.archTrunc"], unfollowed := true, recurses := true, apart := false, narrowed := true }
def ScaleTurnedUptoSaid : Prop := scaleTurnedUptoRow.holds Try.pinned (OpenSpec.upto scaleTurnedSpec)

/-- 'cameolaw02.ScaleAgain', WHERE WHAT IT READS IS OF BULK AT MOST 1048576: true; the input reads as it did. -/
def scaleAgainUptoRow : OpenClaim := { program := "ytkbbafmaddkehaa", sum := "681e45d921cfd836c29075e36965e8b1dedcf45d694fa4f59757141ec0d88d76", func := "cameo/cameolaw02.ScaleAgain", spec := "scaleAgain", inPlace := ["math.Float64frombits", "math.Float64bits", "math.archFloor", "math.archTrunc"], unfollowed := true, recurses := true, apart := false, narrowed := true }
def ScaleAgainUptoSaid : Prop := scaleAgainUptoRow.holds Try.pinned (OpenSpec.upto scaleAgainSpec)

/-- 'cameolaw02.ScaleExact', WHERE WHAT IT READS IS OF BULK AT MOST 1048576: true; the input reads as it did. -/
def scaleExactUptoRow : OpenClaim := { program := "ytkbbafmaddkehaa", sum := "681e45d921cfd836c29075e36965e8b1dedcf45d694fa4f59757141ec0d88d76", func := "cameo/cameolaw02.ScaleExact", spec := "scaleExact", inPlace := ["math.Float64bits", "math.Float64frombits", "math.archFloor", "math.archTrunc"], unfollowed := true, recurses := true, apart := false, narrowed := true }
def ScaleExactUptoSaid : Prop := scaleExactUptoRow.holds Try.pinned (OpenSpec.upto scaleExactSpec)

end Rows
end Go.Proofs.Ytkbbafmaddkehaa
