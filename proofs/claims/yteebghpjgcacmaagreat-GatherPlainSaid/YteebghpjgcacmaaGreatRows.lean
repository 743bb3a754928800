/-
  No cell of these rows narrows 'for every input' (looked for: loops, veiled, ifaces, maps, wideKeys, modest, calm, conditions, laid).
  DERIVED. THE GIVEN ROWS OF THIS SEAT. 4 by the template 'for every input the law returns true; each argument reads behind the call as it read before'; 0 by the template 'total and deterministic' (their statements: YteebghpjgcacmaaGreatTotals.lean).
  GIVEN WITH THE SEED: the statements are not yours to turn. If you find one false, say at which input.
  Laid BY PROGRAM, IN A SANDBOX (cutbox-rows.mjs): the forced cells as the released guide's own fill.sh prints them over the translation c28e499c20c76d3b… (all of the seat's roots in one cut). By AI agents, Wed Nov 11 2026. No macro, syntax, notation, axiom, sorry.
-/
import Derived.Test.YteebghpjgcacmaaGreatChecked
import GoSem.Claim
import GoSem.ClaimJoined
import GoSem.ClaimMapViews
import Derived.JoinedTies
import Derived.KernelRfl
namespace Go.Proofs.YteebghpjgcacmaaGreat
/- THE CELL 'sum', in the pinned program and in every row, IS THE sha256 OF THE DUMP (.gsa) THAT YteebghpjgcacmaaGreatProg.lean LOADS. Nothing in Lean hashes anything: it is a label: what it is worth is what the hold of that sum in a sandbox is worth. -/
noncomputable def Tryz.pinned : Pinned := { name := "yteebghpjgcacmaagreat", sum := "c28e499c20c76d3bd0931329fd8b36567fbcecc6bc34616031b9885e052db990", checked := Tryz.checked }
namespace Rows
def none {H : Type} : Left H := { results := [], args := [] }

/-- 'cameolaw13.GatherTells': WHATEVER THE INPUT: true; the input reads as it did. -/
def gatherTellsSpec : ChangeSpec := { name := "gatherTells", fn := fun _ => fun
  | [d1, d2, d3] => { results := [.lit (.bool true)], args := [d1, d2, d3] }
  | _ => none }
def gatherTellsRow : OpenClaim := { program := "yteebghpjgcacmaagreat", sum := "c28e499c20c76d3bd0931329fd8b36567fbcecc6bc34616031b9885e052db990", func := "cameo/cameolaw13.GatherTells", spec := "gatherTells", unfollowed := true, recurses := true, plainKeys := false, apart := false }
def GatherTellsSaid : Prop := gatherTellsRow.holds Tryz.pinned (OpenSpec.ofChange gatherTellsSpec)

/-- ITS FALSE NEIGHBOUR: 'it returns false'. Refute it at one input. -/
def gatherTellsWrong : ChangeSpec := { name := "gatherTells", fn := fun _ => fun
  | [d1, d2, d3] => { results := [.lit (.bool false)], args := [d1, d2, d3] }
  | _ => none }
def GatherTellsWrongFalsely : Prop := gatherTellsRow.holds Tryz.pinned (OpenSpec.ofChange gatherTellsWrong)

/-- 'cameolaw13.GatherParts': WHATEVER THE INPUT: true; the input reads as it did. -/
def gatherPartsSpec : ChangeSpec := { name := "gatherParts", fn := fun _ => fun
  | [d1, d2] => { results := [.lit (.bool true)], args := [d1, d2] }
  | _ => none }
def gatherPartsRow : OpenClaim := { program := "yteebghpjgcacmaagreat", sum := "c28e499c20c76d3bd0931329fd8b36567fbcecc6bc34616031b9885e052db990", func := "cameo/cameolaw13.GatherParts", spec := "gatherParts", unfollowed := true, recurses := true, plainKeys := false, apart := false }
def GatherPartsSaid : Prop := gatherPartsRow.holds Tryz.pinned (OpenSpec.ofChange gatherPartsSpec)

/-- ITS FALSE NEIGHBOUR: 'it returns false'. Refute it at one input. -/
def gatherPartsWrong : ChangeSpec := { name := "gatherParts", fn := fun _ => fun
  | [d1, d2] => { results := [.lit (.bool false)], args := [d1, d2] }
  | _ => none }
def GatherPartsWrongFalsely : Prop := gatherPartsRow.holds Tryz.pinned (OpenSpec.ofChange gatherPartsWrong)

/-- 'cameolaw13.GatherMissing': WHATEVER THE INPUT: true; the input reads as it did. -/
def gatherMissingSpec : ChangeSpec := { name := "gatherMissing", fn := fun _ => fun
  | [d1, d2, d3] => { results := [.lit (.bool true)], args := [d1, d2, d3] }
  | _ => none }
def gatherMissingRow : OpenClaim := { program := "yteebghpjgcacmaagreat", sum := "c28e499c20c76d3bd0931329fd8b36567fbcecc6bc34616031b9885e052db990", func := "cameo/cameolaw13.GatherMissing", spec := "gatherMissing", unfollowed := true, recurses := true, plainKeys := false, apart := false }
def GatherMissingSaid : Prop := gatherMissingRow.holds Tryz.pinned (OpenSpec.ofChange gatherMissingSpec)

/-- ITS FALSE NEIGHBOUR: 'it returns false'. Refute it at one input. -/
def gatherMissingWrong : ChangeSpec := { name := "gatherMissing", fn := fun _ => fun
  | [d1, d2, d3] => { results := [.lit (.bool false)], args := [d1, d2, d3] }
  | _ => none }
def GatherMissingWrongFalsely : Prop := gatherMissingRow.holds Tryz.pinned (OpenSpec.ofChange gatherMissingWrong)

/-- 'cameolaw13.GatherPlain': WHATEVER THE INPUT: true; the input reads as it did. -/
def gatherPlainSpec : ChangeSpec := { name := "gatherPlain", fn := fun _ => fun
  | [d1, d2] => { results := [.lit (.bool true)], args := [d1, d2] }
  | _ => none }
def gatherPlainRow : OpenClaim := { program := "yteebghpjgcacmaagreat", sum := "c28e499c20c76d3bd0931329fd8b36567fbcecc6bc34616031b9885e052db990", func := "cameo/cameolaw13.GatherPlain", spec := "gatherPlain", inPlace := ["slices.overlaps[cameo/api.Msg]"], unfollowed := true, recurses := true, plainKeys := false, apart := false }
def GatherPlainSaid : Prop := gatherPlainRow.holds Tryz.pinned (OpenSpec.ofChange gatherPlainSpec)

/-- ITS FALSE NEIGHBOUR: 'it returns false'. Refute it at one input. -/
def gatherPlainWrong : ChangeSpec := { name := "gatherPlain", fn := fun _ => fun
  | [d1, d2] => { results := [.lit (.bool false)], args := [d1, d2] }
  | _ => none }
def GatherPlainWrongFalsely : Prop := gatherPlainRow.holds Tryz.pinned (OpenSpec.ofChange gatherPlainWrong)

/- THE SECOND FORM. 'bulk': how many values and letters a reading holds, each counted each time it is reached (what is shared counts as often as it is met; a slice's spare places count too). A statement '..UptoSaid' is the law's where the arguments, and the package variables that the reading takes, are together of bulk at most 1048576: NARROWER than '..Said'. Prove '..Said' where nothing that the law and all that it calls make is longer than what came in: it says more and counts as full. Else prove '..UptoSaid'. A law counts once. -/
mutual
def uptoBulk {H : Type} : DataW H → Nat
  | .lit (.string bytes) => bytes.length + 1
  | .lit _ => 1
  | .nil => 1
  | .ptr d => uptoBulk d + 1
  | .slice elems spare => uptoBulkAll elems + uptoBulkAll spare + 1
  | .agg parts => uptoBulkAll parts + 1
  | .iface _ d => uptoBulk d + 1
  | .map entries => uptoBulkEntries entries + 1
  | .held _ => 1
def uptoBulkAll {H : Type} : List (DataW H) → Nat
  | [] => 0
  | d :: r => uptoBulk d + uptoBulkAll r
def uptoBulkEntries {H : Type} : List (Lit × DataW H) → Nat
  | [] => 0
  | x :: r => uptoBulkEntry x + uptoBulkEntries r
def uptoBulkEntry {H : Type} : Lit × DataW H → Nat
  | (.string bytes, d) => bytes.length + uptoBulk d + 1
  | (_, d) => uptoBulk d + 1
 end
def uptoSmall : (H : Type) → List (DataW H) → Bool := fun _ ds => decide (uptoBulkAll ds ≤ 1048576)
def OpenSpec.upto (s : _root_.Go.ChangeSpec) : _root_.Go.OpenSpec := { _root_.Go.OpenSpec.ofChange s with cond := some uptoSmall }

/-- 'cameolaw13.GatherTells', WHERE WHAT IT READS IS OF BULK AT MOST 1048576: true; the input reads as it did. -/
def gatherTellsUptoRow : OpenClaim := { program := "yteebghpjgcacmaagreat", sum := "c28e499c20c76d3bd0931329fd8b36567fbcecc6bc34616031b9885e052db990", func := "cameo/cameolaw13.GatherTells", spec := "gatherTells", unfollowed := true, recurses := true, plainKeys := false, apart := false, narrowed := true }
def GatherTellsUptoSaid : Prop := gatherTellsUptoRow.holds Tryz.pinned (OpenSpec.upto gatherTellsSpec)

/-- 'cameolaw13.GatherParts', WHERE WHAT IT READS IS OF BULK AT MOST 1048576: true; the input reads as it did. -/
def gatherPartsUptoRow : OpenClaim := { program := "yteebghpjgcacmaagreat", sum := "c28e499c20c76d3bd0931329fd8b36567fbcecc6bc34616031b9885e052db990", func := "cameo/cameolaw13.GatherParts", spec := "gatherParts", unfollowed := true, recurses := true, plainKeys := false, apart := false, narrowed := true }
def GatherPartsUptoSaid : Prop := gatherPartsUptoRow.holds Tryz.pinned (OpenSpec.upto gatherPartsSpec)

/-- 'cameolaw13.GatherMissing', WHERE WHAT IT READS IS OF BULK AT MOST 1048576: true; the input reads as it did. -/
def gatherMissingUptoRow : OpenClaim := { program := "yteebghpjgcacmaagreat", sum := "c28e499c20c76d3bd0931329fd8b36567fbcecc6bc34616031b9885e052db990", func := "cameo/cameolaw13.GatherMissing", spec := "gatherMissing", unfollowed := true, recurses := true, plainKeys := false, apart := false, narrowed := true }
def GatherMissingUptoSaid : Prop := gatherMissingUptoRow.holds Tryz.pinned (OpenSpec.upto gatherMissingSpec)

/-- 'cameolaw13.GatherPlain', WHERE WHAT IT READS IS OF BULK AT MOST 1048576: true; the input reads as it did. -/
def gatherPlainUptoRow : OpenClaim := { program := "yteebghpjgcacmaagreat", sum := "c28e499c20c76d3bd0931329fd8b36567fbcecc6bc34616031b9885e052db990", func := "cameo/cameolaw13.GatherPlain", spec := "gatherPlain", inPlace := ["slices.overlaps[cameo/api.Msg]"], unfollowed := true, recurses := true, plainKeys := false, apart := false, narrowed := true }
def GatherPlainUptoSaid : Prop := gatherPlainUptoRow.holds Tryz.pinned (OpenSpec.upto gatherPlainSpec)

end Rows
end Go.Proofs.YteebghpjgcacmaaGreat
