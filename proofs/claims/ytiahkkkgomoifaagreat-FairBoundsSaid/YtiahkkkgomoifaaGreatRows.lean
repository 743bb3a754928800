/-
  No cell of these rows narrows 'for every input' (looked for: loops, veiled, ifaces, maps, wideKeys, modest, calm, conditions, laid).
  DERIVED. THE GIVEN ROWS OF THIS SEAT. 5 by the template 'for every input the law returns true; each argument reads behind the call as it read before'; 0 by the template 'total and deterministic' (their statements: YtiahkkkgomoifaaGreatTotals.lean).
  GIVEN WITH THE SEED: the statements are not yours to turn. If you find one false, say at which input.
  Laid BY PROGRAM, IN A SANDBOX (cutbox-rows.mjs): the forced cells as the released guide's own fill.sh prints them over the translation a3d50312b29d3fd4… (all of the seat's roots in one cut). By AI agents, Wed Nov 11 2026. No macro, syntax, notation, axiom, sorry.
-/
import Derived.Test.YtiahkkkgomoifaaGreatChecked
import GoSem.Claim
import GoSem.ClaimJoined
import GoSem.ClaimMapViews
import Derived.JoinedTies
import Derived.KernelRfl
namespace Go.Proofs.YtiahkkkgomoifaaGreat
/- THE CELL 'sum', in the pinned program and in every row, IS THE sha256 OF THE DUMP (.gsa) THAT YtiahkkkgomoifaaGreatProg.lean LOADS. Nothing in Lean hashes anything: it is a label: what it is worth is what the hold of that sum in a sandbox is worth. -/
noncomputable def Tryz.pinned : Pinned := { name := "ytiahkkkgomoifaagreat", sum := "a3d50312b29d3fd41d717bf088a3e7fe2454799b2c499c6b7fb4d9fedebd5b7e", checked := Tryz.checked }
namespace Rows
def none {H : Type} : Left H := { results := [], args := [] }

/-- 'cameolaw20.FairAll': WHATEVER THE INPUT: true; the input reads as it did. -/
def fairAllSpec : ChangeSpec := { name := "fairAll", fn := fun _ => fun
  | [d1, d2, d3] => { results := [.lit (.bool true)], args := [d1, d2, d3] }
  | _ => none }
def fairAllRow : OpenClaim := { program := "ytiahkkkgomoifaagreat", sum := "a3d50312b29d3fd41d717bf088a3e7fe2454799b2c499c6b7fb4d9fedebd5b7e", func := "cameo/cameolaw20.FairAll", spec := "fairAll", inPlace := ["math.Float64bits", "math.Float64frombits", "math.archFloor", "math.archTrunc", "slices.overlaps[cameo/api.Msg]"], unfollowed := true, recurses := true, plainKeys := false, apart := false }
def FairAllSaid : Prop := fairAllRow.holds Tryz.pinned (OpenSpec.ofChange fairAllSpec)

/-- ITS FALSE NEIGHBOUR: 'it returns false'. Refute it at one input. -/
def fairAllWrong : ChangeSpec := { name := "fairAll", fn := fun _ => fun
  | [d1, d2, d3] => { results := [.lit (.bool false)], args := [d1, d2, d3] }
  | _ => none }
def FairAllWrongFalsely : Prop := fairAllRow.holds Tryz.pinned (OpenSpec.ofChange fairAllWrong)

/-- 'cameolaw20.FairOrders': WHATEVER THE INPUT: true; the input reads as it did. -/
def fairOrdersSpec : ChangeSpec := { name := "fairOrders", fn := fun _ => fun
  | [d1, d2, d3] => { results := [.lit (.bool true)], args := [d1, d2, d3] }
  | _ => none }
def fairOrdersRow : OpenClaim := { program := "ytiahkkkgomoifaagreat", sum := "a3d50312b29d3fd41d717bf088a3e7fe2454799b2c499c6b7fb4d9fedebd5b7e", func := "cameo/cameolaw20.FairOrders", spec := "fairOrders", inPlace := ["math.Float64bits", "math.Float64frombits", "math.archFloor", "math.archTrunc", "slices.overlaps[cameo/api.Msg]"], unfollowed := true, recurses := true, plainKeys := false, apart := false }
def FairOrdersSaid : Prop := fairOrdersRow.holds Tryz.pinned (OpenSpec.ofChange fairOrdersSpec)

/-- ITS FALSE NEIGHBOUR: 'it returns false'. Refute it at one input. -/
def fairOrdersWrong : ChangeSpec := { name := "fairOrders", fn := fun _ => fun
  | [d1, d2, d3] => { results := [.lit (.bool false)], args := [d1, d2, d3] }
  | _ => none }
def FairOrdersWrongFalsely : Prop := fairOrdersRow.holds Tryz.pinned (OpenSpec.ofChange fairOrdersWrong)

/-- 'cameolaw20.FairBounds': WHATEVER THE INPUT: true; the input reads as it did. -/
def fairBoundsSpec : ChangeSpec := { name := "fairBounds", fn := fun _ => fun
  | [d1, d2, d3] => { results := [.lit (.bool true)], args := [d1, d2, d3] }
  | _ => none }
def fairBoundsRow : OpenClaim := { program := "ytiahkkkgomoifaagreat", sum := "a3d50312b29d3fd41d717bf088a3e7fe2454799b2c499c6b7fb4d9fedebd5b7e", func := "cameo/cameolaw20.FairBounds", spec := "fairBounds", inPlace := ["math.Float64bits", "math.Float64frombits", "math.archFloor", "math.archTrunc", "slices.overlaps[cameo/api.Msg]"], unfollowed := true, recurses := true, plainKeys := false, apart := false }
def FairBoundsSaid : Prop := fairBoundsRow.holds Tryz.pinned (OpenSpec.ofChange fairBoundsSpec)

/-- ITS FALSE NEIGHBOUR: 'it returns false'. Refute it at one input. -/
def fairBoundsWrong : ChangeSpec := { name := "fairBounds", fn := fun _ => fun
  | [d1, d2, d3] => { results := [.lit (.bool false)], args := [d1, d2, d3] }
  | _ => none }
def FairBoundsWrongFalsely : Prop := fairBoundsRow.holds Tryz.pinned (OpenSpec.ofChange fairBoundsWrong)

/-- 'cameolaw20.FairParts': WHATEVER THE INPUT: true; the input reads as it did. -/
def fairPartsSpec : ChangeSpec := { name := "fairParts", fn := fun _ => fun
  | [d1, d2, d3] => { results := [.lit (.bool true)], args := [d1, d2, d3] }
  | _ => none }
def fairPartsRow : OpenClaim := { program := "ytiahkkkgomoifaagreat", sum := "a3d50312b29d3fd41d717bf088a3e7fe2454799b2c499c6b7fb4d9fedebd5b7e", func := "cameo/cameolaw20.FairParts", spec := "fairParts", inPlace := ["math.Float64bits", "math.Float64frombits", "math.archFloor", "math.archTrunc", "slices.overlaps[cameo/api.Msg]"], unfollowed := true, recurses := true, plainKeys := false, apart := false }
def FairPartsSaid : Prop := fairPartsRow.holds Tryz.pinned (OpenSpec.ofChange fairPartsSpec)

/-- ITS FALSE NEIGHBOUR: 'it returns false'. Refute it at one input. -/
def fairPartsWrong : ChangeSpec := { name := "fairParts", fn := fun _ => fun
  | [d1, d2, d3] => { results := [.lit (.bool false)], args := [d1, d2, d3] }
  | _ => none }
def FairPartsWrongFalsely : Prop := fairPartsRow.holds Tryz.pinned (OpenSpec.ofChange fairPartsWrong)

/-- 'cameolaw20.FairEnds': WHATEVER THE INPUT: true; the input reads as it did. -/
def fairEndsSpec : ChangeSpec := { name := "fairEnds", fn := fun _ => fun
  | [d1, d2, d3] => { results := [.lit (.bool true)], args := [d1, d2, d3] }
  | _ => none }
def fairEndsRow : OpenClaim := { program := "ytiahkkkgomoifaagreat", sum := "a3d50312b29d3fd41d717bf088a3e7fe2454799b2c499c6b7fb4d9fedebd5b7e", func := "cameo/cameolaw20.FairEnds", spec := "fairEnds", inPlace := ["math.Float64bits", "math.Float64frombits", "math.archFloor", "math.archTrunc", "slices.overlaps[cameo/api.Msg]"], unfollowed := true, recurses := true, plainKeys := false, apart := false }
def FairEndsSaid : Prop := fairEndsRow.holds Tryz.pinned (OpenSpec.ofChange fairEndsSpec)

/-- ITS FALSE NEIGHBOUR: 'it returns false'. Refute it at one input. -/
def fairEndsWrong : ChangeSpec := { name := "fairEnds", fn := fun _ => fun
  | [d1, d2, d3] => { results := [.lit (.bool false)], args := [d1, d2, d3] }
  | _ => none }
def FairEndsWrongFalsely : Prop := fairEndsRow.holds Tryz.pinned (OpenSpec.ofChange fairEndsWrong)

/- THE SECOND FORM. 'bulk': how many values and letters a reading holds, each counted each time it is reached (what is shared counts as often as it is met; a slice's spare places count too). A statement '..UptoSaid' is the law's where the arguments, and the package variables that the reading takes, are together of bulk at most 1048576: NARROWER than '..Said'. Prove '..Said' where nothing that the law and all that it calls make is longer than what came in: it says more and counts as full. Else prove '..UptoSaid'. A law counts once. -/
mutual
def uptoBulk {H : Type} : DataW H → Nat
  | .lit (.string bytes) => bytes.length + 1
  | .lit _ => 1
  | .nil => 1
  | .ptr d => uptoBulk d + 1
  | .slice elems spare => uptoBulkAll elems + uptoBulkAll spare + 1
  | .agg parts => uptoBulkAll parts + 1
  | .iface _ d => uptoBulk d + 1
  | .map entries => uptoBulkEntries entries + 1
  | .held _ => 1
def uptoBulkAll {H : Type} : List (DataW H) → Nat
  | [] => 0
  | d :: r => uptoBulk d + uptoBulkAll r
def uptoBulkEntries {H : Type} : List (Lit × DataW H) → Nat
  | [] => 0
  | x :: r => uptoBulkEntry x + uptoBulkEntries r
def uptoBulkEntry {H : Type} : Lit × DataW H → Nat
  | (.string bytes, d) => bytes.length + uptoBulk d + 1
  | (_, d) => uptoBulk d + 1
 end
def uptoSmall : (H : Type) → List (DataW H) → Bool := fun _ ds => decide (uptoBulkAll ds ≤ 1048576)
def OpenSpec.upto (s : _root_.Go.ChangeSpec) : _root_.Go.OpenSpec := { _root_.Go.OpenSpec.ofChange s with cond := some uptoSmall }

/-- 'cameolaw20.FairAll', WHERE WHAT IT READS IS OF BULK AT MOST 1048576: true; the input reads as it did. -/
def fairAllUptoRow : OpenClaim := { program := "ytiahkkkgomoifaagreat", sum := "a3d50312b29d3fd41d717bf088a3e7fe2454799b2c499c6b7fb4d9fedebd5b7e", func := "cameo/cameolaw20.FairAll", spec := "fairAll", inPlace := ["math.Float64bits", "math.Float64frombits", "math.archFloor", "math.archTrunc", "slices.overlaps[cameo/api.Msg]"], unfollowed := true, recurses := true, plainKeys := false, apart := false, narrowed := true }
def FairAllUptoSaid : Prop := fairAllUptoRow.holds Tryz.pinned (OpenSpec.upto fairAllSpec)

/-- 'cameolaw20.FairOrders', WHERE WHAT IT READS IS OF BULK AT MOST 1048576: true; the input reads as it did. -/
def fairOrdersUptoRow : OpenClaim := { program := "ytiahkkkgomoifaagreat", sum := "a3d50312b29d3fd41d717bf088a3e7fe2454799b2c499c6b7fb4d9fedebd5b7e", func := "cameo/cameolaw20.FairOrders", spec := "fairOrders", inPlace := ["math.Float64bits", "math.Float64frombits", "math.archFloor", "math.archTrunc", "slices.overlaps[cameo/api.Msg]"], unfollowed := true, recurses := true, plainKeys := false, apart := false, narrowed := true }
def FairOrdersUptoSaid : Prop := fairOrdersUptoRow.holds Tryz.pinned (OpenSpec.upto fairOrdersSpec)

/-- 'cameolaw20.FairBounds', WHERE WHAT IT READS IS OF BULK AT MOST 1048576: true; the input reads as it did. -/
def fairBoundsUptoRow : OpenClaim := { program := "ytiahkkkgomoifaagreat", sum := "a3d50312b29d3fd41d717bf088a3e7fe2454799b2c499c6b7fb4d9fedebd5b7e", func := "cameo/cameolaw20.FairBounds", spec := "fairBounds", inPlace := ["math.Float64bits", "math.Float64frombits", "math.archFloor", "math.archTrunc", "slices.overlaps[cameo/api.Msg]"], unfollowed := true, recurses := true, plainKeys := false, apart := false, narrowed := true }
def FairBoundsUptoSaid : Prop := fairBoundsUptoRow.holds Tryz.pinned (OpenSpec.upto fairBoundsSpec)

/-- 'cameolaw20.FairParts', WHERE WHAT IT READS IS OF BULK AT MOST 1048576: true; the input reads as it did. -/
def fairPartsUptoRow : OpenClaim := { program := "ytiahkkkgomoifaagreat", sum := "a3d50312b29d3fd41d717bf088a3e7fe2454799b2c499c6b7fb4d9fedebd5b7e", func := "cameo/cameolaw20.FairParts", spec := "fairParts", inPlace := ["math.Float64bits", "math.Float64frombits", "math.archFloor", "math.archTrunc", "slices.overlaps[cameo/api.Msg]"], unfollowed := true, recurses := true, plainKeys := false, apart := false, narrowed := true }
def FairPartsUptoSaid : Prop := fairPartsUptoRow.holds Tryz.pinned (OpenSpec.upto fairPartsSpec)

/-- 'cameolaw20.FairEnds', WHERE WHAT IT READS IS OF BULK AT MOST 1048576: true; the input reads as it did. -/
def fairEndsUptoRow : OpenClaim := { program := "ytiahkkkgomoifaagreat", sum := "a3d50312b29d3fd41d717bf088a3e7fe2454799b2c499c6b7fb4d9fedebd5b7e", func := "cameo/cameolaw20.FairEnds", spec := "fairEnds", inPlace := ["math.Float64bits", "math.Float64frombits", "math.archFloor", "math.archTrunc", "slices.overlaps[cameo/api.Msg]"], unfollowed := true, recurses := true, plainKeys := false, apart := false, narrowed := true }
def FairEndsUptoSaid : Prop := fairEndsUptoRow.holds Tryz.pinned (OpenSpec.upto fairEndsSpec)

end Rows
end Go.Proofs.YtiahkkkgomoifaaGreat
