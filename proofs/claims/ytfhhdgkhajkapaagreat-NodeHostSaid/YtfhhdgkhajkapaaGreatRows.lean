/-
  No cell of these rows narrows 'for every input' (looked for: loops, veiled, ifaces, maps, wideKeys, modest, calm, conditions, laid).
  DERIVED. THE GIVEN ROWS OF THIS SEAT. 12 by the template 'for every input the law returns true; each argument reads behind the call as it read before'; 0 by the template 'total and deterministic' (their statements: YtfhhdgkhajkapaaGreatTotals.lean).
  GIVEN WITH THE SEED: the statements are not yours to turn. If you find one false, say at which input.
  Laid BY PROGRAM, IN A SANDBOX (cutbox-rows.mjs): the forced cells as the released guide's own fill.sh prints them over the translation c6125e6b0ca66508… (all of the seat's roots in one cut). By AI agents, Wed Nov 11 2026. No macro, syntax, notation, axiom, sorry.
-/
import Derived.Test.YtfhhdgkhajkapaaGreatChecked
import GoSem.Claim
import GoSem.ClaimJoined
import GoSem.ClaimMapViews
import Derived.JoinedTies
import Derived.KernelRfl
namespace Go.Proofs.YtfhhdgkhajkapaaGreat
/- THE CELL 'sum', in the pinned program and in every row, IS THE sha256 OF THE DUMP (.gsa) THAT YtfhhdgkhajkapaaGreatProg.lean LOADS. Nothing in Lean hashes anything: it is a label: what it is worth is what the hold of that sum in a sandbox is worth. -/
noncomputable def Tryz.pinned : Pinned := { name := "ytfhhdgkhajkapaagreat", sum := "c6125e6b0ca66508db99f6bdc5052d0b9540e55c4460d935884074ce067b57d8", checked := Tryz.checked }
namespace Rows
def none {H : Type} : Left H := { results := [], args := [] }

/-- 'cameolaw09.HostPlain': WHATEVER THE INPUT: true; the input reads as it did. -/
def hostPlainSpec : ChangeSpec := { name := "hostPlain", fn := fun _ => fun
  | [d1, d2] => { results := [.lit (.bool true)], args := [d1, d2] }
  | _ => none }
def hostPlainRow : OpenClaim := { program := "ytfhhdgkhajkapaagreat", sum := "c6125e6b0ca66508db99f6bdc5052d0b9540e55c4460d935884074ce067b57d8", func := "cameo/cameolaw09.HostPlain", spec := "hostPlain", inPlace := ["slices.overlaps[cameo/api.Msg]"], unfollowed := true, recurses := true, plainKeys := false, apart := false }
def HostPlainSaid : Prop := hostPlainRow.holds Tryz.pinned (OpenSpec.ofChange hostPlainSpec)

/-- ITS FALSE NEIGHBOUR: 'it returns false'. Refute it at one input. -/
def hostPlainWrong : ChangeSpec := { name := "hostPlain", fn := fun _ => fun
  | [d1, d2] => { results := [.lit (.bool false)], args := [d1, d2] }
  | _ => none }
def HostPlainWrongFalsely : Prop := hostPlainRow.holds Tryz.pinned (OpenSpec.ofChange hostPlainWrong)

/-- 'cameolaw18.NodeOnce': WHATEVER THE INPUT: true; the input reads as it did. -/
def nodeOnceSpec : ChangeSpec := { name := "nodeOnce", fn := fun _ => fun
  | [d1, d2, d3] => { results := [.lit (.bool true)], args := [d1, d2, d3] }
  | _ => none }
def nodeOnceRow : OpenClaim := { program := "ytfhhdgkhajkapaagreat", sum := "c6125e6b0ca66508db99f6bdc5052d0b9540e55c4460d935884074ce067b57d8", func := "cameo/cameolaw18.NodeOnce", spec := "nodeOnce", inPlace := ["slices.overlaps[cameo/api.Msg]"], unfollowed := true, recurses := true, plainKeys := false, apart := false }
def NodeOnceSaid : Prop := nodeOnceRow.holds Tryz.pinned (OpenSpec.ofChange nodeOnceSpec)

/-- ITS FALSE NEIGHBOUR: 'it returns false'. Refute it at one input. -/
def nodeOnceWrong : ChangeSpec := { name := "nodeOnce", fn := fun _ => fun
  | [d1, d2, d3] => { results := [.lit (.bool false)], args := [d1, d2, d3] }
  | _ => none }
def NodeOnceWrongFalsely : Prop := nodeOnceRow.holds Tryz.pinned (OpenSpec.ofChange nodeOnceWrong)

/-- 'cameolaw18.NodeReplies': WHATEVER THE INPUT: true; the input reads as it did. -/
def nodeRepliesSpec : ChangeSpec := { name := "nodeReplies", fn := fun _ => fun
  | [d1, d2, d3] => { results := [.lit (.bool true)], args := [d1, d2, d3] }
  | _ => none }
def nodeRepliesRow : OpenClaim := { program := "ytfhhdgkhajkapaagreat", sum := "c6125e6b0ca66508db99f6bdc5052d0b9540e55c4460d935884074ce067b57d8", func := "cameo/cameolaw18.NodeReplies", spec := "nodeReplies", inPlace := ["slices.overlaps[cameo/api.Msg]"], unfollowed := true, recurses := true, plainKeys := false, apart := false }
def NodeRepliesSaid : Prop := nodeRepliesRow.holds Tryz.pinned (OpenSpec.ofChange nodeRepliesSpec)

/-- ITS FALSE NEIGHBOUR: 'it returns false'. Refute it at one input. -/
def nodeRepliesWrong : ChangeSpec := { name := "nodeReplies", fn := fun _ => fun
  | [d1, d2, d3] => { results := [.lit (.bool false)], args := [d1, d2, d3] }
  | _ => none }
def NodeRepliesWrongFalsely : Prop := nodeRepliesRow.holds Tryz.pinned (OpenSpec.ofChange nodeRepliesWrong)

/-- 'cameolaw18.NodeOld': WHATEVER THE INPUT: true; the input reads as it did. -/
def nodeOldSpec : ChangeSpec := { name := "nodeOld", fn := fun _ => fun
  | [d1, d2, d3] => { results := [.lit (.bool true)], args := [d1, d2, d3] }
  | _ => none }
def nodeOldRow : OpenClaim := { program := "ytfhhdgkhajkapaagreat", sum := "c6125e6b0ca66508db99f6bdc5052d0b9540e55c4460d935884074ce067b57d8", func := "cameo/cameolaw18.NodeOld", spec := "nodeOld", inPlace := ["slices.overlaps[cameo/api.Msg]"], unfollowed := true, recurses := true, plainKeys := false, apart := false }
def NodeOldSaid : Prop := nodeOldRow.holds Tryz.pinned (OpenSpec.ofChange nodeOldSpec)

/-- ITS FALSE NEIGHBOUR: 'it returns false'. Refute it at one input. -/
def nodeOldWrong : ChangeSpec := { name := "nodeOld", fn := fun _ => fun
  | [d1, d2, d3] => { results := [.lit (.bool false)], args := [d1, d2, d3] }
  | _ => none }
def NodeOldWrongFalsely : Prop := nodeOldRow.holds Tryz.pinned (OpenSpec.ofChange nodeOldWrong)

/-- 'cameolaw18.NodeHost': WHATEVER THE INPUT: true; the input reads as it did. -/
def nodeHostSpec : ChangeSpec := { name := "nodeHost", fn := fun _ => fun
  | [d1, d2, d3] => { results := [.lit (.bool true)], args := [d1, d2, d3] }
  | _ => none }
def nodeHostRow : OpenClaim := { program := "ytfhhdgkhajkapaagreat", sum := "c6125e6b0ca66508db99f6bdc5052d0b9540e55c4460d935884074ce067b57d8", func := "cameo/cameolaw18.NodeHost", spec := "nodeHost", inPlace := ["slices.overlaps[cameo/api.Msg]"], unfollowed := true, recurses := true, plainKeys := false, apart := false }
def NodeHostSaid : Prop := nodeHostRow.holds Tryz.pinned (OpenSpec.ofChange nodeHostSpec)

/-- ITS FALSE NEIGHBOUR: 'it returns false'. Refute it at one input. -/
def nodeHostWrong : ChangeSpec := { name := "nodeHost", fn := fun _ => fun
  | [d1, d2, d3] => { results := [.lit (.bool false)], args := [d1, d2, d3] }
  | _ => none }
def NodeHostWrongFalsely : Prop := nodeHostRow.holds Tryz.pinned (OpenSpec.ofChange nodeHostWrong)

/-- 'cameolaw18.NodeOwn': WHATEVER THE INPUT: true; the input reads as it did. -/
def nodeOwnSpec : ChangeSpec := { name := "nodeOwn", fn := fun _ => fun
  | [d1, d2, d3] => { results := [.lit (.bool true)], args := [d1, d2, d3] }
  | _ => none }
def nodeOwnRow : OpenClaim := { program := "ytfhhdgkhajkapaagreat", sum := "c6125e6b0ca66508db99f6bdc5052d0b9540e55c4460d935884074ce067b57d8", func := "cameo/cameolaw18.NodeOwn", spec := "nodeOwn", inPlace := ["slices.overlaps[cameo/api.Msg]"], unfollowed := true, recurses := true, plainKeys := false, apart := false }
def NodeOwnSaid : Prop := nodeOwnRow.holds Tryz.pinned (OpenSpec.ofChange nodeOwnSpec)

/-- ITS FALSE NEIGHBOUR: 'it returns false'. Refute it at one input. -/
def nodeOwnWrong : ChangeSpec := { name := "nodeOwn", fn := fun _ => fun
  | [d1, d2, d3] => { results := [.lit (.bool false)], args := [d1, d2, d3] }
  | _ => none }
def NodeOwnWrongFalsely : Prop := nodeOwnRow.holds Tryz.pinned (OpenSpec.ofChange nodeOwnWrong)

/-- 'cameolaw18.NodeDoes': WHATEVER THE INPUT: true; the input reads as it did. -/
def nodeDoesSpec : ChangeSpec := { name := "nodeDoes", fn := fun _ => fun
  | [d1, d2, d3] => { results := [.lit (.bool true)], args := [d1, d2, d3] }
  | _ => none }
def nodeDoesRow : OpenClaim := { program := "ytfhhdgkhajkapaagreat", sum := "c6125e6b0ca66508db99f6bdc5052d0b9540e55c4460d935884074ce067b57d8", func := "cameo/cameolaw18.NodeDoes", spec := "nodeDoes", inPlace := ["slices.overlaps[cameo/api.Msg]"], unfollowed := true, recurses := true, plainKeys := false, apart := false }
def NodeDoesSaid : Prop := nodeDoesRow.holds Tryz.pinned (OpenSpec.ofChange nodeDoesSpec)

/-- ITS FALSE NEIGHBOUR: 'it returns false'. Refute it at one input. -/
def nodeDoesWrong : ChangeSpec := { name := "nodeDoes", fn := fun _ => fun
  | [d1, d2, d3] => { results := [.lit (.bool false)], args := [d1, d2, d3] }
  | _ => none }
def NodeDoesWrongFalsely : Prop := nodeDoesRow.holds Tryz.pinned (OpenSpec.ofChange nodeDoesWrong)

/-- 'cameolaw20.FairAll': WHATEVER THE INPUT: true; the input reads as it did. -/
def fairAllSpec : ChangeSpec := { name := "fairAll", fn := fun _ => fun
  | [d1, d2, d3] => { results := [.lit (.bool true)], args := [d1, d2, d3] }
  | _ => none }
def fairAllRow : OpenClaim := { program := "ytfhhdgkhajkapaagreat", sum := "c6125e6b0ca66508db99f6bdc5052d0b9540e55c4460d935884074ce067b57d8", func := "cameo/cameolaw20.FairAll", spec := "fairAll", inPlace := ["math.Float64bits", "math.Float64frombits", "math.archFloor", "math.archTrunc", "slices.overlaps[cameo/api.Msg]"], unfollowed := true, recurses := true, plainKeys := false, apart := false }
def FairAllSaid : Prop := fairAllRow.holds Tryz.pinned (OpenSpec.ofChange fairAllSpec)

/-- ITS FALSE NEIGHBOUR: 'it returns false'. Refute it at one input. -/
def fairAllWrong : ChangeSpec := { name := "fairAll", fn := fun _ => fun
  | [d1, d2, d3] => { results := [.lit (.bool false)], args := [d1, d2, d3] }
  | _ => none }
def FairAllWrongFalsely : Prop := fairAllRow.holds Tryz.pinned (OpenSpec.ofChange fairAllWrong)

/-- 'cameolaw19.NetTwice': WHATEVER THE INPUT: true; the input reads as it did. -/
def netTwiceSpec : ChangeSpec := { name := "netTwice", fn := fun _ => fun
  | [d1, d2, d3] => { results := [.lit (.bool true)], args := [d1, d2, d3] }
  | _ => none }
def netTwiceRow : OpenClaim := { program := "ytfhhdgkhajkapaagreat", sum := "c6125e6b0ca66508db99f6bdc5052d0b9540e55c4460d935884074ce067b57d8", func := "cameo/cameolaw19.NetTwice", spec := "netTwice", inPlace := ["math.Float64bits", "math.Float64frombits", "math.archFloor", "math.archTrunc", "slices.overlaps[cameo/api.Msg]"], unfollowed := true, recurses := true, plainKeys := false, apart := false }
def NetTwiceSaid : Prop := netTwiceRow.holds Tryz.pinned (OpenSpec.ofChange netTwiceSpec)

/-- ITS FALSE NEIGHBOUR: 'it returns false'. Refute it at one input. -/
def netTwiceWrong : ChangeSpec := { name := "netTwice", fn := fun _ => fun
  | [d1, d2, d3] => { results := [.lit (.bool false)], args := [d1, d2, d3] }
  | _ => none }
def NetTwiceWrongFalsely : Prop := netTwiceRow.holds Tryz.pinned (OpenSpec.ofChange netTwiceWrong)

/-- 'cameolaw19.NetOwn': WHATEVER THE INPUT: true; the input reads as it did. -/
def netOwnSpec : ChangeSpec := { name := "netOwn", fn := fun _ => fun
  | [d1, d2, d3] => { results := [.lit (.bool true)], args := [d1, d2, d3] }
  | _ => none }
def netOwnRow : OpenClaim := { program := "ytfhhdgkhajkapaagreat", sum := "c6125e6b0ca66508db99f6bdc5052d0b9540e55c4460d935884074ce067b57d8", func := "cameo/cameolaw19.NetOwn", spec := "netOwn", inPlace := ["math.Float64bits", "math.Float64frombits", "math.archFloor", "math.archTrunc", "slices.overlaps[cameo/api.Msg]"], unfollowed := true, recurses := true, plainKeys := false, apart := false }
def NetOwnSaid : Prop := netOwnRow.holds Tryz.pinned (OpenSpec.ofChange netOwnSpec)

/-- ITS FALSE NEIGHBOUR: 'it returns false'. Refute it at one input. -/
def netOwnWrong : ChangeSpec := { name := "netOwn", fn := fun _ => fun
  | [d1, d2, d3] => { results := [.lit (.bool false)], args := [d1, d2, d3] }
  | _ => none }
def NetOwnWrongFalsely : Prop := netOwnRow.holds Tryz.pinned (OpenSpec.ofChange netOwnWrong)

/-- 'cameolaw20.FairParts': WHATEVER THE INPUT: true; the input reads as it did. -/
def fairPartsSpec : ChangeSpec := { name := "fairParts", fn := fun _ => fun
  | [d1, d2, d3] => { results := [.lit (.bool true)], args := [d1, d2, d3] }
  | _ => none }
def fairPartsRow : OpenClaim := { program := "ytfhhdgkhajkapaagreat", sum := "c6125e6b0ca66508db99f6bdc5052d0b9540e55c4460d935884074ce067b57d8", func := "cameo/cameolaw20.FairParts", spec := "fairParts", inPlace := ["math.Float64bits", "math.Float64frombits", "math.archFloor", "math.archTrunc", "slices.overlaps[cameo/api.Msg]"], unfollowed := true, recurses := true, plainKeys := false, apart := false }
def FairPartsSaid : Prop := fairPartsRow.holds Tryz.pinned (OpenSpec.ofChange fairPartsSpec)

/-- ITS FALSE NEIGHBOUR: 'it returns false'. Refute it at one input. -/
def fairPartsWrong : ChangeSpec := { name := "fairParts", fn := fun _ => fun
  | [d1, d2, d3] => { results := [.lit (.bool false)], args := [d1, d2, d3] }
  | _ => none }
def FairPartsWrongFalsely : Prop := fairPartsRow.holds Tryz.pinned (OpenSpec.ofChange fairPartsWrong)

/-- 'cameolaw19.NetErases': WHATEVER THE INPUT: true; the input reads as it did. -/
def netErasesSpec : ChangeSpec := { name := "netErases", fn := fun _ => fun
  | [d1, d2, d3] => { results := [.lit (.bool true)], args := [d1, d2, d3] }
  | _ => none }
def netErasesRow : OpenClaim := { program := "ytfhhdgkhajkapaagreat", sum := "c6125e6b0ca66508db99f6bdc5052d0b9540e55c4460d935884074ce067b57d8", func := "cameo/cameolaw19.NetErases", spec := "netErases", inPlace := ["math.Float64bits", "math.Float64frombits", "math.archFloor", "math.archTrunc", "slices.overlaps[cameo/api.Msg]"], unfollowed := true, recurses := true, plainKeys := false, apart := false }
def NetErasesSaid : Prop := netErasesRow.holds Tryz.pinned (OpenSpec.ofChange netErasesSpec)

/-- ITS FALSE NEIGHBOUR: 'it returns false'. Refute it at one input. -/
def netErasesWrong : ChangeSpec := { name := "netErases", fn := fun _ => fun
  | [d1, d2, d3] => { results := [.lit (.bool false)], args := [d1, d2, d3] }
  | _ => none }
def NetErasesWrongFalsely : Prop := netErasesRow.holds Tryz.pinned (OpenSpec.ofChange netErasesWrong)

/- THE SECOND FORM. 'bulk': how many values and letters a reading holds, each counted each time it is reached (what is shared counts as often as it is met; a slice's spare places count too). A statement '..UptoSaid' is the law's where the arguments, and the package variables that the reading takes, are together of bulk at most 1048576: NARROWER than '..Said'. Prove '..Said' where nothing that the law and all that it calls make is longer than what came in: it says more and counts as full. Else prove '..UptoSaid'. A law counts once. -/
mutual
def uptoBulk {H : Type} : DataW H → Nat
  | .lit (.string bytes) => bytes.length + 1
  | .lit _ => 1
  | .nil => 1
  | .ptr d => uptoBulk d + 1
  | .slice elems spare => uptoBulkAll elems + uptoBulkAll spare + 1
  | .agg parts => uptoBulkAll parts + 1
  | .iface _ d => uptoBulk d + 1
  | .map entries => uptoBulkEntries entries + 1
  | .held _ => 1
def uptoBulkAll {H : Type} : List (DataW H) → Nat
  | [] => 0
  | d :: r => uptoBulk d + uptoBulkAll r
def uptoBulkEntries {H : Type} : List (Lit × DataW H) → Nat
  | [] => 0
  | x :: r => uptoBulkEntry x + uptoBulkEntries r
def uptoBulkEntry {H : Type} : Lit × DataW H → Nat
  | (.string bytes, d) => bytes.length + uptoBulk d + 1
  | (_, d) => uptoBulk d + 1
 end
def uptoSmall : (H : Type) → List (DataW H) → Bool := fun _ ds => decide (uptoBulkAll ds ≤ 1048576)
def OpenSpec.upto (s : _root_.Go.ChangeSpec) : _root_.Go.OpenSpec := { _root_.Go.OpenSpec.ofChange s with cond := some uptoSmall }

/-- 'cameolaw09.HostPlain', WHERE WHAT IT READS IS OF BULK AT MOST 1048576: true; the input reads as it did. -/
def hostPlainUptoRow : OpenClaim := { program := "ytfhhdgkhajkapaagreat", sum := "c6125e6b0ca66508db99f6bdc5052d0b9540e55c4460d935884074ce067b57d8", func := "cameo/cameolaw09.HostPlain", spec := "hostPlain", inPlace := ["slices.overlaps[cameo/api.Msg]"], unfollowed := true, recurses := true, plainKeys := false, apart := false, narrowed := true }
def HostPlainUptoSaid : Prop := hostPlainUptoRow.holds Tryz.pinned (OpenSpec.upto hostPlainSpec)

/-- 'cameolaw18.NodeOnce', WHERE WHAT IT READS IS OF BULK AT MOST 1048576: true; the input reads as it did. -/
def nodeOnceUptoRow : OpenClaim := { program := "ytfhhdgkhajkapaagreat", sum := "c6125e6b0ca66508db99f6bdc5052d0b9540e55c4460d935884074ce067b57d8", func := "cameo/cameolaw18.NodeOnce", spec := "nodeOnce", inPlace := ["slices.overlaps[cameo/api.Msg]"], unfollowed := true, recurses := true, plainKeys := false, apart := false, narrowed := true }
def NodeOnceUptoSaid : Prop := nodeOnceUptoRow.holds Tryz.pinned (OpenSpec.upto nodeOnceSpec)

/-- 'cameolaw18.NodeReplies', WHERE WHAT IT READS IS OF BULK AT MOST 1048576: true; the input reads as it did. -/
def nodeRepliesUptoRow : OpenClaim := { program := "ytfhhdgkhajkapaagreat", sum := "c6125e6b0ca66508db99f6bdc5052d0b9540e55c4460d935884074ce067b57d8", func := "cameo/cameolaw18.NodeReplies", spec := "nodeReplies", inPlace := ["slices.overlaps[cameo/api.Msg]"], unfollowed := true, recurses := true, plainKeys := false, apart := false, narrowed := true }
def NodeRepliesUptoSaid : Prop := nodeRepliesUptoRow.holds Tryz.pinned (OpenSpec.upto nodeRepliesSpec)

/-- 'cameolaw18.NodeOld', WHERE WHAT IT READS IS OF BULK AT MOST 1048576: true; the input reads as it did. -/
def nodeOldUptoRow : OpenClaim := { program := "ytfhhdgkhajkapaagreat", sum := "c6125e6b0ca66508db99f6bdc5052d0b9540e55c4460d935884074ce067b57d8", func := "cameo/cameolaw18.NodeOld", spec := "nodeOld", inPlace := ["slices.overlaps[cameo/api.Msg]"], unfollowed := true, recurses := true, plainKeys := false, apart := false, narrowed := true }
def NodeOldUptoSaid : Prop := nodeOldUptoRow.holds Tryz.pinned (OpenSpec.upto nodeOldSpec)

/-- 'cameolaw18.NodeHost', WHERE WHAT IT READS IS OF BULK AT MOST 1048576: true; the input reads as it did. -/
def nodeHostUptoRow : OpenClaim := { program := "ytfhhdgkhajkapaagreat", sum := "c6125e6b0ca66508db99f6bdc5052d0b9540e55c4460d935884074ce067b57d8", func := "cameo/cameolaw18.NodeHost", spec := "nodeHost", inPlace := ["slices.overlaps[cameo/api.Msg]"], unfollowed := true, recurses := true, plainKeys := false, apart := false, narrowed := true }
def NodeHostUptoSaid : Prop := nodeHostUptoRow.holds Tryz.pinned (OpenSpec.upto nodeHostSpec)

/-- 'cameolaw18.NodeOwn', WHERE WHAT IT READS IS OF BULK AT MOST 1048576: true; the input reads as it did. -/
def nodeOwnUptoRow : OpenClaim := { program := "ytfhhdgkhajkapaagreat", sum := "c6125e6b0ca66508db99f6bdc5052d0b9540e55c4460d935884074ce067b57d8", func := "cameo/cameolaw18.NodeOwn", spec := "nodeOwn", inPlace := ["slices.overlaps[cameo/api.Msg]"], unfollowed := true, recurses := true, plainKeys := false, apart := false, narrowed := true }
def NodeOwnUptoSaid : Prop := nodeOwnUptoRow.holds Tryz.pinned (OpenSpec.upto nodeOwnSpec)

/-- 'cameolaw18.NodeDoes', WHERE WHAT IT READS IS OF BULK AT MOST 1048576: true; the input reads as it did. -/
def nodeDoesUptoRow : OpenClaim := { program := "ytfhhdgkhajkapaagreat", sum := "c6125e6b0ca66508db99f6bdc5052d0b9540e55c4460d935884074ce067b57d8", func := "cameo/cameolaw18.NodeDoes", spec := "nodeDoes", inPlace := ["slices.overlaps[cameo/api.Msg]"], unfollowed := true, recurses := true, plainKeys := false, apart := false, narrowed := true }
def NodeDoesUptoSaid : Prop := nodeDoesUptoRow.holds Tryz.pinned (OpenSpec.upto nodeDoesSpec)

/-- 'cameolaw20.FairAll', WHERE WHAT IT READS IS OF BULK AT MOST 1048576: true; the input reads as it did. -/
def fairAllUptoRow : OpenClaim := { program := "ytfhhdgkhajkapaagreat", sum := "c6125e6b0ca66508db99f6bdc5052d0b9540e55c4460d935884074ce067b57d8", func := "cameo/cameolaw20.FairAll", spec := "fairAll", inPlace := ["math.Float64bits", "math.Float64frombits", "math.archFloor", "math.archTrunc", "slices.overlaps[cameo/api.Msg]"], unfollowed := true, recurses := true, plainKeys := false, apart := false, narrowed := true }
def FairAllUptoSaid : Prop := fairAllUptoRow.holds Tryz.pinned (OpenSpec.upto fairAllSpec)

/-- 'cameolaw19.NetTwice', WHERE WHAT IT READS IS OF BULK AT MOST 1048576: true; the input reads as it did. -/
def netTwiceUptoRow : OpenClaim := { program := "ytfhhdgkhajkapaagreat", sum := "c6125e6b0ca66508db99f6bdc5052d0b9540e55c4460d935884074ce067b57d8", func := "cameo/cameolaw19.NetTwice", spec := "netTwice", inPlace := ["math.Float64bits", "math.Float64frombits", "math.archFloor", "math.archTrunc", "slices.overlaps[cameo/api.Msg]"], unfollowed := true, recurses := true, plainKeys := false, apart := false, narrowed := true }
def NetTwiceUptoSaid : Prop := netTwiceUptoRow.holds Tryz.pinned (OpenSpec.upto netTwiceSpec)

/-- 'cameolaw19.NetOwn', WHERE WHAT IT READS IS OF BULK AT MOST 1048576: true; the input reads as it did. -/
def netOwnUptoRow : OpenClaim := { program := "ytfhhdgkhajkapaagreat", sum := "c6125e6b0ca66508db99f6bdc5052d0b9540e55c4460d935884074ce067b57d8", func := "cameo/cameolaw19.NetOwn", spec := "netOwn", inPlace := ["math.Float64bits", "math.Float64frombits", "math.archFloor", "math.archTrunc", "slices.overlaps[cameo/api.Msg]"], unfollowed := true, recurses := true, plainKeys := false, apart := false, narrowed := true }
def NetOwnUptoSaid : Prop := netOwnUptoRow.holds Tryz.pinned (OpenSpec.upto netOwnSpec)

/-- 'cameolaw20.FairParts', WHERE WHAT IT READS IS OF BULK AT MOST 1048576: true; the input reads as it did. -/
def fairPartsUptoRow : OpenClaim := { program := "ytfhhdgkhajkapaagreat", sum := "c6125e6b0ca66508db99f6bdc5052d0b9540e55c4460d935884074ce067b57d8", func := "cameo/cameolaw20.FairParts", spec := "fairParts", inPlace := ["math.Float64bits", "math.Float64frombits", "math.archFloor", "math.archTrunc", "slices.overlaps[cameo/api.Msg]"], unfollowed := true, recurses := true, plainKeys := false, apart := false, narrowed := true }
def FairPartsUptoSaid : Prop := fairPartsUptoRow.holds Tryz.pinned (OpenSpec.upto fairPartsSpec)

/-- 'cameolaw19.NetErases', WHERE WHAT IT READS IS OF BULK AT MOST 1048576: true; the input reads as it did. -/
def netErasesUptoRow : OpenClaim := { program := "ytfhhdgkhajkapaagreat", sum := "c6125e6b0ca66508db99f6bdc5052d0b9540e55c4460d935884074ce067b57d8", func := "cameo/cameolaw19.NetErases", spec := "netErases", inPlace := ["math.Float64bits", "math.Float64frombits", "math.archFloor", "math.archTrunc", "slices.overlaps[cameo/api.Msg]"], unfollowed := true, recurses := true, plainKeys := false, apart := false, narrowed := true }
def NetErasesUptoSaid : Prop := netErasesUptoRow.holds Tryz.pinned (OpenSpec.upto netErasesSpec)

end Rows
end Go.Proofs.YtfhhdgkhajkapaaGreat
