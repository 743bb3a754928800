/-
  No cell of these rows narrows 'for every input' (looked for: loops, veiled, ifaces, maps, wideKeys, modest, calm, conditions, laid).
  DERIVED. THE GIVEN ROWS OF THIS SEAT. 5 by the template 'for every input the law returns true; each argument reads behind the call as it read before'; 0 by the template 'total and deterministic' (their statements: YtlbjmfpbpiicdaaTotals.lean).
  GIVEN WITH THE SEED: the statements are not yours to turn. If you find one false, say at which input.
  Laid BY PROGRAM, IN A SANDBOX (cutbox-rows.mjs): the forced cells as the released guide's own fill.sh prints them over the translation 488f38f6103f3e65… (all of the seat's roots in one cut). By AI agents, Wed Nov 11 2026. No macro, syntax, notation, axiom, sorry.
-/
import Derived.Test.YtlbjmfpbpiicdaaChecked
import GoSem.Claim
import GoSem.ClaimJoined
import GoSem.ClaimMapViews
import Derived.JoinedTies
import Derived.KernelRfl
namespace Go.Proofs.Ytlbjmfpbpiicdaa
/- THE CELL 'sum', in the pinned program and in every row, IS THE sha256 OF THE DUMP (.gsa) THAT YtlbjmfpbpiicdaaProg.lean LOADS. Nothing in Lean hashes anything: it is a label: what it is worth is what the hold of that sum in a sandbox is worth. -/
noncomputable def Try.pinned : Pinned := { name := "ytlbjmfpbpiicdaa", sum := "488f38f6103f3e659df795bd35491fcbe96ba5ee568ebfdaa08e66d7baa5c883", checked := Try.checked }
namespace Rows
def none {H : Type} : Left H := { results := [], args := [] }

/-- 'cameolaw12.TreeSpans': WHATEVER THE INPUT: true; the input reads as it did. -/
def treeSpansSpec : ChangeSpec := { name := "treeSpans", fn := fun _ => fun
  | [d1, d2, d3] => { results := [.lit (.bool true)], args := [d1, d2, d3] }
  | _ => none }
def treeSpansRow : OpenClaim := { program := "ytlbjmfpbpiicdaa", sum := "488f38f6103f3e659df795bd35491fcbe96ba5ee568ebfdaa08e66d7baa5c883", func := "cameo/cameolaw12.TreeSpans", spec := "treeSpans", unfollowed := true, recurses := true, apart := false }
def TreeSpansSaid : Prop := treeSpansRow.holds Try.pinned (OpenSpec.ofChange treeSpansSpec)

/-- ITS FALSE NEIGHBOUR: 'it returns false'. Refute it at one input. -/
def treeSpansWrong : ChangeSpec := { name := "treeSpans", fn := fun _ => fun
  | [d1, d2, d3] => { results := [.lit (.bool false)], args := [d1, d2, d3] }
  | _ => none }
def TreeSpansWrongFalsely : Prop := treeSpansRow.holds Try.pinned (OpenSpec.ofChange treeSpansWrong)

/-- 'cameolaw12.TreeReplies': WHATEVER THE INPUT: true; the input reads as it did. -/
def treeRepliesSpec : ChangeSpec := { name := "treeReplies", fn := fun _ => fun
  | [d1, d2, d3] => { results := [.lit (.bool true)], args := [d1, d2, d3] }
  | _ => none }
def treeRepliesRow : OpenClaim := { program := "ytlbjmfpbpiicdaa", sum := "488f38f6103f3e659df795bd35491fcbe96ba5ee568ebfdaa08e66d7baa5c883", func := "cameo/cameolaw12.TreeReplies", spec := "treeReplies", unfollowed := true, recurses := true, apart := false }
def TreeRepliesSaid : Prop := treeRepliesRow.holds Try.pinned (OpenSpec.ofChange treeRepliesSpec)

/-- ITS FALSE NEIGHBOUR: 'it returns false'. Refute it at one input. -/
def treeRepliesWrong : ChangeSpec := { name := "treeReplies", fn := fun _ => fun
  | [d1, d2, d3] => { results := [.lit (.bool false)], args := [d1, d2, d3] }
  | _ => none }
def TreeRepliesWrongFalsely : Prop := treeRepliesRow.holds Try.pinned (OpenSpec.ofChange treeRepliesWrong)

/-- 'cameolaw12.TreeOnce': WHATEVER THE INPUT: true; the input reads as it did. -/
def treeOnceSpec : ChangeSpec := { name := "treeOnce", fn := fun _ => fun
  | [d1, d2, d3] => { results := [.lit (.bool true)], args := [d1, d2, d3] }
  | _ => none }
def treeOnceRow : OpenClaim := { program := "ytlbjmfpbpiicdaa", sum := "488f38f6103f3e659df795bd35491fcbe96ba5ee568ebfdaa08e66d7baa5c883", func := "cameo/cameolaw12.TreeOnce", spec := "treeOnce", unfollowed := true, recurses := true, apart := false }
def TreeOnceSaid : Prop := treeOnceRow.holds Try.pinned (OpenSpec.ofChange treeOnceSpec)

/-- ITS FALSE NEIGHBOUR: 'it returns false'. Refute it at one input. -/
def treeOnceWrong : ChangeSpec := { name := "treeOnce", fn := fun _ => fun
  | [d1, d2, d3] => { results := [.lit (.bool false)], args := [d1, d2, d3] }
  | _ => none }
def TreeOnceWrongFalsely : Prop := treeOnceRow.holds Try.pinned (OpenSpec.ofChange treeOnceWrong)

/-- 'cameolaw12.TreeOthers': WHATEVER THE INPUT: true; the input reads as it did. -/
def treeOthersSpec : ChangeSpec := { name := "treeOthers", fn := fun _ => fun
  | [d1, d2] => { results := [.lit (.bool true)], args := [d1, d2] }
  | _ => none }
def treeOthersRow : OpenClaim := { program := "ytlbjmfpbpiicdaa", sum := "488f38f6103f3e659df795bd35491fcbe96ba5ee568ebfdaa08e66d7baa5c883", func := "cameo/cameolaw12.TreeOthers", spec := "treeOthers", unfollowed := true, recurses := true, apart := false }
def TreeOthersSaid : Prop := treeOthersRow.holds Try.pinned (OpenSpec.ofChange treeOthersSpec)

/-- ITS FALSE NEIGHBOUR: 'it returns false'. Refute it at one input. -/
def treeOthersWrong : ChangeSpec := { name := "treeOthers", fn := fun _ => fun
  | [d1, d2] => { results := [.lit (.bool false)], args := [d1, d2] }
  | _ => none }
def TreeOthersWrongFalsely : Prop := treeOthersRow.holds Try.pinned (OpenSpec.ofChange treeOthersWrong)

/-- 'cameolaw12.TreeOwn': WHATEVER THE INPUT: true; the input reads as it did. -/
def treeOwnSpec : ChangeSpec := { name := "treeOwn", fn := fun _ => fun
  | [d] => { results := [.lit (.bool true)], args := [d] }
  | _ => none }
def treeOwnRow : OpenClaim := { program := "ytlbjmfpbpiicdaa", sum := "488f38f6103f3e659df795bd35491fcbe96ba5ee568ebfdaa08e66d7baa5c883", func := "cameo/cameolaw12.TreeOwn", spec := "treeOwn", unfollowed := true, recurses := true, apart := false }
def TreeOwnSaid : Prop := treeOwnRow.holds Try.pinned (OpenSpec.ofChange treeOwnSpec)

/-- ITS FALSE NEIGHBOUR: 'it returns false'. Refute it at one input. -/
def treeOwnWrong : ChangeSpec := { name := "treeOwn", fn := fun _ => fun
  | [d] => { results := [.lit (.bool false)], args := [d] }
  | _ => none }
def TreeOwnWrongFalsely : Prop := treeOwnRow.holds Try.pinned (OpenSpec.ofChange treeOwnWrong)

/- THE SECOND FORM. 'bulk': how many values and letters a reading holds, each counted each time it is reached (what is shared counts as often as it is met; a slice's spare places count too). A statement '..UptoSaid' is the law's where the arguments, and the package variables that the reading takes, are together of bulk at most 1048576: NARROWER than '..Said'. Prove '..Said' where nothing that the law and all that it calls make is longer than what came in: it says more and counts as full. Else prove '..UptoSaid'. A law counts once. -/
mutual
def uptoBulk {H : Type} : DataW H → Nat
  | .lit (.string bytes) => bytes.length + 1
  | .lit _ => 1
  | .nil => 1
  | .ptr d => uptoBulk d + 1
  | .slice elems spare => uptoBulkAll elems + uptoBulkAll spare + 1
  | .agg parts => uptoBulkAll parts + 1
  | .iface _ d => uptoBulk d + 1
  | .map entries => uptoBulkEntries entries + 1
  | .held _ => 1
def uptoBulkAll {H : Type} : List (DataW H) → Nat
  | [] => 0
  | d :: r => uptoBulk d + uptoBulkAll r
def uptoBulkEntries {H : Type} : List (Lit × DataW H) → Nat
  | [] => 0
  | x :: r => uptoBulkEntry x + uptoBulkEntries r
def uptoBulkEntry {H : Type} : Lit × DataW H → Nat
  | (.string bytes, d) => bytes.length + uptoBulk d + 1
  | (_, d) => uptoBulk d + 1
 end
def uptoSmall : (H : Type) → List (DataW H) → Bool := fun _ ds => decide (uptoBulkAll ds ≤ 1048576)
def OpenSpec.upto (s : _root_.Go.ChangeSpec) : _root_.Go.OpenSpec := { _root_.Go.OpenSpec.ofChange s with cond := some uptoSmall }

/-- 'cameolaw12.TreeSpans', WHERE WHAT IT READS IS OF BULK AT MOST 1048576: true; the input reads as it did. -/
def treeSpansUptoRow : OpenClaim := { program := "ytlbjmfpbpiicdaa", sum := "488f38f6103f3e659df795bd35491fcbe96ba5ee568ebfdaa08e66d7baa5c883", func := "cameo/cameolaw12.TreeSpans", spec := "treeSpans", unfollowed := true, recurses := true, apart := false, narrowed := true }
def TreeSpansUptoSaid : Prop := treeSpansUptoRow.holds Try.pinned (OpenSpec.upto treeSpansSpec)

/-- 'cameolaw12.TreeReplies', WHERE WHAT IT READS IS OF BULK AT MOST 1048576: true; the input reads as it did. -/
def treeRepliesUptoRow : OpenClaim := { program := "ytlbjmfpbpiicdaa", sum := "488f38f6103f3e659df795bd35491fcbe96ba5ee568ebfdaa08e66d7baa5c883", func := "cameo/cameolaw12.TreeReplies", spec := "treeReplies", unfollowed := true, recurses := true, apart := false, narrowed := true }
def TreeRepliesUptoSaid : Prop := treeRepliesUptoRow.holds Try.pinned (OpenSpec.upto treeRepliesSpec)

/-- 'cameolaw12.TreeOnce', WHERE WHAT IT READS IS OF BULK AT MOST 1048576: true; the input reads as it did. -/
def treeOnceUptoRow : OpenClaim := { program := "ytlbjmfpbpiicdaa", sum := "488f38f6103f3e659df795bd35491fcbe96ba5ee568ebfdaa08e66d7baa5c883", func := "cameo/cameolaw12.TreeOnce", spec := "treeOnce", unfollowed := true, recurses := true, apart := false, narrowed := true }
def TreeOnceUptoSaid : Prop := treeOnceUptoRow.holds Try.pinned (OpenSpec.upto treeOnceSpec)

/-- 'cameolaw12.TreeOthers', WHERE WHAT IT READS IS OF BULK AT MOST 1048576: true; the input reads as it did. -/
def treeOthersUptoRow : OpenClaim := { program := "ytlbjmfpbpiicdaa", sum := "488f38f6103f3e659df795bd35491fcbe96ba5ee568ebfdaa08e66d7baa5c883", func := "cameo/cameolaw12.TreeOthers", spec := "treeOthers", unfollowed := true, recurses := true, apart := false, narrowed := true }
def TreeOthersUptoSaid : Prop := treeOthersUptoRow.holds Try.pinned (OpenSpec.upto treeOthersSpec)

/-- 'cameolaw12.TreeOwn', WHERE WHAT IT READS IS OF BULK AT MOST 1048576: true; the input reads as it did. -/
def treeOwnUptoRow : OpenClaim := { program := "ytlbjmfpbpiicdaa", sum := "488f38f6103f3e659df795bd35491fcbe96ba5ee568ebfdaa08e66d7baa5c883", func := "cameo/cameolaw12.TreeOwn", spec := "treeOwn", unfollowed := true, recurses := true, apart := false, narrowed := true }
def TreeOwnUptoSaid : Prop := treeOwnUptoRow.holds Try.pinned (OpenSpec.upto treeOwnSpec)

end Rows
end Go.Proofs.Ytlbjmfpbpiicdaa
