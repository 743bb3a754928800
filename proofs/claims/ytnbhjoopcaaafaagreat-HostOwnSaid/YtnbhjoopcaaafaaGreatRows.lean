/-
  No cell of these rows narrows 'for every input' (looked for: loops, veiled, ifaces, maps, wideKeys, modest, calm, conditions, laid).
  DERIVED. THE GIVEN ROWS OF THIS SEAT. 7 by the template 'for every input the law returns true; each argument reads behind the call as it read before'; 0 by the template 'total and deterministic' (their statements: YtnbhjoopcaaafaaGreatTotals.lean).
  GIVEN WITH THE SEED: the statements are not yours to turn. If you find one false, say at which input.
  Laid BY PROGRAM, IN A SANDBOX (cutbox-rows.mjs): the forced cells as the released guide's own fill.sh prints them over the translation 26cec5be4950b5d6… (all of the seat's roots in one cut). By AI agents, Wed Nov 11 2026. No macro, syntax, notation, axiom, sorry.
-/
import Derived.Test.YtnbhjoopcaaafaaGreatChecked
import GoSem.Claim
import GoSem.ClaimJoined
import GoSem.ClaimMapViews
import Derived.JoinedTies
import Derived.KernelRfl
namespace Go.Proofs.YtnbhjoopcaaafaaGreat
/- THE CELL 'sum', in the pinned program and in every row, IS THE sha256 OF THE DUMP (.gsa) THAT YtnbhjoopcaaafaaGreatProg.lean LOADS. Nothing in Lean hashes anything: it is a label: what it is worth is what the hold of that sum in a sandbox is worth. -/
noncomputable def Tryz.pinned : Pinned := { name := "ytnbhjoopcaaafaagreat", sum := "26cec5be4950b5d65a19408f0a1025de13100cfe69802cde9497e2fcb56562ee", checked := Tryz.checked }
namespace Rows
def none {H : Type} : Left H := { results := [], args := [] }

/-- 'cameolaw09.HostDoes': WHATEVER THE INPUT: true; the input reads as it did. -/
def hostDoesSpec : ChangeSpec := { name := "hostDoes", fn := fun _ => fun
  | [d1, d2, d3] => { results := [.lit (.bool true)], args := [d1, d2, d3] }
  | _ => none }
def hostDoesRow : OpenClaim := { program := "ytnbhjoopcaaafaagreat", sum := "26cec5be4950b5d65a19408f0a1025de13100cfe69802cde9497e2fcb56562ee", func := "cameo/cameolaw09.HostDoes", spec := "hostDoes", inPlace := ["slices.overlaps[cameo/api.Msg]"], unfollowed := true, recurses := true, plainKeys := false, apart := false }
def HostDoesSaid : Prop := hostDoesRow.holds Tryz.pinned (OpenSpec.ofChange hostDoesSpec)

/-- ITS FALSE NEIGHBOUR: 'it returns false'. Refute it at one input. -/
def hostDoesWrong : ChangeSpec := { name := "hostDoes", fn := fun _ => fun
  | [d1, d2, d3] => { results := [.lit (.bool false)], args := [d1, d2, d3] }
  | _ => none }
def HostDoesWrongFalsely : Prop := hostDoesRow.holds Tryz.pinned (OpenSpec.ofChange hostDoesWrong)

/-- 'cameolaw09.HostOnce': WHATEVER THE INPUT: true; the input reads as it did. -/
def hostOnceSpec : ChangeSpec := { name := "hostOnce", fn := fun _ => fun
  | [d1, d2, d3] => { results := [.lit (.bool true)], args := [d1, d2, d3] }
  | _ => none }
def hostOnceRow : OpenClaim := { program := "ytnbhjoopcaaafaagreat", sum := "26cec5be4950b5d65a19408f0a1025de13100cfe69802cde9497e2fcb56562ee", func := "cameo/cameolaw09.HostOnce", spec := "hostOnce", inPlace := ["slices.overlaps[cameo/api.Msg]"], unfollowed := true, recurses := true, plainKeys := false, apart := false }
def HostOnceSaid : Prop := hostOnceRow.holds Tryz.pinned (OpenSpec.ofChange hostOnceSpec)

/-- ITS FALSE NEIGHBOUR: 'it returns false'. Refute it at one input. -/
def hostOnceWrong : ChangeSpec := { name := "hostOnce", fn := fun _ => fun
  | [d1, d2, d3] => { results := [.lit (.bool false)], args := [d1, d2, d3] }
  | _ => none }
def HostOnceWrongFalsely : Prop := hostOnceRow.holds Tryz.pinned (OpenSpec.ofChange hostOnceWrong)

/-- 'cameolaw09.HostOwn': WHATEVER THE INPUT: true; the input reads as it did. -/
def hostOwnSpec : ChangeSpec := { name := "hostOwn", fn := fun _ => fun
  | [d1, d2, d3] => { results := [.lit (.bool true)], args := [d1, d2, d3] }
  | _ => none }
def hostOwnRow : OpenClaim := { program := "ytnbhjoopcaaafaagreat", sum := "26cec5be4950b5d65a19408f0a1025de13100cfe69802cde9497e2fcb56562ee", func := "cameo/cameolaw09.HostOwn", spec := "hostOwn", inPlace := ["slices.overlaps[cameo/api.Msg]"], unfollowed := true, recurses := true, plainKeys := false, apart := false }
def HostOwnSaid : Prop := hostOwnRow.holds Tryz.pinned (OpenSpec.ofChange hostOwnSpec)

/-- ITS FALSE NEIGHBOUR: 'it returns false'. Refute it at one input. -/
def hostOwnWrong : ChangeSpec := { name := "hostOwn", fn := fun _ => fun
  | [d1, d2, d3] => { results := [.lit (.bool false)], args := [d1, d2, d3] }
  | _ => none }
def HostOwnWrongFalsely : Prop := hostOwnRow.holds Tryz.pinned (OpenSpec.ofChange hostOwnWrong)

/-- 'cameolaw09.HostOrder': WHATEVER THE INPUT: true; the input reads as it did. -/
def hostOrderSpec : ChangeSpec := { name := "hostOrder", fn := fun _ => fun
  | [d1, d2, d3] => { results := [.lit (.bool true)], args := [d1, d2, d3] }
  | _ => none }
def hostOrderRow : OpenClaim := { program := "ytnbhjoopcaaafaagreat", sum := "26cec5be4950b5d65a19408f0a1025de13100cfe69802cde9497e2fcb56562ee", func := "cameo/cameolaw09.HostOrder", spec := "hostOrder", inPlace := ["slices.overlaps[cameo/api.Msg]"], unfollowed := true, recurses := true, plainKeys := false, apart := false }
def HostOrderSaid : Prop := hostOrderRow.holds Tryz.pinned (OpenSpec.ofChange hostOrderSpec)

/-- ITS FALSE NEIGHBOUR: 'it returns false'. Refute it at one input. -/
def hostOrderWrong : ChangeSpec := { name := "hostOrder", fn := fun _ => fun
  | [d1, d2, d3] => { results := [.lit (.bool false)], args := [d1, d2, d3] }
  | _ => none }
def HostOrderWrongFalsely : Prop := hostOrderRow.holds Tryz.pinned (OpenSpec.ofChange hostOrderWrong)

/-- 'cameolaw09.HostCounts': WHATEVER THE INPUT: true; the input reads as it did. -/
def hostCountsSpec : ChangeSpec := { name := "hostCounts", fn := fun _ => fun
  | [d1, d2, d3] => { results := [.lit (.bool true)], args := [d1, d2, d3] }
  | _ => none }
def hostCountsRow : OpenClaim := { program := "ytnbhjoopcaaafaagreat", sum := "26cec5be4950b5d65a19408f0a1025de13100cfe69802cde9497e2fcb56562ee", func := "cameo/cameolaw09.HostCounts", spec := "hostCounts", inPlace := ["slices.overlaps[cameo/api.Msg]"], unfollowed := true, recurses := true, plainKeys := false, apart := false }
def HostCountsSaid : Prop := hostCountsRow.holds Tryz.pinned (OpenSpec.ofChange hostCountsSpec)

/-- ITS FALSE NEIGHBOUR: 'it returns false'. Refute it at one input. -/
def hostCountsWrong : ChangeSpec := { name := "hostCounts", fn := fun _ => fun
  | [d1, d2, d3] => { results := [.lit (.bool false)], args := [d1, d2, d3] }
  | _ => none }
def HostCountsWrongFalsely : Prop := hostCountsRow.holds Tryz.pinned (OpenSpec.ofChange hostCountsWrong)

/-- 'cameolaw09.HostTells': WHATEVER THE INPUT: true; the input reads as it did. -/
def hostTellsSpec : ChangeSpec := { name := "hostTells", fn := fun _ => fun
  | [d1, d2] => { results := [.lit (.bool true)], args := [d1, d2] }
  | _ => none }
def hostTellsRow : OpenClaim := { program := "ytnbhjoopcaaafaagreat", sum := "26cec5be4950b5d65a19408f0a1025de13100cfe69802cde9497e2fcb56562ee", func := "cameo/cameolaw09.HostTells", spec := "hostTells", inPlace := ["slices.overlaps[cameo/api.Msg]"], unfollowed := true, recurses := true, plainKeys := false, apart := false }
def HostTellsSaid : Prop := hostTellsRow.holds Tryz.pinned (OpenSpec.ofChange hostTellsSpec)

/-- ITS FALSE NEIGHBOUR: 'it returns false'. Refute it at one input. -/
def hostTellsWrong : ChangeSpec := { name := "hostTells", fn := fun _ => fun
  | [d1, d2] => { results := [.lit (.bool false)], args := [d1, d2] }
  | _ => none }
def HostTellsWrongFalsely : Prop := hostTellsRow.holds Tryz.pinned (OpenSpec.ofChange hostTellsWrong)

/-- 'cameolaw09.HostPlain': WHATEVER THE INPUT: true; the input reads as it did. -/
def hostPlainSpec : ChangeSpec := { name := "hostPlain", fn := fun _ => fun
  | [d1, d2] => { results := [.lit (.bool true)], args := [d1, d2] }
  | _ => none }
def hostPlainRow : OpenClaim := { program := "ytnbhjoopcaaafaagreat", sum := "26cec5be4950b5d65a19408f0a1025de13100cfe69802cde9497e2fcb56562ee", func := "cameo/cameolaw09.HostPlain", spec := "hostPlain", inPlace := ["slices.overlaps[cameo/api.Msg]"], unfollowed := true, recurses := true, plainKeys := false, apart := false }
def HostPlainSaid : Prop := hostPlainRow.holds Tryz.pinned (OpenSpec.ofChange hostPlainSpec)

/-- ITS FALSE NEIGHBOUR: 'it returns false'. Refute it at one input. -/
def hostPlainWrong : ChangeSpec := { name := "hostPlain", fn := fun _ => fun
  | [d1, d2] => { results := [.lit (.bool false)], args := [d1, d2] }
  | _ => none }
def HostPlainWrongFalsely : Prop := hostPlainRow.holds Tryz.pinned (OpenSpec.ofChange hostPlainWrong)

/- THE SECOND FORM. 'bulk': how many values and letters a reading holds, each counted each time it is reached (what is shared counts as often as it is met; a slice's spare places count too). A statement '..UptoSaid' is the law's where the arguments, and the package variables that the reading takes, are together of bulk at most 1048576: NARROWER than '..Said'. Prove '..Said' where nothing that the law and all that it calls make is longer than what came in: it says more and counts as full. Else prove '..UptoSaid'. A law counts once. -/
mutual
def uptoBulk {H : Type} : DataW H → Nat
  | .lit (.string bytes) => bytes.length + 1
  | .lit _ => 1
  | .nil => 1
  | .ptr d => uptoBulk d + 1
  | .slice elems spare => uptoBulkAll elems + uptoBulkAll spare + 1
  | .agg parts => uptoBulkAll parts + 1
  | .iface _ d => uptoBulk d + 1
  | .map entries => uptoBulkEntries entries + 1
  | .held _ => 1
def uptoBulkAll {H : Type} : List (DataW H) → Nat
  | [] => 0
  | d :: r => uptoBulk d + uptoBulkAll r
def uptoBulkEntries {H : Type} : List (Lit × DataW H) → Nat
  | [] => 0
  | x :: r => uptoBulkEntry x + uptoBulkEntries r
def uptoBulkEntry {H : Type} : Lit × DataW H → Nat
  | (.string bytes, d) => bytes.length + uptoBulk d + 1
  | (_, d) => uptoBulk d + 1
 end
def uptoSmall : (H : Type) → List (DataW H) → Bool := fun _ ds => decide (uptoBulkAll ds ≤ 1048576)
def OpenSpec.upto (s : _root_.Go.ChangeSpec) : _root_.Go.OpenSpec := { _root_.Go.OpenSpec.ofChange s with cond := some uptoSmall }

/-- 'cameolaw09.HostDoes', WHERE WHAT IT READS IS OF BULK AT MOST 1048576: true; the input reads as it did. -/
def hostDoesUptoRow : OpenClaim := { program := "ytnbhjoopcaaafaagreat", sum := "26cec5be4950b5d65a19408f0a1025de13100cfe69802cde9497e2fcb56562ee", func := "cameo/cameolaw09.HostDoes", spec := "hostDoes", inPlace := ["slices.overlaps[cameo/api.Msg]"], unfollowed := true, recurses := true, plainKeys := false, apart := false, narrowed := true }
def HostDoesUptoSaid : Prop := hostDoesUptoRow.holds Tryz.pinned (OpenSpec.upto hostDoesSpec)

/-- 'cameolaw09.HostOnce', WHERE WHAT IT READS IS OF BULK AT MOST 1048576: true; the input reads as it did. -/
def hostOnceUptoRow : OpenClaim := { program := "ytnbhjoopcaaafaagreat", sum := "26cec5be4950b5d65a19408f0a1025de13100cfe69802cde9497e2fcb56562ee", func := "cameo/cameolaw09.HostOnce", spec := "hostOnce", inPlace := ["slices.overlaps[cameo/api.Msg]"], unfollowed := true, recurses := true, plainKeys := false, apart := false, narrowed := true }
def HostOnceUptoSaid : Prop := hostOnceUptoRow.holds Tryz.pinned (OpenSpec.upto hostOnceSpec)

/-- 'cameolaw09.HostOwn', WHERE WHAT IT READS IS OF BULK AT MOST 1048576: true; the input reads as it did. -/
def hostOwnUptoRow : OpenClaim := { program := "ytnbhjoopcaaafaagreat", sum := "26cec5be4950b5d65a19408f0a1025de13100cfe69802cde9497e2fcb56562ee", func := "cameo/cameolaw09.HostOwn", spec := "hostOwn", inPlace := ["slices.overlaps[cameo/api.Msg]"], unfollowed := true, recurses := true, plainKeys := false, apart := false, narrowed := true }
def HostOwnUptoSaid : Prop := hostOwnUptoRow.holds Tryz.pinned (OpenSpec.upto hostOwnSpec)

/-- 'cameolaw09.HostOrder', WHERE WHAT IT READS IS OF BULK AT MOST 1048576: true; the input reads as it did. -/
def hostOrderUptoRow : OpenClaim := { program := "ytnbhjoopcaaafaagreat", sum := "26cec5be4950b5d65a19408f0a1025de13100cfe69802cde9497e2fcb56562ee", func := "cameo/cameolaw09.HostOrder", spec := "hostOrder", inPlace := ["slices.overlaps[cameo/api.Msg]"], unfollowed := true, recurses := true, plainKeys := false, apart := false, narrowed := true }
def HostOrderUptoSaid : Prop := hostOrderUptoRow.holds Tryz.pinned (OpenSpec.upto hostOrderSpec)

/-- 'cameolaw09.HostCounts', WHERE WHAT IT READS IS OF BULK AT MOST 1048576: true; the input reads as it did. -/
def hostCountsUptoRow : OpenClaim := { program := "ytnbhjoopcaaafaagreat", sum := "26cec5be4950b5d65a19408f0a1025de13100cfe69802cde9497e2fcb56562ee", func := "cameo/cameolaw09.HostCounts", spec := "hostCounts", inPlace := ["slices.overlaps[cameo/api.Msg]"], unfollowed := true, recurses := true, plainKeys := false, apart := false, narrowed := true }
def HostCountsUptoSaid : Prop := hostCountsUptoRow.holds Tryz.pinned (OpenSpec.upto hostCountsSpec)

/-- 'cameolaw09.HostTells', WHERE WHAT IT READS IS OF BULK AT MOST 1048576: true; the input reads as it did. -/
def hostTellsUptoRow : OpenClaim := { program := "ytnbhjoopcaaafaagreat", sum := "26cec5be4950b5d65a19408f0a1025de13100cfe69802cde9497e2fcb56562ee", func := "cameo/cameolaw09.HostTells", spec := "hostTells", inPlace := ["slices.overlaps[cameo/api.Msg]"], unfollowed := true, recurses := true, plainKeys := false, apart := false, narrowed := true }
def HostTellsUptoSaid : Prop := hostTellsUptoRow.holds Tryz.pinned (OpenSpec.upto hostTellsSpec)

/-- 'cameolaw09.HostPlain', WHERE WHAT IT READS IS OF BULK AT MOST 1048576: true; the input reads as it did. -/
def hostPlainUptoRow : OpenClaim := { program := "ytnbhjoopcaaafaagreat", sum := "26cec5be4950b5d65a19408f0a1025de13100cfe69802cde9497e2fcb56562ee", func := "cameo/cameolaw09.HostPlain", spec := "hostPlain", inPlace := ["slices.overlaps[cameo/api.Msg]"], unfollowed := true, recurses := true, plainKeys := false, apart := false, narrowed := true }
def HostPlainUptoSaid : Prop := hostPlainUptoRow.holds Tryz.pinned (OpenSpec.upto hostPlainSpec)

end Rows
end Go.Proofs.YtnbhjoopcaaafaaGreat
