/-
  No cell of these rows narrows 'for every input' (looked for: loops, veiled, ifaces, maps, wideKeys, modest, calm, conditions, laid).
  DERIVED. THE GIVEN ROWS OF THIS SEAT. 4 by the template 'for every input the law returns true; each argument reads behind the call as it read before'; 0 by the template 'total and deterministic' (their statements: YtgbjinonlfhciaaTotals.lean).
  GIVEN WITH THE SEED: the statements are not yours to turn. If you find one false, say at which input.
  Laid BY PROGRAM, IN A SANDBOX (cutbox-rows.mjs): the forced cells as the released guide's own fill.sh prints them over the translation 14eabf7485101247… (all of the seat's roots in one cut). By AI agents, Wed Nov 11 2026. No macro, syntax, notation, axiom, sorry.
-/
import Derived.Test.YtgbjinonlfhciaaChecked
import GoSem.Claim
import GoSem.ClaimJoined
import GoSem.ClaimMapViews
import Derived.JoinedTies
import Derived.KernelRfl
namespace Go.Proofs.Ytgbjinonlfhciaa
/- THE CELL 'sum', in the pinned program and in every row, IS THE sha256 OF THE DUMP (.gsa) THAT YtgbjinonlfhciaaProg.lean LOADS. Nothing in Lean hashes anything: it is a label: what it is worth is what the hold of that sum in a sandbox is worth. -/
noncomputable def Try.pinned : Pinned := { name := "ytgbjinonlfhciaa", sum := "14eabf74851012478519b1c6c85016a26cb6ca1736487a799a2550e6e7d374b8", checked := Try.checked }
namespace Rows
def none {H : Type} : Left H := { results := [], args := [] }

/-- 'intarsialaw10.BucketGrows': WHATEVER THE INPUT: true; the input reads as it did. -/
def bucketGrowsSpec : ChangeSpec := { name := "bucketGrows", fn := fun _ => fun
  | [d] => { results := [.lit (.bool true)], args := [d] }
  | _ => none }
def bucketGrowsRow : OpenClaim := { program := "ytgbjinonlfhciaa", sum := "14eabf74851012478519b1c6c85016a26cb6ca1736487a799a2550e6e7d374b8", func := "intarsia/intarsialaw10.BucketGrows", spec := "bucketGrows", inPlace := ["slices.overlaps[intarsia/api.Pair]"], unfollowed := true, recurses := true, apart := false }
def BucketGrowsSaid : Prop := bucketGrowsRow.holds Try.pinned (OpenSpec.ofChange bucketGrowsSpec)

/-- ITS FALSE NEIGHBOUR: 'it returns false'. Refute it at one input. -/
def bucketGrowsWrong : ChangeSpec := { name := "bucketGrows", fn := fun _ => fun
  | [d] => { results := [.lit (.bool false)], args := [d] }
  | _ => none }
def BucketGrowsWrongFalsely : Prop := bucketGrowsRow.holds Try.pinned (OpenSpec.ofChange bucketGrowsWrong)

/-- 'intarsialaw10.BucketSplits': WHATEVER THE INPUT: true; the input reads as it did. -/
def bucketSplitsSpec : ChangeSpec := { name := "bucketSplits", fn := fun _ => fun
  | [d1, d2, d3] => { results := [.lit (.bool true)], args := [d1, d2, d3] }
  | _ => none }
def bucketSplitsRow : OpenClaim := { program := "ytgbjinonlfhciaa", sum := "14eabf74851012478519b1c6c85016a26cb6ca1736487a799a2550e6e7d374b8", func := "intarsia/intarsialaw10.BucketSplits", spec := "bucketSplits", inPlace := ["slices.overlaps[intarsia/api.Pair]"], unfollowed := true, recurses := true, apart := false }
def BucketSplitsSaid : Prop := bucketSplitsRow.holds Try.pinned (OpenSpec.ofChange bucketSplitsSpec)

/-- ITS FALSE NEIGHBOUR: 'it returns false'. Refute it at one input. -/
def bucketSplitsWrong : ChangeSpec := { name := "bucketSplits", fn := fun _ => fun
  | [d1, d2, d3] => { results := [.lit (.bool false)], args := [d1, d2, d3] }
  | _ => none }
def BucketSplitsWrongFalsely : Prop := bucketSplitsRow.holds Try.pinned (OpenSpec.ofChange bucketSplitsWrong)

/-- 'intarsialaw10.BucketPuts': WHATEVER THE INPUT: true; the input reads as it did. -/
def bucketPutsSpec : ChangeSpec := { name := "bucketPuts", fn := fun _ => fun
  | [d1, d2, d3] => { results := [.lit (.bool true)], args := [d1, d2, d3] }
  | _ => none }
def bucketPutsRow : OpenClaim := { program := "ytgbjinonlfhciaa", sum := "14eabf74851012478519b1c6c85016a26cb6ca1736487a799a2550e6e7d374b8", func := "intarsia/intarsialaw10.BucketPuts", spec := "bucketPuts", inPlace := ["slices.overlaps[intarsia/api.Pair]"], unfollowed := true, recurses := true, apart := false }
def BucketPutsSaid : Prop := bucketPutsRow.holds Try.pinned (OpenSpec.ofChange bucketPutsSpec)

/-- ITS FALSE NEIGHBOUR: 'it returns false'. Refute it at one input. -/
def bucketPutsWrong : ChangeSpec := { name := "bucketPuts", fn := fun _ => fun
  | [d1, d2, d3] => { results := [.lit (.bool false)], args := [d1, d2, d3] }
  | _ => none }
def BucketPutsWrongFalsely : Prop := bucketPutsRow.holds Try.pinned (OpenSpec.ofChange bucketPutsWrong)

/-- 'intarsialaw10.BucketBack': WHATEVER THE INPUT: true; the input reads as it did. -/
def bucketBackSpec : ChangeSpec := { name := "bucketBack", fn := fun _ => fun
  | [d] => { results := [.lit (.bool true)], args := [d] }
  | _ => none }
def bucketBackRow : OpenClaim := { program := "ytgbjinonlfhciaa", sum := "14eabf74851012478519b1c6c85016a26cb6ca1736487a799a2550e6e7d374b8", func := "intarsia/intarsialaw10.BucketBack", spec := "bucketBack", inPlace := ["slices.overlaps[intarsia/api.Pair]"], unfollowed := true, recurses := true, apart := false }
def BucketBackSaid : Prop := bucketBackRow.holds Try.pinned (OpenSpec.ofChange bucketBackSpec)

/-- ITS FALSE NEIGHBOUR: 'it returns false'. Refute it at one input. -/
def bucketBackWrong : ChangeSpec := { name := "bucketBack", fn := fun _ => fun
  | [d] => { results := [.lit (.bool false)], args := [d] }
  | _ => none }
def BucketBackWrongFalsely : Prop := bucketBackRow.holds Try.pinned (OpenSpec.ofChange bucketBackWrong)

/- THE SECOND FORM. 'bulk': how many values and letters a reading holds, each counted each time it is reached (what is shared counts as often as it is met; a slice's spare places count too). A statement '..UptoSaid' is the law's where the arguments, and the package variables that the reading takes, are together of bulk at most 1048576: NARROWER than '..Said'. Prove '..Said' where nothing that the law and all that it calls make is longer than what came in: it says more and counts as full. Else prove '..UptoSaid'. A law counts once. -/
mutual
def uptoBulk {H : Type} : DataW H → Nat
  | .lit (.string bytes) => bytes.length + 1
  | .lit _ => 1
  | .nil => 1
  | .ptr d => uptoBulk d + 1
  | .slice elems spare => uptoBulkAll elems + uptoBulkAll spare + 1
  | .agg parts => uptoBulkAll parts + 1
  | .iface _ d => uptoBulk d + 1
  | .map entries => uptoBulkEntries entries + 1
  | .held _ => 1
def uptoBulkAll {H : Type} : List (DataW H) → Nat
  | [] => 0
  | d :: r => uptoBulk d + uptoBulkAll r
def uptoBulkEntries {H : Type} : List (Lit × DataW H) → Nat
  | [] => 0
  | x :: r => uptoBulkEntry x + uptoBulkEntries r
def uptoBulkEntry {H : Type} : Lit × DataW H → Nat
  | (.string bytes, d) => bytes.length + uptoBulk d + 1
  | (_, d) => uptoBulk d + 1
 end
def uptoSmall : (H : Type) → List (DataW H) → Bool := fun _ ds => decide (uptoBulkAll ds ≤ 1048576)
def OpenSpec.upto (s : _root_.Go.ChangeSpec) : _root_.Go.OpenSpec := { _root_.Go.OpenSpec.ofChange s with cond := some uptoSmall }

/-- 'intarsialaw10.BucketGrows', WHERE WHAT IT READS IS OF BULK AT MOST 1048576: true; the input reads as it did. -/
def bucketGrowsUptoRow : OpenClaim := { program := "ytgbjinonlfhciaa", sum := "14eabf74851012478519b1c6c85016a26cb6ca1736487a799a2550e6e7d374b8", func := "intarsia/intarsialaw10.BucketGrows", spec := "bucketGrows", inPlace := ["slices.overlaps[intarsia/api.Pair]"], unfollowed := true, recurses := true, apart := false, narrowed := true }
def BucketGrowsUptoSaid : Prop := bucketGrowsUptoRow.holds Try.pinned (OpenSpec.upto bucketGrowsSpec)

/-- 'intarsialaw10.BucketSplits', WHERE WHAT IT READS IS OF BULK AT MOST 1048576: true; the input reads as it did. -/
def bucketSplitsUptoRow : OpenClaim := { program := "ytgbjinonlfhciaa", sum := "14eabf74851012478519b1c6c85016a26cb6ca1736487a799a2550e6e7d374b8", func := "intarsia/intarsialaw10.BucketSplits", spec := "bucketSplits", inPlace := ["slices.overlaps[intarsia/api.Pair]"], unfollowed := true, recurses := true, apart := false, narrowed := true }
def BucketSplitsUptoSaid : Prop := bucketSplitsUptoRow.holds Try.pinned (OpenSpec.upto bucketSplitsSpec)

/-- 'intarsialaw10.BucketPuts', WHERE WHAT IT READS IS OF BULK AT MOST 1048576: true; the input reads as it did. -/
def bucketPutsUptoRow : OpenClaim := { program := "ytgbjinonlfhciaa", sum := "14eabf74851012478519b1c6c85016a26cb6ca1736487a799a2550e6e7d374b8", func := "intarsia/intarsialaw10.BucketPuts", spec := "bucketPuts", inPlace := ["slices.overlaps[intarsia/api.Pair]"], unfollowed := true, recurses := true, apart := false, narrowed := true }
def BucketPutsUptoSaid : Prop := bucketPutsUptoRow.holds Try.pinned (OpenSpec.upto bucketPutsSpec)

/-- 'intarsialaw10.BucketBack', WHERE WHAT IT READS IS OF BULK AT MOST 1048576: true; the input reads as it did. -/
def bucketBackUptoRow : OpenClaim := { program := "ytgbjinonlfhciaa", sum := "14eabf74851012478519b1c6c85016a26cb6ca1736487a799a2550e6e7d374b8", func := "intarsia/intarsialaw10.BucketBack", spec := "bucketBack", inPlace := ["slices.overlaps[intarsia/api.Pair]"], unfollowed := true, recurses := true, apart := false, narrowed := true }
def BucketBackUptoSaid : Prop := bucketBackUptoRow.holds Try.pinned (OpenSpec.upto bucketBackSpec)

end Rows
end Go.Proofs.Ytgbjinonlfhciaa
