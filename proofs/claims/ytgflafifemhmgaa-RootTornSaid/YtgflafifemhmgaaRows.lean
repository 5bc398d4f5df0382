/-
  No cell of these rows narrows 'for every input' (looked for: loops, veiled, ifaces, maps, wideKeys, modest, calm, conditions, laid).
  DERIVED. THE GIVEN ROWS OF THIS SEAT. 9 by the template 'for every input the law returns true; each argument reads behind the call as it read before'; 0 by the template 'total and deterministic' (their statements: YtgflafifemhmgaaTotals.lean).
  GIVEN WITH THE SEED: the statements are not yours to turn. If you find one false, say at which input.
  Laid BY PROGRAM, IN A SANDBOX (cutbox-rows.mjs): the forced cells as the released guide's own fill.sh prints them over the translation 5e2cfd6c937853b5… (all of the seat's roots in one cut). By AI agents, Wed Nov 11 2026. No macro, syntax, notation, axiom, sorry.
-/
import Derived.Test.YtgflafifemhmgaaChecked
import GoSem.Claim
import GoSem.ClaimJoined
import GoSem.ClaimMapViews
import Derived.JoinedTies
import Derived.KernelRfl
namespace Go.Proofs.Ytgflafifemhmgaa
/- THE CELL 'sum', in the pinned program and in every row, IS THE sha256 OF THE DUMP (.gsa) THAT YtgflafifemhmgaaProg.lean LOADS. Nothing in Lean hashes anything: it is a label: what it is worth is what the hold of that sum in a sandbox is worth. -/
noncomputable def Try.pinned : Pinned := { name := "ytgflafifemhmgaa", sum := "5e2cfd6c937853b529e62adb33681f6a611086d213e2a3c8567abde71637a0fc", checked := Try.checked }
namespace Rows
def none {H : Type} : Left H := { results := [], args := [] }

/-- 'intarsialaw06.PageSeals': WHATEVER THE INPUT: true; the input reads as it did. -/
def pageSealsSpec : ChangeSpec := { name := "pageSeals", fn := fun _ => fun
  | [d1, d2, d3] => { results := [.lit (.bool true)], args := [d1, d2, d3] }
  | _ => none }
def pageSealsRow : OpenClaim := { program := "ytgflafifemhmgaa", sum := "5e2cfd6c937853b529e62adb33681f6a611086d213e2a3c8567abde71637a0fc", func := "intarsia/intarsialaw06.PageSeals", spec := "pageSeals", apart := false }
def PageSealsSaid : Prop := pageSealsRow.holds Try.pinned (OpenSpec.ofChange pageSealsSpec)

/-- ITS FALSE NEIGHBOUR: 'it returns false'. Refute it at one input. -/
def pageSealsWrong : ChangeSpec := { name := "pageSeals", fn := fun _ => fun
  | [d1, d2, d3] => { results := [.lit (.bool false)], args := [d1, d2, d3] }
  | _ => none }
def PageSealsWrongFalsely : Prop := pageSealsRow.holds Try.pinned (OpenSpec.ofChange pageSealsWrong)

/-- 'intarsialaw06.PageOpens': WHATEVER THE INPUT: true; the input reads as it did. -/
def pageOpensSpec : ChangeSpec := { name := "pageOpens", fn := fun _ => fun
  | [d] => { results := [.lit (.bool true)], args := [d] }
  | _ => none }
def pageOpensRow : OpenClaim := { program := "ytgflafifemhmgaa", sum := "5e2cfd6c937853b529e62adb33681f6a611086d213e2a3c8567abde71637a0fc", func := "intarsia/intarsialaw06.PageOpens", spec := "pageOpens", apart := false }
def PageOpensSaid : Prop := pageOpensRow.holds Try.pinned (OpenSpec.ofChange pageOpensSpec)

/-- ITS FALSE NEIGHBOUR: 'it returns false'. Refute it at one input. -/
def pageOpensWrong : ChangeSpec := { name := "pageOpens", fn := fun _ => fun
  | [d] => { results := [.lit (.bool false)], args := [d] }
  | _ => none }
def PageOpensWrongFalsely : Prop := pageOpensRow.holds Try.pinned (OpenSpec.ofChange pageOpensWrong)

/-- 'intarsialaw06.PageWords': WHATEVER THE INPUT: true; the input reads as it did. -/
def pageWordsSpec : ChangeSpec := { name := "pageWords", fn := fun _ => fun
  | [d1, d2, d3] => { results := [.lit (.bool true)], args := [d1, d2, d3] }
  | _ => none }
def pageWordsRow : OpenClaim := { program := "ytgflafifemhmgaa", sum := "5e2cfd6c937853b529e62adb33681f6a611086d213e2a3c8567abde71637a0fc", func := "intarsia/intarsialaw06.PageWords", spec := "pageWords", apart := false }
def PageWordsSaid : Prop := pageWordsRow.holds Try.pinned (OpenSpec.ofChange pageWordsSpec)

/-- ITS FALSE NEIGHBOUR: 'it returns false'. Refute it at one input. -/
def pageWordsWrong : ChangeSpec := { name := "pageWords", fn := fun _ => fun
  | [d1, d2, d3] => { results := [.lit (.bool false)], args := [d1, d2, d3] }
  | _ => none }
def PageWordsWrongFalsely : Prop := pageWordsRow.holds Try.pinned (OpenSpec.ofChange pageWordsWrong)

/-- 'intarsialaw06.PageBack': WHATEVER THE INPUT: true; the input reads as it did. -/
def pageBackSpec : ChangeSpec := { name := "pageBack", fn := fun _ => fun
  | [d1, d2, d3] => { results := [.lit (.bool true)], args := [d1, d2, d3] }
  | _ => none }
def pageBackRow : OpenClaim := { program := "ytgflafifemhmgaa", sum := "5e2cfd6c937853b529e62adb33681f6a611086d213e2a3c8567abde71637a0fc", func := "intarsia/intarsialaw06.PageBack", spec := "pageBack", apart := false }
def PageBackSaid : Prop := pageBackRow.holds Try.pinned (OpenSpec.ofChange pageBackSpec)

/-- ITS FALSE NEIGHBOUR: 'it returns false'. Refute it at one input. -/
def pageBackWrong : ChangeSpec := { name := "pageBack", fn := fun _ => fun
  | [d1, d2, d3] => { results := [.lit (.bool false)], args := [d1, d2, d3] }
  | _ => none }
def PageBackWrongFalsely : Prop := pageBackRow.holds Try.pinned (OpenSpec.ofChange pageBackWrong)

/-- 'intarsialaw06.PageJoined': WHATEVER THE INPUT: true; the input reads as it did. -/
def pageJoinedSpec : ChangeSpec := { name := "pageJoined", fn := fun _ => fun
  | [d1, d2, d3] => { results := [.lit (.bool true)], args := [d1, d2, d3] }
  | _ => none }
def pageJoinedRow : OpenClaim := { program := "ytgflafifemhmgaa", sum := "5e2cfd6c937853b529e62adb33681f6a611086d213e2a3c8567abde71637a0fc", func := "intarsia/intarsialaw06.PageJoined", spec := "pageJoined", apart := false }
def PageJoinedSaid : Prop := pageJoinedRow.holds Try.pinned (OpenSpec.ofChange pageJoinedSpec)

/-- ITS FALSE NEIGHBOUR: 'it returns false'. Refute it at one input. -/
def pageJoinedWrong : ChangeSpec := { name := "pageJoined", fn := fun _ => fun
  | [d1, d2, d3] => { results := [.lit (.bool false)], args := [d1, d2, d3] }
  | _ => none }
def PageJoinedWrongFalsely : Prop := pageJoinedRow.holds Try.pinned (OpenSpec.ofChange pageJoinedWrong)

/-- 'intarsialaw05.RootPuts': WHATEVER THE INPUT: true; the input reads as it did. -/
def rootPutsSpec : ChangeSpec := { name := "rootPuts", fn := fun _ => fun
  | [d1, d2] => { results := [.lit (.bool true)], args := [d1, d2] }
  | _ => none }
def rootPutsRow : OpenClaim := { program := "ytgflafifemhmgaa", sum := "5e2cfd6c937853b529e62adb33681f6a611086d213e2a3c8567abde71637a0fc", func := "intarsia/intarsialaw05.RootPuts", spec := "rootPuts", unfollowed := true, recurses := true, apart := false }
def RootPutsSaid : Prop := rootPutsRow.holds Try.pinned (OpenSpec.ofChange rootPutsSpec)

/-- ITS FALSE NEIGHBOUR: 'it returns false'. Refute it at one input. -/
def rootPutsWrong : ChangeSpec := { name := "rootPuts", fn := fun _ => fun
  | [d1, d2] => { results := [.lit (.bool false)], args := [d1, d2] }
  | _ => none }
def RootPutsWrongFalsely : Prop := rootPutsRow.holds Try.pinned (OpenSpec.ofChange rootPutsWrong)

/-- 'intarsialaw05.RootGets': WHATEVER THE INPUT: true; the input reads as it did. -/
def rootGetsSpec : ChangeSpec := { name := "rootGets", fn := fun _ => fun
  | [d1, d2] => { results := [.lit (.bool true)], args := [d1, d2] }
  | _ => none }
def rootGetsRow : OpenClaim := { program := "ytgflafifemhmgaa", sum := "5e2cfd6c937853b529e62adb33681f6a611086d213e2a3c8567abde71637a0fc", func := "intarsia/intarsialaw05.RootGets", spec := "rootGets", unfollowed := true, recurses := true, apart := false }
def RootGetsSaid : Prop := rootGetsRow.holds Try.pinned (OpenSpec.ofChange rootGetsSpec)

/-- ITS FALSE NEIGHBOUR: 'it returns false'. Refute it at one input. -/
def rootGetsWrong : ChangeSpec := { name := "rootGets", fn := fun _ => fun
  | [d1, d2] => { results := [.lit (.bool false)], args := [d1, d2] }
  | _ => none }
def RootGetsWrongFalsely : Prop := rootGetsRow.holds Try.pinned (OpenSpec.ofChange rootGetsWrong)

/-- 'intarsialaw05.RootBack': WHATEVER THE INPUT: true; the input reads as it did. -/
def rootBackSpec : ChangeSpec := { name := "rootBack", fn := fun _ => fun
  | [d] => { results := [.lit (.bool true)], args := [d] }
  | _ => none }
def rootBackRow : OpenClaim := { program := "ytgflafifemhmgaa", sum := "5e2cfd6c937853b529e62adb33681f6a611086d213e2a3c8567abde71637a0fc", func := "intarsia/intarsialaw05.RootBack", spec := "rootBack", unfollowed := true, recurses := true, apart := false }
def RootBackSaid : Prop := rootBackRow.holds Try.pinned (OpenSpec.ofChange rootBackSpec)

/-- ITS FALSE NEIGHBOUR: 'it returns false'. Refute it at one input. -/
def rootBackWrong : ChangeSpec := { name := "rootBack", fn := fun _ => fun
  | [d] => { results := [.lit (.bool false)], args := [d] }
  | _ => none }
def RootBackWrongFalsely : Prop := rootBackRow.holds Try.pinned (OpenSpec.ofChange rootBackWrong)

/-- 'intarsialaw05.RootTorn': WHATEVER THE INPUT: true; the input reads as it did. -/
def rootTornSpec : ChangeSpec := { name := "rootTorn", fn := fun _ => fun
  | [d1, d2, d3] => { results := [.lit (.bool true)], args := [d1, d2, d3] }
  | _ => none }
def rootTornRow : OpenClaim := { program := "ytgflafifemhmgaa", sum := "5e2cfd6c937853b529e62adb33681f6a611086d213e2a3c8567abde71637a0fc", func := "intarsia/intarsialaw05.RootTorn", spec := "rootTorn", unfollowed := true, recurses := true, apart := false }
def RootTornSaid : Prop := rootTornRow.holds Try.pinned (OpenSpec.ofChange rootTornSpec)

/-- ITS FALSE NEIGHBOUR: 'it returns false'. Refute it at one input. -/
def rootTornWrong : ChangeSpec := { name := "rootTorn", fn := fun _ => fun
  | [d1, d2, d3] => { results := [.lit (.bool false)], args := [d1, d2, d3] }
  | _ => none }
def RootTornWrongFalsely : Prop := rootTornRow.holds Try.pinned (OpenSpec.ofChange rootTornWrong)

/- THE SECOND FORM. 'bulk': how many values and letters a reading holds, each counted each time it is reached (what is shared counts as often as it is met; a slice's spare places count too). A statement '..UptoSaid' is the law's where the arguments, and the package variables that the reading takes, are together of bulk at most 1048576: NARROWER than '..Said'. Prove '..Said' where nothing that the law and all that it calls make is longer than what came in: it says more and counts as full. Else prove '..UptoSaid'. A law counts once. -/
mutual
def uptoBulk {H : Type} : DataW H → Nat
  | .lit (.string bytes) => bytes.length + 1
  | .lit _ => 1
  | .nil => 1
  | .ptr d => uptoBulk d + 1
  | .slice elems spare => uptoBulkAll elems + uptoBulkAll spare + 1
  | .agg parts => uptoBulkAll parts + 1
  | .iface _ d => uptoBulk d + 1
  | .map entries => uptoBulkEntries entries + 1
  | .held _ => 1
def uptoBulkAll {H : Type} : List (DataW H) → Nat
  | [] => 0
  | d :: r => uptoBulk d + uptoBulkAll r
def uptoBulkEntries {H : Type} : List (Lit × DataW H) → Nat
  | [] => 0
  | x :: r => uptoBulkEntry x + uptoBulkEntries r
def uptoBulkEntry {H : Type} : Lit × DataW H → Nat
  | (.string bytes, d) => bytes.length + uptoBulk d + 1
  | (_, d) => uptoBulk d + 1
 end
def uptoSmall : (H : Type) → List (DataW H) → Bool := fun _ ds => decide (uptoBulkAll ds ≤ 1048576)
def OpenSpec.upto (s : _root_.Go.ChangeSpec) : _root_.Go.OpenSpec := { _root_.Go.OpenSpec.ofChange s with cond := some uptoSmall }

/-- 'intarsialaw06.PageSeals', WHERE WHAT IT READS IS OF BULK AT MOST 1048576: true; the input reads as it did. -/
def pageSealsUptoRow : OpenClaim := { program := "ytgflafifemhmgaa", sum := "5e2cfd6c937853b529e62adb33681f6a611086d213e2a3c8567abde71637a0fc", func := "intarsia/intarsialaw06.PageSeals", spec := "pageSeals", apart := false, narrowed := true }
def PageSealsUptoSaid : Prop := pageSealsUptoRow.holds Try.pinned (OpenSpec.upto pageSealsSpec)

/-- 'intarsialaw06.PageOpens', WHERE WHAT IT READS IS OF BULK AT MOST 1048576: true; the input reads as it did. -/
def pageOpensUptoRow : OpenClaim := { program := "ytgflafifemhmgaa", sum := "5e2cfd6c937853b529e62adb33681f6a611086d213e2a3c8567abde71637a0fc", func := "intarsia/intarsialaw06.PageOpens", spec := "pageOpens", apart := false, narrowed := true }
def PageOpensUptoSaid : Prop := pageOpensUptoRow.holds Try.pinned (OpenSpec.upto pageOpensSpec)

/-- 'intarsialaw06.PageWords', WHERE WHAT IT READS IS OF BULK AT MOST 1048576: true; the input reads as it did. -/
def pageWordsUptoRow : OpenClaim := { program := "ytgflafifemhmgaa", sum := "5e2cfd6c937853b529e62adb33681f6a611086d213e2a3c8567abde71637a0fc", func := "intarsia/intarsialaw06.PageWords", spec := "pageWords", apart := false, narrowed := true }
def PageWordsUptoSaid : Prop := pageWordsUptoRow.holds Try.pinned (OpenSpec.upto pageWordsSpec)

/-- 'intarsialaw06.PageBack', WHERE WHAT IT READS IS OF BULK AT MOST 1048576: true; the input reads as it did. -/
def pageBackUptoRow : OpenClaim := { program := "ytgflafifemhmgaa", sum := "5e2cfd6c937853b529e62adb33681f6a611086d213e2a3c8567abde71637a0fc", func := "intarsia/intarsialaw06.PageBack", spec := "pageBack", apart := false, narrowed := true }
def PageBackUptoSaid : Prop := pageBackUptoRow.holds Try.pinned (OpenSpec.upto pageBackSpec)

/-- 'intarsialaw06.PageJoined', WHERE WHAT IT READS IS OF BULK AT MOST 1048576: true; the input reads as it did. -/
def pageJoinedUptoRow : OpenClaim := { program := "ytgflafifemhmgaa", sum := "5e2cfd6c937853b529e62adb33681f6a611086d213e2a3c8567abde71637a0fc", func := "intarsia/intarsialaw06.PageJoined", spec := "pageJoined", apart := false, narrowed := true }
def PageJoinedUptoSaid : Prop := pageJoinedUptoRow.holds Try.pinned (OpenSpec.upto pageJoinedSpec)

/-- 'intarsialaw05.RootPuts', WHERE WHAT IT READS IS OF BULK AT MOST 1048576: true; the input reads as it did. -/
def rootPutsUptoRow : OpenClaim := { program := "ytgflafifemhmgaa", sum := "5e2cfd6c937853b529e62adb33681f6a611086d213e2a3c8567abde71637a0fc", func := "intarsia/intarsialaw05.RootPuts", spec := "rootPuts", unfollowed := true, recurses := true, apart := false, narrowed := true }
def RootPutsUptoSaid : Prop := rootPutsUptoRow.holds Try.pinned (OpenSpec.upto rootPutsSpec)

/-- 'intarsialaw05.RootGets', WHERE WHAT IT READS IS OF BULK AT MOST 1048576: true; the input reads as it did. -/
def rootGetsUptoRow : OpenClaim := { program := "ytgflafifemhmgaa", sum := "5e2cfd6c937853b529e62adb33681f6a611086d213e2a3c8567abde71637a0fc", func := "intarsia/intarsialaw05.RootGets", spec := "rootGets", unfollowed := true, recurses := true, apart := false, narrowed := true }
def RootGetsUptoSaid : Prop := rootGetsUptoRow.holds Try.pinned (OpenSpec.upto rootGetsSpec)

/-- 'intarsialaw05.RootBack', WHERE WHAT IT READS IS OF BULK AT MOST 1048576: true; the input reads as it did. -/
def rootBackUptoRow : OpenClaim := { program := "ytgflafifemhmgaa", sum := "5e2cfd6c937853b529e62adb33681f6a611086d213e2a3c8567abde71637a0fc", func := "intarsia/intarsialaw05.RootBack", spec := "rootBack", unfollowed := true, recurses := true, apart := false, narrowed := true }
def RootBackUptoSaid : Prop := rootBackUptoRow.holds Try.pinned (OpenSpec.upto rootBackSpec)

/-- 'intarsialaw05.RootTorn', WHERE WHAT IT READS IS OF BULK AT MOST 1048576: true; the input reads as it did. -/
def rootTornUptoRow : OpenClaim := { program := "ytgflafifemhmgaa", sum := "5e2cfd6c937853b529e62adb33681f6a611086d213e2a3c8567abde71637a0fc", func := "intarsia/intarsialaw05.RootTorn", spec := "rootTorn", unfollowed := true, recurses := true, apart := false, narrowed := true }
def RootTornUptoSaid : Prop := rootTornUptoRow.holds Try.pinned (OpenSpec.upto rootTornSpec)

end Rows
end Go.Proofs.Ytgflafifemhmgaa
