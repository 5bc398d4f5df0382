/-
  No cell of these rows narrows 'for every input' (looked for: loops, veiled, ifaces, maps, wideKeys, modest, calm, conditions, laid).
  DERIVED. THE GIVEN ROWS OF THIS SEAT. 5 by the template 'for every input the law returns true; each argument reads behind the call as it read before'; 0 by the template 'total and deterministic' (their statements: YtiapecjiedhaoaaTotals.lean).
  GIVEN WITH THE SEED: the statements are not yours to turn. If you find one false, say at which input.
  Laid BY PROGRAM, IN A SANDBOX (cutbox-rows.mjs): the forced cells as the released guide's own fill.sh prints them over the translation 6dca1f2c15f48c26… (all of the seat's roots in one cut). By AI agents, Wed Nov 11 2026. No macro, syntax, notation, axiom, sorry.
-/
import Derived.Test.YtiapecjiedhaoaaChecked
import GoSem.Claim
import GoSem.ClaimJoined
import GoSem.ClaimMapViews
import Derived.JoinedTies
import Derived.KernelRfl
namespace Go.Proofs.Ytiapecjiedhaoaa
/- THE CELL 'sum', in the pinned program and in every row, IS THE sha256 OF THE DUMP (.gsa) THAT YtiapecjiedhaoaaProg.lean LOADS. Nothing in Lean hashes anything: it is a label: what it is worth is what the hold of that sum in a sandbox is worth. -/
noncomputable def Try.pinned : Pinned := { name := "ytiapecjiedhaoaa", sum := "6dca1f2c15f48c26fd5662405c056690ceca3f1cabb1f13d9ec8320e3b8e67e6", checked := Try.checked }
namespace Rows
def none {H : Type} : Left H := { results := [], args := [] }

/-- 'intarsialaw11.DirLooks': WHATEVER THE INPUT: true; the input reads as it did. -/
def dirLooksSpec : ChangeSpec := { name := "dirLooks", fn := fun _ => fun
  | [d1, d2, d3] => { results := [.lit (.bool true)], args := [d1, d2, d3] }
  | _ => none }
def dirLooksRow : OpenClaim := { program := "ytiapecjiedhaoaa", sum := "6dca1f2c15f48c26fd5662405c056690ceca3f1cabb1f13d9ec8320e3b8e67e6", func := "intarsia/intarsialaw11.DirLooks", spec := "dirLooks", unfollowed := true, recurses := true, apart := false }
def DirLooksSaid : Prop := dirLooksRow.holds Try.pinned (OpenSpec.ofChange dirLooksSpec)

/-- ITS FALSE NEIGHBOUR: 'it returns false'. Refute it at one input. -/
def dirLooksWrong : ChangeSpec := { name := "dirLooks", fn := fun _ => fun
  | [d1, d2, d3] => { results := [.lit (.bool false)], args := [d1, d2, d3] }
  | _ => none }
def DirLooksWrongFalsely : Prop := dirLooksRow.holds Try.pinned (OpenSpec.ofChange dirLooksWrong)

/-- 'intarsialaw11.DirChanges': WHATEVER THE INPUT: true; the input reads as it did. -/
def dirChangesSpec : ChangeSpec := { name := "dirChanges", fn := fun _ => fun
  | [d1, d2, d3] => { results := [.lit (.bool true)], args := [d1, d2, d3] }
  | _ => none }
def dirChangesRow : OpenClaim := { program := "ytiapecjiedhaoaa", sum := "6dca1f2c15f48c26fd5662405c056690ceca3f1cabb1f13d9ec8320e3b8e67e6", func := "intarsia/intarsialaw11.DirChanges", spec := "dirChanges", unfollowed := true, recurses := true, apart := false }
def DirChangesSaid : Prop := dirChangesRow.holds Try.pinned (OpenSpec.ofChange dirChangesSpec)

/-- ITS FALSE NEIGHBOUR: 'it returns false'. Refute it at one input. -/
def dirChangesWrong : ChangeSpec := { name := "dirChanges", fn := fun _ => fun
  | [d1, d2, d3] => { results := [.lit (.bool false)], args := [d1, d2, d3] }
  | _ => none }
def DirChangesWrongFalsely : Prop := dirChangesRow.holds Try.pinned (OpenSpec.ofChange dirChangesWrong)

/-- 'intarsialaw11.DirDoubled': WHATEVER THE INPUT: true; the input reads as it did. -/
def dirDoubledSpec : ChangeSpec := { name := "dirDoubled", fn := fun _ => fun
  | [d1, d2] => { results := [.lit (.bool true)], args := [d1, d2] }
  | _ => none }
def dirDoubledRow : OpenClaim := { program := "ytiapecjiedhaoaa", sum := "6dca1f2c15f48c26fd5662405c056690ceca3f1cabb1f13d9ec8320e3b8e67e6", func := "intarsia/intarsialaw11.DirDoubled", spec := "dirDoubled", unfollowed := true, recurses := true, apart := false }
def DirDoubledSaid : Prop := dirDoubledRow.holds Try.pinned (OpenSpec.ofChange dirDoubledSpec)

/-- ITS FALSE NEIGHBOUR: 'it returns false'. Refute it at one input. -/
def dirDoubledWrong : ChangeSpec := { name := "dirDoubled", fn := fun _ => fun
  | [d1, d2] => { results := [.lit (.bool false)], args := [d1, d2] }
  | _ => none }
def DirDoubledWrongFalsely : Prop := dirDoubledRow.holds Try.pinned (OpenSpec.ofChange dirDoubledWrong)

/-- 'intarsialaw11.DirSets': WHATEVER THE INPUT: true; the input reads as it did. -/
def dirSetsSpec : ChangeSpec := { name := "dirSets", fn := fun _ => fun
  | [d1, d2, d3] => { results := [.lit (.bool true)], args := [d1, d2, d3] }
  | _ => none }
def dirSetsRow : OpenClaim := { program := "ytiapecjiedhaoaa", sum := "6dca1f2c15f48c26fd5662405c056690ceca3f1cabb1f13d9ec8320e3b8e67e6", func := "intarsia/intarsialaw11.DirSets", spec := "dirSets", unfollowed := true, recurses := true, apart := false }
def DirSetsSaid : Prop := dirSetsRow.holds Try.pinned (OpenSpec.ofChange dirSetsSpec)

/-- ITS FALSE NEIGHBOUR: 'it returns false'. Refute it at one input. -/
def dirSetsWrong : ChangeSpec := { name := "dirSets", fn := fun _ => fun
  | [d1, d2, d3] => { results := [.lit (.bool false)], args := [d1, d2, d3] }
  | _ => none }
def DirSetsWrongFalsely : Prop := dirSetsRow.holds Try.pinned (OpenSpec.ofChange dirSetsWrong)

/-- 'intarsialaw11.DirPlaces': WHATEVER THE INPUT: true; the input reads as it did. -/
def dirPlacesSpec : ChangeSpec := { name := "dirPlaces", fn := fun _ => fun
  | [d1, d2] => { results := [.lit (.bool true)], args := [d1, d2] }
  | _ => none }
def dirPlacesRow : OpenClaim := { program := "ytiapecjiedhaoaa", sum := "6dca1f2c15f48c26fd5662405c056690ceca3f1cabb1f13d9ec8320e3b8e67e6", func := "intarsia/intarsialaw11.DirPlaces", spec := "dirPlaces", unfollowed := true, recurses := true, apart := false }
def DirPlacesSaid : Prop := dirPlacesRow.holds Try.pinned (OpenSpec.ofChange dirPlacesSpec)

/-- ITS FALSE NEIGHBOUR: 'it returns false'. Refute it at one input. -/
def dirPlacesWrong : ChangeSpec := { name := "dirPlaces", fn := fun _ => fun
  | [d1, d2] => { results := [.lit (.bool false)], args := [d1, d2] }
  | _ => none }
def DirPlacesWrongFalsely : Prop := dirPlacesRow.holds Try.pinned (OpenSpec.ofChange dirPlacesWrong)

/- THE SECOND FORM. 'bulk': how many values and letters a reading holds, each counted each time it is reached (what is shared counts as often as it is met; a slice's spare places count too). A statement '..UptoSaid' is the law's where the arguments, and the package variables that the reading takes, are together of bulk at most 1048576: NARROWER than '..Said'. Prove '..Said' where nothing that the law and all that it calls make is longer than what came in: it says more and counts as full. Else prove '..UptoSaid'. A law counts once. -/
mutual
def uptoBulk {H : Type} : DataW H → Nat
  | .lit (.string bytes) => bytes.length + 1
  | .lit _ => 1
  | .nil => 1
  | .ptr d => uptoBulk d + 1
  | .slice elems spare => uptoBulkAll elems + uptoBulkAll spare + 1
  | .agg parts => uptoBulkAll parts + 1
  | .iface _ d => uptoBulk d + 1
  | .map entries => uptoBulkEntries entries + 1
  | .held _ => 1
def uptoBulkAll {H : Type} : List (DataW H) → Nat
  | [] => 0
  | d :: r => uptoBulk d + uptoBulkAll r
def uptoBulkEntries {H : Type} : List (Lit × DataW H) → Nat
  | [] => 0
  | x :: r => uptoBulkEntry x + uptoBulkEntries r
def uptoBulkEntry {H : Type} : Lit × DataW H → Nat
  | (.string bytes, d) => bytes.length + uptoBulk d + 1
  | (_, d) => uptoBulk d + 1
 end
def uptoSmall : (H : Type) → List (DataW H) → Bool := fun _ ds => decide (uptoBulkAll ds ≤ 1048576)
def OpenSpec.upto (s : _root_.Go.ChangeSpec) : _root_.Go.OpenSpec := { _root_.Go.OpenSpec.ofChange s with cond := some uptoSmall }

/-- 'intarsialaw11.DirLooks', WHERE WHAT IT READS IS OF BULK AT MOST 1048576: true; the input reads as it did. -/
def dirLooksUptoRow : OpenClaim := { program := "ytiapecjiedhaoaa", sum := "6dca1f2c15f48c26fd5662405c056690ceca3f1cabb1f13d9ec8320e3b8e67e6", func := "intarsia/intarsialaw11.DirLooks", spec := "dirLooks", unfollowed := true, recurses := true, apart := false, narrowed := true }
def DirLooksUptoSaid : Prop := dirLooksUptoRow.holds Try.pinned (OpenSpec.upto dirLooksSpec)

/-- 'intarsialaw11.DirChanges', WHERE WHAT IT READS IS OF BULK AT MOST 1048576: true; the input reads as it did. -/
def dirChangesUptoRow : OpenClaim := { program := "ytiapecjiedhaoaa", sum := "6dca1f2c15f48c26fd5662405c056690ceca3f1cabb1f13d9ec8320e3b8e67e6", func := "intarsia/intarsialaw11.DirChanges", spec := "dirChanges", unfollowed := true, recurses := true, apart := false, narrowed := true }
def DirChangesUptoSaid : Prop := dirChangesUptoRow.holds Try.pinned (OpenSpec.upto dirChangesSpec)

/-- 'intarsialaw11.DirDoubled', WHERE WHAT IT READS IS OF BULK AT MOST 1048576: true; the input reads as it did. -/
def dirDoubledUptoRow : OpenClaim := { program := "ytiapecjiedhaoaa", sum := "6dca1f2c15f48c26fd5662405c056690ceca3f1cabb1f13d9ec8320e3b8e67e6", func := "intarsia/intarsialaw11.DirDoubled", spec := "dirDoubled", unfollowed := true, recurses := true, apart := false, narrowed := true }
def DirDoubledUptoSaid : Prop := dirDoubledUptoRow.holds Try.pinned (OpenSpec.upto dirDoubledSpec)

/-- 'intarsialaw11.DirSets', WHERE WHAT IT READS IS OF BULK AT MOST 1048576: true; the input reads as it did. -/
def dirSetsUptoRow : OpenClaim := { program := "ytiapecjiedhaoaa", sum := "6dca1f2c15f48c26fd5662405c056690ceca3f1cabb1f13d9ec8320e3b8e67e6", func := "intarsia/intarsialaw11.DirSets", spec := "dirSets", unfollowed := true, recurses := true, apart := false, narrowed := true }
def DirSetsUptoSaid : Prop := dirSetsUptoRow.holds Try.pinned (OpenSpec.upto dirSetsSpec)

/-- 'intarsialaw11.DirPlaces', WHERE WHAT IT READS IS OF BULK AT MOST 1048576: true; the input reads as it did. -/
def dirPlacesUptoRow : OpenClaim := { program := "ytiapecjiedhaoaa", sum := "6dca1f2c15f48c26fd5662405c056690ceca3f1cabb1f13d9ec8320e3b8e67e6", func := "intarsia/intarsialaw11.DirPlaces", spec := "dirPlaces", unfollowed := true, recurses := true, apart := false, narrowed := true }
def DirPlacesUptoSaid : Prop := dirPlacesUptoRow.holds Try.pinned (OpenSpec.upto dirPlacesSpec)

end Rows
end Go.Proofs.Ytiapecjiedhaoaa
