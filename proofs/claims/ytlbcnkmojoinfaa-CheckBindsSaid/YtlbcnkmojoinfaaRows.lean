/-
  No cell of these rows narrows 'for every input' (looked for: loops, veiled, ifaces, maps, wideKeys, modest, calm, conditions, laid).
  DERIVED. THE GIVEN ROWS OF THIS SEAT. 4 by the template 'for every input the law returns true; each argument reads behind the call as it read before'; 0 by the template 'total and deterministic' (their statements: YtlbcnkmojoinfaaTotals.lean).
  GIVEN WITH THE SEED: the statements are not yours to turn. If you find one false, say at which input.
  Laid BY PROGRAM, IN A SANDBOX (cutbox-rows.mjs): the forced cells as the released guide's own fill.sh prints them over the translation 150a3e947b628b11… (all of the seat's roots in one cut). By AI agents, Wed Nov 11 2026. No macro, syntax, notation, axiom, sorry.
-/
import Derived.Test.YtlbcnkmojoinfaaChecked
import GoSem.Claim
import GoSem.ClaimJoined
import GoSem.ClaimMapViews
import Derived.JoinedTies
import Derived.KernelRfl
namespace Go.Proofs.Ytlbcnkmojoinfaa
/- THE CELL 'sum', in the pinned program and in every row, IS THE sha256 OF THE DUMP (.gsa) THAT YtlbcnkmojoinfaaProg.lean LOADS. Nothing in Lean hashes anything: it is a label: what it is worth is what the hold of that sum in a sandbox is worth. -/
noncomputable def Try.pinned : Pinned := { name := "ytlbcnkmojoinfaa", sum := "150a3e947b628b1129c22109724ba536827845b615c8842bf5bc72d7c88a4ea5", checked := Try.checked }
namespace Rows
def none {H : Type} : Left H := { results := [], args := [] }

/-- 'intarsialaw17.CheckConds': WHATEVER THE INPUT: true; the input reads as it did. -/
def checkCondsSpec : ChangeSpec := { name := "checkConds", fn := fun _ => fun
  | [d1, d2, d3] => { results := [.lit (.bool true)], args := [d1, d2, d3] }
  | _ => none }
def checkCondsRow : OpenClaim := { program := "ytlbcnkmojoinfaa", sum := "150a3e947b628b1129c22109724ba536827845b615c8842bf5bc72d7c88a4ea5", func := "intarsia/intarsialaw17.CheckConds", spec := "checkConds", unfollowed := true, recurses := true, apart := false }
def CheckCondsSaid : Prop := checkCondsRow.holds Try.pinned (OpenSpec.ofChange checkCondsSpec)

/-- ITS FALSE NEIGHBOUR: 'it returns false'. Refute it at one input. -/
def checkCondsWrong : ChangeSpec := { name := "checkConds", fn := fun _ => fun
  | [d1, d2, d3] => { results := [.lit (.bool false)], args := [d1, d2, d3] }
  | _ => none }
def CheckCondsWrongFalsely : Prop := checkCondsRow.holds Try.pinned (OpenSpec.ofChange checkCondsWrong)

/-- 'intarsialaw17.CheckExprs': WHATEVER THE INPUT: true; the input reads as it did. -/
def checkExprsSpec : ChangeSpec := { name := "checkExprs", fn := fun _ => fun
  | [d1, d2] => { results := [.lit (.bool true)], args := [d1, d2] }
  | _ => none }
def checkExprsRow : OpenClaim := { program := "ytlbcnkmojoinfaa", sum := "150a3e947b628b1129c22109724ba536827845b615c8842bf5bc72d7c88a4ea5", func := "intarsia/intarsialaw17.CheckExprs", spec := "checkExprs", unfollowed := true, recurses := true, apart := false }
def CheckExprsSaid : Prop := checkExprsRow.holds Try.pinned (OpenSpec.ofChange checkExprsSpec)

/-- ITS FALSE NEIGHBOUR: 'it returns false'. Refute it at one input. -/
def checkExprsWrong : ChangeSpec := { name := "checkExprs", fn := fun _ => fun
  | [d1, d2] => { results := [.lit (.bool false)], args := [d1, d2] }
  | _ => none }
def CheckExprsWrongFalsely : Prop := checkExprsRow.holds Try.pinned (OpenSpec.ofChange checkExprsWrong)

/-- 'intarsialaw17.CheckBinds': WHATEVER THE INPUT: true; the input reads as it did. -/
def checkBindsSpec : ChangeSpec := { name := "checkBinds", fn := fun _ => fun
  | [d] => { results := [.lit (.bool true)], args := [d] }
  | _ => none }
def checkBindsRow : OpenClaim := { program := "ytlbcnkmojoinfaa", sum := "150a3e947b628b1129c22109724ba536827845b615c8842bf5bc72d7c88a4ea5", func := "intarsia/intarsialaw17.CheckBinds", spec := "checkBinds", unfollowed := true, recurses := true, apart := false }
def CheckBindsSaid : Prop := checkBindsRow.holds Try.pinned (OpenSpec.ofChange checkBindsSpec)

/-- ITS FALSE NEIGHBOUR: 'it returns false'. Refute it at one input. -/
def checkBindsWrong : ChangeSpec := { name := "checkBinds", fn := fun _ => fun
  | [d] => { results := [.lit (.bool false)], args := [d] }
  | _ => none }
def CheckBindsWrongFalsely : Prop := checkBindsRow.holds Try.pinned (OpenSpec.ofChange checkBindsWrong)

/-- 'intarsialaw17.CheckFewer': WHATEVER THE INPUT: true; the input reads as it did. -/
def checkFewerSpec : ChangeSpec := { name := "checkFewer", fn := fun _ => fun
  | [d] => { results := [.lit (.bool true)], args := [d] }
  | _ => none }
def checkFewerRow : OpenClaim := { program := "ytlbcnkmojoinfaa", sum := "150a3e947b628b1129c22109724ba536827845b615c8842bf5bc72d7c88a4ea5", func := "intarsia/intarsialaw17.CheckFewer", spec := "checkFewer", unfollowed := true, recurses := true, apart := false }
def CheckFewerSaid : Prop := checkFewerRow.holds Try.pinned (OpenSpec.ofChange checkFewerSpec)

/-- ITS FALSE NEIGHBOUR: 'it returns false'. Refute it at one input. -/
def checkFewerWrong : ChangeSpec := { name := "checkFewer", fn := fun _ => fun
  | [d] => { results := [.lit (.bool false)], args := [d] }
  | _ => none }
def CheckFewerWrongFalsely : Prop := checkFewerRow.holds Try.pinned (OpenSpec.ofChange checkFewerWrong)

/- THE SECOND FORM. 'bulk': how many values and letters a reading holds, each counted each time it is reached (what is shared counts as often as it is met; a slice's spare places count too). A statement '..UptoSaid' is the law's where the arguments, and the package variables that the reading takes, are together of bulk at most 1048576: NARROWER than '..Said'. Prove '..Said' where nothing that the law and all that it calls make is longer than what came in: it says more and counts as full. Else prove '..UptoSaid'. A law counts once. -/
mutual
def uptoBulk {H : Type} : DataW H → Nat
  | .lit (.string bytes) => bytes.length + 1
  | .lit _ => 1
  | .nil => 1
  | .ptr d => uptoBulk d + 1
  | .slice elems spare => uptoBulkAll elems + uptoBulkAll spare + 1
  | .agg parts => uptoBulkAll parts + 1
  | .iface _ d => uptoBulk d + 1
  | .map entries => uptoBulkEntries entries + 1
  | .held _ => 1
def uptoBulkAll {H : Type} : List (DataW H) → Nat
  | [] => 0
  | d :: r => uptoBulk d + uptoBulkAll r
def uptoBulkEntries {H : Type} : List (Lit × DataW H) → Nat
  | [] => 0
  | x :: r => uptoBulkEntry x + uptoBulkEntries r
def uptoBulkEntry {H : Type} : Lit × DataW H → Nat
  | (.string bytes, d) => bytes.length + uptoBulk d + 1
  | (_, d) => uptoBulk d + 1
 end
def uptoSmall : (H : Type) → List (DataW H) → Bool := fun _ ds => decide (uptoBulkAll ds ≤ 1048576)
def OpenSpec.upto (s : _root_.Go.ChangeSpec) : _root_.Go.OpenSpec := { _root_.Go.OpenSpec.ofChange s with cond := some uptoSmall }

/-- 'intarsialaw17.CheckConds', WHERE WHAT IT READS IS OF BULK AT MOST 1048576: true; the input reads as it did. -/
def checkCondsUptoRow : OpenClaim := { program := "ytlbcnkmojoinfaa", sum := "150a3e947b628b1129c22109724ba536827845b615c8842bf5bc72d7c88a4ea5", func := "intarsia/intarsialaw17.CheckConds", spec := "checkConds", unfollowed := true, recurses := true, apart := false, narrowed := true }
def CheckCondsUptoSaid : Prop := checkCondsUptoRow.holds Try.pinned (OpenSpec.upto checkCondsSpec)

/-- 'intarsialaw17.CheckExprs', WHERE WHAT IT READS IS OF BULK AT MOST 1048576: true; the input reads as it did. -/
def checkExprsUptoRow : OpenClaim := { program := "ytlbcnkmojoinfaa", sum := "150a3e947b628b1129c22109724ba536827845b615c8842bf5bc72d7c88a4ea5", func := "intarsia/intarsialaw17.CheckExprs", spec := "checkExprs", unfollowed := true, recurses := true, apart := false, narrowed := true }
def CheckExprsUptoSaid : Prop := checkExprsUptoRow.holds Try.pinned (OpenSpec.upto checkExprsSpec)

/-- 'intarsialaw17.CheckBinds', WHERE WHAT IT READS IS OF BULK AT MOST 1048576: true; the input reads as it did. -/
def checkBindsUptoRow : OpenClaim := { program := "ytlbcnkmojoinfaa", sum := "150a3e947b628b1129c22109724ba536827845b615c8842bf5bc72d7c88a4ea5", func := "intarsia/intarsialaw17.CheckBinds", spec := "checkBinds", unfollowed := true, recurses := true, apart := false, narrowed := true }
def CheckBindsUptoSaid : Prop := checkBindsUptoRow.holds Try.pinned (OpenSpec.upto checkBindsSpec)

/-- 'intarsialaw17.CheckFewer', WHERE WHAT IT READS IS OF BULK AT MOST 1048576: true; the input reads as it did. -/
def checkFewerUptoRow : OpenClaim := { program := "ytlbcnkmojoinfaa", sum := "150a3e947b628b1129c22109724ba536827845b615c8842bf5bc72d7c88a4ea5", func := "intarsia/intarsialaw17.CheckFewer", spec := "checkFewer", unfollowed := true, recurses := true, apart := false, narrowed := true }
def CheckFewerUptoSaid : Prop := checkFewerUptoRow.holds Try.pinned (OpenSpec.upto checkFewerSpec)

end Rows
end Go.Proofs.Ytlbcnkmojoinfaa
