/-
  No cell of these rows narrows 'for every input' (looked for: loops, veiled, ifaces, maps, wideKeys, modest, calm, conditions, laid).
  DERIVED. THE GIVEN ROWS OF THIS SEAT. 8 by the template 'for every input the law returns true; each argument reads behind the call as it read before'; 0 by the template 'total and deterministic' (their statements: YtoklhnncdpoljaaTotals.lean).
  GIVEN WITH THE SEED: the statements are not yours to turn. If you find one false, say at which input.
  Laid BY PROGRAM, IN A SANDBOX (cutbox-rows.mjs): the forced cells as the released guide's own fill.sh prints them over the translation 32c88c1d3101c70c… (all of the seat's roots in one cut). By AI agents, Wed Nov 11 2026. No macro, syntax, notation, axiom, sorry.
-/
import Derived.Test.YtoklhnncdpoljaaChecked
import GoSem.Claim
import GoSem.ClaimJoined
import GoSem.ClaimMapViews
import Derived.JoinedTies
import Derived.KernelRfl
namespace Go.Proofs.Ytoklhnncdpoljaa
/- THE CELL 'sum', in the pinned program and in every row, IS THE sha256 OF THE DUMP (.gsa) THAT YtoklhnncdpoljaaProg.lean LOADS. Nothing in Lean hashes anything: it is a label: what it is worth is what the hold of that sum in a sandbox is worth. -/
noncomputable def Try.pinned : Pinned := { name := "ytoklhnncdpoljaa", sum := "32c88c1d3101c70c860d3a45cc71de811b8f74da74bfb024017aac7130941067", checked := Try.checked }
namespace Rows
def none {H : Type} : Left H := { results := [], args := [] }

/-- 'intarsialaw09.MixOfs': WHATEVER THE INPUT: true; the input reads as it did. -/
def mixOfsSpec : ChangeSpec := { name := "mixOfs", fn := fun _ => fun
  | [d] => { results := [.lit (.bool true)], args := [d] }
  | _ => none }
def mixOfsRow : OpenClaim := { program := "ytoklhnncdpoljaa", sum := "32c88c1d3101c70c860d3a45cc71de811b8f74da74bfb024017aac7130941067", func := "intarsia/intarsialaw09.MixOfs", spec := "mixOfs", apart := false }
def MixOfsSaid : Prop := mixOfsRow.holds Try.pinned (OpenSpec.ofChange mixOfsSpec)

/-- ITS FALSE NEIGHBOUR: 'it returns false'. Refute it at one input. -/
def mixOfsWrong : ChangeSpec := { name := "mixOfs", fn := fun _ => fun
  | [d] => { results := [.lit (.bool false)], args := [d] }
  | _ => none }
def MixOfsWrongFalsely : Prop := mixOfsRow.holds Try.pinned (OpenSpec.ofChange mixOfsWrong)

/-- 'intarsialaw09.MixTops': WHATEVER THE INPUT: true; the input reads as it did. -/
def mixTopsSpec : ChangeSpec := { name := "mixTops", fn := fun _ => fun
  | [d1, d2, d3] => { results := [.lit (.bool true)], args := [d1, d2, d3] }
  | _ => none }
def mixTopsRow : OpenClaim := { program := "ytoklhnncdpoljaa", sum := "32c88c1d3101c70c860d3a45cc71de811b8f74da74bfb024017aac7130941067", func := "intarsia/intarsialaw09.MixTops", spec := "mixTops", apart := false }
def MixTopsSaid : Prop := mixTopsRow.holds Try.pinned (OpenSpec.ofChange mixTopsSpec)

/-- ITS FALSE NEIGHBOUR: 'it returns false'. Refute it at one input. -/
def mixTopsWrong : ChangeSpec := { name := "mixTops", fn := fun _ => fun
  | [d1, d2, d3] => { results := [.lit (.bool false)], args := [d1, d2, d3] }
  | _ => none }
def MixTopsWrongFalsely : Prop := mixTopsRow.holds Try.pinned (OpenSpec.ofChange mixTopsWrong)

/-- 'intarsialaw09.MixDeeper': WHATEVER THE INPUT: true; the input reads as it did. -/
def mixDeeperSpec : ChangeSpec := { name := "mixDeeper", fn := fun _ => fun
  | [d1, d2] => { results := [.lit (.bool true)], args := [d1, d2] }
  | _ => none }
def mixDeeperRow : OpenClaim := { program := "ytoklhnncdpoljaa", sum := "32c88c1d3101c70c860d3a45cc71de811b8f74da74bfb024017aac7130941067", func := "intarsia/intarsialaw09.MixDeeper", spec := "mixDeeper", apart := false }
def MixDeeperSaid : Prop := mixDeeperRow.holds Try.pinned (OpenSpec.ofChange mixDeeperSpec)

/-- ITS FALSE NEIGHBOUR: 'it returns false'. Refute it at one input. -/
def mixDeeperWrong : ChangeSpec := { name := "mixDeeper", fn := fun _ => fun
  | [d1, d2] => { results := [.lit (.bool false)], args := [d1, d2] }
  | _ => none }
def MixDeeperWrongFalsely : Prop := mixDeeperRow.holds Try.pinned (OpenSpec.ofChange mixDeeperWrong)

/-- 'intarsialaw02.SumOfs': WHATEVER THE INPUT: true; the input reads as it did. -/
def sumOfsSpec : ChangeSpec := { name := "sumOfs", fn := fun _ => fun
  | [d1, d2] => { results := [.lit (.bool true)], args := [d1, d2] }
  | _ => none }
def sumOfsRow : OpenClaim := { program := "ytoklhnncdpoljaa", sum := "32c88c1d3101c70c860d3a45cc71de811b8f74da74bfb024017aac7130941067", func := "intarsia/intarsialaw02.SumOfs", spec := "sumOfs", apart := false }
def SumOfsSaid : Prop := sumOfsRow.holds Try.pinned (OpenSpec.ofChange sumOfsSpec)

/-- ITS FALSE NEIGHBOUR: 'it returns false'. Refute it at one input. -/
def sumOfsWrong : ChangeSpec := { name := "sumOfs", fn := fun _ => fun
  | [d1, d2] => { results := [.lit (.bool false)], args := [d1, d2] }
  | _ => none }
def SumOfsWrongFalsely : Prop := sumOfsRow.holds Try.pinned (OpenSpec.ofChange sumOfsWrong)

/-- 'intarsialaw02.SumOpens': WHATEVER THE INPUT: true; the input reads as it did. -/
def sumOpensSpec : ChangeSpec := { name := "sumOpens", fn := fun _ => fun
  | [d] => { results := [.lit (.bool true)], args := [d] }
  | _ => none }
def sumOpensRow : OpenClaim := { program := "ytoklhnncdpoljaa", sum := "32c88c1d3101c70c860d3a45cc71de811b8f74da74bfb024017aac7130941067", func := "intarsia/intarsialaw02.SumOpens", spec := "sumOpens", apart := false }
def SumOpensSaid : Prop := sumOpensRow.holds Try.pinned (OpenSpec.ofChange sumOpensSpec)

/-- ITS FALSE NEIGHBOUR: 'it returns false'. Refute it at one input. -/
def sumOpensWrong : ChangeSpec := { name := "sumOpens", fn := fun _ => fun
  | [d] => { results := [.lit (.bool false)], args := [d] }
  | _ => none }
def SumOpensWrongFalsely : Prop := sumOpensRow.holds Try.pinned (OpenSpec.ofChange sumOpensWrong)

/-- 'intarsialaw02.SumTurned': WHATEVER THE INPUT: true; the input reads as it did. -/
def sumTurnedSpec : ChangeSpec := { name := "sumTurned", fn := fun _ => fun
  | [d1, d2, d3] => { results := [.lit (.bool true)], args := [d1, d2, d3] }
  | _ => none }
def sumTurnedRow : OpenClaim := { program := "ytoklhnncdpoljaa", sum := "32c88c1d3101c70c860d3a45cc71de811b8f74da74bfb024017aac7130941067", func := "intarsia/intarsialaw02.SumTurned", spec := "sumTurned", apart := false }
def SumTurnedSaid : Prop := sumTurnedRow.holds Try.pinned (OpenSpec.ofChange sumTurnedSpec)

/-- ITS FALSE NEIGHBOUR: 'it returns false'. Refute it at one input. -/
def sumTurnedWrong : ChangeSpec := { name := "sumTurned", fn := fun _ => fun
  | [d1, d2, d3] => { results := [.lit (.bool false)], args := [d1, d2, d3] }
  | _ => none }
def SumTurnedWrongFalsely : Prop := sumTurnedRow.holds Try.pinned (OpenSpec.ofChange sumTurnedWrong)

/-- 'intarsialaw02.SumGoes': WHATEVER THE INPUT: true; the input reads as it did. -/
def sumGoesSpec : ChangeSpec := { name := "sumGoes", fn := fun _ => fun
  | [d1, d2] => { results := [.lit (.bool true)], args := [d1, d2] }
  | _ => none }
def sumGoesRow : OpenClaim := { program := "ytoklhnncdpoljaa", sum := "32c88c1d3101c70c860d3a45cc71de811b8f74da74bfb024017aac7130941067", func := "intarsia/intarsialaw02.SumGoes", spec := "sumGoes", apart := false }
def SumGoesSaid : Prop := sumGoesRow.holds Try.pinned (OpenSpec.ofChange sumGoesSpec)

/-- ITS FALSE NEIGHBOUR: 'it returns false'. Refute it at one input. -/
def sumGoesWrong : ChangeSpec := { name := "sumGoes", fn := fun _ => fun
  | [d1, d2] => { results := [.lit (.bool false)], args := [d1, d2] }
  | _ => none }
def SumGoesWrongFalsely : Prop := sumGoesRow.holds Try.pinned (OpenSpec.ofChange sumGoesWrong)

/-- 'intarsialaw02.SumLinear': WHATEVER THE INPUT: true; the input reads as it did. -/
def sumLinearSpec : ChangeSpec := { name := "sumLinear", fn := fun _ => fun
  | [d1, d2] => { results := [.lit (.bool true)], args := [d1, d2] }
  | _ => none }
def sumLinearRow : OpenClaim := { program := "ytoklhnncdpoljaa", sum := "32c88c1d3101c70c860d3a45cc71de811b8f74da74bfb024017aac7130941067", func := "intarsia/intarsialaw02.SumLinear", spec := "sumLinear", apart := false }
def SumLinearSaid : Prop := sumLinearRow.holds Try.pinned (OpenSpec.ofChange sumLinearSpec)

/-- ITS FALSE NEIGHBOUR: 'it returns false'. Refute it at one input. -/
def sumLinearWrong : ChangeSpec := { name := "sumLinear", fn := fun _ => fun
  | [d1, d2] => { results := [.lit (.bool false)], args := [d1, d2] }
  | _ => none }
def SumLinearWrongFalsely : Prop := sumLinearRow.holds Try.pinned (OpenSpec.ofChange sumLinearWrong)

/- THE SECOND FORM. 'bulk': how many values and letters a reading holds, each counted each time it is reached (what is shared counts as often as it is met; a slice's spare places count too). A statement '..UptoSaid' is the law's where the arguments, and the package variables that the reading takes, are together of bulk at most 1048576: NARROWER than '..Said'. Prove '..Said' where nothing that the law and all that it calls make is longer than what came in: it says more and counts as full. Else prove '..UptoSaid'. A law counts once. -/
mutual
def uptoBulk {H : Type} : DataW H → Nat
  | .lit (.string bytes) => bytes.length + 1
  | .lit _ => 1
  | .nil => 1
  | .ptr d => uptoBulk d + 1
  | .slice elems spare => uptoBulkAll elems + uptoBulkAll spare + 1
  | .agg parts => uptoBulkAll parts + 1
  | .iface _ d => uptoBulk d + 1
  | .map entries => uptoBulkEntries entries + 1
  | .held _ => 1
def uptoBulkAll {H : Type} : List (DataW H) → Nat
  | [] => 0
  | d :: r => uptoBulk d + uptoBulkAll r
def uptoBulkEntries {H : Type} : List (Lit × DataW H) → Nat
  | [] => 0
  | x :: r => uptoBulkEntry x + uptoBulkEntries r
def uptoBulkEntry {H : Type} : Lit × DataW H → Nat
  | (.string bytes, d) => bytes.length + uptoBulk d + 1
  | (_, d) => uptoBulk d + 1
 end
def uptoSmall : (H : Type) → List (DataW H) → Bool := fun _ ds => decide (uptoBulkAll ds ≤ 1048576)
def OpenSpec.upto (s : _root_.Go.ChangeSpec) : _root_.Go.OpenSpec := { _root_.Go.OpenSpec.ofChange s with cond := some uptoSmall }

/-- 'intarsialaw09.MixOfs', WHERE WHAT IT READS IS OF BULK AT MOST 1048576: true; the input reads as it did. -/
def mixOfsUptoRow : OpenClaim := { program := "ytoklhnncdpoljaa", sum := "32c88c1d3101c70c860d3a45cc71de811b8f74da74bfb024017aac7130941067", func := "intarsia/intarsialaw09.MixOfs", spec := "mixOfs", apart := false, narrowed := true }
def MixOfsUptoSaid : Prop := mixOfsUptoRow.holds Try.pinned (OpenSpec.upto mixOfsSpec)

/-- 'intarsialaw09.MixTops', WHERE WHAT IT READS IS OF BULK AT MOST 1048576: true; the input reads as it did. -/
def mixTopsUptoRow : OpenClaim := { program := "ytoklhnncdpoljaa", sum := "32c88c1d3101c70c860d3a45cc71de811b8f74da74bfb024017aac7130941067", func := "intarsia/intarsialaw09.MixTops", spec := "mixTops", apart := false, narrowed := true }
def MixTopsUptoSaid : Prop := mixTopsUptoRow.holds Try.pinned (OpenSpec.upto mixTopsSpec)

/-- 'intarsialaw09.MixDeeper', WHERE WHAT IT READS IS OF BULK AT MOST 1048576: true; the input reads as it did. -/
def mixDeeperUptoRow : OpenClaim := { program := "ytoklhnncdpoljaa", sum := "32c88c1d3101c70c860d3a45cc71de811b8f74da74bfb024017aac7130941067", func := "intarsia/intarsialaw09.MixDeeper", spec := "mixDeeper", apart := false, narrowed := true }
def MixDeeperUptoSaid : Prop := mixDeeperUptoRow.holds Try.pinned (OpenSpec.upto mixDeeperSpec)

/-- 'intarsialaw02.SumOfs', WHERE WHAT IT READS IS OF BULK AT MOST 1048576: true; the input reads as it did. -/
def sumOfsUptoRow : OpenClaim := { program := "ytoklhnncdpoljaa", sum := "32c88c1d3101c70c860d3a45cc71de811b8f74da74bfb024017aac7130941067", func := "intarsia/intarsialaw02.SumOfs", spec := "sumOfs", apart := false, narrowed := true }
def SumOfsUptoSaid : Prop := sumOfsUptoRow.holds Try.pinned (OpenSpec.upto sumOfsSpec)

/-- 'intarsialaw02.SumOpens', WHERE WHAT IT READS IS OF BULK AT MOST 1048576: true; the input reads as it did. -/
def sumOpensUptoRow : OpenClaim := { program := "ytoklhnncdpoljaa", sum := "32c88c1d3101c70c860d3a45cc71de811b8f74da74bfb024017aac7130941067", func := "intarsia/intarsialaw02.SumOpens", spec := "sumOpens", apart := false, narrowed := true }
def SumOpensUptoSaid : Prop := sumOpensUptoRow.holds Try.pinned (OpenSpec.upto sumOpensSpec)

/-- 'intarsialaw02.SumTurned', WHERE WHAT IT READS IS OF BULK AT MOST 1048576: true; the input reads as it did. -/
def sumTurnedUptoRow : OpenClaim := { program := "ytoklhnncdpoljaa", sum := "32c88c1d3101c70c860d3a45cc71de811b8f74da74bfb024017aac7130941067", func := "intarsia/intarsialaw02.SumTurned", spec := "sumTurned", apart := false, narrowed := true }
def SumTurnedUptoSaid : Prop := sumTurnedUptoRow.holds Try.pinned (OpenSpec.upto sumTurnedSpec)

/-- 'intarsialaw02.SumGoes', WHERE WHAT IT READS IS OF BULK AT MOST 1048576: true; the input reads as it did. -/
def sumGoesUptoRow : OpenClaim := { program := "ytoklhnncdpoljaa", sum := "32c88c1d3101c70c860d3a45cc71de811b8f74da74bfb024017aac7130941067", func := "intarsia/intarsialaw02.SumGoes", spec := "sumGoes", apart := false, narrowed := true }
def SumGoesUptoSaid : Prop := sumGoesUptoRow.holds Try.pinned (OpenSpec.upto sumGoesSpec)

/-- 'intarsialaw02.SumLinear', WHERE WHAT IT READS IS OF BULK AT MOST 1048576: true; the input reads as it did. -/
def sumLinearUptoRow : OpenClaim := { program := "ytoklhnncdpoljaa", sum := "32c88c1d3101c70c860d3a45cc71de811b8f74da74bfb024017aac7130941067", func := "intarsia/intarsialaw02.SumLinear", spec := "sumLinear", apart := false, narrowed := true }
def SumLinearUptoSaid : Prop := sumLinearUptoRow.holds Try.pinned (OpenSpec.upto sumLinearSpec)

end Rows
end Go.Proofs.Ytoklhnncdpoljaa
