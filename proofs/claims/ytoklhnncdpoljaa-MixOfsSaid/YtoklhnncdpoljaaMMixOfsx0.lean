/- Written by a program of this session (wip/tools/myprint.py), over the kit's print: the functions that MixOfs reaches, and their contracts. -/
import Derived.Test.YtoklhnncdpoljaaProg
import Derived.Below
import Derived.Deep.Draws
import Derived.Deep.AppendLies
import Derived.Maps.AppendAt
import Derived.OwnWalk
import Derived.Laws.BytesArg
import Derived.Laws.MakeOwn
import Derived.Laws.OwnMore
import Derived.Deep.OwnRows
import Derived.Tactics
import Derived.Lib.ConvBytes
import Derived.Laws.Slices
import Derived.WalkKit
import Derived.KernelRfl
import Derived.RowKit3
import Derived.Deep.LoopGhost
import Derived.Deep.QuietTactic
import Derived.BigQuiet
import Derived.WideLaws
import Derived.Deep.DeepCutAuto
import Derived.Deep.CutBlock
import Derived.Deep.RegionHeld3
import Derived.Laws.Rows
import Derived.Lib.AppendStr
import Derived.ArgAppend
import Derived.Laws.IdiomCopy
import Derived.OrdersHeld
import Derived.Laws.BitsLemmas
import Derived.RowKit
import Derived.Test.YtoklhnncdpoljaaWWords
import Derived.Test.YtoklhnncdpoljaaWLast
import Derived.Test.YtoklhnncdpoljaaWTab
import Derived.Test.YtoklhnncdpoljaaWFour
import Derived.Test.YtoklhnncdpoljaaWQPut
import Derived.Test.YtoklhnncdpoljaaWApart
import Derived.Test.YtoklhnncdpoljaaWArr
import Derived.Test.YtoklhnncdpoljaaWZeros
import Derived.Test.YtoklhnncdpoljaaWFoot
import Derived.Test.YtoklhnncdpoljaaWKept
import Derived.Test.YtoklhnncdpoljaaWShare
import Derived.Test.YtoklhnncdpoljaaWN
import Derived.Test.YtoklhnncdpoljaaWFootNe
import Derived.Test.YtoklhnncdpoljaaWAt
import Derived.Test.YtoklhnncdpoljaaWEqStruct
import Derived.Test.YtoklhnncdpoljaaWRepsOne
import Derived.Test.YtoklhnncdpoljaaWInv
import Derived.Test.YtoklhnncdpoljaaWInvWords
import Derived.Test.YtoklhnncdpoljaaWGuard
import Derived.Test.YtoklhnncdpoljaaWNEv
import Derived.Test.YtoklhnncdpoljaaWMore
namespace Go.Proofs.Ytoklhnncdpoljaa.MMixOfs
open Go.RowKit Go.Proofs.YtoklhnncdpoljaaW.PrintWords Go.Proofs.YtoklhnncdpoljaaW.PrintLast Go.Proofs.YtoklhnncdpoljaaW.PrintMore
attribute [local go_sem] max2_int min2_int max_two min_two max_three min_three max_four min_four   -- for this text's walks alone
set_option linter.unusedVariables false
set_option linter.unusedSimpArgs false



def errW : Option Int → Value
  | none => .nilIface
  | some c => .iface 0 (.int .i64 c)
theorem errW_none : errW none = .nilIface := rfl
theorem errW_some (c : Int) : errW (some c) = .iface 0 (.int .i64 c) := rfl

-- the values' own types

end Go.Proofs.Ytoklhnncdpoljaa.MMixOfs
