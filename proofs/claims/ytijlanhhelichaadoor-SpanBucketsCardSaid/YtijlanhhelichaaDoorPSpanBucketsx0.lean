/- What is proved: contracts of the functions that the law uses, each under the conditions that its theorem states. Written by a program of this session: texts of the kit's print, and texts by hand for the functions that the print does not take. -/
import Derived.Test.YtijlanhhelichaaDoorProg
import Derived.Below
import Derived.Deep.Draws
import Derived.Deep.AppendLies
import Derived.Maps.AppendAt
import Derived.OwnWalk
import Derived.Laws.BytesArg
import Derived.Laws.MakeOwn
import Derived.Laws.OwnMore
import Derived.Deep.OwnRows
import Derived.Tactics
import Derived.Lib.ConvBytes
import Derived.Laws.Slices
import Derived.WalkKit
import Derived.KernelRfl
import Derived.RowKit3
import Derived.Deep.LoopGhost
import Derived.Deep.QuietTactic
import Derived.BigQuiet
import Derived.WideLaws
import Derived.Deep.DeepCutAuto
import Derived.Deep.CutBlock
import Derived.Deep.RegionHeld3
import Derived.Laws.Rows
import Derived.Lib.AppendStr
import Derived.ArgAppend
import Derived.Laws.IdiomCopy
import Derived.OrdersHeld
import Derived.Laws.BitsLemmas
import Derived.RowKit
import Derived.Lib.ConvBytes
import Derived.Laws.BytesArg
import Derived.Lib.Hide
import Derived.Laws.StructEq
import Derived.Laws.Rows
import Derived.Test.YtijlanhhelichaaDoorXtra
import Derived.Test.YtijlanhhelichaaDoorWWords
import Derived.Test.YtijlanhhelichaaDoorWLast
import Derived.Test.YtijlanhhelichaaDoorWTab
import Derived.Test.YtijlanhhelichaaDoorWFour
import Derived.Test.YtijlanhhelichaaDoorWQPut
import Derived.Test.YtijlanhhelichaaDoorWApart
import Derived.Test.YtijlanhhelichaaDoorWArr
import Derived.Test.YtijlanhhelichaaDoorWZeros
import Derived.Test.YtijlanhhelichaaDoorWFoot
import Derived.Test.YtijlanhhelichaaDoorWKept
import Derived.Test.YtijlanhhelichaaDoorWShare
import Derived.Test.YtijlanhhelichaaDoorWN
import Derived.Test.YtijlanhhelichaaDoorWFootNe
import Derived.Test.YtijlanhhelichaaDoorWAt
import Derived.Test.YtijlanhhelichaaDoorWEqStruct
import Derived.Test.YtijlanhhelichaaDoorWRepsOne
import Derived.Test.YtijlanhhelichaaDoorWInv
import Derived.Test.YtijlanhhelichaaDoorWInvWords
import Derived.Test.YtijlanhhelichaaDoorWGuard
import Derived.Test.YtijlanhhelichaaDoorWNEv
import Derived.Test.YtijlanhhelichaaDoorWMore
namespace Go.Proofs.YtijlanhhelichaaDoor.PSpanBuckets
open Go.RowKit Go.Proofs.YtijlanhhelichaaDoorW.PrintWords Go.Proofs.YtijlanhhelichaaDoorW.PrintLast Go.Proofs.YtijlanhhelichaaDoorW.PrintMore
attribute [local go_sem] max2_int min2_int max_two min_two max_three min_three max_four min_four   -- for this text's walks alone
set_option linter.unusedVariables false
set_option linter.unusedSimpArgs false



def errW : Option Int → Value
  | none => .nilIface
  | some c => .iface 0 (.int .i64 c)
theorem errW_none : errW none = .nilIface := rfl
theorem errW_some (c : Int) : errW (some c) = .iface 0 (.int .i64 c) := rfl

theorem info3 : (Tryd.prog.info? 3).map (fun i => (i.zero, i.size, i.bytes)) = some (some (.int .i64 0), 1, 8) := by kernel_rfl
theorem info5 : (Tryd.prog.info? 5).map (fun i => (i.zero, i.size, i.bytes)) = some (some (.int .u8 0), 1, 1) := by kernel_rfl
-- the values' own types

end Go.Proofs.YtijlanhhelichaaDoor.PSpanBuckets
