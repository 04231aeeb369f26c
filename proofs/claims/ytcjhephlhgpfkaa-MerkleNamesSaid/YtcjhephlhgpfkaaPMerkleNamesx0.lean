-- PRINTED BY print.sh 35421559b90ae4d0a3588c463048766b98c2df88dd9212a6774a882060cdf62d: not written by this session
import Derived.Test.YtcjhephlhgpfkaaProg
import Derived.Below
import Derived.Deep.Draws
import Derived.Deep.AppendLies
import Derived.Maps.AppendAt
import Derived.OwnWalk
import Derived.Laws.BytesArg
import Derived.Laws.MakeOwn
import Derived.Laws.OwnMore
import Derived.Deep.OwnRows
import Derived.Tactics
import Derived.Lib.ConvBytes
import Derived.Laws.Slices
import Derived.WalkKit
import Derived.KernelRfl
import Derived.RowKit3
import Derived.Deep.LoopGhost
import Derived.Deep.QuietTactic
import Derived.BigQuiet
import Derived.WideLaws
import Derived.Deep.DeepCutAuto
import Derived.Deep.CutBlock
import Derived.Deep.RegionHeld3
import Derived.Laws.Rows
import Derived.Lib.AppendStr
import Derived.ArgAppend
import Derived.Laws.IdiomCopy
import Derived.OrdersHeld
import Derived.Laws.BitsLemmas
import Derived.RowKit
import Derived.Test.YtcjhephlhgpfkaaWWords
import Derived.Test.YtcjhephlhgpfkaaWLast
import Derived.Test.YtcjhephlhgpfkaaWTab
import Derived.Test.YtcjhephlhgpfkaaWFour
import Derived.Test.YtcjhephlhgpfkaaWQPut
import Derived.Test.YtcjhephlhgpfkaaWApart
import Derived.Test.YtcjhephlhgpfkaaWArr
import Derived.Test.YtcjhephlhgpfkaaWZeros
import Derived.Test.YtcjhephlhgpfkaaWFoot
import Derived.Test.YtcjhephlhgpfkaaWKept
import Derived.Test.YtcjhephlhgpfkaaWShare
import Derived.Test.YtcjhephlhgpfkaaWN
import Derived.Test.YtcjhephlhgpfkaaWFootNe
import Derived.Test.YtcjhephlhgpfkaaWAt
import Derived.Test.YtcjhephlhgpfkaaWEqStruct
import Derived.Test.YtcjhephlhgpfkaaWRepsOne
import Derived.Test.YtcjhephlhgpfkaaWInv
import Derived.Test.YtcjhephlhgpfkaaWInvWords
import Derived.Test.YtcjhephlhgpfkaaWGuard
import Derived.Test.YtcjhephlhgpfkaaWNEv
import Derived.Test.YtcjhephlhgpfkaaWMore
namespace Go.Proofs.Ytcjhephlhgpfkaa.PMerkleNames
open Go.RowKit Go.Proofs.YtcjhephlhgpfkaaW.PrintWords Go.Proofs.YtcjhephlhgpfkaaW.PrintLast Go.Proofs.YtcjhephlhgpfkaaW.PrintMore
attribute [local go_sem] max2_int min2_int max_two min_two max_three min_three max_four min_four   -- for this text's walks alone
set_option linter.unusedVariables false
set_option linter.unusedSimpArgs false



def errW : Option Int → Value
  | none => .nilIface
  | some c => .iface 0 (.int .i64 c)
theorem errW_none : errW none = .nilIface := rfl
theorem errW_some (c : Int) : errW (some c) = .iface 0 (.int .i64 c) := rfl

theorem info5 : (Try.prog.info? 5).map (fun i => (i.zero, i.size, i.bytes)) = some (some (.int .u8 0), 1, 1) := by kernel_rfl
theorem info43 : (Try.prog.info? 43).map (fun i => (i.zero, i.size, i.bytes)) = some (some (.int .u64 0), 1, 8) := by kernel_rfl
-- the values' own types

end Go.Proofs.Ytcjhephlhgpfkaa.PMerkleNames
