-- PRINTED BY print.sh 35421559b90ae4d0a3588c463048766b98c2df88dd9212a6774a882060cdf62d: not written by this session
import Derived.Test.YtaaffhghpealjaaProg
import Derived.Below
import Derived.Deep.Draws
import Derived.Deep.AppendLies
import Derived.Maps.AppendAt
import Derived.OwnWalk
import Derived.Laws.BytesArg
import Derived.Laws.MakeOwn
import Derived.Laws.OwnMore
import Derived.Deep.OwnRows
import Derived.Tactics
import Derived.Lib.ConvBytes
import Derived.Laws.Slices
import Derived.WalkKit
import Derived.KernelRfl
import Derived.RowKit3
import Derived.Deep.LoopGhost
import Derived.Deep.QuietTactic
import Derived.BigQuiet
import Derived.WideLaws
import Derived.Deep.DeepCutAuto
import Derived.Deep.CutBlock
import Derived.Deep.RegionHeld3
import Derived.Laws.Rows
import Derived.Lib.AppendStr
import Derived.ArgAppend
import Derived.Laws.IdiomCopy
import Derived.OrdersHeld
import Derived.Laws.BitsLemmas
import Derived.RowKit
import Derived.Test.YtaaffhghpealjaaWWords
import Derived.Test.YtaaffhghpealjaaWLast
import Derived.Test.YtaaffhghpealjaaWTab
import Derived.Test.YtaaffhghpealjaaWFour
import Derived.Test.YtaaffhghpealjaaWQPut
import Derived.Test.YtaaffhghpealjaaWApart
import Derived.Test.YtaaffhghpealjaaWArr
import Derived.Test.YtaaffhghpealjaaWZeros
import Derived.Test.YtaaffhghpealjaaWFoot
import Derived.Test.YtaaffhghpealjaaWKept
import Derived.Test.YtaaffhghpealjaaWShare
import Derived.Test.YtaaffhghpealjaaWN
import Derived.Test.YtaaffhghpealjaaWFootNe
import Derived.Test.YtaaffhghpealjaaWAt
import Derived.Test.YtaaffhghpealjaaWEqStruct
import Derived.Test.YtaaffhghpealjaaWRepsOne
import Derived.Test.YtaaffhghpealjaaWInv
import Derived.Test.YtaaffhghpealjaaWInvWords
import Derived.Test.YtaaffhghpealjaaWGuard
import Derived.Test.YtaaffhghpealjaaWNEv
import Derived.Test.YtaaffhghpealjaaWMore
namespace Go.Proofs.Ytaaffhghpealjaa.PFnExactLinkNew
open Go.RowKit Go.Proofs.YtaaffhghpealjaaW.PrintWords Go.Proofs.YtaaffhghpealjaaW.PrintLast Go.Proofs.YtaaffhghpealjaaW.PrintMore
attribute [local go_sem] max2_int min2_int max_two min_two max_three min_three max_four min_four   -- for this text's walks alone
set_option linter.unusedVariables false
set_option linter.unusedSimpArgs false



def errW : Option Int → Value
  | none => .nilIface
  | some c => .iface 0 (.int .i64 c)
theorem errW_none : errW none = .nilIface := rfl
theorem errW_some (c : Int) : errW (some c) = .iface 0 (.int .i64 c) := rfl

theorem info5 : (Try.prog.info? 5).map (fun i => (i.zero, i.size, i.bytes)) = some (some (.int .u8 0), 1, 1) := by kernel_rfl
-- the values' own types

end Go.Proofs.Ytaaffhghpealjaa.PFnExactLinkNew
