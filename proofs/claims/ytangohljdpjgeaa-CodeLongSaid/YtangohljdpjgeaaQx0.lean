-- Made by a program of this session (pr.py), out of the kit's printer with contracts of its own: Lean checks it.
import Derived.Test.YtangohljdpjgeaaProg
import Derived.Below
import Derived.Deep.Draws
import Derived.Deep.AppendLies
import Derived.Maps.AppendAt
import Derived.OwnWalk
import Derived.Laws.BytesArg
import Derived.Laws.MakeOwn
import Derived.Laws.OwnMore
import Derived.Deep.OwnRows
import Derived.Tactics
import Derived.Lib.ConvBytes
import Derived.Laws.Slices
import Derived.WalkKit
import Derived.KernelRfl
import Derived.RowKit3
import Derived.Deep.LoopGhost
import Derived.Deep.QuietTactic
import Derived.BigQuiet
import Derived.WideLaws
import Derived.Deep.DeepCutAuto
import Derived.Deep.CutBlock
import Derived.Deep.RegionHeld3
import Derived.Laws.Rows
import Derived.Lib.AppendStr
import Derived.ArgAppend
import Derived.Laws.IdiomCopy
import Derived.OrdersHeld
import Derived.Laws.BitsLemmas
import Derived.RowKit
import Derived.Test.YtangohljdpjgeaaCodeG
import Derived.Test.YtangohljdpjgeaaWWords
import Derived.Test.YtangohljdpjgeaaWLast
import Derived.Test.YtangohljdpjgeaaWTab
import Derived.Test.YtangohljdpjgeaaWFour
import Derived.Test.YtangohljdpjgeaaWQPut
import Derived.Test.YtangohljdpjgeaaWApart
import Derived.Test.YtangohljdpjgeaaWArr
import Derived.Test.YtangohljdpjgeaaWZeros
import Derived.Test.YtangohljdpjgeaaWFoot
import Derived.Test.YtangohljdpjgeaaWKept
import Derived.Test.YtangohljdpjgeaaWShare
import Derived.Test.YtangohljdpjgeaaWN
import Derived.Test.YtangohljdpjgeaaWFootNe
import Derived.Test.YtangohljdpjgeaaWAt
import Derived.Test.YtangohljdpjgeaaWEqStruct
import Derived.Test.YtangohljdpjgeaaWRepsOne
import Derived.Test.YtangohljdpjgeaaWInv
import Derived.Test.YtangohljdpjgeaaWInvWords
import Derived.Test.YtangohljdpjgeaaWGuard
import Derived.Test.YtangohljdpjgeaaWNEv
import Derived.Test.YtangohljdpjgeaaWMore
namespace Go.Proofs.Ytangohljdpjgeaa.Q
open Go.RowKit Go.Proofs.YtangohljdpjgeaaW.PrintWords Go.Proofs.YtangohljdpjgeaaW.PrintLast Go.Proofs.YtangohljdpjgeaaW.PrintMore
attribute [local go_sem] max2_int min2_int max_two min_two max_three min_three max_four min_four   -- for this text's walks alone
set_option linter.unusedVariables false
set_option linter.unusedSimpArgs false



def errW : Option Int → Value
  | none => .nilIface
  | some c => .iface 0 (.int .i64 c)
theorem errW_none : errW none = .nilIface := rfl
theorem errW_some (c : Int) : errW (some c) = .iface 0 (.int .i64 c) := rfl

theorem info5 : (Try.prog.info? 5).map (fun i => (i.zero, i.size, i.bytes)) = some (some (.int .u8 0), 1, 1) := by kernel_rfl
-- the values' own types

end Go.Proofs.Ytangohljdpjgeaa.Q
