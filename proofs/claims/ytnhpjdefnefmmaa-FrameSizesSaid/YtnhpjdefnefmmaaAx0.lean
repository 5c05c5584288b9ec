-- Made by a program of this session (pr.py), out of the kit's printer with contracts of its own: Lean checks it.
import Derived.Test.YtnhpjdefnefmmaaProg
import Derived.Below
import Derived.Deep.Draws
import Derived.Deep.AppendLies
import Derived.Maps.AppendAt
import Derived.OwnWalk
import Derived.Laws.BytesArg
import Derived.Laws.MakeOwn
import Derived.Laws.OwnMore
import Derived.Deep.OwnRows
import Derived.Tactics
import Derived.Lib.ConvBytes
import Derived.Laws.Slices
import Derived.WalkKit
import Derived.KernelRfl
import Derived.RowKit3
import Derived.Deep.LoopGhost
import Derived.Deep.QuietTactic
import Derived.BigQuiet
import Derived.WideLaws
import Derived.Deep.DeepCutAuto
import Derived.Deep.CutBlock
import Derived.Deep.RegionHeld3
import Derived.Laws.Rows
import Derived.Lib.AppendStr
import Derived.ArgAppend
import Derived.Laws.IdiomCopy
import Derived.OrdersHeld
import Derived.Laws.BitsLemmas
import Derived.RowKit
import Derived.Test.YtnhpjdefnefmmaaCrcG
import Derived.Test.YtnhpjdefnefmmaaWWords
import Derived.Test.YtnhpjdefnefmmaaWLast
import Derived.Test.YtnhpjdefnefmmaaWTab
import Derived.Test.YtnhpjdefnefmmaaWFour
import Derived.Test.YtnhpjdefnefmmaaWQPut
import Derived.Test.YtnhpjdefnefmmaaWApart
import Derived.Test.YtnhpjdefnefmmaaWArr
import Derived.Test.YtnhpjdefnefmmaaWZeros
import Derived.Test.YtnhpjdefnefmmaaWFoot
import Derived.Test.YtnhpjdefnefmmaaWKept
import Derived.Test.YtnhpjdefnefmmaaWShare
import Derived.Test.YtnhpjdefnefmmaaWN
import Derived.Test.YtnhpjdefnefmmaaWFootNe
import Derived.Test.YtnhpjdefnefmmaaWAt
import Derived.Test.YtnhpjdefnefmmaaWEqStruct
import Derived.Test.YtnhpjdefnefmmaaWRepsOne
import Derived.Test.YtnhpjdefnefmmaaWInv
import Derived.Test.YtnhpjdefnefmmaaWInvWords
import Derived.Test.YtnhpjdefnefmmaaWGuard
import Derived.Test.YtnhpjdefnefmmaaWNEv
import Derived.Test.YtnhpjdefnefmmaaWMore
namespace Go.Proofs.Ytnhpjdefnefmmaa.A
attribute [local go_sem high] Given.unary_xor_u32
open Go.RowKit Go.Proofs.YtnhpjdefnefmmaaW.PrintWords Go.Proofs.YtnhpjdefnefmmaaW.PrintLast Go.Proofs.YtnhpjdefnefmmaaW.PrintMore
attribute [local go_sem] max2_int min2_int max_two min_two max_three min_three max_four min_four   -- for this text's walks alone
set_option linter.unusedVariables false
set_option linter.unusedSimpArgs false



def errW : Option Int → Value
  | none => .nilIface
  | some c => .iface 0 (.int .i64 c)
theorem errW_none : errW none = .nilIface := rfl
theorem errW_some (c : Int) : errW (some c) = .iface 0 (.int .i64 c) := rfl

theorem info5 : (Try.prog.info? 5).map (fun i => (i.zero, i.size, i.bytes)) = some (some (.int .u8 0), 1, 1) := by kernel_rfl
-- the values' own types

end Go.Proofs.Ytnhpjdefnefmmaa.A
