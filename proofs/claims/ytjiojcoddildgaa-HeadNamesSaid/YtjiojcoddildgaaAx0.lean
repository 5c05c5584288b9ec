-- Made by a program of this session (pr.py), out of the kit's printer with contracts of its own: Lean checks it.
import Derived.Test.YtjiojcoddildgaaProg
import Derived.Below
import Derived.Deep.Draws
import Derived.Deep.AppendLies
import Derived.Maps.AppendAt
import Derived.OwnWalk
import Derived.Laws.BytesArg
import Derived.Laws.MakeOwn
import Derived.Laws.OwnMore
import Derived.Deep.OwnRows
import Derived.Tactics
import Derived.Lib.ConvBytes
import Derived.Laws.Slices
import Derived.WalkKit
import Derived.KernelRfl
import Derived.RowKit3
import Derived.Deep.LoopGhost
import Derived.Deep.QuietTactic
import Derived.BigQuiet
import Derived.WideLaws
import Derived.Deep.DeepCutAuto
import Derived.Deep.CutBlock
import Derived.Deep.RegionHeld3
import Derived.Laws.Rows
import Derived.Lib.AppendStr
import Derived.ArgAppend
import Derived.Laws.IdiomCopy
import Derived.OrdersHeld
import Derived.Laws.BitsLemmas
import Derived.RowKit
import Derived.Test.YtjiojcoddildgaaCrcG
import Derived.Test.YtjiojcoddildgaaWWords
import Derived.Test.YtjiojcoddildgaaWLast
import Derived.Test.YtjiojcoddildgaaWTab
import Derived.Test.YtjiojcoddildgaaWFour
import Derived.Test.YtjiojcoddildgaaWQPut
import Derived.Test.YtjiojcoddildgaaWApart
import Derived.Test.YtjiojcoddildgaaWArr
import Derived.Test.YtjiojcoddildgaaWZeros
import Derived.Test.YtjiojcoddildgaaWFoot
import Derived.Test.YtjiojcoddildgaaWKept
import Derived.Test.YtjiojcoddildgaaWShare
import Derived.Test.YtjiojcoddildgaaWN
import Derived.Test.YtjiojcoddildgaaWFootNe
import Derived.Test.YtjiojcoddildgaaWAt
import Derived.Test.YtjiojcoddildgaaWEqStruct
import Derived.Test.YtjiojcoddildgaaWRepsOne
import Derived.Test.YtjiojcoddildgaaWInv
import Derived.Test.YtjiojcoddildgaaWInvWords
import Derived.Test.YtjiojcoddildgaaWGuard
import Derived.Test.YtjiojcoddildgaaWNEv
import Derived.Test.YtjiojcoddildgaaWMore
namespace Go.Proofs.Ytjiojcoddildgaa.A
attribute [local go_sem high] Given.unary_xor_u32
open Go.RowKit Go.Proofs.YtjiojcoddildgaaW.PrintWords Go.Proofs.YtjiojcoddildgaaW.PrintLast Go.Proofs.YtjiojcoddildgaaW.PrintMore
attribute [local go_sem] max2_int min2_int max_two min_two max_three min_three max_four min_four   -- for this text's walks alone
set_option linter.unusedVariables false
set_option linter.unusedSimpArgs false



def errW : Option Int → Value
  | none => .nilIface
  | some c => .iface 0 (.int .i64 c)
theorem errW_none : errW none = .nilIface := rfl
theorem errW_some (c : Int) : errW (some c) = .iface 0 (.int .i64 c) := rfl

-- the values' own types

end Go.Proofs.Ytjiojcoddildgaa.A
