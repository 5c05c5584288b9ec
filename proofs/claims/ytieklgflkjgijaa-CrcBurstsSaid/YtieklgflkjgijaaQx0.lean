-- Made by a program of this session (pr.py), out of the kit's printer with contracts of its own: Lean checks it.
import Derived.Test.YtieklgflkjgijaaProg
import Derived.Below
import Derived.Deep.Draws
import Derived.Deep.AppendLies
import Derived.Maps.AppendAt
import Derived.OwnWalk
import Derived.Laws.BytesArg
import Derived.Laws.MakeOwn
import Derived.Laws.OwnMore
import Derived.Deep.OwnRows
import Derived.Tactics
import Derived.Lib.ConvBytes
import Derived.Laws.Slices
import Derived.WalkKit
import Derived.KernelRfl
import Derived.RowKit3
import Derived.Deep.LoopGhost
import Derived.Deep.QuietTactic
import Derived.BigQuiet
import Derived.WideLaws
import Derived.Deep.DeepCutAuto
import Derived.Deep.CutBlock
import Derived.Deep.RegionHeld3
import Derived.Laws.Rows
import Derived.Lib.AppendStr
import Derived.ArgAppend
import Derived.Laws.IdiomCopy
import Derived.OrdersHeld
import Derived.Laws.BitsLemmas
import Derived.RowKit
import Derived.Test.YtieklgflkjgijaaCrcG
import Derived.Test.YtieklgflkjgijaaWWords
import Derived.Test.YtieklgflkjgijaaWLast
import Derived.Test.YtieklgflkjgijaaWTab
import Derived.Test.YtieklgflkjgijaaWFour
import Derived.Test.YtieklgflkjgijaaWQPut
import Derived.Test.YtieklgflkjgijaaWApart
import Derived.Test.YtieklgflkjgijaaWArr
import Derived.Test.YtieklgflkjgijaaWZeros
import Derived.Test.YtieklgflkjgijaaWFoot
import Derived.Test.YtieklgflkjgijaaWKept
import Derived.Test.YtieklgflkjgijaaWShare
import Derived.Test.YtieklgflkjgijaaWN
import Derived.Test.YtieklgflkjgijaaWFootNe
import Derived.Test.YtieklgflkjgijaaWAt
import Derived.Test.YtieklgflkjgijaaWEqStruct
import Derived.Test.YtieklgflkjgijaaWRepsOne
import Derived.Test.YtieklgflkjgijaaWInv
import Derived.Test.YtieklgflkjgijaaWInvWords
import Derived.Test.YtieklgflkjgijaaWGuard
import Derived.Test.YtieklgflkjgijaaWNEv
import Derived.Test.YtieklgflkjgijaaWMore
namespace Go.Proofs.Ytieklgflkjgijaa.Q
attribute [local go_sem high] Given.unary_xor_u32
open Go.RowKit Go.Proofs.YtieklgflkjgijaaW.PrintWords Go.Proofs.YtieklgflkjgijaaW.PrintLast Go.Proofs.YtieklgflkjgijaaW.PrintMore
attribute [local go_sem] max2_int min2_int max_two min_two max_three min_three max_four min_four   -- for this text's walks alone
set_option linter.unusedVariables false
set_option linter.unusedSimpArgs false



def errW : Option Int → Value
  | none => .nilIface
  | some c => .iface 0 (.int .i64 c)
theorem errW_none : errW none = .nilIface := rfl
theorem errW_some (c : Int) : errW (some c) = .iface 0 (.int .i64 c) := rfl

theorem info5 : (Try.prog.info? 5).map (fun i => (i.zero, i.size, i.bytes)) = some (some (.int .u8 0), 1, 1) := by kernel_rfl
-- the values' own types

end Go.Proofs.Ytieklgflkjgijaa.Q
