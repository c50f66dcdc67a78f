/- Printed by a program of this session (hook.py, by way of the kit's print): the functions as Lean functions, each with the proof that the Go code comes to its answers; conditions: as each theorem states. -/
import Derived.Test.YtomflcpebnebpaaProg
import Derived.Below
import Derived.Deep.Draws
import Derived.Deep.AppendLies
import Derived.Maps.AppendAt
import Derived.OwnWalk
import Derived.Laws.BytesArg
import Derived.Laws.MakeOwn
import Derived.Laws.OwnMore
import Derived.Deep.OwnRows
import Derived.Tactics
import Derived.Lib.ConvBytes
import Derived.Laws.Slices
import Derived.WalkKit
import Derived.KernelRfl
import Derived.RowKit3
import Derived.Deep.LoopGhost
import Derived.Deep.QuietTactic
import Derived.BigQuiet
import Derived.WideLaws
import Derived.Deep.DeepCutAuto
import Derived.Deep.CutBlock
import Derived.Deep.RegionHeld3
import Derived.Laws.Rows
import Derived.Lib.AppendStr
import Derived.ArgAppend
import Derived.Laws.IdiomCopy
import Derived.OrdersHeld
import Derived.Laws.BitsLemmas
import Derived.RowKit
import Derived.Test.YtomflcpebnebpaaHk
import Derived.Test.YtomflcpebnebpaaHk2
import Derived.Test.YtomflcpebnebpaaExt05
import Derived.Test.YtomflcpebnebpaaExt05b
import Derived.Test.YtomflcpebnebpaaWWords
import Derived.Test.YtomflcpebnebpaaWLast
import Derived.Test.YtomflcpebnebpaaWTab
import Derived.Test.YtomflcpebnebpaaWFour
import Derived.Test.YtomflcpebnebpaaWQPut
import Derived.Test.YtomflcpebnebpaaWApart
import Derived.Test.YtomflcpebnebpaaWArr
import Derived.Test.YtomflcpebnebpaaWZeros
import Derived.Test.YtomflcpebnebpaaWFoot
import Derived.Test.YtomflcpebnebpaaWKept
import Derived.Test.YtomflcpebnebpaaWShare
import Derived.Test.YtomflcpebnebpaaWN
import Derived.Test.YtomflcpebnebpaaWFootNe
import Derived.Test.YtomflcpebnebpaaWAt
import Derived.Test.YtomflcpebnebpaaWEqStruct
import Derived.Test.YtomflcpebnebpaaWRepsOne
import Derived.Test.YtomflcpebnebpaaWInv
import Derived.Test.YtomflcpebnebpaaWInvWords
import Derived.Test.YtomflcpebnebpaaWGuard
import Derived.Test.YtomflcpebnebpaaWNEv
import Derived.Test.YtomflcpebnebpaaWMore
namespace Go.Proofs.Ytomflcpebnebpaa.PStr
open Go.RowKit Go.Proofs.YtomflcpebnebpaaW.PrintWords Go.Proofs.YtomflcpebnebpaaW.PrintLast Go.Proofs.YtomflcpebnebpaaW.PrintMore
attribute [local go_sem] max2_int min2_int max_two min_two max_three min_three max_four min_four   -- for this text's walks alone
set_option linter.unusedVariables false
set_option linter.unusedSimpArgs false



def errW : Option Int → Value
  | none => .nilIface
  | some c => .iface 0 (.int .i64 c)
theorem errW_none : errW none = .nilIface := rfl
theorem errW_some (c : Int) : errW (some c) = .iface 0 (.int .i64 c) := rfl

theorem info3 : (Try.prog.info? 3).map (fun i => (i.zero, i.size, i.bytes)) = some (some (.int .i64 0), 1, 8) := by kernel_rfl
theorem info5 : (Try.prog.info? 5).map (fun i => (i.zero, i.size, i.bytes)) = some (some (.int .u8 0), 1, 1) := by kernel_rfl
theorem info32 : (Try.prog.info? 32).map (fun i => (i.zero, i.size, i.bytes)) = some (some (.int .u32 0), 1, 4) := by kernel_rfl
-- the values' own types

end Go.Proofs.Ytomflcpebnebpaa.PStr
