/- Printed by a program of this session (hook.py, by way of the kit's print): the functions as Lean functions, each with the proof that the Go code comes to its answers; conditions: as each theorem states. -/
import Derived.Test.YtidilhnjfdkmpaaProg
import Derived.Below
import Derived.Deep.Draws
import Derived.Deep.AppendLies
import Derived.Maps.AppendAt
import Derived.OwnWalk
import Derived.Laws.BytesArg
import Derived.Laws.MakeOwn
import Derived.Laws.OwnMore
import Derived.Deep.OwnRows
import Derived.Tactics
import Derived.Lib.ConvBytes
import Derived.Laws.Slices
import Derived.WalkKit
import Derived.KernelRfl
import Derived.RowKit3
import Derived.Deep.LoopGhost
import Derived.Deep.QuietTactic
import Derived.BigQuiet
import Derived.WideLaws
import Derived.Deep.DeepCutAuto
import Derived.Deep.CutBlock
import Derived.Deep.RegionHeld3
import Derived.Laws.Rows
import Derived.Lib.AppendStr
import Derived.ArgAppend
import Derived.Laws.IdiomCopy
import Derived.OrdersHeld
import Derived.Laws.BitsLemmas
import Derived.RowKit
import Derived.Test.YtidilhnjfdkmpaaHk
import Derived.Test.YtidilhnjfdkmpaaHk2
import Derived.Test.YtidilhnjfdkmpaaTyMailA
import Derived.Test.YtidilhnjfdkmpaaExt11
import Derived.Test.YtidilhnjfdkmpaaExt11b
import Derived.Test.YtidilhnjfdkmpaaWWords
import Derived.Test.YtidilhnjfdkmpaaWLast
import Derived.Test.YtidilhnjfdkmpaaWTab
import Derived.Test.YtidilhnjfdkmpaaWFour
import Derived.Test.YtidilhnjfdkmpaaWQPut
import Derived.Test.YtidilhnjfdkmpaaWApart
import Derived.Test.YtidilhnjfdkmpaaWArr
import Derived.Test.YtidilhnjfdkmpaaWZeros
import Derived.Test.YtidilhnjfdkmpaaWFoot
import Derived.Test.YtidilhnjfdkmpaaWKept
import Derived.Test.YtidilhnjfdkmpaaWShare
import Derived.Test.YtidilhnjfdkmpaaWN
import Derived.Test.YtidilhnjfdkmpaaWFootNe
import Derived.Test.YtidilhnjfdkmpaaWAt
import Derived.Test.YtidilhnjfdkmpaaWEqStruct
import Derived.Test.YtidilhnjfdkmpaaWRepsOne
import Derived.Test.YtidilhnjfdkmpaaWInv
import Derived.Test.YtidilhnjfdkmpaaWInvWords
import Derived.Test.YtidilhnjfdkmpaaWGuard
import Derived.Test.YtidilhnjfdkmpaaWNEv
import Derived.Test.YtidilhnjfdkmpaaWMore
namespace Go.Proofs.Ytidilhnjfdkmpaa.PMailA
open Go.RowKit Go.Proofs.YtidilhnjfdkmpaaW.PrintWords Go.Proofs.YtidilhnjfdkmpaaW.PrintLast Go.Proofs.YtidilhnjfdkmpaaW.PrintMore
attribute [local go_sem] max2_int min2_int max_two min_two max_three min_three max_four min_four   -- for this text's walks alone
set_option linter.unusedVariables false
set_option linter.unusedSimpArgs false



def errW : Option Int → Value
  | none => .nilIface
  | some c => .iface 0 (.int .i64 c)
theorem errW_none : errW none = .nilIface := rfl
theorem errW_some (c : Int) : errW (some c) = .iface 0 (.int .i64 c) := rfl

theorem info5 : (Try.prog.info? 5).map (fun i => (i.zero, i.size, i.bytes)) = some (some (.int .u8 0), 1, 1) := by kernel_rfl
theorem info9 : (Try.prog.info? 9).map (fun i => (i.zero, i.size, i.bytes)) = some (some (.string ⟨#[]⟩), 1, 16) := by kernel_rfl
theorem info43 : (Try.prog.info? 43).map (fun i => (i.zero, i.size, i.bytes)) = some (some (.agg #[(.string ⟨#[]⟩), (.string ⟨#[]⟩)]), 2, 32) := by kernel_rfl
end Go.Proofs.Ytidilhnjfdkmpaa.PMailA
