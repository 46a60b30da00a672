/- Walks of the functions that the law EventNames reaches: laid by a program out of the translation, some blocks by hand. Conditions: what each Lean function comes to. -/
import Derived.Test.YtecfnbnngdpfiaaProg
import Derived.Below
import Derived.Deep.Draws
import Derived.Deep.AppendLies
import Derived.Maps.AppendAt
import Derived.OwnWalk
import Derived.Laws.BytesArg
import Derived.Laws.MakeOwn
import Derived.Laws.OwnMore
import Derived.Deep.OwnRows
import Derived.Tactics
import Derived.Lib.ConvBytes
import Derived.Laws.Slices
import Derived.WalkKit
import Derived.KernelRfl
import Derived.RowKit3
import Derived.Deep.LoopGhost
import Derived.Deep.QuietTactic
import Derived.BigQuiet
import Derived.WideLaws
import Derived.Deep.DeepCutAuto
import Derived.Deep.CutBlock
import Derived.Deep.RegionHeld3
import Derived.Laws.Rows
import Derived.Lib.AppendStr
import Derived.ArgAppend
import Derived.Laws.IdiomCopy
import Derived.OrdersHeld
import Derived.Laws.BitsLemmas
import Derived.RowKit
import Derived.Test.YtecfnbnngdpfiaaWWords
import Derived.Test.YtecfnbnngdpfiaaWLast
import Derived.Test.YtecfnbnngdpfiaaWTab
import Derived.Test.YtecfnbnngdpfiaaWFour
import Derived.Test.YtecfnbnngdpfiaaWQPut
import Derived.Test.YtecfnbnngdpfiaaWApart
import Derived.Test.YtecfnbnngdpfiaaWArr
import Derived.Test.YtecfnbnngdpfiaaWZeros
import Derived.Test.YtecfnbnngdpfiaaWFoot
import Derived.Test.YtecfnbnngdpfiaaWKept
import Derived.Test.YtecfnbnngdpfiaaWShare
import Derived.Test.YtecfnbnngdpfiaaWN
import Derived.Test.YtecfnbnngdpfiaaWFootNe
import Derived.Test.YtecfnbnngdpfiaaWAt
import Derived.Test.YtecfnbnngdpfiaaWEqStruct
import Derived.Test.YtecfnbnngdpfiaaWRepsOne
import Derived.Test.YtecfnbnngdpfiaaWInv
import Derived.Test.YtecfnbnngdpfiaaWInvWords
import Derived.Test.YtecfnbnngdpfiaaWGuard
import Derived.Test.YtecfnbnngdpfiaaWNEv
import Derived.Test.YtecfnbnngdpfiaaWMore
namespace Go.Proofs.Ytecfnbnngdpfiaa.PEventNames
open Go.RowKit Go.Proofs.YtecfnbnngdpfiaaW.PrintWords Go.Proofs.YtecfnbnngdpfiaaW.PrintLast Go.Proofs.YtecfnbnngdpfiaaW.PrintMore
attribute [local go_sem] max2_int min2_int max_two min_two max_three min_three max_four min_four   -- for this text's walks alone
set_option linter.unusedVariables false
set_option linter.unusedSimpArgs false



def errW : Option Int → Value
  | none => .nilIface
  | some c => .iface 0 (.int .i64 c)
theorem errW_none : errW none = .nilIface := rfl
theorem errW_some (c : Int) : errW (some c) = .iface 0 (.int .i64 c) := rfl

theorem info3 : (Try.prog.info? 3).map (fun i => (i.zero, i.size, i.bytes)) = some (some (.int .i64 0), 1, 8) := by kernel_rfl
-- the values' own types

end Go.Proofs.Ytecfnbnngdpfiaa.PEventNames
