-- printed by a program of the session's own; Lean checks it
import Derived.Test.YtgbpmhkaobjnpaaProg
import Derived.Below
import Derived.Deep.Draws
import Derived.Deep.AppendLies
import Derived.Maps.AppendAt
import Derived.OwnWalk
import Derived.Laws.BytesArg
import Derived.Laws.MakeOwn
import Derived.Laws.OwnMore
import Derived.Deep.OwnRows
import Derived.Tactics
import Derived.Lib.ConvBytes
import Derived.Laws.Slices
import Derived.WalkKit
import Derived.KernelRfl
import Derived.RowKit3
import Derived.Deep.LoopGhost
import Derived.Deep.QuietTactic
import Derived.BigQuiet
import Derived.WideLaws
import Derived.Deep.DeepCutAuto
import Derived.Deep.CutBlock
import Derived.Deep.RegionHeld3
import Derived.Laws.Rows
import Derived.Lib.AppendStr
import Derived.ArgAppend
import Derived.Laws.IdiomCopy
import Derived.OrdersHeld
import Derived.Laws.BitsLemmas
import Derived.RowKit
import Derived.Test.YtgbpmhkaobjnpaaMine
import Derived.Test.YtgbpmhkaobjnpaaShelf
import Derived.Test.YtgbpmhkaobjnpaaWWords
import Derived.Test.YtgbpmhkaobjnpaaWLast
import Derived.Test.YtgbpmhkaobjnpaaWTab
import Derived.Test.YtgbpmhkaobjnpaaWFour
import Derived.Test.YtgbpmhkaobjnpaaWQPut
import Derived.Test.YtgbpmhkaobjnpaaWApart
import Derived.Test.YtgbpmhkaobjnpaaWArr
import Derived.Test.YtgbpmhkaobjnpaaWZeros
import Derived.Test.YtgbpmhkaobjnpaaWFoot
import Derived.Test.YtgbpmhkaobjnpaaWKept
import Derived.Test.YtgbpmhkaobjnpaaWShare
import Derived.Test.YtgbpmhkaobjnpaaWN
import Derived.Test.YtgbpmhkaobjnpaaWFootNe
import Derived.Test.YtgbpmhkaobjnpaaWAt
import Derived.Test.YtgbpmhkaobjnpaaWEqStruct
import Derived.Test.YtgbpmhkaobjnpaaWRepsOne
import Derived.Test.YtgbpmhkaobjnpaaWInv
import Derived.Test.YtgbpmhkaobjnpaaWInvWords
import Derived.Test.YtgbpmhkaobjnpaaWGuard
import Derived.Test.YtgbpmhkaobjnpaaWNEv
import Derived.Test.YtgbpmhkaobjnpaaWMore
namespace Go.Proofs.Ytgbpmhkaobjnpaa.Q
open Go.RowKit Go.Proofs.YtgbpmhkaobjnpaaW.PrintWords Go.Proofs.YtgbpmhkaobjnpaaW.PrintLast Go.Proofs.YtgbpmhkaobjnpaaW.PrintMore
attribute [local go_sem] max2_int min2_int max_two min_two max_three min_three max_four min_four   -- for this text's walks alone
set_option linter.unusedVariables false
set_option linter.unusedSimpArgs false



def errW : Option Int → Value
  | none => .nilIface
  | some c => .iface 0 (.int .i64 c)
theorem errW_none : errW none = .nilIface := rfl
theorem errW_some (c : Int) : errW (some c) = .iface 0 (.int .i64 c) := rfl

theorem info5 : (Try.prog.info? 5).map (fun i => (i.zero, i.size, i.bytes)) = some (some (.int .u8 0), 1, 1) := by kernel_rfl
theorem info9 : (Try.prog.info? 9).map (fun i => (i.zero, i.size, i.bytes)) = some (some (.string ⟨#[]⟩), 1, 16) := by kernel_rfl
-- the values' own types

end Go.Proofs.Ytgbpmhkaobjnpaa.Q
