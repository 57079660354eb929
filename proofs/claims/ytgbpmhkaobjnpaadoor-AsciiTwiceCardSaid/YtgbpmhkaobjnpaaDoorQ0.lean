-- printed by a program of the session's own; Lean checks it
import Derived.Test.YtgbpmhkaobjnpaaDoorProg
import Derived.Below
import Derived.Deep.Draws
import Derived.Deep.AppendLies
import Derived.Maps.AppendAt
import Derived.OwnWalk
import Derived.Laws.BytesArg
import Derived.Laws.MakeOwn
import Derived.Laws.OwnMore
import Derived.Deep.OwnRows
import Derived.Tactics
import Derived.Lib.ConvBytes
import Derived.Laws.Slices
import Derived.WalkKit
import Derived.KernelRfl
import Derived.RowKit3
import Derived.Deep.LoopGhost
import Derived.Deep.QuietTactic
import Derived.BigQuiet
import Derived.WideLaws
import Derived.Deep.DeepCutAuto
import Derived.Deep.CutBlock
import Derived.Deep.RegionHeld3
import Derived.Laws.Rows
import Derived.Lib.AppendStr
import Derived.ArgAppend
import Derived.Laws.IdiomCopy
import Derived.OrdersHeld
import Derived.Laws.BitsLemmas
import Derived.RowKit
import Derived.Test.YtgbpmhkaobjnpaaDoorMine
import Derived.Test.YtgbpmhkaobjnpaaDoorShelf
import Derived.Test.YtgbpmhkaobjnpaaDoorWWords
import Derived.Test.YtgbpmhkaobjnpaaDoorWLast
import Derived.Test.YtgbpmhkaobjnpaaDoorWTab
import Derived.Test.YtgbpmhkaobjnpaaDoorWFour
import Derived.Test.YtgbpmhkaobjnpaaDoorWQPut
import Derived.Test.YtgbpmhkaobjnpaaDoorWApart
import Derived.Test.YtgbpmhkaobjnpaaDoorWArr
import Derived.Test.YtgbpmhkaobjnpaaDoorWZeros
import Derived.Test.YtgbpmhkaobjnpaaDoorWFoot
import Derived.Test.YtgbpmhkaobjnpaaDoorWKept
import Derived.Test.YtgbpmhkaobjnpaaDoorWShare
import Derived.Test.YtgbpmhkaobjnpaaDoorWN
import Derived.Test.YtgbpmhkaobjnpaaDoorWFootNe
import Derived.Test.YtgbpmhkaobjnpaaDoorWAt
import Derived.Test.YtgbpmhkaobjnpaaDoorWEqStruct
import Derived.Test.YtgbpmhkaobjnpaaDoorWRepsOne
import Derived.Test.YtgbpmhkaobjnpaaDoorWInv
import Derived.Test.YtgbpmhkaobjnpaaDoorWInvWords
import Derived.Test.YtgbpmhkaobjnpaaDoorWGuard
import Derived.Test.YtgbpmhkaobjnpaaDoorWNEv
import Derived.Test.YtgbpmhkaobjnpaaDoorWMore
namespace Go.Proofs.YtgbpmhkaobjnpaaDoor.Q
open Go.RowKit Go.Proofs.YtgbpmhkaobjnpaaDoorW.PrintWords Go.Proofs.YtgbpmhkaobjnpaaDoorW.PrintLast Go.Proofs.YtgbpmhkaobjnpaaDoorW.PrintMore
attribute [local go_sem] max2_int min2_int max_two min_two max_three min_three max_four min_four   -- for this text's walks alone
set_option linter.unusedVariables false
set_option linter.unusedSimpArgs false



def errW : Option Int → Value
  | none => .nilIface
  | some c => .iface 0 (.int .i64 c)
theorem errW_none : errW none = .nilIface := rfl
theorem errW_some (c : Int) : errW (some c) = .iface 0 (.int .i64 c) := rfl

theorem info5 : (Tryd.prog.info? 5).map (fun i => (i.zero, i.size, i.bytes)) = some (some (.int .u8 0), 1, 1) := by kernel_rfl
theorem info9 : (Tryd.prog.info? 9).map (fun i => (i.zero, i.size, i.bytes)) = some (some (.string ⟨#[]⟩), 1, 16) := by kernel_rfl
-- the values' own types

end Go.Proofs.YtgbpmhkaobjnpaaDoor.Q
