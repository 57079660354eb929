-- printed by a program of the session's own; Lean checks it
import Derived.Test.YtmaeodkdddbhoaaDoorProg
import Derived.Below
import Derived.Deep.Draws
import Derived.Deep.AppendLies
import Derived.Maps.AppendAt
import Derived.OwnWalk
import Derived.Laws.BytesArg
import Derived.Laws.MakeOwn
import Derived.Laws.OwnMore
import Derived.Deep.OwnRows
import Derived.Tactics
import Derived.Lib.ConvBytes
import Derived.Laws.Slices
import Derived.WalkKit
import Derived.KernelRfl
import Derived.RowKit3
import Derived.Deep.LoopGhost
import Derived.Deep.QuietTactic
import Derived.BigQuiet
import Derived.WideLaws
import Derived.Deep.DeepCutAuto
import Derived.Deep.CutBlock
import Derived.Deep.RegionHeld3
import Derived.Laws.Rows
import Derived.Lib.AppendStr
import Derived.ArgAppend
import Derived.Laws.IdiomCopy
import Derived.OrdersHeld
import Derived.Laws.BitsLemmas
import Derived.RowKit
import Derived.Test.YtmaeodkdddbhoaaDoorMine
import Derived.Test.YtmaeodkdddbhoaaDoorShelf
import Derived.Test.YtmaeodkdddbhoaaDoorFull
import Derived.Test.YtmaeodkdddbhoaaDoorUtfs
import Derived.Test.YtmaeodkdddbhoaaDoorRunes
import Derived.Test.YtmaeodkdddbhoaaDoorWWords
import Derived.Test.YtmaeodkdddbhoaaDoorWLast
import Derived.Test.YtmaeodkdddbhoaaDoorWTab
import Derived.Test.YtmaeodkdddbhoaaDoorWFour
import Derived.Test.YtmaeodkdddbhoaaDoorWQPut
import Derived.Test.YtmaeodkdddbhoaaDoorWApart
import Derived.Test.YtmaeodkdddbhoaaDoorWArr
import Derived.Test.YtmaeodkdddbhoaaDoorWZeros
import Derived.Test.YtmaeodkdddbhoaaDoorWFoot
import Derived.Test.YtmaeodkdddbhoaaDoorWKept
import Derived.Test.YtmaeodkdddbhoaaDoorWShare
import Derived.Test.YtmaeodkdddbhoaaDoorWN
import Derived.Test.YtmaeodkdddbhoaaDoorWFootNe
import Derived.Test.YtmaeodkdddbhoaaDoorWAt
import Derived.Test.YtmaeodkdddbhoaaDoorWEqStruct
import Derived.Test.YtmaeodkdddbhoaaDoorWRepsOne
import Derived.Test.YtmaeodkdddbhoaaDoorWInv
import Derived.Test.YtmaeodkdddbhoaaDoorWInvWords
import Derived.Test.YtmaeodkdddbhoaaDoorWGuard
import Derived.Test.YtmaeodkdddbhoaaDoorWNEv
import Derived.Test.YtmaeodkdddbhoaaDoorWMore
namespace Go.Proofs.YtmaeodkdddbhoaaDoor.Q
open Go.RowKit Go.Proofs.YtmaeodkdddbhoaaDoorW.PrintWords Go.Proofs.YtmaeodkdddbhoaaDoorW.PrintLast Go.Proofs.YtmaeodkdddbhoaaDoorW.PrintMore
attribute [local go_sem] max2_int min2_int max_two min_two max_three min_three max_four min_four   -- for this text's walks alone
set_option linter.unusedVariables false
set_option linter.unusedSimpArgs false



def errW : Option Int → Value
  | none => .nilIface
  | some c => .iface 0 (.int .i64 c)
theorem errW_none : errW none = .nilIface := rfl
theorem errW_some (c : Int) : errW (some c) = .iface 0 (.int .i64 c) := rfl

theorem info5 : (Tryd.prog.info? 5).map (fun i => (i.zero, i.size, i.bytes)) = some (some (.int .u8 0), 1, 1) := by kernel_rfl
theorem info21 : (Tryd.prog.info? 21).map (fun i => (i.zero, i.size, i.bytes)) = some (some (.int .i32 0), 1, 4) := by kernel_rfl
-- the values' own types

end Go.Proofs.YtmaeodkdddbhoaaDoor.Q
