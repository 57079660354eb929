/- The law's pure statement, out of its printed function. No condition. -/
import Derived.Test.YtgbpmhkaobjnpaaDoorQ18
import Derived.Test.YtgbpmhkaobjnpaaDoorOpens
namespace Go.Proofs.YtgbpmhkaobjnpaaDoor.Say
open Go.RowKit Go.Proofs.YtgbpmhkaobjnpaaDoor.Q Go.Proofs.YtgbpmhkaobjnpaaDoorW.PrintWords Go.Proofs.YtgbpmhkaobjnpaaDoorW.PrintLast Go.Proofs.YtgbpmhkaobjnpaaDoorW.PrintMore
/-- The pure statement of AsciiTwice: what is left to be shown behind the walk. -/
def AsciiTwice : Prop := ∀ (a0 : ByteArray), (fun s => s.size ≤ 140737488351232) a0 → ∃ k, cringlelaw01_AsciiTwice.f k a0 = some true
end Go.Proofs.YtgbpmhkaobjnpaaDoor.Say
