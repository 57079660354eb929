/- The law's pure statement, out of its printed function. No condition. -/
import Derived.Test.YtgbpmhkaobjnpaaDoorQ17
import Derived.Test.YtgbpmhkaobjnpaaDoorOpens
namespace Go.Proofs.YtgbpmhkaobjnpaaDoor.Say
open Go.RowKit Go.Proofs.YtgbpmhkaobjnpaaDoor.Q Go.Proofs.YtgbpmhkaobjnpaaDoorW.PrintWords Go.Proofs.YtgbpmhkaobjnpaaDoorW.PrintLast Go.Proofs.YtgbpmhkaobjnpaaDoorW.PrintMore
/-- The pure statement of AsciiTexts: what is left to be shown behind the walk. -/
def AsciiTexts : Prop := ∀ (a0 : ByteArray) (a1 : ByteArray), (fun s => s.size ≤ 140737488351232) a0 → (fun s => s.size ≤ 140737488351232) a1 → ∃ k, cringlelaw01_AsciiTexts.f k a0 a1 = some true
end Go.Proofs.YtgbpmhkaobjnpaaDoor.Say
