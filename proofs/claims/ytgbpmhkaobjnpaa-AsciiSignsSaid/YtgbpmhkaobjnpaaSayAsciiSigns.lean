/- The law's pure statement, out of its printed function. No condition. -/
import Derived.Test.YtgbpmhkaobjnpaaQ15
import Derived.Test.YtgbpmhkaobjnpaaOpens
namespace Go.Proofs.Ytgbpmhkaobjnpaa.Say
open Go.RowKit Go.Proofs.Ytgbpmhkaobjnpaa.Q Go.Proofs.YtgbpmhkaobjnpaaW.PrintWords Go.Proofs.YtgbpmhkaobjnpaaW.PrintLast Go.Proofs.YtgbpmhkaobjnpaaW.PrintMore
/-- The pure statement of AsciiSigns: what is left to be shown behind the walk. -/
def AsciiSigns : Prop := ∀ (a0 : Int), (fun x => (Lit.int .u8 x).wf = true) a0 → ∃ k, cringlelaw01_AsciiSigns.f k a0 = some true
end Go.Proofs.Ytgbpmhkaobjnpaa.Say
