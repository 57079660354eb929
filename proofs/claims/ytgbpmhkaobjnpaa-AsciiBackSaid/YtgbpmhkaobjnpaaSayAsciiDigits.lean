/- The law's pure statement, out of its printed function. No condition. -/
import Derived.Test.YtgbpmhkaobjnpaaQ14
import Derived.Test.YtgbpmhkaobjnpaaOpens
namespace Go.Proofs.Ytgbpmhkaobjnpaa.Say
open Go.RowKit Go.Proofs.Ytgbpmhkaobjnpaa.Q Go.Proofs.YtgbpmhkaobjnpaaW.PrintWords Go.Proofs.YtgbpmhkaobjnpaaW.PrintLast Go.Proofs.YtgbpmhkaobjnpaaW.PrintMore
/-- The pure statement of AsciiDigits: what is left to be shown behind the walk. -/
def AsciiDigits : Prop := ∀ (a0 : Int) (a1 : Int), (fun x => (Lit.int .i64 x).wf = true) a0 → (fun x => (Lit.int .i64 x).wf = true) a1 → ∃ k, cringlelaw01_AsciiDigits.f k a0 a1 = some true
end Go.Proofs.Ytgbpmhkaobjnpaa.Say
