/- The law's pure statement, out of its printed function. No condition. -/
import Derived.Test.YtgbpmhkaobjnpaaQ20
import Derived.Test.YtgbpmhkaobjnpaaOpens
namespace Go.Proofs.Ytgbpmhkaobjnpaa.Say
open Go.RowKit Go.Proofs.Ytgbpmhkaobjnpaa.Q Go.Proofs.YtgbpmhkaobjnpaaW.PrintWords Go.Proofs.YtgbpmhkaobjnpaaW.PrintLast Go.Proofs.YtgbpmhkaobjnpaaW.PrintMore
/-- The pure statement of AsciiBack: what is left to be shown behind the walk. -/
def AsciiBack : Prop := ∀ (a0 : Int) (a1 : ByteArray), (fun x => (Lit.int .i64 x).wf = true) a0 → (fun s => s.size ≤ 140737488351232) a1 → ∃ k, cringlelaw01_AsciiBack.f k a0 a1 = some true
end Go.Proofs.Ytgbpmhkaobjnpaa.Say
