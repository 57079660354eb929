/- The law's pure statement, out of its printed function. No condition. -/
import Derived.Test.YtgbpmhkaobjnpaaQ26
import Derived.Test.YtgbpmhkaobjnpaaOpens
namespace Go.Proofs.Ytgbpmhkaobjnpaa.Say
open Go.RowKit Go.Proofs.Ytgbpmhkaobjnpaa.Q Go.Proofs.YtgbpmhkaobjnpaaW.PrintWords Go.Proofs.YtgbpmhkaobjnpaaW.PrintLast Go.Proofs.YtgbpmhkaobjnpaaW.PrintMore
/-- The pure statement of AsciiJoined: what is left to be shown behind the walk. -/
def AsciiJoined : Prop := ∀ (a0 : ByteArray) (a1 : Int), (fun s => s.size ≤ 140737488351232) a0 → (fun x => (Lit.int .u8 x).wf = true) a1 → ∃ k, cringlelaw01_AsciiJoined.f k a0 a1 = some true
end Go.Proofs.Ytgbpmhkaobjnpaa.Say
