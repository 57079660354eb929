/- The law's pure statement, out of its printed function. No condition. -/
import Derived.Test.YtgbpmhkaobjnpaaQ25
import Derived.Test.YtgbpmhkaobjnpaaOpens
namespace Go.Proofs.Ytgbpmhkaobjnpaa.Say
open Go.RowKit Go.Proofs.Ytgbpmhkaobjnpaa.Q Go.Proofs.YtgbpmhkaobjnpaaW.PrintWords Go.Proofs.YtgbpmhkaobjnpaaW.PrintLast Go.Proofs.YtgbpmhkaobjnpaaW.PrintMore
/-- The pure statement of AsciiParts: what is left to be shown behind the walk. -/
def AsciiParts : Prop := ∀ (a0 : ByteArray) (l1 : List ByteArray) (a2 : Int), (fun s => s.size ≤ 140737488351232) a0 → (fun xs => xs.length * 16 ≤ 140737488351232 ∧ ∀ x ∈ xs, (fun s => s.size ≤ 140737488351232) x) l1 → (fun x => (Lit.int .u8 x).wf = true) a2 → ∃ k, cringlelaw01_AsciiParts.f k a0 l1 a2 = some true
end Go.Proofs.Ytgbpmhkaobjnpaa.Say
