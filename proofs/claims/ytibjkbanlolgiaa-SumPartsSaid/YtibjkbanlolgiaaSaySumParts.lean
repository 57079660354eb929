/- The law's pure statement, out of its printed function. No condition. -/
import Derived.Test.YtibjkbanlolgiaaQ17
import Derived.Test.YtibjkbanlolgiaaOpens
namespace Go.Proofs.Ytibjkbanlolgiaa.Say
open Go.RowKit Go.Proofs.Ytibjkbanlolgiaa.Q Go.Proofs.YtibjkbanlolgiaaW.PrintWords Go.Proofs.YtibjkbanlolgiaaW.PrintLast Go.Proofs.YtibjkbanlolgiaaW.PrintMore
/-- The pure statement of SumParts: what is left to be shown behind the walk. -/
def SumParts : Prop := ∀ (l0 : List (List Int)), (fun xs => xs.length * 24 ≤ 140737488351232 ∧ ∀ x ∈ xs, (fun xs => xs.length * 1 ≤ 140737488351232 ∧ ∀ x ∈ xs, (fun x => (Lit.int .u8 x).wf = true) x) x) l0 → ∃ k, cringlelaw08_SumParts.f k l0 = some true
end Go.Proofs.Ytibjkbanlolgiaa.Say
