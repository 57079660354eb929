/- The law's pure statement, out of its printed function. No condition. -/
import Derived.Test.YtibjkbanlolgiaaQ14
import Derived.Test.YtibjkbanlolgiaaOpens
namespace Go.Proofs.Ytibjkbanlolgiaa.Say
open Go.RowKit Go.Proofs.Ytibjkbanlolgiaa.Q Go.Proofs.YtibjkbanlolgiaaW.PrintWords Go.Proofs.YtibjkbanlolgiaaW.PrintLast Go.Proofs.YtibjkbanlolgiaaW.PrintMore
/-- The pure statement of SumApart: what is left to be shown behind the walk. -/
def SumApart : Prop := ∀ (l0 : List Int) (l1 : List Int) (l2 : List Int), (fun xs => xs.length * 1 ≤ 140737488351232 ∧ ∀ x ∈ xs, (fun x => (Lit.int .u8 x).wf = true) x) l0 → (fun xs => xs.length * 1 ≤ 140737488351232 ∧ ∀ x ∈ xs, (fun x => (Lit.int .u8 x).wf = true) x) l1 → (fun xs => xs.length * 1 ≤ 140737488351232 ∧ ∀ x ∈ xs, (fun x => (Lit.int .u8 x).wf = true) x) l2 → ∃ k, cringlelaw08_SumApart.f k l0 l1 l2 = some true
end Go.Proofs.Ytibjkbanlolgiaa.Say
