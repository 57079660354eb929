/- The law's pure statement, out of its printed function. No condition. -/
import Derived.Test.YtibjkbanlolgiaaQ6
import Derived.Test.YtibjkbanlolgiaaOpens
namespace Go.Proofs.Ytibjkbanlolgiaa.Say
open Go.RowKit Go.Proofs.Ytibjkbanlolgiaa.Q Go.Proofs.YtibjkbanlolgiaaW.PrintWords Go.Proofs.YtibjkbanlolgiaaW.PrintLast Go.Proofs.YtibjkbanlolgiaaW.PrintMore
/-- The pure statement of SumTurned: what is left to be shown behind the walk. -/
def SumTurned : Prop := ∀ (l0 : List Int) (a1 : Int) (a2 : Int), (fun xs => xs.length * 1 ≤ 140737488351232 ∧ ∀ x ∈ xs, (fun x => (Lit.int .u8 x).wf = true) x) l0 → (fun x => (Lit.int .i64 x).wf = true) a1 → (fun x => (Lit.int .u8 x).wf = true) a2 → ∃ k, cringlelaw08_SumTurned.f k l0 a1 a2 = some true
end Go.Proofs.Ytibjkbanlolgiaa.Say
