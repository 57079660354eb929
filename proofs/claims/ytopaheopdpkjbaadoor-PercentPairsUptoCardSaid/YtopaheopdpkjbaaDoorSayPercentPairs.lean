/- The law's pure statement, out of its printed function. No condition. -/
import Derived.Test.YtopaheopdpkjbaaDoorQ7
import Derived.Test.YtopaheopdpkjbaaDoorOpens
namespace Go.Proofs.YtopaheopdpkjbaaDoor.Say
open Go.RowKit Go.Proofs.YtopaheopdpkjbaaDoor.Q Go.Proofs.YtopaheopdpkjbaaDoorW.PrintWords Go.Proofs.YtopaheopdpkjbaaDoorW.PrintLast Go.Proofs.YtopaheopdpkjbaaDoorW.PrintMore
/-- The pure statement of PercentPairs: what is left to be shown behind the walk. -/
def PercentPairs : Prop := ∀ (l0 : List (S42)), (fun xs => xs.length * 32 ≤ 140737488351232 ∧ ∀ x ∈ xs, (fun x => (fun p => ((fun s => s.size ≤ 140737488351232) p.1 ∧ (fun s => s.size ≤ 140737488351232) p.2)) (x.f0, x.f1)) x) l0 → ∃ k, cringlelaw03_PercentPairs.f k l0 = some true
end Go.Proofs.YtopaheopdpkjbaaDoor.Say
