/- The law's pure statement, out of its printed function. No condition. -/
import Derived.Test.YtopaheopdpkjbaaDoorQ7
import Derived.Test.YtopaheopdpkjbaaDoorOpens
namespace Go.Proofs.YtopaheopdpkjbaaDoor.Say
open Go.RowKit Go.Proofs.YtopaheopdpkjbaaDoor.Q Go.Proofs.YtopaheopdpkjbaaDoorW.PrintWords Go.Proofs.YtopaheopdpkjbaaDoorW.PrintLast Go.Proofs.YtopaheopdpkjbaaDoorW.PrintMore
/-- The pure statement of PercentForms: what is left to be shown behind the walk. -/
def PercentForms : Prop := ∀ (l0 : List (S42)) (a1 : ByteArray), (fun xs => xs.length * 32 ≤ 140737488351232 ∧ ∀ x ∈ xs, (fun x => (fun p => ((fun s => s.size ≤ 140737488351232) p.1 ∧ (fun s => s.size ≤ 140737488351232) p.2)) (x.f0, x.f1)) x) l0 → (fun s => s.size ≤ 140737488351232) a1 → ∃ k, cringlelaw03_PercentForms.f k l0 a1 = some true
end Go.Proofs.YtopaheopdpkjbaaDoor.Say
