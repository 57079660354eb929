/- The law's pure statement, out of its printed function. No condition. -/
import Derived.Test.YtmaeodkdddbhoaaDoorQ3
import Derived.Test.YtmaeodkdddbhoaaDoorOpens
namespace Go.Proofs.YtmaeodkdddbhoaaDoor.Say
open Go.RowKit Go.Proofs.YtmaeodkdddbhoaaDoor.Q Go.Proofs.YtmaeodkdddbhoaaDoorW.PrintWords Go.Proofs.YtmaeodkdddbhoaaDoorW.PrintLast Go.Proofs.YtmaeodkdddbhoaaDoorW.PrintMore
/-- The pure statement of UtfPuts: what is left to be shown behind the walk. -/
def UtfPuts : Prop := ∀ (l0 : List Int) (l1 : List Int), (fun xs => xs.length * 1 ≤ 140737488351232 ∧ ∀ x ∈ xs, (fun x => (Lit.int .u8 x).wf = true) x) l0 → (fun xs => xs.length * 4 ≤ 140737488351232 ∧ ∀ x ∈ xs, (fun x => (Lit.int .i32 x).wf = true) x) l1 → ∃ k, cringlelaw02_UtfPuts.f k l0 l1 = some true
end Go.Proofs.YtmaeodkdddbhoaaDoor.Say
