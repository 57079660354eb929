/- The law's pure statement, out of its printed function. No condition. -/
import Derived.Test.YtmaeodkdddbhoaaDoorQ8
import Derived.Test.YtmaeodkdddbhoaaDoorOpens
namespace Go.Proofs.YtmaeodkdddbhoaaDoor.Say
open Go.RowKit Go.Proofs.YtmaeodkdddbhoaaDoor.Q Go.Proofs.YtmaeodkdddbhoaaDoorW.PrintWords Go.Proofs.YtmaeodkdddbhoaaDoorW.PrintLast Go.Proofs.YtmaeodkdddbhoaaDoorW.PrintMore
/-- The pure statement of UtfCuts: what is left to be shown behind the walk. -/
def UtfCuts : Prop := ∀ (a0 : ByteArray) (a1 : Int), (fun s => s.size ≤ 140737488351232) a0 → (fun x => (Lit.int .u16 x).wf = true) a1 → ∃ k, cringlelaw02_UtfCuts.f k a0 a1 = some true
end Go.Proofs.YtmaeodkdddbhoaaDoor.Say
