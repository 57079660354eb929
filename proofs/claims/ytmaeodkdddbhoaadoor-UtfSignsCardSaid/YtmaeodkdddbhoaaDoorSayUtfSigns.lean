/- The law's pure statement, out of its printed function. No condition. -/
import Derived.Test.YtmaeodkdddbhoaaDoorQ8
import Derived.Test.YtmaeodkdddbhoaaDoorOpens
namespace Go.Proofs.YtmaeodkdddbhoaaDoor.Say
open Go.RowKit Go.Proofs.YtmaeodkdddbhoaaDoor.Q Go.Proofs.YtmaeodkdddbhoaaDoorW.PrintWords Go.Proofs.YtmaeodkdddbhoaaDoorW.PrintLast Go.Proofs.YtmaeodkdddbhoaaDoorW.PrintMore
/-- The pure statement of UtfSigns: what is left to be shown behind the walk. -/
def UtfSigns : Prop := ∀ (a0 : ByteArray), (fun s => s.size ≤ 140737488351232) a0 → ∃ k, cringlelaw02_UtfSigns.f k a0 = some true
end Go.Proofs.YtmaeodkdddbhoaaDoor.Say
