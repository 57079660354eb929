/- The law's pure statement, out of its printed function. No condition. -/
import Derived.Test.YtmaeodkdddbhoaaDoorQ7
import Derived.Test.YtmaeodkdddbhoaaDoorOpens
namespace Go.Proofs.YtmaeodkdddbhoaaDoor.Say
open Go.RowKit Go.Proofs.YtmaeodkdddbhoaaDoor.Q Go.Proofs.YtmaeodkdddbhoaaDoorW.PrintWords Go.Proofs.YtmaeodkdddbhoaaDoorW.PrintLast Go.Proofs.YtmaeodkdddbhoaaDoorW.PrintMore
/-- The pure statement of UtfBack: what is left to be shown behind the walk. -/
def UtfBack : Prop := ∀ (a0 : Int) (a1 : ByteArray), (fun x => (Lit.int .i32 x).wf = true) a0 → (fun s => s.size ≤ 140737488351232) a1 → ∃ k, cringlelaw02_UtfBack.f k a0 a1 = some true
end Go.Proofs.YtmaeodkdddbhoaaDoor.Say
