/- The law's pure statement, out of its printed function. No condition. -/
import Derived.Test.YtopaheopdpkjbaaDoorQ7
import Derived.Test.YtopaheopdpkjbaaDoorOpens
namespace Go.Proofs.YtopaheopdpkjbaaDoor.Say
open Go.RowKit Go.Proofs.YtopaheopdpkjbaaDoor.Q Go.Proofs.YtopaheopdpkjbaaDoorW.PrintWords Go.Proofs.YtopaheopdpkjbaaDoorW.PrintLast Go.Proofs.YtopaheopdpkjbaaDoorW.PrintMore
/-- The pure statement of PercentTexts: what is left to be shown behind the walk. -/
def PercentTexts : Prop := ∀ (a0 : ByteArray), (fun s => s.size ≤ 140737488351232) a0 → ∃ k, cringlelaw03_PercentTexts.f k a0 = some true
end Go.Proofs.YtopaheopdpkjbaaDoor.Say
