/- The law's pure statement, out of its printed function. No condition. -/
import Derived.Test.YtopaheopdpkjbaaDoorQ4
import Derived.Test.YtopaheopdpkjbaaDoorOpens
namespace Go.Proofs.YtopaheopdpkjbaaDoor.Say
open Go.RowKit Go.Proofs.YtopaheopdpkjbaaDoor.Q Go.Proofs.YtopaheopdpkjbaaDoorW.PrintWords Go.Proofs.YtopaheopdpkjbaaDoorW.PrintLast Go.Proofs.YtopaheopdpkjbaaDoorW.PrintMore
/-- The pure statement of PercentMarks: what is left to be shown behind the walk. -/
def PercentMarks : Prop := ∀ (a0 : ByteArray) (a1 : ByteArray), (fun s => s.size ≤ 140737488351232) a0 → (fun s => s.size ≤ 140737488351232) a1 → ∃ k, cringlelaw03_PercentMarks.f k a0 a1 = some true
end Go.Proofs.YtopaheopdpkjbaaDoor.Say
