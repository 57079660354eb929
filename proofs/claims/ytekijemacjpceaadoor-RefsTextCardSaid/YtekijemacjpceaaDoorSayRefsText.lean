/- The law's pure statement, out of its printed function. No condition. -/
import Derived.Test.YtekijemacjpceaaDoorQ15
import Derived.Test.YtekijemacjpceaaDoorOpens
namespace Go.Proofs.YtekijemacjpceaaDoor.Say
open Go.RowKit Go.Proofs.YtekijemacjpceaaDoor.Q Go.Proofs.YtekijemacjpceaaDoorW.PrintWords Go.Proofs.YtekijemacjpceaaDoorW.PrintLast Go.Proofs.YtekijemacjpceaaDoorW.PrintMore
/-- The pure statement of RefsText: what is left to be shown behind the walk. -/
def RefsText : Prop := ∀ (a0 : ByteArray) (a1 : Bool), (fun s => s.size ≤ 140737488351232) a0 → ∃ k, cringlelaw11_RefsText.f k a0 a1 = some true
end Go.Proofs.YtekijemacjpceaaDoor.Say
