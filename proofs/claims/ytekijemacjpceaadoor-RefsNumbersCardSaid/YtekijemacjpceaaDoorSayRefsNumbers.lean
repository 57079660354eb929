/- The law's pure statement, out of its printed function. No condition. -/
import Derived.Test.YtekijemacjpceaaDoorQ16
import Derived.Test.YtekijemacjpceaaDoorOpens
namespace Go.Proofs.YtekijemacjpceaaDoor.Say
open Go.RowKit Go.Proofs.YtekijemacjpceaaDoor.Q Go.Proofs.YtekijemacjpceaaDoorW.PrintWords Go.Proofs.YtekijemacjpceaaDoorW.PrintLast Go.Proofs.YtekijemacjpceaaDoorW.PrintMore
/-- The pure statement of RefsNumbers: what is left to be shown behind the walk. -/
def RefsNumbers : Prop := ∀ (a0 : Int) (a1 : Int), (fun x => (Lit.int .u32 x).wf = true) a0 → (fun x => (Lit.int .u8 x).wf = true) a1 → ∃ k, cringlelaw11_RefsNumbers.f k a0 a1 = some true
end Go.Proofs.YtekijemacjpceaaDoor.Say
