/- The law's pure statement, out of its printed function. No condition. -/
import Derived.Test.YtfoikdjffemhbaaDoorQ6
import Derived.Test.YtfoikdjffemhbaaDoorOpens
namespace Go.Proofs.YtfoikdjffemhbaaDoor.Say
open Go.RowKit Go.Proofs.YtfoikdjffemhbaaDoor.Q Go.Proofs.YtfoikdjffemhbaaDoorW.PrintWords Go.Proofs.YtfoikdjffemhbaaDoorW.PrintLast Go.Proofs.YtfoikdjffemhbaaDoorW.PrintMore
/-- The pure statement of DateBack: what is left to be shown behind the walk. -/
def DateBack : Prop := ∀ (a0 : Int), (fun x => (Lit.int .i64 x).wf = true) a0 → ∃ k, cringlelaw06_DateBack.f k a0 = some true
end Go.Proofs.YtfoikdjffemhbaaDoor.Say
