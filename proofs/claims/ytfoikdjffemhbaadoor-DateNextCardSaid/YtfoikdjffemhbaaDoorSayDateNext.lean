/- The law's pure statement, out of its printed function. No condition. -/
import Derived.Test.YtfoikdjffemhbaaDoorQ7
import Derived.Test.YtfoikdjffemhbaaDoorOpens
namespace Go.Proofs.YtfoikdjffemhbaaDoor.Say
open Go.RowKit Go.Proofs.YtfoikdjffemhbaaDoor.Q Go.Proofs.YtfoikdjffemhbaaDoorW.PrintWords Go.Proofs.YtfoikdjffemhbaaDoorW.PrintLast Go.Proofs.YtfoikdjffemhbaaDoorW.PrintMore
/-- The pure statement of DateNext: what is left to be shown behind the walk. -/
def DateNext : Prop := ∀ (a0 : Int) (a1 : Int) (a2 : Int), (fun x => (Lit.int .i64 x).wf = true) a0 → (fun x => (Lit.int .i64 x).wf = true) a1 → (fun x => (Lit.int .i64 x).wf = true) a2 → ∃ k, cringlelaw06_DateNext.f k a0 a1 a2 = some true
end Go.Proofs.YtfoikdjffemhbaaDoor.Say
