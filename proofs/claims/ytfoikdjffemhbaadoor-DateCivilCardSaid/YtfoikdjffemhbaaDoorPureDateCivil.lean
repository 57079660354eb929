/- The pure statement of DateCivil. No condition. -/
import Derived.Test.YtfoikdjffemhbaaDoorSayDateCivil
import Derived.Test.YtfoikdjffemhbaaDoorCivil06
namespace Go.Proofs.YtfoikdjffemhbaaDoor.Pure
open Go.RowKit Go.Proofs.YtfoikdjffemhbaaDoor.Q Go.Proofs.YtfoikdjffemhbaaDoorW.PrintWords Go.Proofs.YtfoikdjffemhbaaDoorW.PrintLast Go.Proofs.YtfoikdjffemhbaaDoorW.PrintMore Go.Proofs.YtfoikdjffemhbaaDoor.Plain
set_option linter.unusedVariables false
theorem DateCivil : Say.DateCivil := by
  intro n hn
  refine Ev.rounds (g := fun k => cringlelaw06_DateCivil.f k n) ?_
  unfold cringlelaw06_DateCivil.f
  rcases day_or n with h | ⟨y, m, d, h1, h2⟩
  · refine Ev.bind (civil_bad n h) ?_
    refine Ev.bind (rcivil_bad n h) ?_
    refine Ev.congr (fun k => (if_pos rfl).trans ((if_pos rfl).trans ((if_pos rfl).trans (if_pos rfl)))) ?_
    exact alive_then
  · refine Ev.bind (civil_day y m d h1 n h2) ?_
    refine Ev.bind (rcivil_day y m d h1 n h2) ?_
    refine Ev.congr (fun k => (if_pos rfl).trans ((if_pos rfl).trans ((if_pos rfl).trans (if_pos rfl)))) ?_
    exact alive_then
end Go.Proofs.YtfoikdjffemhbaaDoor.Pure
