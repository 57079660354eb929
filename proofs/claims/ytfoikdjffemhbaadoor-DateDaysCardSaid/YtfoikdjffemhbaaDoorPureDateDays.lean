/- The pure statement of DateDays. No condition. -/
import Derived.Test.YtfoikdjffemhbaaDoorSayDateDays
import Derived.Test.YtfoikdjffemhbaaDoorConn06
namespace Go.Proofs.YtfoikdjffemhbaaDoor.Pure
open Go.RowKit Go.Proofs.YtfoikdjffemhbaaDoor.Q Go.Proofs.YtfoikdjffemhbaaDoorW.PrintWords Go.Proofs.YtfoikdjffemhbaaDoorW.PrintLast Go.Proofs.YtfoikdjffemhbaaDoorW.PrintMore Go.Proofs.YtfoikdjffemhbaaDoor.Plain
set_option linter.unusedVariables false
theorem DateDays : Say.DateDays := by
  intro y m d hy hm hd
  have hd' := in_i64 hd
  refine Ev.rounds (g := fun k => cringlelaw06_DateDays.f k y m d) ?_
  unfold cringlelaw06_DateDays.f
  rw [days_eq y m d (by omega)]
  refine Ev.bind (Ev.now _) ?_
  refine Ev.bind (rdays_ev y m d) ?_
  rw [leap_eq, rleap_eq]
  refine Ev.bind (Ev.now _) (Ev.bind (Ev.now _) ?_)
  refine Ev.congr (fun k => (if_pos (by simp)).trans ((if_pos rfl).trans (if_pos rfl))) ?_
  exact alive_then
end Go.Proofs.YtfoikdjffemhbaaDoor.Pure
