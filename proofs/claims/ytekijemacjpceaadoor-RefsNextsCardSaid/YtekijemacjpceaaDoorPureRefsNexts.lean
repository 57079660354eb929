/- The pure statement of RefsNexts. No condition. -/
import Derived.Test.YtekijemacjpceaaDoorSayRefsNexts
import Derived.Test.YtekijemacjpceaaDoorConn
namespace Go.Proofs.YtekijemacjpceaaDoor.Pure
open Go.RowKit Go.Proofs.YtekijemacjpceaaDoor.Q Go.Proofs.YtekijemacjpceaaDoorW.PrintWords Go.Proofs.YtekijemacjpceaaDoorW.PrintLast Go.Proofs.YtekijemacjpceaaDoorW.PrintMore Go.Proofs.YtekijemacjpceaaDoor.Plain
open Go.Proofs.YtekijemacjpceaaDoor.U8 (B nxt spec encB items text mend signs Right)
open Go.Proofs.YtekijemacjpceaaDoor.Rf
set_option linter.unusedVariables false
theorem RefsNexts : Say.RefsNexts := by
  intro s attr hs
  refine Ev.rounds (g := fun k => cringlelaw11_RefsNexts.f k s attr) ?_
  unfold cringlelaw11_RefsNexts.f
  rw [long_eq]
  refine Ev.bind (Ev.now _) ?_
  by_cases h : 1500 < s.size
  · refine Ev.congr (fun k => if_pos (decide_eq_true h)) ?_
    exact alive_then
  · refine Ev.congr (fun k => if_neg (by simpa using h)) ?_
    refine Ev.bind (Next_ev s attr (by omega)) ?_
    refine Ev.bind (rNext_ev s attr (by omega)) ?_
    refine Ev.congr (fun k => (if_pos rfl).trans ((if_pos rfl).trans (if_pos (by simp)))) ?_
    exact alive_then
end Go.Proofs.YtekijemacjpceaaDoor.Pure
