/- The pure statement of RefsNames. No condition. -/
import Derived.Test.YtekijemacjpceaaDoorSayRefsNames
import Derived.Test.YtekijemacjpceaaDoorConn
namespace Go.Proofs.YtekijemacjpceaaDoor.Pure
open Go.RowKit Go.Proofs.YtekijemacjpceaaDoor.Q Go.Proofs.YtekijemacjpceaaDoorW.PrintWords Go.Proofs.YtekijemacjpceaaDoorW.PrintLast Go.Proofs.YtekijemacjpceaaDoorW.PrintMore Go.Proofs.YtekijemacjpceaaDoor.Plain
open Go.Proofs.YtekijemacjpceaaDoor.U8 (B nxt spec encB items text mend signs Right)
open Go.Proofs.YtekijemacjpceaaDoor.Rf
set_option linter.unusedVariables false
theorem RefsNames : Say.RefsNames := by
  intro s n hs hn
  have hr := in_u32 hn
  obtain ⟨m, rfl⟩ : ∃ m : Nat, n = (m : Int) := ⟨n.toNat, by omega⟩
  refine Ev.rounds (g := fun k => cringlelaw11_RefsNames.f k s (m : Int)) ?_
  unfold cringlelaw11_RefsNames.f
  rw [name_eq, number_eq m (by omega)]
  refine Ev.bind (Ev.now _) ?_
  refine Ev.bind (rname_ev s) ?_
  refine Ev.congr (fun k => (if_pos rfl).trans (if_pos (by simp))) ?_
  refine Ev.bind (Ev.now _) ?_
  refine Ev.bind (rnumber_ev m (by omega)) ?_
  refine Ev.congr (fun k => if_pos rfl) ?_
  exact alive_then
end Go.Proofs.YtekijemacjpceaaDoor.Pure
