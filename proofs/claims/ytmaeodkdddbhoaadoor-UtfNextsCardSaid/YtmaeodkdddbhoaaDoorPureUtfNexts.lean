/- The pure statement of UtfNexts: what any bytes begin with is the reference's. No condition. -/
import Derived.Test.YtmaeodkdddbhoaaDoorSayUtfNexts
import Derived.Test.YtmaeodkdddbhoaaDoorAlive8
namespace Go.Proofs.YtmaeodkdddbhoaaDoor.Pure
open Go.RowKit Go.Proofs.YtmaeodkdddbhoaaDoor.Q Go.Proofs.YtmaeodkdddbhoaaDoorW.PrintWords Go.Proofs.YtmaeodkdddbhoaaDoorW.PrintLast Go.Proofs.YtmaeodkdddbhoaaDoorW.PrintMore Go.Proofs.YtmaeodkdddbhoaaDoor.Plain
open Go.Proofs.YtmaeodkdddbhoaaDoor.U8 (B nxt spec encB items text mend signs Right)
set_option linter.unusedVariables false
theorem UtfNexts : Say.UtfNexts := by
  intro s hs
  refine Ev.rounds (g := fun k => cringlelaw02_UtfNexts.f k s) ?_
  unfold cringlelaw02_UtfNexts.f
  by_cases h : D s = []
  · have hn : s.toList = ([] : List UInt8) := (D_nil s).2 h
    unfold utf_Next.f cringleref02_Next.f
    simp only [if_pos hn, Option.bind_some, if_true]
    exact alive_then
  · refine Ev.bind (next_ev s (by omega) h) ?_
    refine Ev.bind (rnext_ev s (by omega) h) ?_
    simp only [if_true]
    exact alive_then
end Go.Proofs.YtmaeodkdddbhoaaDoor.Pure
