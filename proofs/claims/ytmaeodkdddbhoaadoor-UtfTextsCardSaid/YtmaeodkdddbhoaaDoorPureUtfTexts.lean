/- The pure statement of UtfTexts: texts, mended, signs and beginnings are the reference's. No condition. -/
import Derived.Test.YtmaeodkdddbhoaaDoorSayUtfTexts
import Derived.Test.YtmaeodkdddbhoaaDoorAlive8
namespace Go.Proofs.YtmaeodkdddbhoaaDoor.Pure
open Go.RowKit Go.Proofs.YtmaeodkdddbhoaaDoor.Q Go.Proofs.YtmaeodkdddbhoaaDoorW.PrintWords Go.Proofs.YtmaeodkdddbhoaaDoorW.PrintLast Go.Proofs.YtmaeodkdddbhoaaDoorW.PrintMore Go.Proofs.YtmaeodkdddbhoaaDoor.Plain
open Go.Proofs.YtmaeodkdddbhoaaDoor.U8 (B nxt spec encB items text mend signs Right)
set_option linter.unusedVariables false
theorem UtfTexts : Say.UtfTexts := by
  intro s most hs hm
  refine Ev.rounds (g := fun k => cringlelaw02_UtfTexts.f k s most) ?_
  have hm := in_i64 hm
  unfold cringlelaw02_UtfTexts.f cringlelaw02_long.f
  simp only [Option.bind_some]
  refine Ev.ite (fun _ => alive_then) (fun h => ?_)
  have hn := of_decide_eq_false (Bool.eq_false_iff.mpr h)
  have hsz : s.size ≤ 1000000000 := by omega
  refine Ev.bind (now_of (signs_eq s hsz)) ?_
  refine Ev.bind (rsigns_ev s hsz) ?_
  refine Ev.bind (now_of (istext_eq s)) ?_
  refine Ev.bind (ristext_ev (D s) s rfl (by omega)) ?_
  refine Ev.congr (fun k => if_pos (by simp)) ?_
  refine Ev.bind (repair_ev s hsz) ?_
  refine Ev.bind (rrepair_ev s hsz) ?_
  refine Ev.congr (fun k => if_pos rfl) ?_
  refine Ev.bind (same_ev _ ?_) ?_
  · have := signs_le (D s)
    rw [D_len] at this
    split
    · show (signs (D s)).length ≤ _; omega
    · simp
  refine Ev.congr (fun k => if_pos rfl) ?_
  refine Ev.congr (fun k => if_pos rfl) ?_
  refine Ev.bind (cut_ev s most hm hsz) ?_
  refine Ev.bind (rcut_ev s most hm hsz) ?_
  exact Ev.congr (fun k => if_pos rfl) alive_then
end Go.Proofs.YtmaeodkdddbhoaaDoor.Pure
