/- The pure statement of UtfSigns: signs put are the text. No condition. -/
import Derived.Test.YtmaeodkdddbhoaaDoorSayUtfSigns
import Derived.Test.YtmaeodkdddbhoaaDoorAlive8
namespace Go.Proofs.YtmaeodkdddbhoaaDoor.Pure
open Go.RowKit Go.Proofs.YtmaeodkdddbhoaaDoor.Q Go.Proofs.YtmaeodkdddbhoaaDoorW.PrintWords Go.Proofs.YtmaeodkdddbhoaaDoorW.PrintLast Go.Proofs.YtmaeodkdddbhoaaDoorW.PrintMore Go.Proofs.YtmaeodkdddbhoaaDoor.Plain
open Go.Proofs.YtmaeodkdddbhoaaDoor.U8 (B nxt spec encB items text mend signs Right)
set_option linter.unusedVariables false
theorem UtfSigns : Say.UtfSigns := by
  intro s hs
  refine Ev.rounds (g := fun k => cringlelaw02_UtfSigns.f k s) ?_
  unfold cringlelaw02_UtfSigns.f cringlelaw02_long.f
  simp only [Option.bind_some]
  refine Ev.ite (fun _ => alive_then) (fun h => ?_)
  have hn := of_decide_eq_false (Bool.eq_false_iff.mpr h)
  have hsz : s.size ≤ 1000000000 := by omega
  refine Ev.bind (now_of (signs_eq s hsz)) ?_
  rw [istext_eq]
  by_cases ht : text (D s) = true
  · simp only [ht, if_true]
    have hl := signs_le (D s)
    rw [D_len] at hl
    refine Ev.bind (put_ev [] (signs (D s)) (by simp) (signs_range (D s)) (by omega)) ?_
    refine Ev.congr (fun k => if_pos ?_) alive_then
    rw [List.nil_append, str_put, U8.mend_text _ ht, str_D]
  · simp only [ht]
    simp only [Bool.false_eq_true, if_false]
    refine Ev.congr (fun k => if_neg (by decide)) ?_
    refine Ev.congr (fun k => if_pos (by simp)) ?_
    simp only [Option.bind_some, Bool.false_eq_true, if_false]
    exact alive_then
end Go.Proofs.YtmaeodkdddbhoaaDoor.Pure
