/- The pure statement of UtfRepairs: what is repaired is a text, and a text is repaired to itself. No condition. -/
import Derived.Test.YtmaeodkdddbhoaaDoorSayUtfRepairs
import Derived.Test.YtmaeodkdddbhoaaDoorAlive8
namespace Go.Proofs.YtmaeodkdddbhoaaDoor.Pure
open Go.RowKit Go.Proofs.YtmaeodkdddbhoaaDoor.Q Go.Proofs.YtmaeodkdddbhoaaDoorW.PrintWords Go.Proofs.YtmaeodkdddbhoaaDoorW.PrintLast Go.Proofs.YtmaeodkdddbhoaaDoorW.PrintMore Go.Proofs.YtmaeodkdddbhoaaDoor.Plain
open Go.Proofs.YtmaeodkdddbhoaaDoor.U8 (B nxt spec encB items text mend signs Right)
set_option linter.unusedVariables false
theorem UtfRepairs : Say.UtfRepairs := by
  intro s hs
  refine Ev.rounds (g := fun k => cringlelaw02_UtfRepairs.f k s) ?_
  unfold cringlelaw02_UtfRepairs.f cringlelaw02_long.f
  simp only [Option.bind_some]
  refine Ev.ite (fun _ => alive_then) (fun h => ?_)
  have hn := of_decide_eq_false (Bool.eq_false_iff.mpr h)
  have hsz : s.size ≤ 1000000000 := by omega
  have hml := U8.mend_length (D s)
  rw [D_len] at hml
  have hms : (strOf (mend (D s))).size = (mend (D s)).length := by rw [← D_len, D_str]
  refine Ev.bind (repair_ev s hsz) ?_
  refine Ev.bind (now_of (text_of _)) ?_
  rw [U8.text_mended]
  simp only [if_true]
  refine Ev.bind (repair_ev (strOf (mend (D s))) (by omega)) ?_
  rw [D_str, U8.mend_mended]
  refine Ev.congr (fun k => if_pos rfl) ?_
  refine Ev.bind (now_of (istext_eq s)) ?_
  refine Ev.congr (fun k => if_pos ?_) ?_
  · rw [Lib.toList_data, Lib.toList_data]
    show ((mend (D s) == D s) == text (D s)) = true
    cases ht : text (D s) with
    | true => rw [U8.mend_text _ ht]; simp
    | false =>
      have : ¬ mend (D s) = D s := fun e => by rw [(U8.mend_same _).1 e] at ht; cases ht
      rw [beq_eq_false_iff_ne.mpr this]
      rfl
  · exact Ev.congr (fun k => if_pos (by unfold wrap64; omega)) alive_then
end Go.Proofs.YtmaeodkdddbhoaaDoor.Pure
