/- The pure statement of PercentMarks. No condition. -/
import Derived.Test.YtopaheopdpkjbaaDoorSayPercentMarks
import Derived.Test.YtopaheopdpkjbaaDoorConn
namespace Go.Proofs.YtopaheopdpkjbaaDoor.Pure
open Go.RowKit Go.Proofs.YtopaheopdpkjbaaDoor.Q Go.Proofs.YtopaheopdpkjbaaDoorW.PrintWords Go.Proofs.YtopaheopdpkjbaaDoorW.PrintLast Go.Proofs.YtopaheopdpkjbaaDoorW.PrintMore Go.Proofs.YtopaheopdpkjbaaDoor.Plain
open Go.Proofs.YtopaheopdpkjbaaDoor.U8 (B nxt spec encB items text mend signs Right)
open Go.Proofs.YtopaheopdpkjbaaDoor.Rf
set_option linter.unusedVariables false
theorem PercentMarks : Say.PercentMarks := by
  intro s free hs hf
  refine Ev.rounds (g := fun k => cringlelaw03_PercentMarks.f k s free) ?_
  unfold cringlelaw03_PercentMarks.f
  have al : Ev (fun k => cringlelaw03_PercentMarks.j0 k s free true) true := Ev.step (fun k => by simp only [cringlelaw03_PercentMarks.j0]; rw [if_pos trivial]) alive_then
  rw [long_eq, long_eq]
  refine Ev.bind (Ev.now _) ?_
  by_cases h : 3000 < s.size
  · exact Ev.congr (fun k => if_pos (decide_eq_true h)) al
  · refine Ev.congr (fun k => if_neg (by simpa using h)) ?_
    refine Ev.bind (Ev.now _) ?_
    by_cases h2 : 3000 < free.size
    · rw [decide_eq_true h2]; exact al
    · rw [decide_eq_false h2]
      refine Ev.step (fun k => by simp only [cringlelaw03_PercentMarks.j0]; rw [if_neg (by simp), mark_eq s free (by omega)]) ?_
      refine Ev.bind (Ev.now _) ?_
      refine Ev.bind (rmark_ev s free (by omega) (by omega)) ?_
      refine Ev.congr (fun k => if_pos rfl) ?_
      refine Ev.bind (un_ev s (by omega)) ?_
      refine Ev.bind (run_ev s (by omega)) ?_
      refine Ev.congr (fun k => if_pos rfl) ?_
      exact alive_then
end Go.Proofs.YtopaheopdpkjbaaDoor.Pure
