/- The pure statement of AsciiTexts: lower, same, trimmed, words, squeezed are the reference's. No condition. -/
import Derived.Test.YtgbpmhkaobjnpaaDoorSayAsciiTexts
import Derived.Test.YtgbpmhkaobjnpaaDoorLows
namespace Go.Proofs.YtgbpmhkaobjnpaaDoor.Pure
open Go.RowKit Go.Proofs.YtgbpmhkaobjnpaaDoor.Q Go.Proofs.YtgbpmhkaobjnpaaDoorW.PrintWords Go.Proofs.YtgbpmhkaobjnpaaDoorW.PrintLast Go.Proofs.YtgbpmhkaobjnpaaDoorW.PrintMore Go.Proofs.YtgbpmhkaobjnpaaDoor.Plain
set_option linter.unusedVariables false
theorem texts_j (a b : ByteArray) (x : Bool) (h : x = false → a.size ≤ 3000 ∧ b.size ≤ 3000) : Ev (fun k => cringlelaw01_AsciiTexts.j0 k a b x) true := by
  cases x with
  | true => exact Ev.step (fun k => by simp only [cringlelaw01_AsciiTexts.j0]; rw [if_pos trivial]) alive2_then
  | false =>
    obtain ⟨ha, hb⟩ := h rfl
    refine Ev.step (fun k => by simp only [cringlelaw01_AsciiTexts.j0]; rw [if_neg (by simp), asc_lower a (by omega), Option.bind_some]) ?_
    refine Ev.bind (ref_lower a (by omega)) ?_
    refine Ev.congr (fun k => if_pos rfl) ?_
    rw [asc_same a b (by omega) (by omega)]
    simp only [Option.bind_some]
    refine Ev.bind (ref_lower a (by omega)) ?_
    refine Ev.bind (ref_lower b (by omega)) ?_
    refine Ev.congr (fun k => if_pos (by simp)) ?_
    rw [asc_trim a (by omega)]
    simp only [Option.bind_some]
    refine Ev.bind (ref_trim a (by omega)) ?_
    refine Ev.congr (fun k => if_pos rfl) ?_
    refine Ev.bind (words_ev a (by omega)) ?_
    refine Ev.bind (ref_words a (by omega)) ?_
    refine Ev.bind (same_ev _ (by have := (strs_small a (by omega)).1; omega)) ?_
    refine Ev.congr (fun k => if_pos rfl) ?_
    refine Ev.bind (squeeze_ev a (by omega)) ?_
    refine Ev.bind (ref_squeeze_ev a (by omega)) ?_
    exact Ev.congr (fun k => if_pos rfl) alive2_then
theorem AsciiTexts : Say.AsciiTexts := by
  intro a0 a1 h0 h1
  refine Ev.rounds (g := fun k => cringlelaw01_AsciiTexts.f k a0 a1) ?_
  unfold cringlelaw01_AsciiTexts.f cringlelaw01_long.f
  simp only [Option.bind_some]
  refine Ev.ite (fun _ => texts_j a0 a1 true (by simp)) (fun h => texts_j a0 a1 _ (fun h2 => ?_))
  have e1 := of_decide_eq_false (Bool.eq_false_iff.mpr h)
  have e2 := of_decide_eq_false h2
  omega
end Go.Proofs.YtgbpmhkaobjnpaaDoor.Pure
