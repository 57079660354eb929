/- The pure statement of UtfPuts: the bytes of any signs are the reference's. No condition. -/
import Derived.Test.YtmaeodkdddbhoaaDoorSayUtfPuts
import Derived.Test.YtmaeodkdddbhoaaDoorAlive8
namespace Go.Proofs.YtmaeodkdddbhoaaDoor.Pure
open Go.RowKit Go.Proofs.YtmaeodkdddbhoaaDoor.Q Go.Proofs.YtmaeodkdddbhoaaDoorW.PrintWords Go.Proofs.YtmaeodkdddbhoaaDoorW.PrintLast Go.Proofs.YtmaeodkdddbhoaaDoorW.PrintMore Go.Proofs.YtmaeodkdddbhoaaDoor.Plain
open Go.Proofs.YtmaeodkdddbhoaaDoor.U8 (B nxt spec encB items text mend signs Right)
set_option linter.unusedVariables false
theorem puts_j (l0 l1 : List Int) (b : Bool) (h : b = false → l0.length ≤ 3000 ∧ l1.length ≤ 1000) (hl : ∀ x ∈ l1, -2147483648 ≤ x ∧ x < 2147483648) : Ev (fun k => cringlelaw02_UtfPuts.j0 k l0 l1 b) true := by
  cases b with
  | true => exact Ev.step (fun k => by simp only [cringlelaw02_UtfPuts.j0]; rw [if_pos trivial]) alive_then
  | false =>
    obtain ⟨h0, h1⟩ := h rfl
    refine Ev.step (fun k => by simp only [cringlelaw02_UtfPuts.j0]; rw [if_neg (by simp)]) ?_
    refine Ev.bind (put_ev l0 l1 (by omega) hl (by omega)) ?_
    refine Ev.bind (rput_ev l0 l1 (by omega) (by omega)) ?_
    exact Ev.congr (fun k => if_pos rfl) alive_then
theorem UtfPuts : Say.UtfPuts := by
  rintro l0 l1 ⟨h0, _⟩ ⟨h1, w1⟩
  refine Ev.rounds (g := fun k => cringlelaw02_UtfPuts.f k l0 l1) ?_
  have hl : ∀ x ∈ l1, -2147483648 ≤ x ∧ x < 2147483648 := fun x hx => in_i32 (w1 x hx)
  unfold cringlelaw02_UtfPuts.f
  refine Ev.ite (fun _ => puts_j l0 l1 true (by simp) hl) (fun h => puts_j l0 l1 _ (fun e => ?_) hl)
  have := of_decide_eq_false e
  omega
end Go.Proofs.YtmaeodkdddbhoaaDoor.Pure
