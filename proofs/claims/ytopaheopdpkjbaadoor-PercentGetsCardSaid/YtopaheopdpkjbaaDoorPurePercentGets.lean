/- The pure statement of PercentGets. No condition. -/
import Derived.Test.YtopaheopdpkjbaaDoorSayPercentGets
import Derived.Test.YtopaheopdpkjbaaDoorConn
namespace Go.Proofs.YtopaheopdpkjbaaDoor.Pure
open Go.RowKit Go.Proofs.YtopaheopdpkjbaaDoor.Q Go.Proofs.YtopaheopdpkjbaaDoorW.PrintWords Go.Proofs.YtopaheopdpkjbaaDoorW.PrintLast Go.Proofs.YtopaheopdpkjbaaDoorW.PrintMore Go.Proofs.YtopaheopdpkjbaaDoor.Plain
open Go.Proofs.YtopaheopdpkjbaaDoor.U8 (B nxt spec encB items text mend signs Right)
open Go.Proofs.YtopaheopdpkjbaaDoor.Rf
set_option linter.unusedVariables false
theorem PercentGets : Say.PercentGets := by
  intro l name hl hn
  refine Ev.rounds (g := fun k => cringlelaw03_PercentGets.f k l name) ?_
  unfold cringlelaw03_PercentGets.f
  have al : Ev (fun k => cringlelaw03_PercentGets.j0 k l name true) true := Ev.step (fun k => by simp only [cringlelaw03_PercentGets.j0]; rw [if_pos trivial]) alive_then
  have hlen : l.length ≤ 100000000000000 := by have := hl.1; omega
  obtain ⟨b, hb, hfar⟩ := far_ev l (by have := hl.1; omega)
  refine Ev.bind hb ?_
  cases b with
  | true => exact Ev.congr (fun k => if_pos rfl) al
  | false =>
    have h60 := hfar rfl
    refine Ev.congr (fun k => if_neg (by simp)) ?_
    rw [long_eq]
    refine Ev.bind (Ev.now _) ?_
    by_cases h2 : 3000 < name.size
    · rw [decide_eq_true h2]; exact al
    · rw [decide_eq_false h2]
      have ht : Ev (fun k => cringlelaw03_theirs.f k l) (l.map m43) := by
        have := theirs_ev l (by omega)
        rw [List.map_map, show (p43 ∘ of42) = m43 from funext p43_of] at this
        exact this
      refine Ev.step (fun k => by simp only [cringlelaw03_PercentGets.j0]; rw [if_neg (by simp)]) ?_
      refine Ev.bind ht ?_
      refine Ev.bind (get_ev l (by omega) name) ?_
      refine Ev.bind (rget_ev l (by omega) name) ?_
      refine Ev.congr (fun k => (if_pos rfl).trans (if_pos (by simp))) ?_
      refine Ev.bind ht ?_
      refine Ev.bind (all_ev l (by omega) name) ?_
      refine Ev.bind (rall_ev l (by omega) name (by omega)) ?_
      have hall := allIn_len (D name) l
      refine Ev.bind (texts_ev _ (by omega)) ?_
      refine Ev.congr (fun k => if_pos rfl) ?_
      exact alive_then
end Go.Proofs.YtopaheopdpkjbaaDoor.Pure
