/- The pure statement of SumApart: adding turns no other Sum; the zero one is that of no bytes. No condition. -/
import Derived.Test.YtibjkbanlolgiaaSaySumApart
import Derived.Test.YtibjkbanlolgiaaLaws
namespace Go.Proofs.Ytibjkbanlolgiaa.Pure
open Go.RowKit Go.Proofs.Ytibjkbanlolgiaa.Q Go.Proofs.YtibjkbanlolgiaaW.PrintWords Go.Proofs.YtibjkbanlolgiaaW.PrintLast Go.Proofs.Ytibjkbanlolgiaa.Plain
theorem same_ev {c : BitVec 32} {m : BitVec 64} : cringlelaw08_SumApart_1.f (c.toNat : Int) (m.toNat : Int) (c.toNat : Int) (m.toNat : Int) = some true := by
  unfold cringlelaw08_SumApart_1.f sum_Sum_Crc.f sum_Sum_Mark.f
  simp
theorem apart_j (l0 l1 l2 : List Int) (h0 : l0.length ≤ 140737488351232) (h1 : l1.length ≤ 140737488351232) (h2 : l2.length ≤ 140737488351232) (b : Bool) : Ev (fun k => cringlelaw08_SumApart.j0 k l0 l1 l2 b) true := by
  cases b with
  | true =>
    refine Ev.step (f := fun _ => some true) (fun k => ?_) (Ev.now _)
    simp only [cringlelaw08_SumApart.j0, cringlelaw08_alive.f, Option.bind_some, if_true]
  | false =>
    refine Ev.step (fun k => by simp only [cringlelaw08_SumApart.j0, Bool.false_eq_true, if_false]; rfl) ?_
    unfold sum_New.f cringlelaw08_alive.f
    simp only [Option.bind_some]
    refine Ev.bind (add_ev 0#32 0#64 l0 h0) ?_
    refine Ev.bind (add_ev _ _ l1 h1) ?_
    refine Ev.bind (add_ev _ _ l2 h2) ?_
    refine Ev.bind (add_ev 0#32 0#64 l0 h0) ?_
    simp only [same_ev, Option.bind_some, if_true]
    refine Ev.bind (add_ev _ _ l1 h1) ?_
    simp only [same_ev, Option.bind_some, if_true]
    refine Ev.bind (add_ev _ _ l2 h2) ?_
    have hz : cringlelaw08_SumApart_1.f 0 0 0 0 = some true := by decide
    simp only [same_ev, hz, Option.bind_some, if_true]
    exact Ev.now _
theorem SumApart : Say.SumApart := by
  rintro l0 l1 l2 ⟨h0, _⟩ ⟨h1, _⟩ ⟨h2, _⟩
  refine Ev.rounds (g := fun k => cringlelaw08_SumApart.f k l0 l1 l2) ?_
  have hj := apart_j l0 l1 l2 (by omega) (by omega) (by omega)
  unfold cringlelaw08_SumApart.f cringlelaw08_long.f
  simp only [Option.bind_some]
  by_cases ha : (l0.length : Int) > 3000
  · simp only [decide_eq_true ha, if_true]
    exact hj _
  · by_cases hb : (l1.length : Int) > 3000
    · simp only [decide_eq_true hb, decide_eq_false ha, Bool.false_eq_true, if_true, if_false]
      exact hj _
    · simp only [decide_eq_false hb, decide_eq_false ha, Bool.false_eq_true, if_false]
      exact hj _
end Go.Proofs.Ytibjkbanlolgiaa.Pure
