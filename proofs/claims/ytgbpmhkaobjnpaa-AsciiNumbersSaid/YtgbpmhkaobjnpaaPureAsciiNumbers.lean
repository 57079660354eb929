/- The pure statement of AsciiNumbers: both readings of a number, and of a hex number, are the same. No condition. -/
import Derived.Test.YtgbpmhkaobjnpaaSayAsciiNumbers
import Derived.Test.YtgbpmhkaobjnpaaHexes
namespace Go.Proofs.Ytgbpmhkaobjnpaa.Pure
open Go.RowKit Go.Proofs.Ytgbpmhkaobjnpaa.Q Go.Proofs.YtgbpmhkaobjnpaaW.PrintWords Go.Proofs.YtgbpmhkaobjnpaaW.PrintLast Go.Proofs.YtgbpmhkaobjnpaaW.PrintMore Go.Proofs.Ytgbpmhkaobjnpaa.Plain
theorem AsciiNumbers : Say.AsciiNumbers := by
  intro a0 a1 h0 h1
  have b1 := in_i64 h1
  have hs : a0.size ≤ 140737488351232 := h0
  refine Ev.rounds (g := fun k => cringlelaw01_AsciiNumbers.f k a0 a1) ?_
  unfold cringlelaw01_AsciiNumbers.f cringlelaw01_long.f
  refine Ev.ite (fun _ => alive_then) (fun _ => ?_)
  refine Ev.bind (num_ev a0 hs a1 b1.2) ?_
  refine Ev.bind (ref_num_ev a0 hs a1 b1) ?_
  refine Ev.bind (hex_ev a0 hs) ?_
  refine Ev.bind (ref_hex_ev a0 hs) ?_
  simp only [if_true]
  exact alive_then
end Go.Proofs.Ytgbpmhkaobjnpaa.Pure
