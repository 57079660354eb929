/- The pure statement of AsciiDigits: Pad and the reference's Pad have the same digits. No condition. -/
import Derived.Test.YtgbpmhkaobjnpaaSayAsciiDigits
import Derived.Test.YtgbpmhkaobjnpaaDigits
namespace Go.Proofs.Ytgbpmhkaobjnpaa.Pure
open Go.RowKit Go.Proofs.Ytgbpmhkaobjnpaa.Q Go.Proofs.YtgbpmhkaobjnpaaW.PrintWords Go.Proofs.YtgbpmhkaobjnpaaW.PrintLast Go.Proofs.YtgbpmhkaobjnpaaW.PrintMore Go.Proofs.Ytgbpmhkaobjnpaa.Plain
theorem AsciiDigits : Say.AsciiDigits := by
  intro a0 a1 h0 h1
  have b0 := in_i64 h0
  refine Ev.rounds (g := fun k => cringlelaw01_AsciiDigits.f k a0 a1) ?_
  unfold cringlelaw01_AsciiDigits.f ascii_Text.f cringleref01_Text.f
  refine Ev.bind (Ev.bind (pad_ev a0 1 b0) (Ev.now _)) ?_
  refine Ev.bind (Ev.bind (ref_pad_ev a0 1 b0) (Ev.now _)) ?_
  refine Ev.congr (fun k => if_pos rfl) ?_
  refine Ev.bind (pad_ev a0 a1 b0) ?_
  refine Ev.bind (ref_pad_ev a0 a1 b0) ?_
  refine Ev.congr (fun k => if_pos rfl) ?_
  exact alive_then
end Go.Proofs.Ytgbpmhkaobjnpaa.Pure
