/- The pure statement of AsciiSigns: for each of the 256 bytes. No condition. -/
import Derived.Test.YtgbpmhkaobjnpaaSayAsciiSigns
import Derived.Test.YtgbpmhkaobjnpaaTexts
namespace Go.Proofs.Ytgbpmhkaobjnpaa.Pure
open Go.RowKit Go.Proofs.Ytgbpmhkaobjnpaa.Q Go.Proofs.YtgbpmhkaobjnpaaW.PrintWords Go.Proofs.YtgbpmhkaobjnpaaW.PrintLast Go.Proofs.YtgbpmhkaobjnpaaW.PrintMore Go.Proofs.Ytgbpmhkaobjnpaa.Plain
theorem signs_all : ∀ i : Fin 256, (cringlelaw01_AsciiSigns.f 40 (i.val : Int) = some true) := by decide +kernel
theorem AsciiSigns : Say.AsciiSigns := by
  intro a0 h0
  have h := in_u8 h0
  obtain ⟨n, rfl⟩ := Int.eq_ofNat_of_zero_le h.1
  exact ⟨40, signs_all ⟨n, by omega⟩⟩
end Go.Proofs.Ytgbpmhkaobjnpaa.Pure
