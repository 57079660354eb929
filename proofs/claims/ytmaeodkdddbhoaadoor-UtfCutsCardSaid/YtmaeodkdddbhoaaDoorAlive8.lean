/- The probe of layer 2 is true; small words for the laws. No condition. -/
import Derived.Test.YtmaeodkdddbhoaaDoorLoops8
namespace Go.Proofs.YtmaeodkdddbhoaaDoor.Plain
open Go.RowKit Go.Proofs.YtmaeodkdddbhoaaDoor.Q Go.Proofs.YtmaeodkdddbhoaaDoorW.PrintWords Go.Proofs.YtmaeodkdddbhoaaDoorW.PrintLast Go.Proofs.YtmaeodkdddbhoaaDoorW.PrintMore
open Go.Proofs.YtmaeodkdddbhoaaDoor.U8 (B nxt spec encB items text mend signs Right)
set_option linter.unusedVariables false
theorem now_of {α : Type} {o : Option α} {r : α} (h : o = some r) : Ev (fun _ => o) r := ⟨0, fun _ _ => h⟩
theorem text_of (l : List UInt8) : utf_IsText.f (strOf l) = some (text l) := istext_eq (strOf l)
theorem alive_ev : Ev (fun k => cringlelaw02_alive.f k) true := by
  unfold cringlelaw02_alive.f
  refine Ev.bind (repair_ev ⟨#[226, 130, 65]⟩ (by decide)) ?_
  refine Ev.congr (fun k => if_pos (by rw [Lib.toList_data]; decide +kernel)) ?_
  refine Ev.bind (put_ev [] [8364] (by decide) (by decide) (by decide)) ?_
  refine Ev.congr (fun k => if_pos (by rw [Lib.toList_data]; decide +kernel)) ?_
  rw [istext_eq, istext_eq, show text (D ⟨#[97, 195, 169]⟩) = true from by decide +kernel, show text (D ⟨#[195]⟩) = false from by decide +kernel]
  simp only [Option.bind_some, if_true]
  exact Ev.now _
theorem alive_then : Ev (fun k => (cringlelaw02_alive.f k).bind fun t => some t) true := Ev.bind alive_ev (Ev.now _)
theorem list_same {a b : ByteArray} (h : D a = D b) : a.toList = b.toList := by rw [Lib.toList_data, Lib.toList_data]; exact h
end Go.Proofs.YtmaeodkdddbhoaaDoor.Plain
