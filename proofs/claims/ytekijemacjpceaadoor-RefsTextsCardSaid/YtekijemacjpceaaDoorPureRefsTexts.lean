/- The pure statement of RefsTexts. No condition. -/
import Derived.Test.YtekijemacjpceaaDoorSayRefsTexts
import Derived.Test.YtekijemacjpceaaDoorConn
namespace Go.Proofs.YtekijemacjpceaaDoor.Pure
open Go.RowKit Go.Proofs.YtekijemacjpceaaDoor.Q Go.Proofs.YtekijemacjpceaaDoorW.PrintWords Go.Proofs.YtekijemacjpceaaDoorW.PrintLast Go.Proofs.YtekijemacjpceaaDoorW.PrintMore Go.Proofs.YtekijemacjpceaaDoor.Plain
open Go.Proofs.YtekijemacjpceaaDoor.U8 (B nxt spec encB items text mend signs Right)
open Go.Proofs.YtekijemacjpceaaDoor.Rf
set_option linter.unusedVariables false
theorem RefsTexts : Say.RefsTexts := by
  intro s attr hs
  refine Ev.rounds (g := fun k => cringlelaw11_RefsTexts.f k s attr) ?_
  unfold cringlelaw11_RefsTexts.f
  rw [long_eq]
  refine Ev.bind (Ev.now _) ?_
  by_cases h : 1500 < s.size
  · refine Ev.congr (fun k => if_pos (decide_eq_true h)) ?_
    exact alive_then
  · refine Ev.congr (fun k => if_neg (by simpa using h)) ?_
    refine Ev.bind (Decode_ev s attr (by omega)) ?_
    refine Ev.bind (rDecode_ev s attr (by omega)) ?_
    refine Ev.congr (fun k => if_pos rfl) ?_
    rw [Encode_eq s attr (by omega)]
    refine Ev.bind (Ev.now _) ?_
    refine Ev.bind (rEncode_ev s attr (by omega)) ?_
    refine Ev.congr (fun k => if_pos rfl) ?_
    exact alive_then
end Go.Proofs.YtekijemacjpceaaDoor.Pure
