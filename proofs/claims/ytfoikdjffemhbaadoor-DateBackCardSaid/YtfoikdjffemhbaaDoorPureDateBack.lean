/- The pure statement of DateBack. No condition. -/
import Derived.Test.YtfoikdjffemhbaaDoorSayDateBack
import Derived.Test.YtfoikdjffemhbaaDoorBack06
namespace Go.Proofs.YtfoikdjffemhbaaDoor.Pure
open Go.RowKit Go.Proofs.YtfoikdjffemhbaaDoor.Q Go.Proofs.YtfoikdjffemhbaaDoorW.PrintWords Go.Proofs.YtfoikdjffemhbaaDoorW.PrintLast Go.Proofs.YtfoikdjffemhbaaDoorW.PrintMore Go.Proofs.YtfoikdjffemhbaaDoor.Plain
set_option linter.unusedVariables false
theorem DateBack : Say.DateBack := by
  intro n hn
  have hn' := in_i64 hn
  refine Ev.rounds (g := fun k => cringlelaw06_DateBack.f k n) ?_
  unfold cringlelaw06_DateBack.f
  rcases day_or (n / 86400) with h | ⟨y, m, d, h1, h2⟩
  · refine Ev.bind (format_bad n hn' h) ?_
    refine Ev.congr (fun k => (if_neg (by simp)).trans (if_pos (by rw [Lib.toList_data]; rfl))) ?_
    exact alive_then
  · obtain ⟨Y, rfl⟩ : ∃ Y : Nat, y = (Y : Int) := ⟨y.toNat, by have := h1.1; omega⟩
    obtain ⟨E, rfl⟩ : ∃ E : Nat, d = (E : Int) := ⟨d.toNat, by have := h1.2.2.2.2.1; omega⟩
    obtain ⟨r, hr⟩ : ∃ r : Nat, n % 86400 = (r : Int) := ⟨(n % 86400).toNat, by omega⟩
    refine Ev.bind (format_day n hn' Y m E r h1 h2 hr) ?_
    refine Ev.congr (fun k => if_pos rfl) ?_
    refine Ev.bind (parse_text Y m E r h1 (by omega)) ?_
    refine Ev.congr (fun k => (if_pos (by simp only []; omega)).trans ((if_pos rfl).trans ((if_pos rfl).trans ((if_pos rfl).trans (if_pos (by rw [str_size']; rfl)))))) ?_
    exact alive_then
end Go.Proofs.YtfoikdjffemhbaaDoor.Pure
