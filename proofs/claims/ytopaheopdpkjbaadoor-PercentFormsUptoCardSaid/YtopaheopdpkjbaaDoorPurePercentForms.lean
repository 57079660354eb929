/- The pure statement of PercentForms, for pairs that are not too great. The condition: their names and values have together at most 1048576 bytes. -/
import Derived.Test.YtopaheopdpkjbaaDoorSayPercentForms
import Derived.Test.YtopaheopdpkjbaaDoorConn
namespace Go.Proofs.YtopaheopdpkjbaaDoor.Pure
open Go.RowKit Go.Proofs.YtopaheopdpkjbaaDoor.Q Go.Proofs.YtopaheopdpkjbaaDoorW.PrintWords Go.Proofs.YtopaheopdpkjbaaDoorW.PrintLast Go.Proofs.YtopaheopdpkjbaaDoorW.PrintMore Go.Proofs.YtopaheopdpkjbaaDoor.Plain
open Go.Proofs.YtopaheopdpkjbaaDoor.U8 (B nxt spec encB items text mend signs Right)
open Go.Proofs.YtopaheopdpkjbaaDoor.Rf
set_option linter.unusedVariables false
theorem map_of (l : List S42) : (l.map of42).map p42 = l := by
  rw [List.map_map]
  conv => rhs; rw [← List.map_id l]
  exact List.map_congr_left fun x _ => p42_of x
theorem parse_len2 (l : List UInt8) : (told3 l).1.length ≤ l.length + 1 := by
  unfold told3
  split
  · simp
  · unfold Pc.parse Pc.pairs
    rw [List.length_map]
    have := List.length_filter_le (fun x : List UInt8 => decide (x ≠ [])) (Pc.sp 38 [] l)
    rw [Pc.sp_len] at this
    have h2 := List.count_le_length (a := (38 : UInt8)) (l := l)
    omega
theorem PercentFormsU (l : List S42) (s : ByteArray) (hl : (fun xs => xs.length * 32 ≤ 140737488351232 ∧ ∀ x ∈ xs, (fun x => (fun p => ((fun s => s.size ≤ 140737488351232) p.1 ∧ (fun s => s.size ≤ 140737488351232) p.2)) (x.f0, x.f1)) x) l) (hs : (fun s => s.size ≤ 140737488351232) s) (hx : bytesIn l ≤ 1048576) : ∃ k, cringlelaw03_PercentForms.f k l s = some true := by
  refine Ev.rounds (g := fun k => cringlelaw03_PercentForms.f k l s) ?_
  unfold cringlelaw03_PercentForms.f
  have al : Ev (fun k => cringlelaw03_PercentForms.j0 k l s true) true := Ev.step (fun k => by simp only [cringlelaw03_PercentForms.j0]; rw [if_pos trivial]) alive_then
  have hl0 := hl.1
  obtain ⟨b, hb, hfar⟩ := far_ev l (by omega)
  refine Ev.bind hb ?_
  cases b with
  | true => exact Ev.congr (fun k => if_pos rfl) al
  | false =>
    have h60 := hfar rfl
    refine Ev.congr (fun k => if_neg (by simp)) ?_
    rw [long_eq]
    refine Ev.bind (Ev.now _) ?_
    by_cases h2 : 3000 < s.size
    · rw [decide_eq_true h2]; exact al
    · rw [decide_eq_false h2]
      have hsm := small_of l h60 hx
      have hlen := parse_len2 (D s)
      rw [D_len] at hlen
      refine Ev.step (fun k => by simp only [cringlelaw03_PercentForms.j0]; rw [if_neg (by simp)]) ?_
      refine Ev.bind (parse_ev s (by omega)) ?_
      refine Ev.bind (rparse_ev s (by omega)) ?_
      refine Ev.bind (theirs_ev l (by omega)) ?_
      refine Ev.bind (form_ev _ hsm) ?_
      have hr := rform_ev _ hsm
      rw [map_of] at hr
      refine Ev.bind hr ?_
      refine Ev.congr (fun k => if_pos rfl) ?_
      refine Ev.bind (ours_ev _ (by omega)) ?_
      refine Ev.bind (psame_ev _ (by rw [List.length_map]; omega)) ?_
      refine Ev.congr (fun k => (if_pos rfl).trans (if_pos rfl)) ?_
      exact alive_then
end Go.Proofs.YtopaheopdpkjbaaDoor.Pure
