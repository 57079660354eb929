/- The pure statement of PercentPairs, for pairs that are not too great. The condition: their names and values have together at most 1048576 bytes. -/
import Derived.Test.YtopaheopdpkjbaaDoorSayPercentPairs
import Derived.Test.YtopaheopdpkjbaaDoorConn
namespace Go.Proofs.YtopaheopdpkjbaaDoor.Pure
open Go.RowKit Go.Proofs.YtopaheopdpkjbaaDoor.Q Go.Proofs.YtopaheopdpkjbaaDoorW.PrintWords Go.Proofs.YtopaheopdpkjbaaDoorW.PrintLast Go.Proofs.YtopaheopdpkjbaaDoorW.PrintMore Go.Proofs.YtopaheopdpkjbaaDoor.Plain
open Go.Proofs.YtopaheopdpkjbaaDoor.U8 (B nxt spec encB items text mend signs Right)
open Go.Proofs.YtopaheopdpkjbaaDoor.Rf
set_option linter.unusedVariables false
theorem map_of' (l : List S42) : (l.map of42).map p42 = l := by
  rw [List.map_map]
  conv => rhs; rw [← List.map_id l]
  exact List.map_congr_left fun x _ => p42_of x
theorem pairs_loop (l : List S42) (hl : l.length ≤ 60) (hx : bytesIn l ≤ 1048576) (d : Nat) : ∀ i : Nat, i + d = l.length → (∀ x ∈ l.take i, text (D x.f0) = true ∧ text (D x.f1) = true) → Ev (fun k => cringlelaw03_PercentPairs.l0 k l l (l.length : Int) (i : Int)) true := by
  induction d with
  | zero =>
    intro i hi ht
    rw [List.take_of_length_le (by omega)] at ht
    have hsm := small_of l hl hx
    have hfs := form_size l
    have htx : ∀ p ∈ l.map of42, text p.1 = true ∧ text p.2 = true := fun p hp => by
      obtain ⟨x, hxm, rfl⟩ := List.mem_map.1 hp
      exact ht x hxm
    have htl : (texts (l.map of42)).length = l.length := by unfold texts; rw [List.length_map, List.length_map]
    have hcount : (Pc.form (l.map of42)).count 38 = l.length - 1 := by
      rw [← htl]
      refine Pc.count_join (texts (l.map of42)) (fun x hxm => ?_)
      obtain ⟨p, _, rfl⟩ := texts_len _ x hxm
      have h1 := (Pc.part_has p.1).1
      have h2 := (Pc.part_has p.2).1
      simp [h1, h2]
    have htold : told3 (Pc.form (l.map of42)) = (l.map of42, 0) := by
      unfold told3
      rw [if_neg (by omega), Pc.parse_form _ htx]
    refine Ev.step (fun k => by simp only [cringlelaw03_PercentPairs.l0]; rw [if_neg (by omega)]) ?_
    refine Ev.bind (theirs_ev l (by omega)) ?_
    refine Ev.bind (form_ev _ hsm) ?_
    refine Ev.bind (parse_ev _ ?_) ?_
    · rw [strOf_size]
      omega
    rw [D_str, htold]
    refine Ev.congr (fun k => if_pos rfl) ?_
    refine Ev.bind (ours_ev _ (by rw [List.length_map]; omega)) ?_
    rw [map_of']
    refine Ev.bind (psame_ev l (by omega)) ?_
    refine Ev.congr (fun k => if_pos rfl) ?_
    exact alive_then
  | succ d ih =>
    intro i hi ht
    have hlt : i < l.length := by omega
    have h2 := bytes_each l l[i] (List.getElem_mem _)
    refine Ev.step (fun k => by simp only [cringlelaw03_PercentPairs.l0]; rw [if_pos (by omega), if_pos (by omega), if_pos (by omega), at42 hlt]) ?_
    have e1 : Ev (fun k => cringleref02_IsText.f k l[i].f0) (text (D l[i].f0)) := ristext_ev _ _ rfl (by omega)
    have e2 : Ev (fun k => cringleref02_IsText.f k l[i].f1) (text (D l[i].f1)) := ristext_ev _ _ rfl (by omega)
    refine Ev.bind e1 ?_
    cases t1 : text (D l[i].f0) with
    | false =>
      refine Ev.congr (fun k => if_neg (by simp)) ?_
      exact alive_then
    | true =>
      refine Ev.congr (fun k => if_pos rfl) ?_
      refine Ev.bind e2 ?_
      cases t2 : text (D l[i].f1) with
      | false =>
        refine Ev.congr (fun k => if_neg (by simp)) ?_
        exact alive_then
      | true =>
        refine Ev.congr (fun k => if_pos rfl) ?_
        rw [next (by omega)]
        refine ih (i + 1) (by omega) (fun x hxm => ?_)
        rw [List.take_succ_eq_append_getElem hlt] at hxm
        rcases List.mem_append.1 hxm with h | h
        · exact ht x h
        · rw [List.mem_singleton] at h
          subst h
          exact ⟨t1, t2⟩
theorem PercentPairsU (l : List S42) (hl : (fun xs => xs.length * 32 ≤ 140737488351232 ∧ ∀ x ∈ xs, (fun x => (fun p => ((fun s => s.size ≤ 140737488351232) p.1 ∧ (fun s => s.size ≤ 140737488351232) p.2)) (x.f0, x.f1)) x) l) (hx : bytesIn l ≤ 1048576) : ∃ k, cringlelaw03_PercentPairs.f k l = some true := by
  refine Ev.rounds (g := fun k => cringlelaw03_PercentPairs.f k l) ?_
  unfold cringlelaw03_PercentPairs.f
  have hl0 := hl.1
  obtain ⟨b, hb, hfar⟩ := far_ev l (by omega)
  refine Ev.bind hb ?_
  cases b with
  | true => exact Ev.congr (fun k => if_pos rfl) alive_then
  | false =>
    have h60 := hfar rfl
    refine Ev.congr (fun k => if_neg (by simp)) ?_
    exact pairs_loop l h60 hx _ 0 (Nat.zero_add _) (fun x hx => by simp at hx)
end Go.Proofs.YtopaheopdpkjbaaDoor.Pure
