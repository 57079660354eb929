/- The pure statement of AsciiBack: a number's digits are read as it; what is read is written as it was, but for zeros ahead. No condition. -/
import Derived.Test.YtgbpmhkaobjnpaaSayAsciiBack
import Derived.Test.YtgbpmhkaobjnpaaNumbers
namespace Go.Proofs.Ytgbpmhkaobjnpaa.Pure
open Go.RowKit Go.Proofs.Ytgbpmhkaobjnpaa.Q Go.Proofs.YtgbpmhkaobjnpaaW.PrintWords Go.Proofs.YtgbpmhkaobjnpaaW.PrintLast Go.Proofs.YtgbpmhkaobjnpaaW.PrintMore Go.Proofs.Ytgbpmhkaobjnpaa.Plain
set_option linter.unusedVariables false
/-- The number of digits, the lowest one first. -/
def lv : List Int → Int
  | [] => 0
  | x :: l => (x - 48) + 10 * lv l
theorem val_snoc (l : List Int) (x : Int) : ∀ n, val n (l ++ [x]) = val n l * 10 + (x - 48) := by
  induction l with
  | nil => intro n; rfl
  | cons y l ih => intro n; rw [List.cons_append, val_cons, val_cons, ih]
theorem val_rev (l : List Int) : val 0 l.reverse = lv l := by
  induction l with
  | nil => rfl
  | cons x l ih => rw [List.reverse_cons, val_snoc, ih, lv]; omega
theorem lv_ds (n : Nat) : lv (ds n) = (n : Int) := by
  induction n using Nat.strongRecOn with
  | _ n ih =>
    rcases Nat.eq_zero_or_pos n with rfl | h
    · rw [ds_zero]; rfl
    · rw [ds_pos h, lv, ih (n / 10) (by omega)]; omega
theorem lv_zeros (z : Nat) : lv (List.replicate z 48) = 0 := by
  induction z with
  | zero => rfl
  | succ z ih => rw [List.replicate_succ, lv, ih]; omega
theorem lv_app_zeros (l : List Int) (z : Nat) : lv (l ++ List.replicate z 48) = lv l := by
  induction l with
  | nil => exact lv_zeros z
  | cons x l ih => rw [List.cons_append, lv, lv, ih]
theorem lv_nonneg (l : List Int) (h : allDig l) : 0 ≤ lv l := by
  induction l with
  | nil => exact Int.le_refl _
  | cons x l ih =>
    have hx : dig x := (allDig_cons.1 h).1
    have := ih (allDig_cons.1 h).2
    unfold dig at hx
    rw [lv]; omega
/-- A row of digits whose highest one is not zero is that number's. -/
theorem ds_lv (l : List Int) (h : allDig l) (hl : ∀ x, l.getLast? = some x → x ≠ 48) : ds (lv l).toNat = l := by
  induction l with
  | nil => exact ds_zero
  | cons x l ih =>
    have hx : dig x := (allDig_cons.1 h).1
    have hd := (allDig_cons.1 h).2
    have hn := lv_nonneg l hd
    have hxd : 48 ≤ x ∧ x ≤ 57 := hx
    rw [lv]
    rcases l with _ | ⟨y, l⟩
    · have : x ≠ 48 := hl x rfl
      rw [lv, ds_pos (by omega)]
      have e1 : (x - 48 + 10 * 0).toNat / 10 = 0 := by omega
      rw [e1, ds_zero]
      congr 1
      omega
    · have ih2 := ih hd (fun z hz => hl z (by rw [List.getLast?_cons_cons]; exact hz))
      generalize hL : y :: l = L at *
      have hpos : lv L ≠ 0 := by
        intro e
        rw [e] at ih2
        have : ds 0 = L := ih2
        rw [ds_zero, ← hL] at this
        cases this
      rw [ds_pos (by omega)]
      have e1 : (x - 48 + 10 * lv L).toNat / 10 = (lv L).toNat := by omega
      rw [e1, ih2]
      congr 1
      omega
theorem dig_padded {a0 a1 : Int} (h : 0 ≤ a0) : allDig (padded a0 a1) ∧ padded a0 a1 ≠ [] ∧ val 0 (padded a0 a1) = a0 := by
  have hm := most_eq a1
  unfold padded padTo
  rw [if_neg (by omega), List.nil_append]
  refine ⟨?_, ?_, ?_⟩
  · intro x hx
    rw [List.mem_reverse, List.mem_append] at hx
    rcases hx with hx | hx
    · have := ds_range _ x hx
      unfold dig; omega
    · obtain ⟨_, rfl⟩ := List.mem_replicate.1 hx
      unfold dig; omega
  · intro e
    have := congrArg List.length e
    rw [List.length_reverse, List.length_append, List.length_replicate, List.length_nil] at this
    omega
  · rw [val_rev, lv_app_zeros, lv_ds]
    omega
theorem padded_bytes {a0 a1 : Int} (h : 0 ≤ a0) : bytesOf (strOfNums (padded a0 a1)) = padded a0 a1 := bytes_str fun x hx => by
  have : dig x := (dig_padded h).1 x hx
  unfold dig at this; omega
theorem text_ev (a : Int) (h : -9223372036854775808 ≤ a ∧ a < 9223372036854775808) : Ev (fun k => ascii_Text.f k a) (strOfNums (padded a 1)) := by
  unfold ascii_Text.f
  exact Ev.bind (pad_ev a 1 h) (Ev.now _)
theorem num_padded {a0 a1 : Int} (h : 0 ≤ a0) (hm : a0 < 9223372036854775808) (hs : (padded a0 a1).length ≤ 1000) : Ev (fun k => ascii_Number.f k (strOfNums (padded a0 a1)) 9223372036854775807) (a0, 0) := by
  have := num_ev (strOfNums (padded a0 a1)) (by rw [str_size]; omega) 9223372036854775807 (by omega)
  rw [padded_bytes h] at this
  obtain ⟨h1, h2, h3⟩ := dig_padded (a1 := a1) h
  unfold num at this
  rwa [if_neg h2, if_pos h1, h3, if_pos (by omega)] at this
theorem padded_len (a0 a1 : Int) (h : -9223372036854775808 ≤ a0 ∧ a0 < 9223372036854775808) : (padded a0 a1).length ≤ 1000 := by
  have hm := most_eq a1
  have := ds_len 20 a0.natAbs (by omega)
  unfold padded padTo
  have h1 : (if a0 < 0 then [45] else [] : List Int).length ≤ 1 := by split <;> simp
  rw [List.length_append, List.length_reverse, List.length_append, List.length_replicate]
  omega
/-- Digits with no zero ahead are their number's text. -/
theorem padded_val (l : List Int) (ha : allDig l) (hne : l ≠ []) (h0 : l.length = 1 ∨ ∀ x, l.head? = some x → x ≠ 48) : padded (val 0 l) 1 = l := by
  have hv : val 0 l = lv l.reverse := by
    have := val_rev l.reverse
    rwa [List.reverse_reverse] at this
  have har : allDig l.reverse := fun x hx => ha x (List.mem_reverse.1 hx)
  have hn := lv_nonneg _ har
  have hm : most 1 = 1 := by decide
  rw [hv]
  unfold padded padTo
  rw [if_neg (by omega), List.nil_append, hm]
  have hab : (lv l.reverse).natAbs = (lv l.reverse).toNat := by omega
  rw [hab]
  by_cases hz : l = [48]
  · subst hz
    decide +kernel
  · have hl : ∀ x, l.reverse.getLast? = some x → x ≠ 48 := by
      intro x hx
      rw [List.getLast?_reverse] at hx
      rcases h0 with h0 | h0
      · obtain ⟨y, rfl⟩ := List.length_eq_one_iff.1 h0
        simp at hx
        rintro rfl
        exact hz (by rw [hx])
      · exact h0 x hx
    rw [ds_lv _ har hl]
    have : 1 - l.reverse.length = 0 := by
      have := List.length_pos_iff.2 hne
      simp; omega
    rw [this]
    simp
theorem strip (v : Int) (hv : 0 ≤ v ∧ v < 9223372036854775808) (d : Nat) : ∀ (s : ByteArray), s.size = d → s.size ≤ 140737488351232 → allDig (bytesOf s) → bytesOf s ≠ [] → val 0 (bytesOf s) = v → Ev (fun k => cringlelaw01_AsciiBack.l0 k s v) true := by
  have last : ∀ s : ByteArray, padded v 1 = bytesOf s → Ev (fun k => (ascii_Text.f k v).bind fun t => if t.toList = s.toList then ((cringlelaw01_alive.f k).bind fun t => some t) else some false) true := by
    intro s he
    refine Ev.bind (text_ev v ⟨by omega, by omega⟩) ?_
    rw [he, str_bytes]
    exact Ev.congr (fun k => if_pos rfl) alive_then
  induction d with
  | zero =>
    intro s hs hb ha hne hval
    exfalso
    exact hne (List.length_eq_zero_iff.1 (by rw [bytes_len]; exact hs))
  | succ d ih =>
    intro s hs hb ha hne hval
    have hsz := bytes_len s
    have hlt : 0 < (bytesOf s).length := by omega
    by_cases h1 : (s.size : Int) > 1
    · by_cases h2 : bt s 0 = 48
      · have hx : (bytesOf s)[0] = 48 := by
          rw [← bytes_bt hlt]; exact h2
        have hcons : bytesOf s = 48 :: (bytesOf s).drop 1 := by
          have := drop_at hlt
          rw [List.drop_zero, hx] at this
          exact this
        refine Ev.step (f := fun k => cringlelaw01_AsciiBack.l0 k (s.extract 1 s.size) v) (fun k => ?_) ?_
        · simp only [cringlelaw01_AsciiBack.l0]
          rw [if_pos h1, if_pos (by omega), if_pos h2, if_pos (by omega)]
        · have hfr := bytes_from s 1
          have hl2 : (s.extract 1 s.size).size = d := by
            rw [← bytes_len, hfr, List.length_drop]; omega
          refine ih _ hl2 (by omega) ?_ ?_ ?_
          · rw [hfr]
            exact fun x hx => ha x (List.mem_of_mem_drop hx)
          · intro e
            have := congrArg List.length e
            rw [bytes_len, hl2] at this
            simp at this
            omega
          · rw [hfr, ← hval]
            conv => rhs; rw [hcons, val_cons]
            rfl
      · refine Ev.step (fun k => by simp only [cringlelaw01_AsciiBack.l0]; rw [if_pos h1, if_pos (by omega), if_neg h2]) ?_
        refine last s ?_
        rw [← hval]
        refine padded_val _ ha hne (Or.inr fun x hx => ?_)
        rintro rfl
        apply h2
        have hb0 := bytes_bt hlt
        rw [List.head?_eq_getElem?, List.getElem?_eq_getElem hlt] at hx
        injection hx with hx
        rw [hx] at hb0
        exact hb0
    · refine Ev.step (fun k => by simp only [cringlelaw01_AsciiBack.l0]; rw [if_neg h1]) ?_
      refine last s ?_
      rw [← hval]
      exact padded_val _ ha hne (Or.inl (by omega))
theorem back_j (s : ByteArray) (hs : s.size ≤ 140737488351232) : Ev (fun k => cringlelaw01_AsciiBack.j0 k s) true := by
  have hn := num_ev s hs 9223372036854775807 (by omega)
  refine Ev.step (f := fun k => (ascii_Number.f k s 9223372036854775807).bind fun p => if p.2 = 0 then cringlelaw01_AsciiBack.l0 k s p.1 else if p.1 = 0 then (cringlelaw01_alive.f k).bind fun t => some t else some false) (fun k => by simp only [cringlelaw01_AsciiBack.j0]) ?_
  refine Ev.bind hn ?_
  unfold num
  by_cases h : bytesOf s = []
  · rw [if_pos h]
    exact Ev.congr (fun k => if_neg (by decide)) (Ev.congr (fun k => if_pos rfl) alive_then)
  · rw [if_neg h]
    by_cases ha : allDig (bytesOf s)
    · rw [if_pos ha]
      by_cases hv : val 0 (bytesOf s) ≤ 9223372036854775807
      · rw [if_pos hv]
        refine Ev.congr (fun k => if_pos rfl) ?_
        exact strip _ ⟨val_ge _ ha 0 (by omega), by omega⟩ _ s rfl hs ha h rfl
      · rw [if_neg hv]
        exact Ev.congr (fun k => if_neg (by decide)) (Ev.congr (fun k => if_pos rfl) alive_then)
    · rw [if_neg ha]
      exact Ev.congr (fun k => if_neg (by decide)) (Ev.congr (fun k => if_pos rfl) alive_then)
theorem AsciiBack : Say.AsciiBack := by
  intro a0 a1 h0 h1
  have b0 := in_i64 h0
  have hs : a1.size ≤ 140737488351232 := h1
  refine Ev.rounds (g := fun k => cringlelaw01_AsciiBack.f k a0 a1) ?_
  unfold cringlelaw01_AsciiBack.f cringlelaw01_long.f
  refine Ev.ite (fun _ => alive_then) (fun _ => ?_)
  refine Ev.ite (fun hp => ?_) (fun _ => back_j a1 hs)
  refine Ev.bind (text_ev a0 b0) ?_
  refine Ev.bind (num_padded hp b0.2 (padded_len _ _ b0)) ?_
  refine Ev.bind (pad_ev a0 20 b0) ?_
  refine Ev.bind (num_padded hp b0.2 (padded_len _ _ b0)) ?_
  simp only [if_true]
  exact back_j a1 hs
end Go.Proofs.Ytgbpmhkaobjnpaa.Pure
