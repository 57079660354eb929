/- What the printed reading of a number, and the reference's, come to. No condition but those typed. -/
import Derived.Test.YtgbpmhkaobjnpaaDigits
import Derived.Laws.BitsLemmas
namespace Go.Proofs.Ytgbpmhkaobjnpaa.Plain
open Go.RowKit Go.Proofs.Ytgbpmhkaobjnpaa.Q Go.Proofs.YtgbpmhkaobjnpaaW.PrintWords Go.Proofs.YtgbpmhkaobjnpaaW.PrintLast Go.Proofs.YtgbpmhkaobjnpaaW.PrintMore
set_option linter.unusedVariables false
def dig (x : Int) : Prop := 48 ≤ x ∧ x ≤ 57
instance (x : Int) : Decidable (dig x) := inferInstanceAs (Decidable (_ ∧ _))
theorem dig_eq {x : Int} (h : 0 ≤ x ∧ x < 256) : ascii_IsDigit.f x = some (decide (dig x)) := by
  unfold ascii_IsDigit.f
  congr 1
  exact decide_eq_decide.2 (by unfold dig; omega)
theorem ref_dig_eq {x : Int} : cringleref01_IsDigit.f x = some (decide (dig x)) := by
  unfold cringleref01_IsDigit.f
  by_cases h : x ≥ 48
  · rw [if_pos h]
    congr 1
    exact decide_eq_decide.2 (by unfold dig; omega)
  · rw [if_neg h]
    congr 1
    exact (decide_eq_false (by unfold dig; omega)).symm
/-- The number of a row of digits, behind n. -/
def val (n : Int) : List Int → Int
  | [] => n
  | x :: l => val (n * 10 + (x - 48)) l
theorem val_nil (n : Int) : val n [] = n := rfl
theorem val_cons (n x : Int) (l : List Int) : val n (x :: l) = val (n * 10 + (x - 48)) l := rfl
def allDig (l : List Int) : Prop := ∀ x ∈ l, dig x
instance (l : List Int) : Decidable (allDig l) := inferInstanceAs (Decidable (∀ x ∈ l, dig x))
theorem val_ge (l : List Int) (h : allDig l) : ∀ n : Int, 0 ≤ n → n ≤ val n l := by
  induction l with
  | nil => intro n hn; exact Int.le_refl _
  | cons x l ih =>
    intro n hn
    have hx : dig x := h x (by simp)
    unfold dig at hx
    have := ih (fun y hy => h y (by simp [hy])) (n * 10 + (x - 48)) (by omega)
    rw [val_cons]
    omega
/-- What Number answers of a row of bytes. -/
def num (most : Int) (l : List Int) : Int × Int := if l = [] then (0, 3) else if allDig l then (if val 0 l ≤ most then (val 0 l, 0) else (0, 5)) else (0, 3)
theorem allDig_cons {x : Int} {l : List Int} : allDig (x :: l) ↔ dig x ∧ allDig l := by simp [allDig]
theorem many_loop (s : ByteArray) (hs : s.size ≤ 140737488351232) (most : Int) (d : Nat) : ∀ (i : Nat) (n : Int), i + d = (bytesOf s).length →
    Ev (fun k => ascii_Number.l0 k s most n true (s.size : Int) (i : Int)) (if allDig ((bytesOf s).drop i) then (0, 5) else (0, 3)) := by
  have hsz := bytes_len s
  induction d with
  | zero =>
    intro i n hi
    refine Ev.step (f := fun _ => some (0, 5)) (fun k => ?_) ?_
    · simp only [ascii_Number.l0]
      rw [if_neg (by omega), if_pos trivial]
    · rw [List.drop_of_length_le (by omega), if_pos (by simp [allDig])]
      exact Ev.now _
  | succ d ih =>
    intro i n hi
    have hlt : i < (bytesOf s).length := by omega
    have hb := bytes_range (List.getElem_mem hlt)
    rw [drop_at hlt]
    generalize hx : (bytesOf s)[i] = x at *
    by_cases hd : dig x
    · refine Ev.step (f := fun k => ascii_Number.l0 k s most n true (s.size : Int) ((i + 1 : Nat) : Int)) (fun k => ?_) ?_
      · simp only [ascii_Number.l0]
        rw [if_pos (by omega), if_pos (by omega), if_pos (by omega), bytes_bt hlt, hx, dig_eq hb, Option.bind_some, if_pos (by simpa using hd), if_pos trivial, next (by omega)]
      · have := ih (i + 1) n (by omega)
        by_cases ha : allDig ((bytesOf s).drop (i + 1))
        · rw [if_pos ha] at this
          rw [if_pos (allDig_cons.2 ⟨hd, ha⟩)]
          exact this
        · rw [if_neg ha] at this
          rw [if_neg (fun h => ha (allDig_cons.1 h).2)]
          exact this
    · refine Ev.step (f := fun _ => some (0, 3)) (fun k => ?_) ?_
      · simp only [ascii_Number.l0]
        rw [if_pos (by omega), if_pos (by omega), if_pos (by omega), bytes_bt hlt, hx, dig_eq hb, Option.bind_some, if_neg (by simpa using hd)]
      · rw [if_neg (fun h => hd (allDig_cons.1 h).1)]
        exact Ev.now _
theorem num_loop (s : ByteArray) (hs : s.size ≤ 140737488351232) (most : Int) (hm : 0 ≤ most ∧ most < 9223372036854775808) (d : Nat) : ∀ (i : Nat) (n : Int), i + d = (bytesOf s).length → 0 ≤ n → n ≤ most →
    Ev (fun k => ascii_Number.l0 k s most n false (s.size : Int) (i : Int)) (if allDig ((bytesOf s).drop i) then (if val n ((bytesOf s).drop i) ≤ most then (val n ((bytesOf s).drop i), 0) else (0, 5)) else (0, 3)) := by
  have hsz := bytes_len s
  induction d with
  | zero =>
    intro i n hi h0 h1
    refine Ev.step (f := fun _ => some (n, 0)) (fun k => ?_) ?_
    · simp only [ascii_Number.l0]
      rw [if_neg (by omega), if_neg (by simp)]
    · rw [List.drop_of_length_le (by omega), if_pos (by simp [allDig])]
      rw [val_nil, if_pos h1]
      exact Ev.now _
  | succ d ih =>
    intro i n hi h0 h1
    have hlt : i < (bytesOf s).length := by omega
    have hb := bytes_range (List.getElem_mem hlt)
    rw [drop_at hlt]
    generalize hx : (bytesOf s)[i] = x at *
    by_cases hd : dig x
    · have hdd : 48 ≤ x ∧ x ≤ 57 := hd
      have hm8 : (x - 48) % 256 = x - 48 := by omega
      have hstep : ∀ k, ascii_Number.l0 (k + 1) s most n false (s.size : Int) (i : Int) = if n * 10 + (x - 48) ≤ most then ascii_Number.l0 k s most (n * 10 + (x - 48)) false (s.size : Int) ((i + 1 : Nat) : Int) else ascii_Number.l0 k s most n true (s.size : Int) ((i + 1 : Nat) : Int) := by
        intro k
        simp only [ascii_Number.l0]
        rw [if_pos (by omega), if_pos (by omega), if_pos (by omega), bytes_bt hlt, hx, dig_eq hb, Option.bind_some, if_pos (by simpa using hd), if_neg (by simp), next (by omega), hm8]
        rw [wrap64_id (n := most - (x - 48)) (by omega) (by omega)]
        by_cases hle : n * 10 + (x - 48) ≤ most
        · rw [if_pos hle, wrap64_id (n := n * 10) (by omega) (by omega), wrap64_id (n := n * 10 + (x - 48)) (by omega) (by omega)]
          have ht : Int.tdiv (most - (x - 48)) 10 = (most - (x - 48)) / 10 := Int.tdiv_eq_ediv_of_nonneg (by omega)
          rw [ht, wrap64_id (by omega) (by omega), if_neg (by omega), if_neg (by omega)]
        · rw [if_neg hle]
          by_cases hl : most < x - 48
          · rw [if_pos hl]; split <;> rfl
          · have ht : Int.tdiv (most - (x - 48)) 10 = (most - (x - 48)) / 10 := Int.tdiv_eq_ediv_of_nonneg (by omega)
            rw [ht, wrap64_id (by omega) (by omega), if_pos (by omega)]
      by_cases hle : n * 10 + (x - 48) ≤ most
      · refine Ev.step (fun k => by rw [hstep k, if_pos hle]) ?_
        have := ih (i + 1) (n * 10 + (x - 48)) (by omega) (by omega) hle
        by_cases ha : allDig ((bytesOf s).drop (i + 1))
        · rw [if_pos ha] at this
          rw [if_pos (allDig_cons.2 ⟨hd, ha⟩), val_cons]
          exact this
        · rw [if_neg ha] at this
          rw [if_neg (fun h => ha (allDig_cons.1 h).2)]
          exact this
      · refine Ev.step (fun k => by rw [hstep k, if_neg hle]) ?_
        have := many_loop s hs most d (i + 1) n (by omega)
        by_cases ha : allDig ((bytesOf s).drop (i + 1))
        · have hg := val_ge _ ha (n * 10 + (x - 48)) (by omega)
          rw [if_pos ha] at this
          rw [if_pos (allDig_cons.2 ⟨hd, ha⟩)]
          rw [val_cons, if_neg (by omega)]
          exact this
        · rw [if_neg ha] at this
          rw [if_neg (fun h => ha (allDig_cons.1 h).2)]
          exact this
    · refine Ev.step (f := fun _ => some (0, 3)) (fun k => ?_) ?_
      · simp only [ascii_Number.l0]
        rw [if_pos (by omega), if_pos (by omega), if_pos (by omega), bytes_bt hlt, hx, dig_eq hb, Option.bind_some, if_neg (by simpa using hd)]
      · rw [if_neg (fun h => hd (allDig_cons.1 h).1)]
        exact Ev.now _
theorem num_ev (s : ByteArray) (hs : s.size ≤ 140737488351232) (most : Int) (hm : most < 9223372036854775808) : Ev (fun k => ascii_Number.f k s most) (num most (bytesOf s)) := by
  unfold ascii_Number.f num
  by_cases h : bytesOf s = []
  · rw [if_pos h]
    exact Ev.congr (fun k => if_pos (nil_bytes.2 h)) (Ev.now _)
  · rw [if_neg h]
    refine Ev.congr (fun k => if_neg (fun e => h (nil_bytes.1 e))) ?_
    by_cases hneg : most < 0
    · rw [decide_eq_true hneg]
      have := many_loop s hs most _ 0 0 (Nat.zero_add _)
      rw [List.drop_zero] at this
      by_cases ha : allDig (bytesOf s)
      · rw [if_pos ha] at this ⊢
        have := val_ge _ ha 0 (by omega)
        rw [if_neg (by omega)]
        assumption
      · rw [if_neg ha] at this ⊢
        exact this
    · rw [decide_eq_false hneg]
      have := num_loop s hs most ⟨by omega, hm⟩ _ 0 0 (Nat.zero_add _) (by omega) (by omega)
      rwa [List.drop_zero] at this
theorem ref_num1 (s : ByteArray) (hs : s.size ≤ 140737488351232) (most : Int) (hm : -9223372036854775808 ≤ most ∧ most < 9223372036854775808) (ha : allDig (bytesOf s)) (d : Nat) : ∀ (i : Nat) (n : Int), i + d = (bytesOf s).length → 0 ≤ n → (n ≤ most ∨ (n = 0 ∧ 0 < d)) →
    Ev (fun k => cringleref01_Number.l1 k s most n (i : Int)) (if val n ((bytesOf s).drop i) ≤ most then (val n ((bytesOf s).drop i), 0) else (0, 5)) := by
  have hsz := bytes_len s
  induction d with
  | zero =>
    intro i n hi h0 h1
    refine Ev.step (f := fun _ => some (n, 0)) (fun k => ?_) ?_
    · simp only [cringleref01_Number.l1]
      rw [if_neg (by omega)]
    · rw [List.drop_of_length_le (by omega)]
      rw [val_nil, if_pos (by omega)]
      exact Ev.now _
  | succ d ih =>
    intro i n hi h0 h1
    have hlt : i < (bytesOf s).length := by omega
    have hd := ha _ (List.getElem_mem hlt)
    have har : allDig ((bytesOf s).drop (i + 1)) := fun y hy => ha y (List.mem_of_mem_drop hy)
    rw [drop_at hlt]
    generalize hx : (bytesOf s)[i] = x at *
    have hdd : 48 ≤ x ∧ x ≤ 57 := hd
    have hm8 : (x - 48) % 256 = x - 48 := by omega
    have hstep : ∀ k, cringleref01_Number.l1 (k + 1) s most n (i : Int) = if n * 10 + (x - 48) ≤ most then cringleref01_Number.l1 k s most (n * 10 + (x - 48)) ((i + 1 : Nat) : Int) else some (0, 5) := by
      intro k
      simp only [cringleref01_Number.l1]
      rw [if_pos (by omega), if_pos (by omega), bytes_bt hlt, hx, next (by omega), hm8]
      rcases Int.lt_or_le most 0 with hneg | hpos
      · rw [if_neg (show ¬n * 10 + (x - 48) ≤ most by omega), if_pos hneg]
        split
        · rfl
        · split
          · split
            · rfl
            · rfl
          · rfl
      · have ht : Int.tdiv most 10 = most / 10 := Int.tdiv_eq_ediv_of_nonneg hpos
        have hr : Int.tmod most 10 = most % 10 := Int.tmod_eq_emod_of_nonneg hpos
        rw [ht, hr, wrap64_id (n := most / 10) (by omega) (by omega)]
        by_cases hle : n * 10 + (x - 48) ≤ most
        · rw [if_pos hle, wrap64_id (n := n * 10) (by omega) (by omega), wrap64_id (n := n * 10 + (x - 48)) (by omega) (by omega), if_neg (by omega)]
          split
          · rw [if_neg (by omega), if_neg (by omega)]
          · rw [if_neg (by omega)]
        · rw [if_neg hle]
          split
          · rfl
          · rw [if_pos (by omega), if_pos (by omega)]
    have hg := val_ge _ har (n * 10 + (x - 48)) (by omega)
    by_cases hle : n * 10 + (x - 48) ≤ most
    · refine Ev.step (fun k => by rw [hstep k, if_pos hle]) ?_
      exact ih (i + 1) (n * 10 + (x - 48)) (by omega) (by omega) (Or.inl hle)
    · refine Ev.step (fun k => by rw [hstep k, if_neg hle]) ?_
      rw [val_cons, if_neg (by omega)]
      exact Ev.now _
theorem ref_num0 (s : ByteArray) (hs : s.size ≤ 140737488351232) (most : Int) (hm : -9223372036854775808 ≤ most ∧ most < 9223372036854775808) (d : Nat) : ∀ (i : Nat), i + d = (bytesOf s).length → allDig ((bytesOf s).take i) →
    Ev (fun k => cringleref01_Number.l0 k s most (i : Int)) (num most (bytesOf s)) := by
  have hsz := bytes_len s
  induction d with
  | zero =>
    intro i hi ha
    rw [List.take_of_length_le (by omega)] at ha
    unfold num
    by_cases h : bytesOf s = []
    · rw [if_pos h]
      refine Ev.step (f := fun _ => some (0, 3)) (fun k => ?_) (Ev.now _)
      simp only [cringleref01_Number.l0]
      rw [if_neg (by omega), if_pos (nil_bytes.2 h)]
    · rw [if_neg h, if_pos ha]
      refine Ev.step (f := fun k => cringleref01_Number.l1 k s most 0 ((0 : Nat) : Int)) (fun k => ?_) ?_
      · simp only [cringleref01_Number.l0]
        rw [if_neg (by omega), if_neg (fun e => h (nil_bytes.1 e))]
        rfl
      · have hl := List.length_pos_iff.2 h
        exact ref_num1 s hs most hm ha _ 0 0 (Nat.zero_add _) (by omega) (Or.inr ⟨rfl, hl⟩)
  | succ d ih =>
    intro i hi ha
    have hlt : i < (bytesOf s).length := by omega
    by_cases hd : dig (bytesOf s)[i]
    · refine Ev.step (f := fun k => cringleref01_Number.l0 k s most ((i + 1 : Nat) : Int)) (fun k => ?_) ?_
      · simp only [cringleref01_Number.l0]
        rw [if_pos (by omega), if_pos (by omega), bytes_bt hlt, ref_dig_eq, Option.bind_some, if_pos (by simpa using hd), next (by omega)]
      · refine ih (i + 1) (by omega) ?_
        rw [List.take_add_one, List.getElem?_eq_getElem hlt]
        intro y hy
        rcases List.mem_append.1 hy with hy | hy
        · exact ha y hy
        · obtain rfl : y = (bytesOf s)[i] := by simpa using hy
          exact hd
    · refine Ev.step (f := fun _ => some (0, 3)) (fun k => ?_) ?_
      · simp only [cringleref01_Number.l0]
        rw [if_pos (by omega), if_pos (by omega), bytes_bt hlt, ref_dig_eq, Option.bind_some, if_neg (by simpa using hd)]
      · unfold num
        rw [if_neg (fun e => by rw [e] at hlt; simp at hlt), if_neg (fun h => hd (h _ (List.getElem_mem hlt)))]
        exact Ev.now _
theorem ref_num_ev (s : ByteArray) (hs : s.size ≤ 140737488351232) (most : Int) (hm : -9223372036854775808 ≤ most ∧ most < 9223372036854775808) : Ev (fun k => cringleref01_Number.f k s most) (num most (bytesOf s)) :=
  ref_num0 s hs most hm _ 0 (Nat.zero_add _) (by simp [allDig])
end Go.Proofs.Ytgbpmhkaobjnpaa.Plain
