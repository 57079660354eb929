/- A number's digits, the lowest one first; what the printed padding and the reference's come to. No condition but those typed. · What the printed reading of a number, and the reference's, come to. No condition but those typed. -/
import Derived.Test.YtfoikdjffemhbaaDoorQ
import Derived.Test.YtfoikdjffemhbaaDoorTexts
import Derived.Laws.BitsLemmas
namespace Go.Proofs.YtfoikdjffemhbaaDoor.Plain
open Go.RowKit Go.Proofs.YtfoikdjffemhbaaDoor.Q Go.Proofs.YtfoikdjffemhbaaDoorW.PrintWords Go.Proofs.YtfoikdjffemhbaaDoorW.PrintLast Go.Proofs.YtfoikdjffemhbaaDoorW.PrintMore
set_option linter.unusedVariables false
/-- The digits of a number, the lowest one first; those of zero are none. -/
def ds (n : Nat) : List Int := if h : n = 0 then [] else (48 + ((n % 10 : Nat) : Int)) :: ds (n / 10)
termination_by n
decreasing_by omega
theorem ds_zero : ds 0 = [] := by rw [ds]; simp
theorem ds_pos {n : Nat} (h : 0 < n) : ds n = (48 + ((n % 10 : Nat) : Int)) :: ds (n / 10) := by
  rw [ds, dif_neg (by omega)]
theorem ds_range (n : Nat) : ∀ x ∈ ds n, 48 ≤ x ∧ x < 58 := by
  induction n using Nat.strongRecOn with
  | _ n ih =>
    intro x hx
    rcases Nat.eq_zero_or_pos n with rfl | h
    · rw [ds_zero] at hx; cases hx
    · rw [ds_pos h] at hx
      rcases List.mem_cons.1 hx with rfl | hx
      · omega
      · exact ih (n / 10) (by omega) x hx
/-- The digits, and zeros up to M of them. -/
def padTo (M : Nat) (l : List Int) : List Int := l ++ List.replicate (M - l.length) 48
theorem rev_loop (m : Nat) : ∀ (A X B : List Int), A.length = B.length → X.length ≤ m → (A ++ X ++ B).length ≤ 140737488355328 →
    Ev (fun k => slices_Reverse_byte_byte.l0 k (A ++ X ++ B) (A.length : Int) ((A.length + X.length : Nat) - 1 : Int)) (A ++ X.reverse ++ B) := by
  induction m with
  | zero =>
    intro A X B h hX hl
    obtain rfl : X = [] := List.length_eq_zero_iff.1 (by omega)
    refine Ev.step (f := fun _ => some (A ++ [] ++ B)) (fun k => ?_) (Ev.now _)
    simp only [slices_Reverse_byte_byte.l0]
    rw [if_neg (by simp; omega)]
  | succ m ih =>
    intro A X B h hX hl
    rcases X with _ | ⟨x, X⟩
    · refine Ev.step (f := fun _ => some (A ++ [] ++ B)) (fun k => ?_) (Ev.now _)
      simp only [slices_Reverse_byte_byte.l0]
      rw [if_neg (by simp; omega)]
    · rcases List.eq_nil_or_concat X with rfl | ⟨Y, y, rfl⟩
      · refine Ev.step (f := fun _ => some (A ++ [x] ++ B)) (fun k => ?_) (Ev.now _)
        simp only [slices_Reverse_byte_byte.l0]
        rw [if_neg (by simp)]
      · have hlen : (A ++ x :: (Y ++ [y]) ++ B).length = A.length + Y.length + 2 + B.length := by simp; omega
        rw [List.concat_eq_append] at *
        have hj : ((A.length + (x :: (Y ++ [y])).length : Nat) - 1 : Int) = ((A.length + Y.length + 1 : Nat) : Int) := by simp; omega
        have g1 : rd (A ++ x :: (Y ++ [y]) ++ B) (A.length : Int) = x := by
          rw [nums_at (by omega)]; simp
        have g2 : rd (A ++ x :: (Y ++ [y]) ++ B) ((A.length + Y.length + 1 : Nat) : Int) = y := by
          rw [nums_at (by omega)]
          rw [List.getElem_append_left (by simp; omega), List.getElem_append_right (by omega)]
          simp only [show A.length + Y.length + 1 - A.length = Y.length + 1 by omega, List.getElem_cons_succ]
          simp
        have hs : ((A ++ x :: (Y ++ [y]) ++ B).set ((A.length : Nat) : Int).toNat y).set ((A.length + Y.length + 1 : Nat) : Int).toNat x = (A ++ [y]) ++ Y ++ (x :: B) := by
          rw [Int.toNat_natCast, Int.toNat_natCast, List.append_assoc, List.set_append_right _ _ (by omega), Nat.sub_self, List.set_append_right _ _ (by omega)]
          simp only [List.cons_append, List.set_cons_zero, show A.length + Y.length + 1 - A.length = Y.length + 1 by omega, List.set_cons_succ, List.append_assoc]
          rw [List.set_append_right _ _ (by omega), Nat.sub_self]
          simp
        refine Ev.step (f := fun k => slices_Reverse_byte_byte.l0 k ((A ++ [y]) ++ Y ++ (x :: B)) ((A ++ [y]).length : Int) (((A ++ [y]).length + Y.length : Nat) - 1 : Int)) (fun k => ?_) ?_
        · simp only [slices_Reverse_byte_byte.l0]
          rw [hj, if_pos (by omega), if_pos (by omega), if_pos (by omega), if_pos (by omega), if_pos (by omega), g1, g2, hs, next (by omega)]
          have hA : (A ++ [y]).length = A.length + 1 := by simp
          rw [hA]
          congr 1
          unfold wrap64
          omega
        · have := ih (A ++ [y]) Y (x :: B) (by simp; omega) (by simp at hX; omega) (by simp at hl ⊢; omega)
          have he : A ++ (x :: (Y ++ [y])).reverse ++ B = (A ++ [y]) ++ Y.reverse ++ (x :: B) := by simp
          rw [he]
          exact this
/-- slices.Reverse. -/
theorem rev_ev (l : List Int) (h : l.length ≤ 140737488355328) : Ev (fun k => slices_Reverse_byte_byte.f k l) l.reverse := by
  have := rev_loop l.length [] l [] rfl (Nat.le_refl _) (by simpa using h)
  simp only [List.nil_append, List.append_nil, List.length_nil, Nat.zero_add] at this
  refine Ev.congr (fun k => ?_) this
  unfold slices_Reverse_byte_byte.f
  congr 1
  unfold wrap64
  omega
/-- How many digits a number is padded to. -/
def most (a : Int) : Nat := (mx (mn a 20) 1).toNat
theorem most_eq (a : Int) : mx (mn a 20) 1 = (most a : Int) ∧ 1 ≤ most a ∧ most a ≤ 20 := by
  unfold most mx mn
  constructor
  · split <;> split <;> omega
  · constructor <;> split <;> split <;> omega
/-- What Pad answers. -/
def padded (a0 a1 : Int) : List Int := (if a0 < 0 then [45] else []) ++ (padTo (most a1) (ds a0.natAbs)).reverse
theorem pad_loop (x0 a1 : Int) (e : Nat) : ∀ (d n : Nat) (l : List Int), d + (most a1 - l.length) ≤ e → n < 10 ^ d → d ≤ 20 → l.length ≤ 20 - d →
    Ev (fun k => ascii_Pad.l0 k x0 a1 (n : Int) l) (strOfNums ((if x0 < 0 then [45] else []) ++ (padTo (most a1) (l ++ ds n)).reverse)) := by
  have hm := most_eq a1
  induction e with
  | zero =>
    intro d n l he hn hd hl
    obtain rfl : d = 0 := by omega
    obtain rfl : n = 0 := by simpa using hn
    have hp : padTo (most a1) (l ++ ds 0) = l := by
      unfold padTo
      rw [ds_zero, List.append_nil, show most a1 - l.length = 0 by omega]
      simp
    rw [hp]
    by_cases h0 : x0 < 0
    · rw [if_pos h0]
      refine Ev.step (fun k => by simp only [ascii_Pad.l0]; rw [if_neg (by omega), hm.1, if_neg (by omega), if_pos h0, if_pos (by omega)]) ?_
      refine Ev.bind (rev_ev _ (by simp; omega)) ?_
      rw [List.reverse_append]
      exact Ev.now _
    · rw [if_neg h0]
      refine Ev.step (fun k => by simp only [ascii_Pad.l0]; rw [if_neg (by omega), hm.1, if_neg (by omega), if_neg h0]) ?_
      refine Ev.bind (rev_ev _ (by omega)) ?_
      exact Ev.now _
  | succ e ih =>
    intro d n l he hn hd hl
    rcases Nat.eq_zero_or_pos n with rfl | hpos
    · by_cases hlt : l.length < most a1
      · refine Ev.step (f := fun k => ascii_Pad.l0 k x0 a1 ((0 : Nat) : Int) (l ++ [48])) (fun k => ?_) ?_
        · simp only [ascii_Pad.l0]
          rw [if_neg (by omega), hm.1, if_pos (by omega), if_pos (by omega)]
          rfl
        · have := ih 0 0 (l ++ [48]) (by simp; omega) (by simp) (by omega) (by simp; omega)
          have he2 : padTo (most a1) (l ++ ds 0) = padTo (most a1) (l ++ [48] ++ ds 0) := by
            unfold padTo
            rw [ds_zero, List.append_nil, List.append_nil, List.length_append, List.length_singleton, List.append_assoc]
            rw [show most a1 - l.length = (most a1 - (l.length + 1)) + 1 by omega, List.replicate_succ]
            rfl
          rw [he2]
          exact this
      · have hp : padTo (most a1) (l ++ ds 0) = l := by
          unfold padTo
          rw [ds_zero, List.append_nil, show most a1 - l.length = 0 by omega]
          simp
        rw [hp]
        by_cases h0 : x0 < 0
        · rw [if_pos h0]
          refine Ev.step (fun k => by simp only [ascii_Pad.l0]; rw [if_neg (by omega), hm.1, if_neg (by omega), if_pos h0, if_pos (by omega)]) ?_
          refine Ev.bind (rev_ev _ (by simp; omega)) ?_
          rw [List.reverse_append]
          exact Ev.now _
        · rw [if_neg h0]
          refine Ev.step (fun k => by simp only [ascii_Pad.l0]; rw [if_neg (by omega), hm.1, if_neg (by omega), if_neg h0]) ?_
          refine Ev.bind (rev_ev _ (by omega)) ?_
          exact Ev.now _
    · obtain ⟨d, rfl⟩ : ∃ d', d = d' + 1 := by
        rcases d with _ | d
        · simp at hn; omega
        · exact ⟨d, rfl⟩
      have hn64 : n < 10 ^ 20 := Nat.lt_of_lt_of_le hn (Nat.pow_le_pow_right (by omega) hd)
      refine Ev.step (f := fun k => ascii_Pad.l0 k x0 a1 ((n / 10 : Nat) : Int) (l ++ [48 + ((n % 10 : Nat) : Int)])) (fun k => ?_) ?_
      · simp only [ascii_Pad.l0]
        rw [if_pos (by omega), if_pos (by omega)]
        have h1 : Int.tdiv (n : Int) 10 = ((n / 10 : Nat) : Int) := rfl
        have h2 : Int.tmod (n : Int) 10 = ((n % 10 : Nat) : Int) := rfl
        rw [h1, h2, u64_mod, u64_mod]
        have h3 : ((n / 10 : Nat) : Int) % 18446744073709551616 = ((n / 10 : Nat) : Int) := by omega
        have h4 : (48 + ((n % 10 : Nat) : Int)) % 18446744073709551616 % 256 = 48 + ((n % 10 : Nat) : Int) := by omega
        rw [h3, h4]
      · have := ih d (n / 10) (l ++ [48 + ((n % 10 : Nat) : Int)]) (by simp; omega) (by rw [Nat.pow_succ] at hn; omega) (by omega) (by simp; omega)
        rw [List.append_assoc, List.singleton_append, ← ds_pos hpos] at this
        exact this
theorem pad_ev (a0 a1 : Int) (h0 : -9223372036854775808 ≤ a0 ∧ a0 < 9223372036854775808) : Ev (fun k => ascii_Pad.f k a0 a1) (strOfNums (padded a0 a1)) := by
  have hj : ∀ n : Nat, n < 10 ^ 20 → n = a0.natAbs → Ev (fun k => ascii_Pad.j0 k a0 a1 (n : Int)) (strOfNums (padded a0 a1)) := by
    intro n hn he
    subst he
    refine Ev.step (f := fun k => ascii_Pad.l0 k a0 a1 (a0.natAbs : Int) []) (fun k => by simp only [ascii_Pad.j0]) ?_
    have := pad_loop a0 a1 (20 + most a1) 20 a0.natAbs [] (by simp) hn (by omega) (by simp)
    simpa [padded] using this
  unfold ascii_Pad.f
  by_cases h : a0 < 0
  · have := hj a0.natAbs (by omega) rfl
    refine Ev.congr (fun k => ?_) this
    rw [if_pos h, u64_mod, u64_mod]
    congr 1
    omega
  · have := hj a0.natAbs (by omega) rfl
    refine Ev.congr (fun k => ?_) this
    rw [if_neg h, u64_mod]
    congr 1
    omega
/-- The reference's digits: one at the least. -/
def d1 (n : Nat) : List Int := if n = 0 then [48] else ds n
theorem mn20 (a : Int) (l : List Int) : ((l.length : Int) < mn a 20) ↔ l.length < (mn a 20).toNat := by omega
theorem ds_len (d : Nat) : ∀ n, n < 10 ^ d → (ds n).length ≤ d := by
  induction d with
  | zero => intro n h; obtain rfl : n = 0 := by simpa using h
            rw [ds_zero]; simp
  | succ d ih =>
    intro n h
    rcases Nat.eq_zero_or_pos n with rfl | hp
    · rw [ds_zero]; simp
    · rw [ds_pos hp, List.length_cons]
      have := ih (n / 10) (by rw [Nat.pow_succ] at h; omega)
      omega
theorem padded_eq (a0 a1 : Int) : (if a0 < 0 then [45] else []) ++ (List.replicate ((mn a1 20).toNat - (d1 a0.natAbs).length) 48 ++ (d1 a0.natAbs).reverse) = padded a0 a1 := by
  unfold padded padTo
  congr 1
  rw [List.reverse_append, List.reverse_replicate]
  have hm : most a1 = max (mn a1 20).toNat 1 := by
    unfold most mx
    split <;> omega
  unfold d1
  split
  · rename_i h
    rw [h, ds_zero]
    simp only [List.length_singleton, List.reverse_singleton, List.length_nil, List.reverse_nil, List.append_nil, Nat.sub_zero]
    rw [hm, ← List.replicate_succ']
    congr 1
    omega
  · rename_i h
    congr 2
    have : 1 ≤ (ds a0.natAbs).length := by rw [ds_pos (by omega)]; simp
    omega
end Go.Proofs.YtfoikdjffemhbaaDoor.Plain

namespace Go.Proofs.YtfoikdjffemhbaaDoor.Plain
open Go.RowKit Go.Proofs.YtfoikdjffemhbaaDoor.Q Go.Proofs.YtfoikdjffemhbaaDoorW.PrintWords Go.Proofs.YtfoikdjffemhbaaDoorW.PrintLast Go.Proofs.YtfoikdjffemhbaaDoorW.PrintMore
set_option linter.unusedVariables false
def dig (x : Int) : Prop := 48 ≤ x ∧ x ≤ 57
instance (x : Int) : Decidable (dig x) := inferInstanceAs (Decidable (_ ∧ _))
theorem dig_eq {x : Int} (h : 0 ≤ x ∧ x < 256) : ascii_IsDigit.f x = some (decide (dig x)) := by
  unfold ascii_IsDigit.f
  congr 1
  exact decide_eq_decide.2 (by unfold dig; omega)
/-- The number of a row of digits, behind n. -/
def val (n : Int) : List Int → Int
  | [] => n
  | x :: l => val (n * 10 + (x - 48)) l
theorem val_nil (n : Int) : val n [] = n := rfl
theorem val_cons (n x : Int) (l : List Int) : val n (x :: l) = val (n * 10 + (x - 48)) l := rfl
def allDig (l : List Int) : Prop := ∀ x ∈ l, dig x
instance (l : List Int) : Decidable (allDig l) := inferInstanceAs (Decidable (∀ x ∈ l, dig x))
theorem val_ge (l : List Int) (h : allDig l) : ∀ n : Int, 0 ≤ n → n ≤ val n l := by
  induction l with
  | nil => intro n hn; exact Int.le_refl _
  | cons x l ih =>
    intro n hn
    have hx : dig x := h x (by simp)
    unfold dig at hx
    have := ih (fun y hy => h y (by simp [hy])) (n * 10 + (x - 48)) (by omega)
    rw [val_cons]
    omega
/-- What Number answers of a row of bytes. -/
def num (most : Int) (l : List Int) : Int × Int := if l = [] then (0, 3) else if allDig l then (if val 0 l ≤ most then (val 0 l, 0) else (0, 5)) else (0, 3)
theorem allDig_cons {x : Int} {l : List Int} : allDig (x :: l) ↔ dig x ∧ allDig l := by simp [allDig]
theorem many_loop (s : ByteArray) (hs : s.size ≤ 140737488351232) (most : Int) (d : Nat) : ∀ (i : Nat) (n : Int), i + d = (bytesOf s).length →
    Ev (fun k => ascii_Number.l0 k s most n true (s.size : Int) (i : Int)) (if allDig ((bytesOf s).drop i) then (0, 5) else (0, 3)) := by
  have hsz := bytes_len s
  induction d with
  | zero =>
    intro i n hi
    refine Ev.step (f := fun _ => some (0, 5)) (fun k => ?_) ?_
    · simp only [ascii_Number.l0]
      rw [if_neg (by omega), if_pos trivial]
    · rw [List.drop_of_length_le (by omega), if_pos (by simp [allDig])]
      exact Ev.now _
  | succ d ih =>
    intro i n hi
    have hlt : i < (bytesOf s).length := by omega
    have hb := bytes_range (List.getElem_mem hlt)
    rw [drop_at hlt]
    generalize hx : (bytesOf s)[i] = x at *
    by_cases hd : dig x
    · refine Ev.step (f := fun k => ascii_Number.l0 k s most n true (s.size : Int) ((i + 1 : Nat) : Int)) (fun k => ?_) ?_
      · simp only [ascii_Number.l0]
        rw [if_pos (by omega), if_pos (by omega), if_pos (by omega), bytes_bt hlt, hx, dig_eq hb, Option.bind_some, if_pos (by simpa using hd), if_pos trivial, next (by omega)]
      · have := ih (i + 1) n (by omega)
        by_cases ha : allDig ((bytesOf s).drop (i + 1))
        · rw [if_pos ha] at this
          rw [if_pos (allDig_cons.2 ⟨hd, ha⟩)]
          exact this
        · rw [if_neg ha] at this
          rw [if_neg (fun h => ha (allDig_cons.1 h).2)]
          exact this
    · refine Ev.step (f := fun _ => some (0, 3)) (fun k => ?_) ?_
      · simp only [ascii_Number.l0]
        rw [if_pos (by omega), if_pos (by omega), if_pos (by omega), bytes_bt hlt, hx, dig_eq hb, Option.bind_some, if_neg (by simpa using hd)]
      · rw [if_neg (fun h => hd (allDig_cons.1 h).1)]
        exact Ev.now _
theorem num_loop (s : ByteArray) (hs : s.size ≤ 140737488351232) (most : Int) (hm : 0 ≤ most ∧ most < 9223372036854775808) (d : Nat) : ∀ (i : Nat) (n : Int), i + d = (bytesOf s).length → 0 ≤ n → n ≤ most →
    Ev (fun k => ascii_Number.l0 k s most n false (s.size : Int) (i : Int)) (if allDig ((bytesOf s).drop i) then (if val n ((bytesOf s).drop i) ≤ most then (val n ((bytesOf s).drop i), 0) else (0, 5)) else (0, 3)) := by
  have hsz := bytes_len s
  induction d with
  | zero =>
    intro i n hi h0 h1
    refine Ev.step (f := fun _ => some (n, 0)) (fun k => ?_) ?_
    · simp only [ascii_Number.l0]
      rw [if_neg (by omega), if_neg (by simp)]
    · rw [List.drop_of_length_le (by omega), if_pos (by simp [allDig])]
      rw [val_nil, if_pos h1]
      exact Ev.now _
  | succ d ih =>
    intro i n hi h0 h1
    have hlt : i < (bytesOf s).length := by omega
    have hb := bytes_range (List.getElem_mem hlt)
    rw [drop_at hlt]
    generalize hx : (bytesOf s)[i] = x at *
    by_cases hd : dig x
    · have hdd : 48 ≤ x ∧ x ≤ 57 := hd
      have hm8 : (x - 48) % 256 = x - 48 := by omega
      have hstep : ∀ k, ascii_Number.l0 (k + 1) s most n false (s.size : Int) (i : Int) = if n * 10 + (x - 48) ≤ most then ascii_Number.l0 k s most (n * 10 + (x - 48)) false (s.size : Int) ((i + 1 : Nat) : Int) else ascii_Number.l0 k s most n true (s.size : Int) ((i + 1 : Nat) : Int) := by
        intro k
        simp only [ascii_Number.l0]
        rw [if_pos (by omega), if_pos (by omega), if_pos (by omega), bytes_bt hlt, hx, dig_eq hb, Option.bind_some, if_pos (by simpa using hd), if_neg (by simp), next (by omega), hm8]
        rw [wrap64_id (n := most - (x - 48)) (by omega) (by omega)]
        by_cases hle : n * 10 + (x - 48) ≤ most
        · rw [if_pos hle, wrap64_id (n := n * 10) (by omega) (by omega), wrap64_id (n := n * 10 + (x - 48)) (by omega) (by omega)]
          have ht : Int.tdiv (most - (x - 48)) 10 = (most - (x - 48)) / 10 := Int.tdiv_eq_ediv_of_nonneg (by omega)
          rw [ht, wrap64_id (by omega) (by omega), if_neg (by omega), if_neg (by omega)]
        · rw [if_neg hle]
          by_cases hl : most < x - 48
          · rw [if_pos hl]; split <;> rfl
          · have ht : Int.tdiv (most - (x - 48)) 10 = (most - (x - 48)) / 10 := Int.tdiv_eq_ediv_of_nonneg (by omega)
            rw [ht, wrap64_id (by omega) (by omega), if_pos (by omega)]
      by_cases hle : n * 10 + (x - 48) ≤ most
      · refine Ev.step (fun k => by rw [hstep k, if_pos hle]) ?_
        have := ih (i + 1) (n * 10 + (x - 48)) (by omega) (by omega) hle
        by_cases ha : allDig ((bytesOf s).drop (i + 1))
        · rw [if_pos ha] at this
          rw [if_pos (allDig_cons.2 ⟨hd, ha⟩), val_cons]
          exact this
        · rw [if_neg ha] at this
          rw [if_neg (fun h => ha (allDig_cons.1 h).2)]
          exact this
      · refine Ev.step (fun k => by rw [hstep k, if_neg hle]) ?_
        have := many_loop s hs most d (i + 1) n (by omega)
        by_cases ha : allDig ((bytesOf s).drop (i + 1))
        · have hg := val_ge _ ha (n * 10 + (x - 48)) (by omega)
          rw [if_pos ha] at this
          rw [if_pos (allDig_cons.2 ⟨hd, ha⟩)]
          rw [val_cons, if_neg (by omega)]
          exact this
        · rw [if_neg ha] at this
          rw [if_neg (fun h => ha (allDig_cons.1 h).2)]
          exact this
    · refine Ev.step (f := fun _ => some (0, 3)) (fun k => ?_) ?_
      · simp only [ascii_Number.l0]
        rw [if_pos (by omega), if_pos (by omega), if_pos (by omega), bytes_bt hlt, hx, dig_eq hb, Option.bind_some, if_neg (by simpa using hd)]
      · rw [if_neg (fun h => hd (allDig_cons.1 h).1)]
        exact Ev.now _
theorem num_ev (s : ByteArray) (hs : s.size ≤ 140737488351232) (most : Int) (hm : most < 9223372036854775808) : Ev (fun k => ascii_Number.f k s most) (num most (bytesOf s)) := by
  unfold ascii_Number.f num
  by_cases h : bytesOf s = []
  · rw [if_pos h]
    exact Ev.congr (fun k => if_pos (nil_bytes.2 h)) (Ev.now _)
  · rw [if_neg h]
    refine Ev.congr (fun k => if_neg (fun e => h (nil_bytes.1 e))) ?_
    by_cases hneg : most < 0
    · rw [decide_eq_true hneg]
      have := many_loop s hs most _ 0 0 (Nat.zero_add _)
      rw [List.drop_zero] at this
      by_cases ha : allDig (bytesOf s)
      · rw [if_pos ha] at this ⊢
        have := val_ge _ ha 0 (by omega)
        rw [if_neg (by omega)]
        assumption
      · rw [if_neg ha] at this ⊢
        exact this
    · rw [decide_eq_false hneg]
      have := num_loop s hs most ⟨by omega, hm⟩ _ 0 0 (Nat.zero_add _) (by omega) (by omega)
      rwa [List.drop_zero] at this
end Go.Proofs.YtfoikdjffemhbaaDoor.Plain
