/- A number's digits, the lowest one first; what the printed padding and the reference's come to. No condition but those typed. · What the printed reading of a number, and the reference's, come to. No condition but those typed. · The pure statement of AsciiBack: a number's digits are read as it; what is read is written as it was, but for zeros ahead. No condition. · Texts' rows compared and joined: what the printed functions, and the reference's, come to. No condition but those typed. · Blanks, trimming, words, and lower letters: what the printed functions, and the reference's, come to. No condition but those typed. · Lower letters, and words joined: what the printed functions, and the reference's, come to. No condition but those typed. · What utf.Next and the reference's Next come to: what stands at a text's begin, over its list of bytes. No condition but those typed. · What the loops of utf and of the reference come to: put, mended, told, cut, over lists of bytes. No condition but those typed. · What the printed functions of percent and of the reference come to: marked, unmarked, read. No condition but those typed. · What the printed forms, pairs, and their words in the laws come to. No condition but those typed. · What the printed searches among pairs come to; the reference's texts compared. No condition but those typed. -/
import Derived.Test.YtljlkpfiebcoeaaGreatDoorQ
import Derived.Test.YtljlkpfiebcoeaaGreatDoorLists
import Derived.Laws.BitsLemmas
import Derived.Lib.Join
import Derived.Lib.Bytealg
import Derived.Lib.SlTrimSet
namespace Go.Proofs.YtljlkpfiebcoeaaGreatDoor.Plain
open Go.RowKit Go.Proofs.YtljlkpfiebcoeaaGreatDoor.Q Go.Proofs.YtljlkpfiebcoeaaGreatDoorW.PrintWords Go.Proofs.YtljlkpfiebcoeaaGreatDoorW.PrintLast Go.Proofs.YtljlkpfiebcoeaaGreatDoorW.PrintMore
set_option linter.unusedVariables false
/-- The digits of a number, the lowest one first; those of zero are none. -/
def ds (n : Nat) : List Int := if h : n = 0 then [] else (48 + ((n % 10 : Nat) : Int)) :: ds (n / 10)
termination_by n
decreasing_by omega
theorem ds_zero : ds 0 = [] := by rw [ds]; simp
theorem ds_pos {n : Nat} (h : 0 < n) : ds n = (48 + ((n % 10 : Nat) : Int)) :: ds (n / 10) := by
  rw [ds, dif_neg (by omega)]
theorem ds_range (n : Nat) : ∀ x ∈ ds n, 48 ≤ x ∧ x < 58 := by
  induction n using Nat.strongRecOn with
  | _ n ih =>
    intro x hx
    rcases Nat.eq_zero_or_pos n with rfl | h
    · rw [ds_zero] at hx; cases hx
    · rw [ds_pos h] at hx
      rcases List.mem_cons.1 hx with rfl | hx
      · omega
      · exact ih (n / 10) (by omega) x hx
/-- The digits, and zeros up to M of them. -/
def padTo (M : Nat) (l : List Int) : List Int := l ++ List.replicate (M - l.length) 48
theorem rev_loop (m : Nat) : ∀ (A X B : List Int), A.length = B.length → X.length ≤ m → (A ++ X ++ B).length ≤ 140737488355328 →
    Ev (fun k => slices_Reverse_byte_byte.l0 k (A ++ X ++ B) (A.length : Int) ((A.length + X.length : Nat) - 1 : Int)) (A ++ X.reverse ++ B) := by
  induction m with
  | zero =>
    intro A X B h hX hl
    obtain rfl : X = [] := List.length_eq_zero_iff.1 (by omega)
    refine Ev.step (f := fun _ => some (A ++ [] ++ B)) (fun k => ?_) (Ev.now _)
    simp only [slices_Reverse_byte_byte.l0]
    rw [if_neg (by simp; omega)]
  | succ m ih =>
    intro A X B h hX hl
    rcases X with _ | ⟨x, X⟩
    · refine Ev.step (f := fun _ => some (A ++ [] ++ B)) (fun k => ?_) (Ev.now _)
      simp only [slices_Reverse_byte_byte.l0]
      rw [if_neg (by simp; omega)]
    · rcases List.eq_nil_or_concat X with rfl | ⟨Y, y, rfl⟩
      · refine Ev.step (f := fun _ => some (A ++ [x] ++ B)) (fun k => ?_) (Ev.now _)
        simp only [slices_Reverse_byte_byte.l0]
        rw [if_neg (by simp)]
      · have hlen : (A ++ x :: (Y ++ [y]) ++ B).length = A.length + Y.length + 2 + B.length := by simp; omega
        rw [List.concat_eq_append] at *
        have hj : ((A.length + (x :: (Y ++ [y])).length : Nat) - 1 : Int) = ((A.length + Y.length + 1 : Nat) : Int) := by simp; omega
        have g1 : rd (A ++ x :: (Y ++ [y]) ++ B) (A.length : Int) = x := by
          rw [nums_at (by omega)]; simp
        have g2 : rd (A ++ x :: (Y ++ [y]) ++ B) ((A.length + Y.length + 1 : Nat) : Int) = y := by
          rw [nums_at (by omega)]
          rw [List.getElem_append_left (by simp; omega), List.getElem_append_right (by omega)]
          simp only [show A.length + Y.length + 1 - A.length = Y.length + 1 by omega, List.getElem_cons_succ]
          simp
        have hs : ((A ++ x :: (Y ++ [y]) ++ B).set ((A.length : Nat) : Int).toNat y).set ((A.length + Y.length + 1 : Nat) : Int).toNat x = (A ++ [y]) ++ Y ++ (x :: B) := by
          rw [Int.toNat_natCast, Int.toNat_natCast, List.append_assoc, List.set_append_right _ _ (by omega), Nat.sub_self, List.set_append_right _ _ (by omega)]
          simp only [List.cons_append, List.set_cons_zero, show A.length + Y.length + 1 - A.length = Y.length + 1 by omega, List.set_cons_succ, List.append_assoc]
          rw [List.set_append_right _ _ (by omega), Nat.sub_self]
          simp
        refine Ev.step (f := fun k => slices_Reverse_byte_byte.l0 k ((A ++ [y]) ++ Y ++ (x :: B)) ((A ++ [y]).length : Int) (((A ++ [y]).length + Y.length : Nat) - 1 : Int)) (fun k => ?_) ?_
        · simp only [slices_Reverse_byte_byte.l0]
          rw [hj, if_pos (by omega), if_pos (by omega), if_pos (by omega), if_pos (by omega), if_pos (by omega), g1, g2, hs, next (by omega)]
          have hA : (A ++ [y]).length = A.length + 1 := by simp
          rw [hA]
          congr 1
          unfold wrap64
          omega
        · have := ih (A ++ [y]) Y (x :: B) (by simp; omega) (by simp at hX; omega) (by simp at hl ⊢; omega)
          have he : A ++ (x :: (Y ++ [y])).reverse ++ B = (A ++ [y]) ++ Y.reverse ++ (x :: B) := by simp
          rw [he]
          exact this
/-- slices.Reverse. -/
theorem rev_ev (l : List Int) (h : l.length ≤ 140737488355328) : Ev (fun k => slices_Reverse_byte_byte.f k l) l.reverse := by
  have := rev_loop l.length [] l [] rfl (Nat.le_refl _) (by simpa using h)
  simp only [List.nil_append, List.append_nil, List.length_nil, Nat.zero_add] at this
  refine Ev.congr (fun k => ?_) this
  unfold slices_Reverse_byte_byte.f
  congr 1
  unfold wrap64
  omega
/-- How many digits a number is padded to. -/
def most (a : Int) : Nat := (mx (mn a 20) 1).toNat
theorem most_eq (a : Int) : mx (mn a 20) 1 = (most a : Int) ∧ 1 ≤ most a ∧ most a ≤ 20 := by
  unfold most mx mn
  constructor
  · split <;> split <;> omega
  · constructor <;> split <;> split <;> omega
/-- What Pad answers. -/
def padded (a0 a1 : Int) : List Int := (if a0 < 0 then [45] else []) ++ (padTo (most a1) (ds a0.natAbs)).reverse
theorem pad_loop (x0 a1 : Int) (e : Nat) : ∀ (d n : Nat) (l : List Int), d + (most a1 - l.length) ≤ e → n < 10 ^ d → d ≤ 20 → l.length ≤ 20 - d →
    Ev (fun k => ascii_Pad.l0 k x0 a1 (n : Int) l) (strOfNums ((if x0 < 0 then [45] else []) ++ (padTo (most a1) (l ++ ds n)).reverse)) := by
  have hm := most_eq a1
  induction e with
  | zero =>
    intro d n l he hn hd hl
    obtain rfl : d = 0 := by omega
    obtain rfl : n = 0 := by simpa using hn
    have hp : padTo (most a1) (l ++ ds 0) = l := by
      unfold padTo
      rw [ds_zero, List.append_nil, show most a1 - l.length = 0 by omega]
      simp
    rw [hp]
    by_cases h0 : x0 < 0
    · rw [if_pos h0]
      refine Ev.step (fun k => by simp only [ascii_Pad.l0]; rw [if_neg (by omega), hm.1, if_neg (by omega), if_pos h0, if_pos (by omega)]) ?_
      refine Ev.bind (rev_ev _ (by simp; omega)) ?_
      rw [List.reverse_append]
      exact Ev.now _
    · rw [if_neg h0]
      refine Ev.step (fun k => by simp only [ascii_Pad.l0]; rw [if_neg (by omega), hm.1, if_neg (by omega), if_neg h0]) ?_
      refine Ev.bind (rev_ev _ (by omega)) ?_
      exact Ev.now _
  | succ e ih =>
    intro d n l he hn hd hl
    rcases Nat.eq_zero_or_pos n with rfl | hpos
    · by_cases hlt : l.length < most a1
      · refine Ev.step (f := fun k => ascii_Pad.l0 k x0 a1 ((0 : Nat) : Int) (l ++ [48])) (fun k => ?_) ?_
        · simp only [ascii_Pad.l0]
          rw [if_neg (by omega), hm.1, if_pos (by omega), if_pos (by omega)]
          rfl
        · have := ih 0 0 (l ++ [48]) (by simp; omega) (by simp) (by omega) (by simp; omega)
          have he2 : padTo (most a1) (l ++ ds 0) = padTo (most a1) (l ++ [48] ++ ds 0) := by
            unfold padTo
            rw [ds_zero, List.append_nil, List.append_nil, List.length_append, List.length_singleton, List.append_assoc]
            rw [show most a1 - l.length = (most a1 - (l.length + 1)) + 1 by omega, List.replicate_succ]
            rfl
          rw [he2]
          exact this
      · have hp : padTo (most a1) (l ++ ds 0) = l := by
          unfold padTo
          rw [ds_zero, List.append_nil, show most a1 - l.length = 0 by omega]
          simp
        rw [hp]
        by_cases h0 : x0 < 0
        · rw [if_pos h0]
          refine Ev.step (fun k => by simp only [ascii_Pad.l0]; rw [if_neg (by omega), hm.1, if_neg (by omega), if_pos h0, if_pos (by omega)]) ?_
          refine Ev.bind (rev_ev _ (by simp; omega)) ?_
          rw [List.reverse_append]
          exact Ev.now _
        · rw [if_neg h0]
          refine Ev.step (fun k => by simp only [ascii_Pad.l0]; rw [if_neg (by omega), hm.1, if_neg (by omega), if_neg h0]) ?_
          refine Ev.bind (rev_ev _ (by omega)) ?_
          exact Ev.now _
    · obtain ⟨d, rfl⟩ : ∃ d', d = d' + 1 := by
        rcases d with _ | d
        · simp at hn; omega
        · exact ⟨d, rfl⟩
      have hn64 : n < 10 ^ 20 := Nat.lt_of_lt_of_le hn (Nat.pow_le_pow_right (by omega) hd)
      refine Ev.step (f := fun k => ascii_Pad.l0 k x0 a1 ((n / 10 : Nat) : Int) (l ++ [48 + ((n % 10 : Nat) : Int)])) (fun k => ?_) ?_
      · simp only [ascii_Pad.l0]
        rw [if_pos (by omega), if_pos (by omega)]
        have h1 : Int.tdiv (n : Int) 10 = ((n / 10 : Nat) : Int) := rfl
        have h2 : Int.tmod (n : Int) 10 = ((n % 10 : Nat) : Int) := rfl
        rw [h1, h2, u64_mod, u64_mod]
        have h3 : ((n / 10 : Nat) : Int) % 18446744073709551616 = ((n / 10 : Nat) : Int) := by omega
        have h4 : (48 + ((n % 10 : Nat) : Int)) % 18446744073709551616 % 256 = 48 + ((n % 10 : Nat) : Int) := by omega
        rw [h3, h4]
      · have := ih d (n / 10) (l ++ [48 + ((n % 10 : Nat) : Int)]) (by simp; omega) (by rw [Nat.pow_succ] at hn; omega) (by omega) (by simp; omega)
        rw [List.append_assoc, List.singleton_append, ← ds_pos hpos] at this
        exact this
theorem pad_ev (a0 a1 : Int) (h0 : -9223372036854775808 ≤ a0 ∧ a0 < 9223372036854775808) : Ev (fun k => ascii_Pad.f k a0 a1) (strOfNums (padded a0 a1)) := by
  have hj : ∀ n : Nat, n < 10 ^ 20 → n = a0.natAbs → Ev (fun k => ascii_Pad.j0 k a0 a1 (n : Int)) (strOfNums (padded a0 a1)) := by
    intro n hn he
    subst he
    refine Ev.step (f := fun k => ascii_Pad.l0 k a0 a1 (a0.natAbs : Int) []) (fun k => by simp only [ascii_Pad.j0]) ?_
    have := pad_loop a0 a1 (20 + most a1) 20 a0.natAbs [] (by simp) hn (by omega) (by simp)
    simpa [padded] using this
  unfold ascii_Pad.f
  by_cases h : a0 < 0
  · have := hj a0.natAbs (by omega) rfl
    refine Ev.congr (fun k => ?_) this
    rw [if_pos h, u64_mod, u64_mod]
    congr 1
    omega
  · have := hj a0.natAbs (by omega) rfl
    refine Ev.congr (fun k => ?_) this
    rw [if_neg h, u64_mod]
    congr 1
    omega
/-- The reference's digits: one at the least. -/
def d1 (n : Nat) : List Int := if n = 0 then [48] else ds n
theorem mn20 (a : Int) (l : List Int) : ((l.length : Int) < mn a 20) ↔ l.length < (mn a 20).toNat := by omega
theorem ds_len (d : Nat) : ∀ n, n < 10 ^ d → (ds n).length ≤ d := by
  induction d with
  | zero => intro n h; obtain rfl : n = 0 := by simpa using h
            rw [ds_zero]; simp
  | succ d ih =>
    intro n h
    rcases Nat.eq_zero_or_pos n with rfl | hp
    · rw [ds_zero]; simp
    · rw [ds_pos hp, List.length_cons]
      have := ih (n / 10) (by rw [Nat.pow_succ] at h; omega)
      omega
theorem padded_eq (a0 a1 : Int) : (if a0 < 0 then [45] else []) ++ (List.replicate ((mn a1 20).toNat - (d1 a0.natAbs).length) 48 ++ (d1 a0.natAbs).reverse) = padded a0 a1 := by
  unfold padded padTo
  congr 1
  rw [List.reverse_append, List.reverse_replicate]
  have hm : most a1 = max (mn a1 20).toNat 1 := by
    unfold most mx
    split <;> omega
  unfold d1
  split
  · rename_i h
    rw [h, ds_zero]
    simp only [List.length_singleton, List.reverse_singleton, List.length_nil, List.reverse_nil, List.append_nil, Nat.sub_zero]
    rw [hm, ← List.replicate_succ']
    congr 1
    omega
  · rename_i h
    congr 2
    have : 1 ≤ (ds a0.natAbs).length := by rw [ds_pos (by omega)]; simp
    omega
end Go.Proofs.YtljlkpfiebcoeaaGreatDoor.Plain

namespace Go.Proofs.YtljlkpfiebcoeaaGreatDoor.Plain
open Go.RowKit Go.Proofs.YtljlkpfiebcoeaaGreatDoor.Q Go.Proofs.YtljlkpfiebcoeaaGreatDoorW.PrintWords Go.Proofs.YtljlkpfiebcoeaaGreatDoorW.PrintLast Go.Proofs.YtljlkpfiebcoeaaGreatDoorW.PrintMore
set_option linter.unusedVariables false
def dig (x : Int) : Prop := 48 ≤ x ∧ x ≤ 57
instance (x : Int) : Decidable (dig x) := inferInstanceAs (Decidable (_ ∧ _))
theorem dig_eq {x : Int} (h : 0 ≤ x ∧ x < 256) : ascii_IsDigit.f x = some (decide (dig x)) := by
  unfold ascii_IsDigit.f
  congr 1
  exact decide_eq_decide.2 (by unfold dig; omega)
/-- The number of a row of digits, behind n. -/
def valN (n : Int) : List Int → Int
  | [] => n
  | x :: l => valN (n * 10 + (x - 48)) l
theorem valN_nil (n : Int) : valN n [] = n := rfl
theorem valN_cons (n x : Int) (l : List Int) : valN n (x :: l) = valN (n * 10 + (x - 48)) l := rfl
def allDig (l : List Int) : Prop := ∀ x ∈ l, dig x
instance (l : List Int) : Decidable (allDig l) := inferInstanceAs (Decidable (∀ x ∈ l, dig x))
theorem valN_ge (l : List Int) (h : allDig l) : ∀ n : Int, 0 ≤ n → n ≤ valN n l := by
  induction l with
  | nil => intro n hn; exact Int.le_refl _
  | cons x l ih =>
    intro n hn
    have hx : dig x := h x (by simp)
    unfold dig at hx
    have := ih (fun y hy => h y (by simp [hy])) (n * 10 + (x - 48)) (by omega)
    rw [valN_cons]
    omega
/-- What Number answers of a row of bytes. -/
def num (most : Int) (l : List Int) : Int × Int := if l = [] then (0, 3) else if allDig l then (if valN 0 l ≤ most then (valN 0 l, 0) else (0, 5)) else (0, 3)
theorem allDig_cons {x : Int} {l : List Int} : allDig (x :: l) ↔ dig x ∧ allDig l := by simp [allDig]
theorem many_loop (s : ByteArray) (hs : s.size ≤ 140737488351232) (most : Int) (d : Nat) : ∀ (i : Nat) (n : Int), i + d = (bytesOf s).length →
    Ev (fun k => ascii_Number.l0 k s most n true (s.size : Int) (i : Int)) (if allDig ((bytesOf s).drop i) then (0, 5) else (0, 3)) := by
  have hsz := bytes_len s
  induction d with
  | zero =>
    intro i n hi
    refine Ev.step (f := fun _ => some (0, 5)) (fun k => ?_) ?_
    · simp only [ascii_Number.l0]
      rw [if_neg (by omega), if_pos trivial]
    · rw [List.drop_of_length_le (by omega), if_pos (by simp [allDig])]
      exact Ev.now _
  | succ d ih =>
    intro i n hi
    have hlt : i < (bytesOf s).length := by omega
    have hb := bytes_range (List.getElem_mem hlt)
    rw [drop_at hlt]
    generalize hx : (bytesOf s)[i] = x at *
    by_cases hd : dig x
    · refine Ev.step (f := fun k => ascii_Number.l0 k s most n true (s.size : Int) ((i + 1 : Nat) : Int)) (fun k => ?_) ?_
      · simp only [ascii_Number.l0]
        rw [if_pos (by omega), if_pos (by omega), if_pos (by omega), bytes_bt hlt, hx, dig_eq hb, Option.bind_some, if_pos (by simpa using hd), if_pos trivial, next (by omega)]
      · have := ih (i + 1) n (by omega)
        by_cases ha : allDig ((bytesOf s).drop (i + 1))
        · rw [if_pos ha] at this
          rw [if_pos (allDig_cons.2 ⟨hd, ha⟩)]
          exact this
        · rw [if_neg ha] at this
          rw [if_neg (fun h => ha (allDig_cons.1 h).2)]
          exact this
    · refine Ev.step (f := fun _ => some (0, 3)) (fun k => ?_) ?_
      · simp only [ascii_Number.l0]
        rw [if_pos (by omega), if_pos (by omega), if_pos (by omega), bytes_bt hlt, hx, dig_eq hb, Option.bind_some, if_neg (by simpa using hd)]
      · rw [if_neg (fun h => hd (allDig_cons.1 h).1)]
        exact Ev.now _
theorem num_loop (s : ByteArray) (hs : s.size ≤ 140737488351232) (most : Int) (hm : 0 ≤ most ∧ most < 9223372036854775808) (d : Nat) : ∀ (i : Nat) (n : Int), i + d = (bytesOf s).length → 0 ≤ n → n ≤ most →
    Ev (fun k => ascii_Number.l0 k s most n false (s.size : Int) (i : Int)) (if allDig ((bytesOf s).drop i) then (if valN n ((bytesOf s).drop i) ≤ most then (valN n ((bytesOf s).drop i), 0) else (0, 5)) else (0, 3)) := by
  have hsz := bytes_len s
  induction d with
  | zero =>
    intro i n hi h0 h1
    refine Ev.step (f := fun _ => some (n, 0)) (fun k => ?_) ?_
    · simp only [ascii_Number.l0]
      rw [if_neg (by omega), if_neg (by simp)]
    · rw [List.drop_of_length_le (by omega), if_pos (by simp [allDig])]
      rw [valN_nil, if_pos h1]
      exact Ev.now _
  | succ d ih =>
    intro i n hi h0 h1
    have hlt : i < (bytesOf s).length := by omega
    have hb := bytes_range (List.getElem_mem hlt)
    rw [drop_at hlt]
    generalize hx : (bytesOf s)[i] = x at *
    by_cases hd : dig x
    · have hdd : 48 ≤ x ∧ x ≤ 57 := hd
      have hm8 : (x - 48) % 256 = x - 48 := by omega
      have hstep : ∀ k, ascii_Number.l0 (k + 1) s most n false (s.size : Int) (i : Int) = if n * 10 + (x - 48) ≤ most then ascii_Number.l0 k s most (n * 10 + (x - 48)) false (s.size : Int) ((i + 1 : Nat) : Int) else ascii_Number.l0 k s most n true (s.size : Int) ((i + 1 : Nat) : Int) := by
        intro k
        simp only [ascii_Number.l0]
        rw [if_pos (by omega), if_pos (by omega), if_pos (by omega), bytes_bt hlt, hx, dig_eq hb, Option.bind_some, if_pos (by simpa using hd), if_neg (by simp), next (by omega), hm8]
        rw [wrap64_id (n := most - (x - 48)) (by omega) (by omega)]
        by_cases hle : n * 10 + (x - 48) ≤ most
        · rw [if_pos hle, wrap64_id (n := n * 10) (by omega) (by omega), wrap64_id (n := n * 10 + (x - 48)) (by omega) (by omega)]
          have ht : Int.tdiv (most - (x - 48)) 10 = (most - (x - 48)) / 10 := Int.tdiv_eq_ediv_of_nonneg (by omega)
          rw [ht, wrap64_id (by omega) (by omega), if_neg (by omega), if_neg (by omega)]
        · rw [if_neg hle]
          by_cases hl : most < x - 48
          · rw [if_pos hl]; split <;> rfl
          · have ht : Int.tdiv (most - (x - 48)) 10 = (most - (x - 48)) / 10 := Int.tdiv_eq_ediv_of_nonneg (by omega)
            rw [ht, wrap64_id (by omega) (by omega), if_pos (by omega)]
      by_cases hle : n * 10 + (x - 48) ≤ most
      · refine Ev.step (fun k => by rw [hstep k, if_pos hle]) ?_
        have := ih (i + 1) (n * 10 + (x - 48)) (by omega) (by omega) hle
        by_cases ha : allDig ((bytesOf s).drop (i + 1))
        · rw [if_pos ha] at this
          rw [if_pos (allDig_cons.2 ⟨hd, ha⟩), valN_cons]
          exact this
        · rw [if_neg ha] at this
          rw [if_neg (fun h => ha (allDig_cons.1 h).2)]
          exact this
      · refine Ev.step (fun k => by rw [hstep k, if_neg hle]) ?_
        have := many_loop s hs most d (i + 1) n (by omega)
        by_cases ha : allDig ((bytesOf s).drop (i + 1))
        · have hg := valN_ge _ ha (n * 10 + (x - 48)) (by omega)
          rw [if_pos ha] at this
          rw [if_pos (allDig_cons.2 ⟨hd, ha⟩)]
          rw [valN_cons, if_neg (by omega)]
          exact this
        · rw [if_neg ha] at this
          rw [if_neg (fun h => ha (allDig_cons.1 h).2)]
          exact this
    · refine Ev.step (f := fun _ => some (0, 3)) (fun k => ?_) ?_
      · simp only [ascii_Number.l0]
        rw [if_pos (by omega), if_pos (by omega), if_pos (by omega), bytes_bt hlt, hx, dig_eq hb, Option.bind_some, if_neg (by simpa using hd)]
      · rw [if_neg (fun h => hd (allDig_cons.1 h).1)]
        exact Ev.now _
theorem num_ev (s : ByteArray) (hs : s.size ≤ 140737488351232) (most : Int) (hm : most < 9223372036854775808) : Ev (fun k => ascii_Number.f k s most) (num most (bytesOf s)) := by
  unfold ascii_Number.f num
  by_cases h : bytesOf s = []
  · rw [if_pos h]
    exact Ev.congr (fun k => if_pos (nil_bytes.2 h)) (Ev.now _)
  · rw [if_neg h]
    refine Ev.congr (fun k => if_neg (fun e => h (nil_bytes.1 e))) ?_
    by_cases hneg : most < 0
    · rw [decide_eq_true hneg]
      have := many_loop s hs most _ 0 0 (Nat.zero_add _)
      rw [List.drop_zero] at this
      by_cases ha : allDig (bytesOf s)
      · rw [if_pos ha] at this ⊢
        have := valN_ge _ ha 0 (by omega)
        rw [if_neg (by omega)]
        assumption
      · rw [if_neg ha] at this ⊢
        exact this
    · rw [decide_eq_false hneg]
      have := num_loop s hs most ⟨by omega, hm⟩ _ 0 0 (Nat.zero_add _) (by omega) (by omega)
      rwa [List.drop_zero] at this
end Go.Proofs.YtljlkpfiebcoeaaGreatDoor.Plain

namespace Go.Proofs.YtljlkpfiebcoeaaGreatDoor.Plain
open Go.RowKit Go.Proofs.YtljlkpfiebcoeaaGreatDoor.Q Go.Proofs.YtljlkpfiebcoeaaGreatDoorW.PrintWords Go.Proofs.YtljlkpfiebcoeaaGreatDoorW.PrintLast Go.Proofs.YtljlkpfiebcoeaaGreatDoorW.PrintMore
set_option linter.unusedVariables false
/-- The number of digits, the lowest one first. -/
def lv : List Int → Int
  | [] => 0
  | x :: l => (x - 48) + 10 * lv l
theorem valN_snoc (l : List Int) (x : Int) : ∀ n, valN n (l ++ [x]) = valN n l * 10 + (x - 48) := by
  induction l with
  | nil => intro n; rfl
  | cons y l ih => intro n; rw [List.cons_append, valN_cons, valN_cons, ih]
theorem valN_rev (l : List Int) : valN 0 l.reverse = lv l := by
  induction l with
  | nil => rfl
  | cons x l ih => rw [List.reverse_cons, valN_snoc, ih, lv]; omega
theorem lv_ds (n : Nat) : lv (ds n) = (n : Int) := by
  induction n using Nat.strongRecOn with
  | _ n ih =>
    rcases Nat.eq_zero_or_pos n with rfl | h
    · rw [ds_zero]; rfl
    · rw [ds_pos h, lv, ih (n / 10) (by omega)]; omega
theorem lv_zeros (z : Nat) : lv (List.replicate z 48) = 0 := by
  induction z with
  | zero => rfl
  | succ z ih => rw [List.replicate_succ, lv, ih]; omega
theorem lv_app_zeros (l : List Int) (z : Nat) : lv (l ++ List.replicate z 48) = lv l := by
  induction l with
  | nil => exact lv_zeros z
  | cons x l ih => rw [List.cons_append, lv, lv, ih]
theorem lv_nonneg (l : List Int) (h : allDig l) : 0 ≤ lv l := by
  induction l with
  | nil => exact Int.le_refl _
  | cons x l ih =>
    have hx : dig x := (allDig_cons.1 h).1
    have := ih (allDig_cons.1 h).2
    unfold dig at hx
    rw [lv]; omega
/-- A row of digits whose highest one is not zero is that number's. -/
theorem ds_lv (l : List Int) (h : allDig l) (hl : ∀ x, l.getLast? = some x → x ≠ 48) : ds (lv l).toNat = l := by
  induction l with
  | nil => exact ds_zero
  | cons x l ih =>
    have hx : dig x := (allDig_cons.1 h).1
    have hd := (allDig_cons.1 h).2
    have hn := lv_nonneg l hd
    have hxd : 48 ≤ x ∧ x ≤ 57 := hx
    rw [lv]
    rcases l with _ | ⟨y, l⟩
    · have : x ≠ 48 := hl x rfl
      rw [lv, ds_pos (by omega)]
      have e1 : (x - 48 + 10 * 0).toNat / 10 = 0 := by omega
      rw [e1, ds_zero]
      congr 1
      omega
    · have ih2 := ih hd (fun z hz => hl z (by rw [List.getLast?_cons_cons]; exact hz))
      generalize hL : y :: l = L at *
      have hpos : lv L ≠ 0 := by
        intro e
        rw [e] at ih2
        have : ds 0 = L := ih2
        rw [ds_zero, ← hL] at this
        cases this
      rw [ds_pos (by omega)]
      have e1 : (x - 48 + 10 * lv L).toNat / 10 = (lv L).toNat := by omega
      rw [e1, ih2]
      congr 1
      omega
theorem dig_padded {a0 a1 : Int} (h : 0 ≤ a0) : allDig (padded a0 a1) ∧ padded a0 a1 ≠ [] ∧ valN 0 (padded a0 a1) = a0 := by
  have hm := most_eq a1
  unfold padded padTo
  rw [if_neg (by omega), List.nil_append]
  refine ⟨?_, ?_, ?_⟩
  · intro x hx
    rw [List.mem_reverse, List.mem_append] at hx
    rcases hx with hx | hx
    · have := ds_range _ x hx
      unfold dig; omega
    · obtain ⟨_, rfl⟩ := List.mem_replicate.1 hx
      unfold dig; omega
  · intro e
    have := congrArg List.length e
    rw [List.length_reverse, List.length_append, List.length_replicate, List.length_nil] at this
    omega
  · rw [valN_rev, lv_app_zeros, lv_ds]
    omega
theorem padded_bytes {a0 a1 : Int} (h : 0 ≤ a0) : bytesOf (strOfNums (padded a0 a1)) = padded a0 a1 := bytes_str fun x hx => by
  have : dig x := (dig_padded h).1 x hx
  unfold dig at this; omega
theorem text_ev (a : Int) (h : -9223372036854775808 ≤ a ∧ a < 9223372036854775808) : Ev (fun k => ascii_Text.f k a) (strOfNums (padded a 1)) := by
  unfold ascii_Text.f
  exact Ev.bind (pad_ev a 1 h) (Ev.now _)
theorem num_padded {a0 a1 : Int} (h : 0 ≤ a0) (hm : a0 < 9223372036854775808) (hs : (padded a0 a1).length ≤ 1000) : Ev (fun k => ascii_Number.f k (strOfNums (padded a0 a1)) 9223372036854775807) (a0, 0) := by
  have := num_ev (strOfNums (padded a0 a1)) (by rw [str_size]; omega) 9223372036854775807 (by omega)
  rw [padded_bytes h] at this
  obtain ⟨h1, h2, h3⟩ := dig_padded (a1 := a1) h
  unfold num at this
  rwa [if_neg h2, if_pos h1, h3, if_pos (by omega)] at this
theorem padded_len (a0 a1 : Int) (h : -9223372036854775808 ≤ a0 ∧ a0 < 9223372036854775808) : (padded a0 a1).length ≤ 1000 := by
  have hm := most_eq a1
  have := ds_len 20 a0.natAbs (by omega)
  unfold padded padTo
  have h1 : (if a0 < 0 then [45] else [] : List Int).length ≤ 1 := by split <;> simp
  rw [List.length_append, List.length_reverse, List.length_append, List.length_replicate]
  omega
end Go.Proofs.YtljlkpfiebcoeaaGreatDoor.Plain

namespace Go.Proofs.YtljlkpfiebcoeaaGreatDoor.Plain
open Go.RowKit Go.Proofs.YtljlkpfiebcoeaaGreatDoor.Q Go.Proofs.YtljlkpfiebcoeaaGreatDoorW.PrintWords Go.Proofs.YtljlkpfiebcoeaaGreatDoorW.PrintLast Go.Proofs.YtljlkpfiebcoeaaGreatDoorW.PrintMore
set_option linter.unusedVariables false
theorem same_loopA (l : List ByteArray) (hl : l.length ≤ 1000000) (d : Nat) : ∀ i : Nat, i + d = l.length → Ev (fun k => cringleref01_Texts.l0 k l l (i : Int)) true := by
  induction d with
  | zero =>
    intro i hi
    refine Ev.step (f := fun _ => some true) (fun k => ?_) (Ev.now _)
    simp only [cringleref01_Texts.l0]
    rw [if_neg (by omega)]
  | succ d ih =>
    intro i hi
    refine Ev.step (f := fun k => cringleref01_Texts.l0 k l l ((i + 1 : Nat) : Int)) (fun k => ?_) (ih (i + 1) (by omega))
    simp only [cringleref01_Texts.l0]
    rw [if_pos (by omega), if_pos (by omega), if_pos (by omega), if_true, next (by omega)]
theorem same_evA (l : List ByteArray) (hl : l.length ≤ 1000000) : Ev (fun k => cringleref01_Texts.f k l l) true := by
  unfold cringleref01_Texts.f
  refine Ev.congr (fun k => if_pos rfl) ?_
  exact same_loopA l hl _ 0 (Nat.zero_add _)
end Go.Proofs.YtljlkpfiebcoeaaGreatDoor.Plain

namespace Go.Proofs.YtljlkpfiebcoeaaGreatDoor.Plain
open Go.RowKit Go.Proofs.YtljlkpfiebcoeaaGreatDoor.Q Go.Proofs.YtljlkpfiebcoeaaGreatDoorW.PrintWords Go.Proofs.YtljlkpfiebcoeaaGreatDoorW.PrintLast Go.Proofs.YtljlkpfiebcoeaaGreatDoorW.PrintMore
set_option linter.unusedVariables false
/-- A blank. -/
def isB (x : Int) : Bool := x == 9 || x == 10 || x == 12 || x == 13 || x == 32
theorem isB_all : ∀ i : Fin 256, ascii_IsBlank.f (i.val : Int) = some (isB (i.val : Int)) ∧ cringleref01_IsBlank.f (i.val : Int) = some (isB (i.val : Int)) ∧ ([9, 10, 12, 13, 32] : List UInt8).contains (UInt8.ofNat i.val) = isB (i.val : Int) := by decide +kernel
theorem isB_eq {x : Int} (h : 0 ≤ x ∧ x < 256) : ascii_IsBlank.f x = some (isB x) ∧ cringleref01_IsBlank.f x = some (isB x) := by
  obtain ⟨n, rfl⟩ := Int.eq_ofNat_of_zero_le h.1
  exact ⟨(isB_all ⟨n, by omega⟩).1, (isB_all ⟨n, by omega⟩).2.1⟩
def trimL (l : List Int) : List Int := l.dropWhile isB
def trimR (l : List Int) : List Int := (l.reverse.dropWhile isB).reverse
theorem trimL_cons (x : Int) (l : List Int) : trimL (x :: l) = if isB x then trimL l else x :: l := by
  unfold trimL
  rw [List.dropWhile_cons]
theorem trimR_snoc (x : Int) (l : List Int) : trimR (l ++ [x]) = if isB x then trimR l else l ++ [x] := by
  unfold trimR
  rw [List.reverse_append, List.reverse_singleton, List.singleton_append, List.dropWhile_cons]
  split
  · rfl
  · simp
theorem trimR_cons (x : Int) (l : List Int) : trimR (x :: l) = if trimR l = [] then (if isB x then [] else [x]) else x :: trimR l := by
  unfold trimR
  rw [List.reverse_cons, List.dropWhile_append]
  by_cases h : l.reverse.dropWhile isB = []
  · rw [h]
    simp only [List.isEmpty_nil, if_true, List.reverse_nil]
    rw [List.dropWhile_cons]
    split <;> simp
  · have h2 : (l.reverse.dropWhile isB).isEmpty = false := by simpa using h
    rw [h2]
    simp only [Bool.false_eq_true, if_false, List.reverse_append, List.reverse_singleton, List.singleton_append]
    rw [if_neg (by simpa using h)]
theorem trim_comm (l : List Int) : trimL (trimR l) = trimR (trimL l) := by
  induction l with
  | nil => rfl
  | cons x l ih =>
    rw [trimR_cons, trimL_cons]
    by_cases hx : isB x = true
    · rw [if_pos hx, if_pos hx, ← ih]
      by_cases h : trimR l = []
      · rw [if_pos h, h]
      · rw [if_neg h, trimL_cons, if_pos hx]
    · rw [if_neg hx, if_neg hx, trimR_cons]
      by_cases h : trimR l = []
      · simp only [h, if_true, trimL_cons, hx, Bool.false_eq_true, if_false]
      · simp only [h, if_false, trimL_cons, hx, Bool.false_eq_true]
/-- Trim: from the end, then from the begin. -/
def trim (l : List Int) : List Int := trimL (trimR l)
theorem trimS_eq (s : ByteArray) : (⟨(Lib.trimS s.data.toList [9, 10, 12, 13, 32]).toArray⟩ : ByteArray) = strOfNums (trim (bytesOf s)) := by
  have hp : ∀ x : UInt8, isB (x.toNat : Int) = ([9, 10, 12, 13, 32] : List UInt8).contains x := by
    intro x
    have := (isB_all ⟨x.toNat, x.toNat_lt⟩).2.2
    rw [← this]
    congr 1
    simp
  have hf : (isB ∘ fun x : UInt8 => (x.toNat : Int)) = fun x => ([9, 10, 12, 13, 32] : List UInt8).contains x := by
    funext x
    exact hp x
  have key : (Lib.trimS s.data.toList [9, 10, 12, 13, 32]).map (fun x => (x.toNat : Int)) = trim (bytesOf s) := by
    unfold Lib.trimS Lib.trimLeftS Lib.trimRightS trim trimL trimR bytesOf
    rw [← List.map_reverse, List.dropWhile_map, ← List.map_reverse, List.dropWhile_map, hf]
  apply bytes_inj
  rw [← key]
  have hr : ∀ x ∈ (Lib.trimS s.data.toList [9, 10, 12, 13, 32]).map (fun x => (x.toNat : Int)), 0 ≤ x ∧ x < 256 := by
    intro x hx
    obtain ⟨b, _, rfl⟩ := List.mem_map.1 hx
    have := b.toNat_lt
    omega
  rw [bytes_str hr]
  rfl
theorem asc_trim (s : ByteArray) (hs : s.size ≤ 9223372036854775807) : ascii_Trim.f s = some (strOfNums (trim (bytesOf s))) := by
  unfold ascii_Trim.f strings_Trim.f
  rw [if_pos hs, if_pos (by decide), if_pos (by decide +kernel)]
  have := trimS_eq s
  simp only [Option.bind_some]
  rw [← this]
theorem last_at {l : List Int} {x : Int} {n : Nat} (h : (l ++ [x]).length = n) (hx : n - 1 < (l ++ [x]).length) : (l ++ [x])[n - 1] = x := by
  subst h
  simp
theorem ref_trimR (d : Nat) : ∀ s : ByteArray, s.size = d → d ≤ 100000 → Ev (fun k => cringleref01_Trim.l1 k s) (strOfNums (trimR (bytesOf s))) := by
  induction d with
  | zero =>
    intro s hs hd
    have hn : bytesOf s = [] := List.length_eq_zero_iff.1 (by rw [bytes_len]; omega)
    refine Ev.step (f := fun _ => some s) (fun k => ?_) ?_
    · simp only [cringleref01_Trim.l1]
      rw [if_neg (by omega)]
    · have : s = strOfNums (trimR (bytesOf s)) := by
        conv => lhs; rw [← str_bytes s, hn]
        rw [hn]; rfl
      rw [← this]
      exact Ev.now _
  | succ d ih =>
    intro s hs hd
    have hsz := bytes_len s
    rcases List.eq_nil_or_concat (bytesOf s) with hn | ⟨l, x, hc⟩
    · rw [hn] at hsz; simp at hsz; omega
    · rw [List.concat_eq_append] at hc
      have hlen : l.length + 1 = s.size := by rw [← hsz, hc]; simp
      have hw : wrap64 ((s.size : Int) - 1) = ((d : Nat) : Int) := by unfold wrap64; omega
      have hlt : d < (bytesOf s).length := by omega
      have hb : bt s (d : Int) = x := by
        rw [bytes_bt hlt]
        simp only [hc]
        rw [List.getElem_append_right (by omega)]
        simp
      have hxr : 0 ≤ x ∧ x < 256 := bytes_range (s := s) (by rw [hc]; simp)
      by_cases hbl : isB x = true
      · refine Ev.step (f := fun k => cringleref01_Trim.l1 k (s.extract 0 d)) (fun k => ?_) ?_
        · simp only [cringleref01_Trim.l1]
          rw [if_pos (by omega), hw, if_pos (by omega), if_pos (by omega), hb, (isB_eq hxr).2, Option.bind_some, if_pos hbl, if_pos (by omega)]
          rfl
        · have he : bytesOf (s.extract 0 d) = l := by
            rw [bytes_to, hc, List.take_append_of_le_length (by omega), List.take_of_length_le (by omega)]
          have := ih (s.extract 0 d) (by rw [← bytes_len, he]; omega) (by omega)
          rw [he] at this
          rw [hc, trimR_snoc, if_pos hbl]
          exact this
      · refine Ev.step (f := fun _ => some s) (fun k => ?_) ?_
        · simp only [cringleref01_Trim.l1]
          rw [if_pos (by omega), hw, if_pos (by omega), if_pos (by omega), hb, (isB_eq hxr).2, Option.bind_some, if_neg hbl]
        · rw [hc, trimR_snoc, if_neg hbl, ← hc, str_bytes]
          exact Ev.now _
theorem ref_trimL (d : Nat) : ∀ s : ByteArray, s.size = d → d ≤ 100000 → Ev (fun k => cringleref01_Trim.l0 k s) (strOfNums (trimR (trimL (bytesOf s)))) := by
  have fin : ∀ s : ByteArray, s.size ≤ 100000 → trimL (bytesOf s) = bytesOf s → Ev (fun k => cringleref01_Trim.j1 k s) (strOfNums (trimR (trimL (bytesOf s)))) := by
    intro s hd he
    rw [he]
    exact Ev.step (f := fun k => cringleref01_Trim.l1 k s) (fun k => by simp only [cringleref01_Trim.j1]) (ref_trimR _ s rfl hd)
  induction d with
  | zero =>
    intro s hs hd
    have hn : bytesOf s = [] := List.length_eq_zero_iff.1 (by rw [bytes_len]; omega)
    refine Ev.step (f := fun k => cringleref01_Trim.j1 k s) (fun k => ?_) (fin s (by omega) (by rw [hn]; rfl))
    simp only [cringleref01_Trim.l0]
    rw [if_neg (by omega)]
  | succ d ih =>
    intro s hs hd
    have hsz := bytes_len s
    have hlt : 0 < (bytesOf s).length := by omega
    have hc := drop_at hlt
    rw [List.drop_zero] at hc
    have hb : bt s 0 = (bytesOf s)[0] := bytes_bt hlt
    have hxr := bytes_range (List.getElem_mem hlt)
    by_cases hbl : isB (bytesOf s)[0] = true
    · refine Ev.step (f := fun k => cringleref01_Trim.l0 k (s.extract 1 s.size)) (fun k => ?_) ?_
      · simp only [cringleref01_Trim.l0]
        rw [if_pos (by omega), if_pos (by omega), hb, (isB_eq hxr).2, Option.bind_some, if_pos hbl, if_pos (by omega)]
      · have he := bytes_from s 1
        have := ih (s.extract 1 s.size) (by rw [← bytes_len, he, List.length_drop]; omega) (by omega)
        rw [he] at this
        rw [hc, trimL_cons, if_pos hbl]
        exact this
    · refine Ev.step (f := fun k => cringleref01_Trim.j1 k s) (fun k => ?_) (fin s (by omega) ?_)
      · simp only [cringleref01_Trim.l0]
        rw [if_pos (by omega), if_pos (by omega), hb, (isB_eq hxr).2, Option.bind_some, if_neg hbl]
      · rw [hc, trimL_cons, if_neg hbl]
theorem ref_trim (s : ByteArray) (hs : s.size ≤ 100000) : Ev (fun k => cringleref01_Trim.f k s) (strOfNums (trim (bytesOf s))) := by
  unfold trim
  rw [trim_comm]
  exact ref_trimL _ s rfl hs
/-- The words of a row of bytes; acc is the word that stands ahead. -/
def wd (acc : List Int) : List Int → List (List Int)
  | [] => if acc = [] then [] else [acc]
  | x :: l => if isB x then (if acc = [] then wd [] l else acc :: wd [] l) else wd (acc ++ [x]) l
def strs (l : List (List Int)) : List ByteArray := l.map strOfNums
theorem ref_words_loop (s : ByteArray) (hs : s.size ≤ 100000) (d : Nat) : ∀ (i : Nat) (pre : List ByteArray) (acc : List Int), i + d = (bytesOf s).length → pre.length ≤ i → acc.length ≤ i →
    Ev (fun k => cringleref01_Words.l0 k s pre (strOfNums acc) (i : Int)) (pre ++ strs (wd acc ((bytesOf s).drop i))) := by
  have hsz := bytes_len s
  have nil_iff : ∀ acc : List Int, (strOfNums acc).toList = ([] : List UInt8) ↔ acc = [] := by
    intro acc
    rw [Lib.toList_data, strOfNums_data]
    simp
  induction d with
  | zero =>
    intro i pre acc hi hp ha
    have last : ∀ p : List ByteArray, Ev (fun k => cringleref01_Words.l0 k s p (⟨#[]⟩ : ByteArray) ((i + 1 : Nat) : Int)) p := by
      intro p
      refine Ev.step (f := fun _ => some p) (fun k => ?_) (Ev.now _)
      simp only [cringleref01_Words.l0]
      rw [if_neg (by omega)]
    rw [List.drop_of_length_le (by omega), wd]
    refine Ev.step (f := fun k => cringleref01_Words.j1 k s pre (strOfNums acc) (i : Int) false) (fun k => ?_) ?_
    · simp only [cringleref01_Words.l0]
      rw [if_pos (by omega), if_neg (by omega)]
    · by_cases h : acc = []
      · refine Ev.step (f := fun k => cringleref01_Words.l0 k s pre (⟨#[]⟩ : ByteArray) ((i + 1 : Nat) : Int)) (fun k => ?_) ?_
        · simp only [cringleref01_Words.j1]
          rw [if_neg (by simp), if_pos ((nil_iff acc).2 h), next (by omega)]
        · rw [if_pos h]
          simpa [strs] using last pre
      · refine Ev.step (f := fun k => cringleref01_Words.l0 k s (pre ++ [strOfNums acc]) (⟨#[]⟩ : ByteArray) ((i + 1 : Nat) : Int)) (fun k => ?_) ?_
        · simp only [cringleref01_Words.j1]
          rw [if_neg (by simp), if_neg (fun e => h ((nil_iff acc).1 e)), if_pos (by omega), next (by omega)]
        · rw [if_neg h]
          simpa [strs] using last (pre ++ [strOfNums acc])
  | succ d ih =>
    intro i pre acc hi hp ha
    have hlt : i < (bytesOf s).length := by omega
    have hxr := bytes_range (List.getElem_mem hlt)
    rw [drop_at hlt, wd]
    refine Ev.step (f := fun k => cringleref01_Words.j1 k s pre (strOfNums acc) (i : Int) (!isB (bytesOf s)[i])) (fun k => ?_) ?_
    · simp only [cringleref01_Words.l0]
      rw [if_pos (by omega), if_pos (by omega), if_pos (by omega), bytes_bt hlt, (isB_eq hxr).2, Option.bind_some]
    · by_cases hb : isB (bytesOf s)[i] = true
      · rw [if_pos hb, hb]
        by_cases h : acc = []
        · refine Ev.step (f := fun k => cringleref01_Words.l0 k s pre (strOfNums []) ((i + 1 : Nat) : Int)) (fun k => ?_) ?_
          · simp only [cringleref01_Words.j1]
            rw [if_neg (by simp), if_pos ((nil_iff acc).2 h), next (by omega)]
            rfl
          · rw [if_pos h]
            exact ih (i + 1) pre [] (by omega) (by omega) (by simp)
        · refine Ev.step (f := fun k => cringleref01_Words.l0 k s (pre ++ [strOfNums acc]) (strOfNums []) ((i + 1 : Nat) : Int)) (fun k => ?_) ?_
          · simp only [cringleref01_Words.j1]
            rw [if_neg (by simp), if_neg (fun e => h ((nil_iff acc).1 e)), if_pos (by omega), next (by omega)]
            rfl
          · rw [if_neg h]
            have := ih (i + 1) (pre ++ [strOfNums acc]) [] (by omega) (by simp; omega) (by simp)
            simpa [strs] using this
      · have hb2 : isB (bytesOf s)[i] = false := by simpa using hb
        have he : s.extract i (i + 1) = strOfNums [(bytesOf s)[i]] := by
          apply bytes_inj
          rw [bytes_sub, bytes_str (fun x hx => by obtain rfl : x = (bytesOf s)[i] := by simpa using hx
                                                   exact hxr), drop_at hlt, Nat.add_sub_cancel_left]
          rfl
        rw [if_neg hb, hb2]
        refine Ev.step (f := fun k => cringleref01_Words.l0 k s pre (strOfNums (acc ++ [(bytesOf s)[i]])) ((i + 1 : Nat) : Int)) (fun k => ?_) ?_
        · simp only [cringleref01_Words.j1]
          rw [if_pos (by simp), next (by omega), if_pos (by omega), if_pos (by omega), if_pos (by omega), Int.toNat_natCast, Int.toNat_natCast, he, str_cat, str_size, str_size, if_pos (by simp; omega)]
        · exact ih (i + 1) pre (acc ++ [(bytesOf s)[i]]) (by omega) (by omega) (by simp; omega)
theorem ref_words (s : ByteArray) (hs : s.size ≤ 100000) : Ev (fun k => cringleref01_Words.f k s) (strs (wd [] (bytesOf s))) := by
  have := ref_words_loop s hs _ 0 [] [] (Nat.zero_add _) (Nat.le_refl _) (Nat.le_refl _)
  rw [List.drop_zero] at this
  exact this
theorem words_loop (s : ByteArray) (hs : s.size ≤ 100000) (d : Nat) : ∀ (i : Nat) (pre : List ByteArray) (j : Int) (acc : List Int), i + d = (bytesOf s).length → pre.length ≤ i → (j = -1 ∧ acc = [] ∨ ∃ n : Nat, j = (n : Int) ∧ n < i ∧ acc = ((bytesOf s).drop n).take (i - n)) →
    Ev (fun k => ascii_Words.l0 k s pre j ((s.size : Int) + 1) (i : Int)) (pre ++ strs (wd acc ((bytesOf s).drop i))) := by
  have hsz := bytes_len s
  -- behind a blank, or the end: what is done with the word that stands ahead
  have flush : ∀ (i : Nat) (pre : List ByteArray) (j : Int) (acc : List Int) (r : List ByteArray), i ≤ (bytesOf s).length → pre.length ≤ i → (j = -1 ∧ acc = [] ∨ ∃ n : Nat, j = (n : Int) ∧ n < i ∧ acc = ((bytesOf s).drop n).take (i - n)) →
      Ev (fun k => ascii_Words.l0 k s (pre ++ strs (if acc = [] then [] else [acc])) (-1) ((s.size : Int) + 1) ((i + 1 : Nat) : Int)) r → Ev (fun k => ascii_Words.j1 k s pre j (i : Int) false ((s.size : Int) + 1) (i : Int)) r := by
    intro i pre j acc r hi hp hj h
    refine Ev.step (f := fun k => ascii_Words.j2 k s pre j (i : Int) false ((s.size : Int) + 1) (i : Int) false) (fun k => ?_) ?_
    · simp only [ascii_Words.j1]
      rw [if_neg (by simp)]
    · refine Ev.step (fun k => ?_) h
      simp only [ascii_Words.j2]
      rw [if_neg (by simp), if_neg (by simp), next (by omega)]
      rcases hj with ⟨rfl, rfl⟩ | ⟨n, rfl, hn, rfl⟩
      · rw [if_neg (by omega)]
        simp [strs]
      · have hlen : (((bytesOf s).drop n).take (i - n)).length = i - n := by simp; omega
        have hne : ((bytesOf s).drop n).take (i - n) ≠ [] := fun e => by rw [e] at hlen; simp at hlen; omega
        rw [if_pos (by omega), if_pos (by omega), if_pos (by omega), if_pos (by omega), if_pos (by omega), if_neg hne, Int.toNat_natCast, Int.toNat_natCast]
        have he : s.extract n i = strOfNums (((bytesOf s).drop n).take (i - n)) := by
          rw [← bytes_sub, str_bytes]
        rw [he]
        rfl
  induction d with
  | zero =>
    intro i pre j acc hi hp hj
    rw [List.drop_of_length_le (by omega), wd]
    refine Ev.step (f := fun k => ascii_Words.j1 k s pre j (i : Int) false ((s.size : Int) + 1) (i : Int)) (fun k => ?_) ?_
    · simp only [ascii_Words.l0]
      rw [if_pos (by omega), if_neg (by omega)]
    · refine flush i pre j acc _ (by omega) hp hj ?_
      refine Ev.step (f := fun _ => some (pre ++ strs (if acc = [] then [] else [acc]))) (fun k => ?_) (Ev.now _)
      simp only [ascii_Words.l0]
      rw [if_neg (by omega)]
  | succ d ih =>
    intro i pre j acc hi hp hj
    have hlt : i < (bytesOf s).length := by omega
    have hxr := bytes_range (List.getElem_mem hlt)
    rw [drop_at hlt, wd]
    refine Ev.step (f := fun k => ascii_Words.j1 k s pre j (i : Int) (!isB (bytesOf s)[i]) ((s.size : Int) + 1) (i : Int)) (fun k => ?_) ?_
    · simp only [ascii_Words.l0]
      rw [if_pos (by omega), if_pos (by omega), if_pos (by omega), bytes_bt hlt, (isB_eq hxr).1, Option.bind_some]
    · by_cases hb : isB (bytesOf s)[i] = true
      · rw [if_pos hb, hb]
        refine flush i pre j acc _ (by omega) hp hj ?_
        have := ih (i + 1) (pre ++ strs (if acc = [] then [] else [acc])) (-1) [] (by omega) (by split <;> simp [strs] <;> omega) (.inl ⟨rfl, rfl⟩)
        by_cases h : acc = []
        · simp only [h, if_true] at this ⊢
          simpa [strs] using this
        · simp only [h, if_false] at this ⊢
          simpa [strs] using this
      · have hb2 : isB (bytesOf s)[i] = false := by simpa using hb
        rw [if_neg hb, hb2]
        rcases hj with ⟨rfl, rfl⟩ | ⟨n, rfl, hn, rfl⟩
        · refine Ev.step (f := fun k => ascii_Words.j2 k s pre (-1) (i : Int) true ((s.size : Int) + 1) (i : Int) true) (fun k => ?_) ?_
          · simp only [ascii_Words.j1]
            rw [if_pos (by simp)]
            rfl
          · refine Ev.step (f := fun k => ascii_Words.l0 k s pre (i : Int) ((s.size : Int) + 1) ((i + 1 : Nat) : Int)) (fun k => ?_) ?_
            · simp only [ascii_Words.j2]
              rw [if_pos trivial, next (by omega)]
            · refine ih (i + 1) pre (i : Int) _ (by omega) (by omega) (.inr ⟨i, rfl, by omega, ?_⟩)
              rw [drop_at hlt, Nat.add_sub_cancel_left]
              rfl
        · refine Ev.step (f := fun k => ascii_Words.j2 k s pre (n : Int) (i : Int) true ((s.size : Int) + 1) (i : Int) false) (fun k => ?_) ?_
          · simp only [ascii_Words.j1]
            rw [if_pos (by simp)]
            congr 1
          · refine Ev.step (f := fun k => ascii_Words.l0 k s pre (n : Int) ((s.size : Int) + 1) ((i + 1 : Nat) : Int)) (fun k => ?_) ?_
            · simp only [ascii_Words.j2]
              rw [if_neg (by simp), if_pos trivial, next (by omega)]
            · refine ih (i + 1) pre (n : Int) _ (by omega) (by omega) (.inr ⟨n, rfl, by omega, ?_⟩)
              rw [show i + 1 - n = (i - n) + 1 by omega, List.take_add_one, List.getElem?_drop, show n + (i - n) = i by omega, List.getElem?_eq_getElem hlt]
              rfl
theorem words_ev (s : ByteArray) (hs : s.size ≤ 100000) : Ev (fun k => ascii_Words.f k s) (strs (wd [] (bytesOf s))) := by
  have := words_loop s hs _ 0 [] (-1) [] (Nat.zero_add _) (Nat.le_refl _) (.inl ⟨rfl, rfl⟩)
  rw [List.drop_zero] at this
  unfold ascii_Words.f
  rw [wrap64_id (by omega) (by omega)]
  exact this
end Go.Proofs.YtljlkpfiebcoeaaGreatDoor.Plain

namespace Go.Proofs.YtljlkpfiebcoeaaGreatDoor.Plain
open Go.RowKit Go.Proofs.YtljlkpfiebcoeaaGreatDoor.Q Go.Proofs.YtljlkpfiebcoeaaGreatDoorW.PrintWords Go.Proofs.YtljlkpfiebcoeaaGreatDoorW.PrintLast Go.Proofs.YtljlkpfiebcoeaaGreatDoorW.PrintMore
set_option linter.unusedVariables false
def lowI (x : Int) : Int := if 65 ≤ x ∧ x ≤ 90 then x + 32 else x
theorem low_all : ∀ i : Fin 256, ((ascii_lowB (UInt8.ofNat i.val)).toNat : Int) = lowI (i.val : Int) := by decide +kernel
theorem lowB_eq (x : UInt8) : ((ascii_lowB x).toNat : Int) = lowI (x.toNat : Int) := by
  have := low_all ⟨x.toNat, x.toNat_lt⟩
  simpa using this
theorem lowI_range {x : Int} (h : 0 ≤ x ∧ x < 256) : 0 ≤ lowI x ∧ lowI x < 256 := by unfold lowI; split <;> omega
theorem lowI_twice (x : Int) : lowI (lowI x) = lowI x := by
  by_cases h : 65 ≤ x ∧ x ≤ 90
  · have e : lowI x = x + 32 := if_pos h
    rw [e]
    exact if_neg (by omega)
  · have e : lowI x = x := if_neg h
    rw [e, e]
def lower (s : ByteArray) : ByteArray := strOfNums ((bytesOf s).map lowI)
theorem lower_bytes (s : ByteArray) : bytesOf (lower s) = (bytesOf s).map lowI := by
  apply bytes_str
  intro x hx
  obtain ⟨y, hy, rfl⟩ := List.mem_map.1 hx
  exact lowI_range (bytes_range hy)
theorem lower_size (s : ByteArray) : (lower s).size = s.size := by rw [← bytes_len, lower_bytes, List.length_map, bytes_len]
theorem lower_twice (s : ByteArray) : lower (lower s) = lower s := by
  apply bytes_inj
  rw [lower_bytes, lower_bytes, List.map_map]
  exact List.map_congr_left fun x _ => lowI_twice x
theorem asc_lower (s : ByteArray) (hs : s.size ≤ 9223372036854775807) : ascii_Lower.f s = some (lower s) := by
  unfold ascii_Lower.f
  rw [if_pos hs]
  congr 1
  apply bytes_inj
  rw [lower_bytes]
  unfold bytesOf
  simp only [List.map_map]
  exact List.map_congr_left fun x _ => lowB_eq x
theorem ref_lower_loop (s : ByteArray) (hs : s.size ≤ 100000) (d : Nat) : ∀ i : Nat, i + d = (bytesOf s).length → Ev (fun k => cringleref01_Lower.l0 k s (((bytesOf s).take i).map lowI) (i : Int)) (lower s) := by
  have hsz := bytes_len s
  induction d with
  | zero =>
    intro i hi
    refine Ev.step (f := fun _ => some (lower s)) (fun k => ?_) (Ev.now _)
    simp only [cringleref01_Lower.l0]
    rw [if_neg (by omega), List.take_of_length_le (by omega)]
    rfl
  | succ d ih =>
    intro i hi
    have hlt : i < (bytesOf s).length := by omega
    have hxr := bytes_range (List.getElem_mem hlt)
    have hl : (((bytesOf s).take i).map lowI).length = i := by simp; omega
    have hnext : ((bytesOf s).take (i + 1)).map lowI = ((bytesOf s).take i).map lowI ++ [lowI (bytesOf s)[i]] := by
      rw [List.take_add_one, List.getElem?_eq_getElem hlt, List.map_append]
      rfl
    have := ih (i + 1) (by omega)
    rw [hnext] at this
    refine Ev.step (fun k => ?_) this
    simp only [cringleref01_Lower.l0]
    rw [if_pos (by omega), if_pos (by omega), bytes_bt hlt, hl, next (by omega)]
    generalize (bytesOf s)[i] = x at *
    unfold lowI
    by_cases h1 : x ≥ 65
    · rw [if_pos h1]
      by_cases h2 : x ≤ 90
      · rw [if_pos h2, if_pos (by omega), if_pos (by omega), show (x + 32) % 256 = x + 32 by omega]
      · rw [if_neg h2, if_pos (by omega), if_neg (by omega)]
    · rw [if_neg h1, if_pos (by omega), if_neg (by omega)]
theorem ref_lower (s : ByteArray) (hs : s.size ≤ 100000) : Ev (fun k => cringleref01_Lower.f k s) (lower s) := ref_lower_loop s hs _ 0 (Nat.zero_add _)
theorem asc_same (a b : ByteArray) (ha : a.size ≤ 9223372036854775807) (hb : b.size ≤ 9223372036854775807) : ascii_Same.f a b = some ((lower a).toList == (lower b).toList) := by
  unfold ascii_Same.f
  rw [asc_lower a ha, asc_lower b hb]
  by_cases h : (a.size : Int) = (b.size : Int)
  · rw [if_pos h]; rfl
  · rw [if_neg h]
    congr 1
    symm
    rw [beq_eq_false_iff_ne]
    intro e
    have e2 := text_eq.1 e
    have := congrArg ByteArray.size e2
    rw [lower_size, lower_size] at this
    omega
/-- Each word has bytes, and no blank. -/
def good (q : List Int) : Prop := q ≠ [] ∧ ∀ x ∈ q, isB x = false
theorem wd_good (l : List Int) : ∀ acc, (∀ x ∈ acc, isB x = false) → ∀ q ∈ wd acc l, good q := by
  induction l with
  | nil =>
    intro acc ha q hq
    rw [wd] at hq
    split at hq
    · cases hq
    · rename_i h
      obtain rfl : q = acc := by simpa using hq
      exact ⟨h, ha⟩
  | cons x l ih =>
    intro acc ha q hq
    rw [wd] at hq
    split at hq
    · split at hq
      · exact ih [] (by simp) q hq
      · rename_i h
        rcases List.mem_cons.1 hq with rfl | hq
        · exact ⟨h, ha⟩
        · exact ih [] (by simp) q hq
    · rename_i h
      refine ih (acc ++ [x]) (fun y hy => ?_) q hq
      rcases List.mem_append.1 hy with hy | hy
      · exact ha y hy
      · obtain rfl : y = x := by simpa using hy
        simpa using h
theorem wd_range (l : List Int) : ∀ acc, (∀ x ∈ acc, 0 ≤ x ∧ x < 256) → (∀ x ∈ l, 0 ≤ x ∧ x < 256) → ∀ q ∈ wd acc l, (∀ x ∈ q, 0 ≤ x ∧ x < 256) ∧ q.length ≤ acc.length + l.length := by
  induction l with
  | nil =>
    intro acc ha hl q hq
    rw [wd] at hq
    split at hq
    · cases hq
    · obtain rfl : q = acc := by simpa using hq
      exact ⟨ha, by simp⟩
  | cons x l ih =>
    intro acc ha hl q hq
    have hl2 : ∀ y ∈ l, 0 ≤ y ∧ y < 256 := fun y hy => hl y (by simp [hy])
    rw [wd] at hq
    split at hq
    · split at hq
      · have := ih [] (by simp) hl2 q hq
        exact ⟨this.1, by have h2 := this.2; simp at h2 ⊢; omega⟩
      · rcases List.mem_cons.1 hq with rfl | hq
        · exact ⟨ha, by omega⟩
        · have := ih [] (by simp) hl2 q hq
          exact ⟨this.1, by have h2 := this.2; simp at h2 ⊢; omega⟩
    · have := ih (acc ++ [x]) (fun y hy => by
        rcases List.mem_append.1 hy with hy | hy
        · exact ha y hy
        · obtain rfl : y = x := by simpa using hy
          exact hl y (by simp)) hl2 q hq
      exact ⟨this.1, by have h2 := this.2; simp at h2 ⊢; omega⟩
theorem wd_len (l : List Int) : ∀ acc, (wd acc l).length ≤ l.length + 1 := by
  induction l with
  | nil => intro acc; rw [wd]; split <;> simp
  | cons x l ih =>
    intro acc
    rw [wd]
    have h1 := ih []
    have h2 := ih (acc ++ [x])
    split
    · split
      · rw [List.length_cons]; omega
      · rw [List.length_cons, List.length_cons]; omega
    · rw [List.length_cons]; omega
/-- Words joined by one blank. -/
def jn : List (List Int) → List Int
  | [] => []
  | q :: r => q ++ (r.map ([32] ++ ·)).flatten
theorem tails_map (r : List (List Int)) : ((r.map ([32] ++ ·)).flatten).map (fun n : Int => UInt8.ofNat n.toNat) = Lib.joinTail (⟨#[32]⟩ : ByteArray).data.toList ((strs r).map (·.data.toList)) := by
  induction r with
  | nil => rfl
  | cons q r ih =>
    rw [List.map_cons, List.flatten_cons, List.map_append, ih]
    rfl
theorem join_jn (ws : List (List Int)) : (⟨(Lib.join ((strs ws).map (·.data.toList)) (⟨#[32]⟩ : ByteArray).data.toList).toArray⟩ : ByteArray) = strOfNums (jn ws) := by
  rcases ws with _ | ⟨q, r⟩
  · rfl
  · have : Lib.join ((strs (q :: r)).map (·.data.toList)) (⟨#[32]⟩ : ByteArray).data.toList = (jn (q :: r)).map (fun n : Int => UInt8.ofNat n.toNat) := by
      rw [strs, List.map_cons, List.map_cons, Lib.join_cons, ← strs, ← tails_map, strOfNums_data, jn, List.map_append]
    rw [this]
    rfl
theorem jn_len (ws : List (List Int)) (n : Nat) (h : ∀ q ∈ ws, q.length ≤ n) : (jn ws).length ≤ ws.length * (n + 1) := by
  have key : ∀ r : List (List Int), (∀ q ∈ r, q.length ≤ n) → ((r.map ([32] ++ ·)).flatten).length ≤ r.length * (n + 1) := by
    intro r
    induction r with
    | nil => intro _; simp
    | cons q r ih =>
      intro hr
      have h1 := hr q (by simp)
      have h2 := ih (fun x hx => hr x (by simp [hx]))
      rw [List.map_cons, List.flatten_cons, List.length_append, List.length_append, List.length_singleton, List.length_cons, Nat.succ_mul]
      omega
  rcases ws with _ | ⟨q, r⟩
  · simp [jn]
  · have h1 := h q (by simp)
    have h2 := key r (fun x hx => h x (by simp [hx]))
    rw [jn, List.length_append, List.length_cons, Nat.succ_mul]
    omega
theorem strs_small (s : ByteArray) (hs : s.size ≤ 4000) : (strs (wd [] (bytesOf s))).length ≤ 4001 ∧ (∀ x ∈ strs (wd [] (bytesOf s)), x.size ≤ 4000) ∧ (jn (wd [] (bytesOf s))).length ≤ 100000000 := by
  have hl := wd_len (bytesOf s) []
  rw [bytes_len] at hl
  have hq : ∀ q ∈ wd [] (bytesOf s), q.length ≤ 4000 := fun q hq => by
    have := (wd_range (bytesOf s) [] (by simp) (fun x hx => bytes_range hx) q hq).2
    rw [bytes_len, List.length_nil] at this
    omega
  refine ⟨by unfold strs; rw [List.length_map]; omega, fun x hx => ?_, ?_⟩
  · obtain ⟨q, h, rfl⟩ := List.mem_map.1 hx
    rw [str_size]
    exact hq q h
  · have h1 := jn_len _ 4000 hq
    have h2 : (wd [] (bytesOf s)).length * 4001 ≤ 4001 * 4001 := Nat.mul_le_mul_right _ (by omega)
    omega
end Go.Proofs.YtljlkpfiebcoeaaGreatDoor.Plain

namespace Go.Proofs.YtljlkpfiebcoeaaGreatDoor.Plain
open Go.RowKit Go.Proofs.YtljlkpfiebcoeaaGreatDoor.Q Go.Proofs.YtljlkpfiebcoeaaGreatDoorW.PrintWords Go.Proofs.YtljlkpfiebcoeaaGreatDoorW.PrintLast Go.Proofs.YtljlkpfiebcoeaaGreatDoorW.PrintMore
open Go.Proofs.YtljlkpfiebcoeaaGreatDoor.U8 (B nxt spec encB items text mend signs Right)
set_option linter.unusedVariables false
abbrev D (s : ByteArray) : List UInt8 := s.data.toList
theorem D_len (s : ByteArray) : (D s).length = s.size := data_length s
theorem D_from (s : ByteArray) (i : Nat) : D (s.extract i s.size) = (D s).drop i := by
  unfold D
  rw [Lib.extract_data, List.take_of_length_le (by rw [List.length_drop, data_length]; omega)]
theorem D_to (s : ByteArray) (i : Nat) : D (s.extract 0 i) = (D s).take i := by
  unfold D
  rw [Lib.extract_data, List.drop_zero, Nat.sub_zero]
theorem D_nil (s : ByteArray) : s.toList = ([] : List UInt8) ↔ D s = [] := by rw [Lib.toList_data]
theorem D_inj {a b : ByteArray} (h : D a = D b) : a = b := by
  obtain ⟨x⟩ := a
  obtain ⟨y⟩ := b
  exact congrArg _ (Array.toList_inj.1 h)
theorem get_B (s : ByteArray) (i : Nat) : (s.get! i).toNat = B (D s) i := by
  unfold B D
  obtain ⟨d⟩ := s
  show (d[i]!).toNat = (d.toList.getD i 0).toNat
  rw [List.getD_eq_getElem?_getD, Array.getElem?_toList, Array.getElem!_eq_getD, ← Array.getD_eq_getD_getElem?]
  rfl
theorem bt_B (s : ByteArray) (i : Nat) : bt s (i : Int) = ((B (D s) i : Nat) : Int) := by
  unfold bt
  rw [Int.toNat_natCast]
  split
  · rename_i h
    rw [← get_B, ← Go.Proofs.Utf8W.get!_of_lt s i h]
  · rename_i h
    unfold B D
    rw [List.getD_eq_getElem?_getD, List.getElem?_eq_none (by rw [data_length]; omega)]
    rfl
theorem decode_B (s : ByteArray) (i : Nat) (h : i < s.size) : Utf8.decode s i = (if (nxt ((D s).drop i)).2.2 then ((nxt ((D s).drop i)).1, (nxt ((D s).drop i)).2.1) else (65533, 1)) := by
  have hB : ∀ j, B (D s) (i + j) = B ((D s).drop i) j := fun j => by
    unfold B
    rw [List.getD_eq_getElem?_getD, List.getD_eq_getElem?_getD, List.getElem?_drop]
  rw [Lib.decode_at, get_B, get_B, get_B, get_B]
  unfold nxt
  rw [← hB, ← hB, ← hB, ← hB, List.length_drop, D_len]
  exact U8.decode_spec _ _ _ _ _ (by omega) (U8.B_lt _ _) (U8.B_lt _ _) (U8.B_lt _ _) (U8.B_lt _ _)
theorem decodeGo_D (s : ByteArray) (h : D s ≠ []) : Lib.decodeGo s = (if (nxt (D s)).2.2 then ((nxt (D s)).1, (nxt (D s)).2.1) else (65533, 1)) := by
  have h0 : 0 < s.size := by rw [← D_len]; exact List.length_pos_iff.2 h
  unfold Lib.decodeGo
  rw [if_neg (by omega), decode_B s 0 h0, List.drop_zero]
/-- FullRuneInString of a beginning, where what stands there is no sign. -/
theorem full_spec (n x0 x1 x2 x3 : Nat) (hn : 1 ≤ n) (h : (spec n x0 x1 x2 x3).2.2 = false) (j : Nat) (hj : 1 ≤ j) (hj4 : j ≤ 4) (hjn : j ≤ n) (y1 y2 : Nat) (e1 : 1 < j → y1 = x1) (e2 : 2 < j → y2 = x2) :
    (Full.unicode_utf8_FullRuneInString.n j x0 y1 y2 = true → (spec n x0 x1 x2 x3).2.1 < j ∨ j = 1) ∧ (Full.unicode_utf8_FullRuneInString.n j x0 y1 y2 = false → j ≤ (spec n x0 x1 x2 x3).2.1) := by
  have hc := U8.firstT_classes x0
  unfold Full.unicode_utf8_FullRuneInString.n
  rw [if_neg (by omega)]
  unfold spec at h ⊢
  split at h
  · cases h
  rename_i hb
  rw [if_neg hb]
  split at h
  · rename_i ht
    rw [if_pos ht, ht, if_pos (by omega)]
    exact ⟨fun _ => by simp only; omega, fun h => by cases h⟩
  rename_i ht
  rw [if_neg ht]
  split at h
  · rename_i g1
    rw [if_pos g1]
    refine ⟨fun _ => by simp only; omega, fun hh => ?_⟩
    simp only
    rcases Nat.lt_or_ge 1 j with h1 | h1
    · rw [e1 h1] at hh
      exfalso
      split at hh
      · cases hh
      rw [if_pos (by omega)] at hh
      cases hh
    · omega
  rename_i g1
  rw [if_neg g1]
  split at h
  · cases h
  rename_i s2
  rw [if_neg s2]
  split at h
  · rename_i g2
    rw [if_pos g2]
    simp only
    refine ⟨fun hh => ?_, fun hh => ?_⟩
    · rcases Nat.lt_or_ge 2 j with h1 | h1
      · omega
      · exfalso
        rw [if_neg (by omega)] at hh
        split at hh
        · rename_i q
          rw [e1 q.1] at q
          omega
        · have := of_decide_eq_true hh
          omega
    · rcases Nat.lt_or_ge 2 j with h1 | h1
      · rw [e1 (by omega), e2 h1] at hh
        exfalso
        split at hh
        · cases hh
        rw [if_neg (by omega), decide_eq_true (by omega)] at hh
        cases hh
      · omega
  rename_i g2
  rw [if_neg g2]
  split at h
  · cases h
  rename_i s3
  rw [if_neg s3]
  split at h
  · rename_i g3
    rw [if_pos g3]
    simp only
    refine ⟨fun hh => ?_, fun hh => ?_⟩
    · rcases Nat.lt_or_ge 3 j with h1 | h1
      · omega
      · exfalso
        rw [if_neg (by omega)] at hh
        split at hh
        · rename_i q
          rw [e1 q.1] at q
          omega
        · have q := of_decide_eq_true hh
          rw [e2 q.1] at q
          omega
    · rcases Nat.lt_or_ge 3 j with h1 | h1
      · exfalso
        rw [if_pos (by omega)] at hh
        cases hh
      · omega
  · cases h
theorem B_take (l : List UInt8) {i j : Nat} (h : i < j) : B (l.take j) i = B l i := by
  unfold B
  rw [List.getD_eq_getElem?_getD, List.getD_eq_getElem?_getD, List.getElem?_take, if_pos h]
theorem full_at (s : ByteArray) (h : D s ≠ []) (hb : (nxt (D s)).2.2 = false) (j : Nat) (hj : 1 ≤ j) (hj4 : j ≤ 4) (hjn : j ≤ s.size) :
    ∃ b, utf8_FullRuneInString.f (s.extract 0 j) = some b ∧ (b = true → (nxt (D s)).2.1 < j ∨ j = 1) ∧ (b = false → j ≤ (nxt (D s)).2.1) := by
  have hsz : (s.extract 0 j).size = j := by rw [← D_len, D_to, List.length_take, D_len]; omega
  refine ⟨_, rfl, ?_⟩
  have key := full_spec (D s).length (B (D s) 0) (B (D s) 1) (B (D s) 2) (B (D s) 3) (by rw [D_len]; omega) hb j hj hj4 (by rw [D_len]; omega) (B (D (s.extract 0 j)) 1) (B (D (s.extract 0 j)) 2) (fun h1 => by rw [D_to, B_take _ h1]) (fun h1 => by rw [D_to, B_take _ h1])
  unfold Full.unicode_utf8_FullRuneInString.b
  rw [hsz, get_B, get_B, get_B, show B (D (s.extract 0 j)) 0 = B (D s) 0 from by rw [D_to, B_take _ (by omega)]]
  exact key
/-- The greatest place so far. -/
def val (w j : Nat) : Nat := if j ≤ 1 then 1 else min (j - 1) w
theorem part_loop (s : ByteArray) (hs : s.size ≤ 1000000000000000000) (h : D s ≠ []) (hb : (nxt (D s)).2.2 = false) (d : Nat) : ∀ j : Nat, 1 ≤ j → j + d = min s.size 4 + 1 → Ev (fun k => utf_part.l0 k s ((val (nxt (D s)).2.1 j : Nat) : Int) (j : Int)) (((nxt (D s)).2.1 : Nat) : Int) := by
  have hw := U8.nxt_width h
  rw [D_len] at hw
  have hm : mn (s.size : Int) 4 = ((min s.size 4 : Nat) : Int) := by unfold mn; split <;> omega
  induction d with
  | zero =>
    intro j hj hd
    refine Ev.step (f := fun _ => some (((nxt (D s)).2.1 : Nat) : Int)) (fun k => ?_) (Ev.now _)
    simp only [utf_part.l0]
    rw [hm, if_neg (by omega)]
    congr 2
    unfold val
    split <;> omega
  | succ d ih =>
    intro j hj hd
    obtain ⟨b, hf, h1, h2⟩ := full_at s h hb j hj (by omega) (by omega)
    have hn : wrap64 ((j : Int) + 1) = ((j + 1 : Nat) : Int) := next (by omega)
    have hi := ih (j + 1) (by omega) (by omega)
    cases b with
    | true =>
      refine Ev.step (fun k => ?_) hi
      simp only [utf_part.l0]
      rw [hm, if_pos (by omega), if_pos (by omega), if_pos (by omega), Int.toNat_natCast, hf, Option.bind_some, if_pos rfl, hn]
      have : val (nxt (D s)).2.1 j = val (nxt (D s)).2.1 (j + 1) := by
        have := h1 rfl
        unfold val
        split <;> split <;> omega
      rw [this]
    | false =>
      refine Ev.step (fun k => ?_) hi
      simp only [utf_part.l0]
      rw [hm, if_pos (by omega), if_pos (by omega), if_pos (by omega), Int.toNat_natCast, hf, Option.bind_some, if_neg (by simp), hn]
      have : j = val (nxt (D s)).2.1 (j + 1) := by
        have := h2 rfl
        unfold val
        split <;> omega
      rw [← this]
/-- What an answer of Next is. -/
def told (p : Nat × Nat × Bool) : Int × Int × Int := (((p.1 : Nat) : Int), ((p.2.1 : Nat) : Int), if p.2.2 then 0 else 9)
theorem next_ev (s : ByteArray) (hs : s.size ≤ 1000000000000000000) (h : D s ≠ []) : Ev (fun k => utf_Next.f k s) (told (nxt (D s))) := by
  unfold utf_Next.f utf8_DecodeRuneInString.f
  refine Ev.congr (fun k => if_neg (fun e => h ((D_nil s).1 e))) ?_
  simp only [Option.bind_some]
  rw [decodeGo_D s h]
  cases hb : (nxt (D s)).2.2 with
  | true =>
    have hr := (U8.nxt_ok h hb)
    have : ¬ ((nxt (D s)).1 = 65533 ∧ (nxt (D s)).2.1 = 1) := by
      rintro ⟨e1, e2⟩
      have h2 := congrArg List.length hr.2
      rw [e1, e2, List.length_take, show (encB 65533).length = 3 from by decide] at h2
      omega
    simp only [if_true]
    unfold told
    rw [hb]
    refine Ev.congr (f := fun _ => some ((((nxt (D s)).1 : Nat) : Int), (((nxt (D s)).2.1 : Nat) : Int), 0)) (fun k => ?_) (Ev.now _)
    by_cases c1 : (((nxt (D s)).1 : Nat) : Int) = 65533
    · rw [if_pos c1, if_neg (by omega)]
    · rw [if_neg c1]
  | false =>
    simp only [Bool.false_eq_true, if_false]
    refine Ev.congr (fun k => if_pos rfl) ?_
    refine Ev.congr (fun k => if_pos rfl) ?_
    unfold told
    rw [hb, U8.nxt_bad hb]
    have hw := U8.nxt_width h
    rw [D_len] at hw
    have hp := part_loop s hs h hb (min s.size 4) 1 (Nat.le_refl _) (by omega)
    exact Ev.bind (f := fun _ t => some (65533, t, 9)) hp (Ev.now _)
/-! the reference's -/
section
variable (s : ByteArray) (z : Nat)
/-- How the number begins. -/
def head (z b : Nat) : Int := if z = 2 then (b : Int) - 192 else if z = 3 then (b : Int) - 224 else if z = 4 then (b : Int) - 240 else (b : Int)
end
theorem lead (b : Nat) (h : ¬ b < 128) (ht : ¬ Lib.firstT b = 241) : 2 ≤ Lib.firstT b % 8 ∧ Lib.firstT b % 8 ≤ 4 ∧ 128 ≤ Lib.accLo (Lib.firstT b / 16) ∧ Lib.accHi (Lib.firstT b / 16) ≤ 191 ∧ (Lib.firstT b % 8 = 2 → 194 ≤ b ∧ b < 224) ∧ (Lib.firstT b % 8 = 3 → 224 ≤ b ∧ b < 240) ∧ (Lib.firstT b % 8 = 4 → 240 ≤ b ∧ b ≤ 244) := by
  rcases U8.firstT_classes b with ⟨hb, e⟩ | ⟨hb, e⟩ | ⟨hb, hb', e⟩ | ⟨hb, e⟩ | ⟨hb, e⟩ | ⟨hb, e⟩ | ⟨hb, e⟩ | ⟨hb, hb', e⟩ | ⟨hb, e⟩
  · omega
  · omega
  all_goals
    rw [e]
    refine ⟨by decide, by decide, by decide, by decide, fun k => ?_, fun k => ?_, fun k => ?_⟩ <;> first | omega | (exfalso; revert k; decide)
end Go.Proofs.YtljlkpfiebcoeaaGreatDoor.Plain

namespace Go.Proofs.YtljlkpfiebcoeaaGreatDoor.Plain
open Go.RowKit Go.Proofs.YtljlkpfiebcoeaaGreatDoor.Q Go.Proofs.YtljlkpfiebcoeaaGreatDoorW.PrintWords Go.Proofs.YtljlkpfiebcoeaaGreatDoorW.PrintLast Go.Proofs.YtljlkpfiebcoeaaGreatDoorW.PrintMore
open Go.Proofs.YtljlkpfiebcoeaaGreatDoor.U8 (B nxt spec encB items text mend signs Right)
set_option linter.unusedVariables false
/-! is it a text -/
theorem enc_mend : encB 65533 = [239, 191, 189] := by decide
theorem prefix_mend (l : List UInt8) (h : Lib.hasPrefix l [239, 191, 189] = true) : (nxt l).2.2 = true := by
  obtain ⟨r, rfl⟩ := List.isPrefixOf_iff_prefix.1 h
  rw [show ([239, 191, 189] : List UInt8) = encB 65533 from enc_mend.symm, U8.nxt_enc _ U8.right_65533]
theorem extract_from (s : ByteArray) (pos : Nat) : (s.extract pos s.size).data.toList = (D s).drop pos := D_from s pos
theorem isTextN_D (s : ByteArray) : ∀ (b pos : Nat), s.size ≤ pos + b → Utfs.isTextN s b pos = text ((D s).drop pos) := by
  intro b
  induction b with
  | zero =>
    intro pos h
    rw [List.drop_of_length_le (by rw [D_len]; omega)]
    rfl
  | succ b ih =>
    intro pos h
    by_cases hp : pos < s.size
    · have hne : (D s).drop pos ≠ [] := by
        intro e
        have := congrArg List.length e
        rw [List.length_drop, D_len, List.length_nil] at this
        omega
      have hw := U8.nxt_width hne
      rw [U8.text_cons hne, List.drop_drop]
      simp only [Utfs.isTextN, if_pos hp]
      rw [decode_B s pos hp, extract_from]
      cases hb : (nxt ((D s).drop pos)).2.2 with
      | true =>
        simp only [if_true, Bool.true_and]
        have : ¬ ((nxt ((D s).drop pos)).1 = 65533 ∧ Lib.hasPrefix ((D s).drop pos) [239, 191, 189] = false) := by
          rintro ⟨e1, e2⟩
          have h1 := (U8.nxt_ok hne hb).2
          rw [e1, enc_mend] at h1
          have h3 : Lib.hasPrefix ((D s).drop pos) [239, 191, 189] = true := by
            rw [h1]
            exact List.isPrefixOf_iff_prefix.2 (List.take_prefix _ _)
          rw [h3] at e2
          cases e2
        rw [if_neg this]
        exact ih _ (by omega)
      | false =>
        simp only [Bool.false_eq_true, if_false, Bool.false_and]
        rw [if_pos]
        refine ⟨trivial, ?_⟩
        cases hx : Lib.hasPrefix ((D s).drop pos) [239, 191, 189] with
        | false => rfl
        | true => rw [prefix_mend _ hx] at hb; cases hb
    · rw [Utfs.isTextN_end s _ _ hp, List.drop_of_length_le (by rw [D_len]; omega)]
      rfl
theorem istext_eq (s : ByteArray) : utf_IsText.f s = some (text (D s)) := by
  unfold utf_IsText.f
  rw [isTextN_D s s.size 0 (by omega), List.drop_zero]
theorem suffix_ne {s : ByteArray} (h : ¬ D s = []) : (s.size : Int) > 0 := by
  have := List.length_pos_iff.2 h
  rw [D_len] at this
  omega
theorem suffix_nil {s : ByteArray} (h : D s = []) : s.size = 0 := by rw [← D_len, h]; rfl
theorem cut_off {s : ByteArray} {w : Nat} : D (s.extract ((w : Nat) : Int).toNat s.size) = (D s).drop w := by rw [Int.toNat_natCast, D_from]
theorem cut_size {s : ByteArray} {w : Nat} : (s.extract ((w : Nat) : Int).toNat s.size).size = s.size - w := by rw [← D_len, cut_off, List.length_drop, D_len]
theorem told_zero (p : Nat × Nat × Bool) : ((told p).2.2 = 0) ↔ p.2.2 = true := by
  unfold told
  cases p.2.2 <;> simp
/-! put -/
theorem div64 {c : Int} (h : 0 ≤ c) : Int.tdiv c 64 = c / 64 := Int.tdiv_eq_ediv_of_nonneg h
theorem div4096 {c : Int} (h : 0 ≤ c) : Int.tdiv c 4096 = c / 4096 := Int.tdiv_eq_ediv_of_nonneg h
theorem div262144 {c : Int} (h : 0 ≤ c) : Int.tdiv c 262144 = c / 262144 := Int.tdiv_eq_ediv_of_nonneg h
theorem mod64' {c : Int} (h : 0 ≤ c) : Int.tmod c 64 = c % 64 := Int.tmod_eq_emod_of_nonneg h
theorem encZ_le (c : Int) : (Lib.encodeRuneZ c).length ≤ 4 := by
  unfold Lib.encodeRuneZ
  repeat' split
  all_goals simp
theorem encZ_byte {c x : Int} (h : x ∈ Lib.encodeRuneZ c) : 0 ≤ x ∧ x < 256 := by
  unfold Lib.encodeRuneZ at h
  repeat' split at h
  all_goals simp at h
  all_goals omega
def putZ (l : List Int) : List Int := l.flatMap Lib.encodeRuneZ
theorem putZ_le (l : List Int) : (putZ l).length ≤ 4 * l.length := by
  induction l with
  | nil => simp [putZ]
  | cons c l ih =>
    have := encZ_le c
    simp only [putZ, List.flatMap_cons, List.length_append, List.length_cons] at ih ⊢
    omega
theorem append_eq (l : List Int) (c : Int) (h0 : -2147483648 ≤ c) (h1 : c < 2147483648) (hl : l.length + 4 ≤ 140737488355328) : utf8_AppendRune.f l c = some (l ++ Lib.encodeRuneZ c) := by
  unfold utf8_AppendRune.f
  rw [if_pos h0, if_pos (by omega), if_pos hl]
/-! mended -/
theorem putZ_mend (l : List UInt8) : (putZ (signs l)).map (fun n => UInt8.ofNat n.toNat) = mend l := by
  unfold putZ signs mend encB
  rw [List.flatMap_map, List.map_flatMap]
theorem signs_le : ∀ l : List UInt8, (signs l).length ≤ l.length := by
  refine U8.items_ind (by simp [signs, items, U8.itemsN]) (fun l hl ih => ?_)
  have hw := U8.nxt_width hl
  rw [U8.signs_cons hl, List.length_cons]
  rw [List.length_drop] at ih
  omega
theorem signs_range : ∀ l : List UInt8, ∀ x ∈ signs l, -2147483648 ≤ x ∧ x < 2147483648 := by
  refine U8.items_ind (by simp [signs, items, U8.itemsN]) (fun l hl ih => ?_)
  rw [U8.signs_cons hl]
  intro x hx
  rcases List.mem_cons.1 hx with rfl | hx
  · have h := U8.nxt_right hl
    unfold Right at h
    omega
  · exact ih x hx
/-- A text of bytes told by whole numbers. -/
def strOf (l : List UInt8) : ByteArray := ⟨l.toArray⟩
theorem D_str (l : List UInt8) : D (strOf l) = l := rfl
theorem str_D (s : ByteArray) : strOf (D s) = s := D_inj rfl
theorem str_nums (l : List Int) : strOfNums l = strOf (l.map fun n => UInt8.ofNat n.toNat) := rfl
theorem str_put (s : List UInt8) : strOfNums (putZ (signs s)) = strOf (mend s) := by rw [str_nums, putZ_mend]
theorem repair_loop : ∀ (l : List UInt8) (s : ByteArray) (a : List Int), D s = l → s.size ≤ 1000000000 → a.length + 4 * s.size + 4 ≤ 140737488355328 → Ev (fun k => utf_Repair.l0 k s a) (strOfNums (a ++ putZ (signs l))) := by
  refine U8.items_ind (fun s a h hs ha => ?_) (fun l hl ih s a h hs ha => ?_)
  · refine Ev.step (f := fun _ => some (strOfNums (a ++ putZ (signs [])))) (fun k => ?_) (Ev.now _)
    simp only [utf_Repair.l0]
    rw [if_pos ((D_nil s).2 h)]
    simp [putZ, signs, items, U8.itemsN]
  · subst h
    have hw := U8.nxt_width hl
    rw [D_len] at hw
    have hr := U8.nxt_right hl
    unfold Right at hr
    have hle := encZ_le ((nxt (D s)).1 : Int)
    have hh := ih (s.extract (((nxt (D s)).2.1 : Nat) : Int).toNat s.size) (a ++ Lib.encodeRuneZ ((nxt (D s)).1 : Int)) cut_off (by rw [cut_size]; omega) (by rw [cut_size, List.length_append]; omega)
    rw [List.append_assoc] at hh
    rw [U8.signs_cons hl, show putZ (((nxt (D s)).1 : Int) :: signs ((D s).drop (nxt (D s)).2.1)) = Lib.encodeRuneZ ((nxt (D s)).1 : Int) ++ putZ (signs ((D s).drop (nxt (D s)).2.1)) from rfl]
    refine Ev.step (fun k => by simp only [utf_Repair.l0]; rw [if_neg (fun e => hl ((D_nil s).1 e))]) ?_
    refine Ev.bind (next_ev s (by omega) hl) ?_
    unfold told
    dsimp only
    refine Ev.congr (fun k => by rw [append_eq _ _ (by omega) (by omega) (by omega), Option.bind_some, if_pos (Int.natCast_nonneg _), if_pos (by omega)]) hh
theorem repair_ev (s : ByteArray) (hs : s.size ≤ 1000000000) : Ev (fun k => utf_Repair.f k s) (strOf (mend (D s))) := by
  unfold utf_Repair.f
  rw [istext_eq]
  simp only [Option.bind_some]
  cases h : text (D s) with
  | true =>
    rw [U8.mend_text _ h, str_D]
    exact Ev.congr (fun k => if_pos rfl) (Ev.now _)
  | false =>
    refine Ev.congr (fun k => if_neg (by simp)) ?_
    have := repair_loop (D s) s [] rfl hs (by simp; omega)
    rw [List.nil_append, str_put] at this
    exact this
/-! signs -/
/-! cuts -/
theorem D_drop_cons {s : ByteArray} {at_ : Nat} (h : at_ < s.size) : (D s).drop at_ ≠ [] := by
  intro e
  have := congrArg List.length e
  rw [List.length_drop, D_len, List.length_nil] at this
  omega
end Go.Proofs.YtljlkpfiebcoeaaGreatDoor.Plain

namespace Go.Proofs.YtljlkpfiebcoeaaGreatDoor.Plain
open Go.RowKit Go.Proofs.YtljlkpfiebcoeaaGreatDoor.Q Go.Proofs.YtljlkpfiebcoeaaGreatDoorW.PrintWords Go.Proofs.YtljlkpfiebcoeaaGreatDoorW.PrintLast Go.Proofs.YtljlkpfiebcoeaaGreatDoorW.PrintMore
open Go.Proofs.YtljlkpfiebcoeaaGreatDoor.U8 (B nxt spec encB items text mend signs Right)
open Go.Proofs.YtljlkpfiebcoeaaGreatDoor.Rf
open Go.Proofs.YtljlkpfiebcoeaaGreatDoor.Pc (un mk hx sub one read sp join pair pairs parse form)
set_option linter.unusedVariables false
theorem now_of {α : Type} {o : Option α} {r : α} (h : o = some r) : Ev (fun _ => o) r := ⟨0, fun _ _ => h⟩
theorem list_same {a b : ByteArray} (h : D a = D b) : a.toList = b.toList := by rw [Lib.toList_data, Lib.toList_data]; exact h
theorem bt_get (s : ByteArray) (i : Nat) (h : i < (D s).length) : bt s (i : Int) = (((D s)[i].toNat : Nat) : Int) := by
  have h' : i < s.size := by rw [D_len] at h; exact h
  unfold bt
  rw [Int.toNat_natCast, dif_pos h']
  rfl
theorem strOf_size (l : List UInt8) : (strOf l).size = l.length := by rw [← D_len, D_str]
theorem str_cat2 (a b : List UInt8) : strOf a ++ strOf b = strOf (a ++ b) := D_inj (by
  show (strOf a ++ strOf b).data.toList = a ++ b
  simp [strOf])
def nm (l : List UInt8) : List Int := l.map fun b => (b.toNat : Int)
theorem nm_append (a b : List UInt8) : nm (a ++ b) = nm a ++ nm b := List.map_append
theorem nm_len (a : List UInt8) : (nm a).length = a.length := List.length_map _
theorem str_nm (l : List UInt8) : strOfNums (nm l) = strOf l := by
  apply D_inj
  rw [D_str]
  show (strOfNums (nm l)).data.toList = l
  rw [strOfNums_data]
  unfold nm
  rw [List.map_map]
  conv => rhs; rw [← List.map_id l]
  refine List.map_congr_left fun x hx => ?_
  simp
theorem prefix_eq (p l : List UInt8) : p.isPrefixOf l = (decide (p.length ≤ l.length) && (l.take p.length == p)) := by
  by_cases h : p.isPrefixOf l = true
  · have h1 := List.isPrefixOf_iff_prefix.1 h
    rw [h, decide_eq_true h1.length_le, ← List.prefix_iff_eq_take.1 h1]
    simp
  · rw [Bool.eq_false_iff.mpr h]
    symm
    rw [Bool.and_eq_false_iff]
    by_cases hl : p.length ≤ l.length
    · right
      refine beq_eq_false_iff_ne.2 (fun e => h (List.isPrefixOf_iff_prefix.2 ?_))
      rw [← e]
      exact List.take_prefix _ _
    · left
      exact decide_eq_false hl
theorem pre_of (s p : ByteArray) : (if (s.size : Int) ≥ (p.size : Int) then (if 0 ≤ (p.size : Int) then (if (p.size : Int) ≤ (s.size : Int) then (some ((s.extract 0 ((p.size : Int) : Int).toNat).toList == p.toList)) else (none)) else (none)) else (some false)) = some ((D p).isPrefixOf (D s)) := by
  rw [prefix_eq, D_len, D_len]
  by_cases h : p.size ≤ s.size
  · rw [if_pos (by omega), if_pos (by omega), if_pos (by omega), Int.toNat_natCast, Lib.toList_data, Lib.toList_data, decide_eq_true h, Bool.true_and]
    show some (D (s.extract 0 p.size) == D p) = _
    rw [D_to]
  · rw [if_neg (by omega), decide_eq_false h]
    rfl
theorem cutPrefix_eq (s p : ByteArray) : strings_CutPrefix.f s p = some (if (D p).isPrefixOf (D s) = true then (strOf ((D s).drop p.size), true) else (s, false)) := by
  unfold strings_CutPrefix.f stringslite_CutPrefix.f stringslite_HasPrefix.f
  rw [pre_of]
  simp only [Option.bind_some]
  by_cases h : (D p).isPrefixOf (D s) = true
  · have := prefix_len h
    rw [D_len, D_len] at this
    rw [if_pos h, if_pos h, if_pos (by omega), if_pos (by omega), Int.toNat_natCast]
    simp only [Option.bind_some]
    congr 2
    exact D_inj (by rw [D_from]; rfl)
  · rw [if_neg h, if_neg h]
    rfl
theorem rall_byte (s : ByteArray) (b : UInt8) (new : List UInt8) (hne : [b] ≠ new) (hn : new.length ≤ 6) (hs : s.size ≤ 100000000) : strings_ReplaceAll.f s (strOf [b]) (strOf new) = some (strOf (rep1 b new (D s))) := by
  have hc : Lib.countB s (strOf [b]) ≤ s.size + 1 := by
    have := Lib.count_le s.data.toList (strOf [b]).data.toList
    rw [show s.data.toList.length = s.size from D_len s] at this
    exact this
  have hns : (strOf new).size = new.length := by rw [← D_len, D_str]
  have hmul : Lib.countB s (strOf [b]) * (strOf new).size ≤ (s.size + 1) * 6 := by rw [hns]; exact Nat.mul_le_mul hc hn
  unfold strings_ReplaceAll.f
  rw [if_pos (by omega), if_pos (by show 1 ≤ 1; omega), if_pos (by omega)]
  exact congrArg (fun l => some (strOf l)) (replaceAll_one (D s) b new hne)
/-! marked -/
theorem index_ge (l : List UInt8) (c : UInt8) : 0 ≤ Lib.indexByte l c ↔ c ∈ l := by
  rw [← Lib.index_one, index_byte]
  by_cases h : c ∈ l
  · rw [if_pos h]; exact ⟨fun _ => h, fun _ => by omega⟩
  · rw [if_neg h]; exact ⟨fun q => by omega, fun q => absurd q h⟩
/-! unmarked -/
theorem nib_all : ∀ c : Fin 256, ascii_nibble.f ((c.val : Nat) : Int) = some (if hexv c.val < 16 then (((hexv c.val : Nat) : Int), true) else (0, false)) := by decide +kernel
theorem nib_eq (c : UInt8) : ascii_nibble.f ((c.toNat : Nat) : Int) = some (if hexv c.toNat < 16 then (((hexv c.toNat : Nat) : Int), true) else (0, false)) := nib_all ⟨c.toNat, c.toNat_lt⟩
theorem or_all : ∀ a b : Fin 16, Go.bits .or .u32 ((((a.val : Nat) : Int) * 16) % 4294967296) ((b.val : Nat) : Int) = ((a.val * 16 + b.val : Nat) : Int) := by decide +kernel
theorem or_eq {a b : Nat} (ha : a < 16) (hb : b < 16) : Go.bits .or .u32 (((a : Int) * 16) % 4294967296) (b : Int) = ((a * 16 + b : Nat) : Int) := or_all ⟨a, ha⟩ ⟨b, hb⟩
theorem or_zero : ∀ b : Fin 16, Go.bits .or .u32 (((0 : Int) * 16) % 4294967296) ((b.val : Nat) : Int) = ((b.val : Nat) : Int) := by decide +kernel
theorem hex2_eq (a b : UInt8) : ascii_Hex.f 3 (strOf [a, b]) = some (if hexv a.toNat < 16 ∧ hexv b.toNat < 16 then (((hexv a.toNat * 16 + hexv b.toNat : Nat) : Int), 0) else (0, 3)) := by
  have h0 : bt (strOf [a, b]) 0 = ((a.toNat : Nat) : Int) := bt_get (strOf [a, b]) 0 (by simp [D_str])
  have h1 : bt (strOf [a, b]) 1 = ((b.toNat : Nat) : Int) := bt_get (strOf [a, b]) 1 (by simp [D_str])
  have hz : (strOf [a, b]).size = 2 := rfl
  have w1 : wrap64 (0 + 1) = 1 := by unfold wrap64; omega
  have w2 : wrap64 (1 + 1) = 2 := by unfold wrap64; omega
  have t1 : (strOf [a, b]).toList ≠ ([] : List UInt8) := by rw [Lib.toList_data]; intro e; exact absurd e (by simp [strOf])
  have l1 (x : Int) (f : Bool) : ascii_Hex.l0 1 (strOf [a, b]) x f 2 2 = if f = true then some (0, 5) else some (x, 0) := by
    simp only [ascii_Hex.l0]
    rw [if_neg (by omega)]
  have l2 (x : Int) : ascii_Hex.l0 2 (strOf [a, b]) x false 2 1 = if hexv b.toNat < 16 then ascii_Hex.l0 1 (strOf [a, b]) (Go.bits .or .u32 ((x * 16) % 4294967296) ((hexv b.toNat : Nat) : Int)) ((x / 268435456) != 0) 2 2 else some (0, 3) := by
    conv => lhs; unfold ascii_Hex.l0
    rw [if_pos (by omega), if_pos (by omega), if_pos (by rw [hz]; omega), h1, nib_eq, Option.bind_some, w2]
    by_cases hb : hexv b.toNat < 16
    · rw [if_pos hb, if_pos hb, if_pos rfl, if_neg (by decide)]
    · rw [if_neg hb, if_neg hb, if_neg (by decide)]
  have l3 : ascii_Hex.l0 3 (strOf [a, b]) 0 false 2 0 = if hexv a.toNat < 16 then ascii_Hex.l0 2 (strOf [a, b]) (Go.bits .or .u32 (((0 : Int) * 16) % 4294967296) ((hexv a.toNat : Nat) : Int)) (((0 : Int) / 268435456) != 0) 2 1 else some (0, 3) := by
    conv => lhs; unfold ascii_Hex.l0
    rw [if_pos (by omega), if_pos (by omega), if_pos (by rw [hz]; omega), h0, nib_eq, Option.bind_some, w1]
    by_cases ha : hexv a.toNat < 16
    · rw [if_pos ha, if_pos ha, if_pos rfl, if_neg (by decide)]
    · rw [if_neg ha, if_neg ha, if_neg (by decide)]
  unfold ascii_Hex.f
  rw [if_neg t1, hz]
  show ascii_Hex.l0 3 (strOf [a, b]) 0 false 2 0 = _
  rw [l3]
  by_cases ha : hexv a.toNat < 16
  · rw [if_pos ha, or_zero ⟨hexv a.toNat, ha⟩, show (((0 : Int) / 268435456) != 0) = false from by decide, l2]
    by_cases hb : hexv b.toNat < 16
    · rw [if_pos hb, if_pos (show hexv a.toNat < 16 ∧ hexv b.toNat < 16 from ⟨ha, hb⟩), or_eq ha hb, l1, show ((((hexv a.toNat : Nat) : Int) / 268435456) != 0) = false from by rw [show ((hexv a.toNat : Nat) : Int) / 268435456 = 0 from by omega]; decide, if_neg (by decide)]
    · rw [if_neg hb, if_neg (fun q => hb q.2)]
  · rw [if_neg ha, if_neg (fun q => ha q.1)]
theorem hex2_ev (a b : UInt8) : Ev (fun k => ascii_Hex.f k (strOf [a, b])) (if hexv a.toNat < 16 ∧ hexv b.toNat < 16 then (((hexv a.toNat * 16 + hexv b.toNat : Nat) : Int), 0) else (0, 3)) :=
  Ev.of (fun k => ascii_Hex.mono _ k) (hex2_eq a b)
theorem un_loop : ∀ (n : Nat) (s : ByteArray) (acc : List UInt8), s.size ≤ n → Ev (fun k => percent_Unmark.l0 k s acc) (strOf (acc ++ un (D s))) := by
  intro n
  induction n with
  | zero =>
    intro s acc h
    have h0 : D s = [] := List.length_eq_zero_iff.1 (by rw [D_len]; omega)
    refine Ev.step (f := fun _ => some (strOf (acc ++ un (D s)))) (fun k => ?_) (Ev.now _)
    simp only [percent_Unmark.l0]
    rw [if_pos (by rw [Lib.toList_data]; exact h0), h0]
    show some (strOf acc) = some (strOf (acc ++ []))
    rw [List.append_nil]
  | succ n ih =>
    intro s acc h
    have hl := D_len s
    rcases hd : D s with _ | ⟨c, r⟩
    · refine Ev.step (f := fun _ => some (strOf (acc ++ un []))) (fun k => ?_) (Ev.now _)
      simp only [percent_Unmark.l0]
      rw [if_pos (by rw [Lib.toList_data]; exact hd)]
      show some (strOf acc) = some (strOf (acc ++ []))
      rw [List.append_nil]
    · have hne : ¬ s.toList = ([] : List UInt8) := by rw [Lib.toList_data]; intro e; rw [show s.data.toList = c :: r from hd] at e; cases e
      have hg : s.data.toList.getD 0 0 = c := by rw [show s.data.toList = c :: r from hd]; rfl
      have h1 : D (s.extract 1 s.size) = r := by rw [D_from, hd]; rfl
      rw [hd, List.length_cons] at hl
      have one_ : un (c :: r) = c :: un r → Ev (fun k => percent_Unmark.l0 k (s.extract 1 s.size) (acc ++ [c])) (strOf (acc ++ un (c :: r))) := fun e => by
        have := ih (s.extract 1 s.size) (acc ++ [c]) (by rw [← D_len, h1]; omega)
        rw [h1] at this
        rw [e, show acc ++ c :: un r = acc ++ [c] ++ un r from by simp]
        exact this
      refine Ev.step (fun k => by simp only [percent_Unmark.l0]; rw [if_neg hne, hg]) ?_
      by_cases hc : c = 37
      · refine Ev.congr (fun k => if_pos hc) ?_
        by_cases h2 : 2 < s.size
        · refine Ev.congr (fun k => if_pos h2) ?_
          obtain ⟨a, b, q, hr⟩ : ∃ a b q, r = a :: b :: q := by
            rcases r with _ | ⟨a, _ | ⟨b, q⟩⟩
            · simp only [List.length_nil] at hl; omega
            · simp only [List.length_cons, List.length_nil] at hl; omega
            · exact ⟨a, b, q, rfl⟩
          subst hr
          have hex : s.extract 1 3 = strOf [a, b] := D_inj (by
            rw [D_str]
            unfold D
            rw [Lib.extract_data]
            show ((D s).drop 1).take 2 = _
            rw [hd]
            rfl)
          rw [hex]
          refine Ev.bind (hex2_ev a b) ?_
          by_cases hh : hexv a.toNat < 16 ∧ hexv b.toNat < 16
          · rw [if_pos hh]
            refine Ev.congr (fun k => if_pos rfl) ?_
            have h3 : D (s.extract 3 s.size) = q := by rw [D_from, hd]; rfl
            have := ih (s.extract 3 s.size) (acc ++ [UInt8.ofNat (hexv a.toNat * 16 + hexv b.toNat)]) (by rw [← D_len, h3]; simp only [List.length_cons] at hl; omega)
            rw [h3] at this
            rw [show un (c :: a :: b :: q) = UInt8.ofNat (hexv a.toNat * 16 + hexv b.toNat) :: un q from by rw [un, if_pos ⟨hc, hh⟩], show acc ++ UInt8.ofNat (hexv a.toNat * 16 + hexv b.toNat) :: un q = acc ++ [UInt8.ofNat (hexv a.toNat * 16 + hexv b.toNat)] ++ un q from by simp]
            rw [show ((((hexv a.toNat * 16 + hexv b.toNat : Nat) : Int) % 256).toNat.toUInt8) = UInt8.ofNat (hexv a.toNat * 16 + hexv b.toNat) from by
              show UInt8.ofNat _ = UInt8.ofNat _
              congr 1
              omega]
            exact this
          · rw [if_neg hh]
            refine Ev.congr (fun k => if_neg (by simp)) ?_
            exact one_ (by rw [un, if_neg (fun q => hh q.2)])
        · refine Ev.congr (fun k => if_neg h2) ?_
          exact one_ (Pc.un_short c r (by omega))
      · refine Ev.congr (fun k => if_neg hc) ?_
        exact one_ (Pc.un_ne c r hc)
theorem un_ev (s : ByteArray) (hs : s.size ≤ 1000000000) : Ev (fun k => percent_Unmark.f k s) (strOf (un (D s))) := by
  unfold percent_Unmark.f
  refine Ev.congr (fun k => if_pos hs) ?_
  exact un_loop s.size s [] (Nat.le_refl _)
/-! a name's, or a value's, text, and what a text tells -/
theorem read_ev (s : ByteArray) (hs : s.size ≤ 100000000) : Ev (fun k => percent_read.f k s) (strOf (read (D s))) := by
  have h2 := Pc.un_len _ (sub 43 32 (D s)) (Nat.le_refl _)
  rw [Pc.sub_len, D_len] at h2
  unfold percent_read.f
  rw [show strings_ReplaceAll.f s (⟨#[43]⟩ : ByteArray) (⟨#[32]⟩ : ByteArray) = _ from rall_byte s 43 [32] (by decide) (by decide) hs, Pc.rep1_sub]
  refine Ev.bind (Ev.now _) ?_
  refine Ev.bind (un_ev _ (by rw [strOf_size, Pc.sub_len, D_len]; omega)) ?_
  rw [D_str]
  refine Ev.bind (repair_ev _ (by rw [strOf_size]; omega)) ?_
  exact Ev.now _
end Go.Proofs.YtljlkpfiebcoeaaGreatDoor.Plain

namespace Go.Proofs.YtljlkpfiebcoeaaGreatDoor.Plain
open Go.RowKit Go.Proofs.YtljlkpfiebcoeaaGreatDoor.Q Go.Proofs.YtljlkpfiebcoeaaGreatDoorW.PrintWords Go.Proofs.YtljlkpfiebcoeaaGreatDoorW.PrintLast Go.Proofs.YtljlkpfiebcoeaaGreatDoorW.PrintMore
open Go.Proofs.YtljlkpfiebcoeaaGreatDoor.U8 (B nxt spec encB items text mend signs Right)
open Go.Proofs.YtljlkpfiebcoeaaGreatDoor.Rf
open Go.Proofs.YtljlkpfiebcoeaaGreatDoor.Pc (un mk hx sub one read sp join pair pairs parse form)
set_option linter.unusedVariables false
abbrev Pair := List UInt8 × List UInt8
def p105 (p : Pair) : S105 := ⟨strOf p.1, strOf p.2⟩
def p84 (p : Pair) : S84 := ⟨strOf p.1, strOf p.2⟩
def of84 (x : S84) : Pair := (D x.f0, D x.f1)
theorem p42_of (x : S84) : p84 (of84 x) = x := by cases x; rfl
theorem of42_p (p : Pair) : of84 (p84 p) = p := rfl
theorem at84 {l : List S84} {i : Nat} (h : i < l.length) : rd_T84 l (i : Int) = l[i] := by
  unfold rd_T84
  rw [Int.toNat_natCast, List.getD_eq_getElem?_getD, List.getElem?_eq_getElem h]
  rfl
theorem at105 {l : List S105} {i : Nat} (h : i < l.length) : rd_T105 l (i : Int) = l[i] := by
  unfold rd_T105
  rw [Int.toNat_natCast, List.getD_eq_getElem?_getD, List.getElem?_eq_getElem h]
  rfl
/-! split -/
theorem count_eq (s : ByteArray) : strings_Count.f s (⟨#[38]⟩ : ByteArray) = some (((D s).count 38 : Nat) : Int) := by
  unfold strings_Count.f
  rw [if_pos (by rfl)]
  rfl
theorem split_eq (s : ByteArray) (hs : s.size ≤ 100000000) : strings_Split.f s (⟨#[38]⟩ : ByteArray) = some ((sp 38 [] (D s)).map strOf) := by
  unfold strings_Split.f
  rw [if_pos (by omega), if_pos (by show 1 ≤ 1; omega)]
  congr 1
  have h := Lib.splitB_data (⟨#[38]⟩ : ByteArray) 0 (Lib.countB s (⟨#[38]⟩ : ByteArray)) s
  rw [show Lib.splitK (⟨#[38]⟩ : ByteArray).data.toList 0 (Lib.countB s (⟨#[38]⟩ : ByteArray)) s.data.toList = sp 38 [] (D s) from Pc.splitK_sp 38 _ (D s) (Nat.le_refl _)] at h
  rw [← h, List.map_map]
  conv => lhs; rw [← List.map_id (Lib.splitB _ _ _ _)]
  refine List.map_congr_left fun x _ => ?_
  exact (str_D x).symm
/-! parsed -/
theorem cut_eq (s : ByteArray) (h : s.size ≤ 100000000) : strings_Cut.f s (⟨#[61]⟩ : ByteArray) = some (strOf (Lib.cut (D s) [61]).1, strOf (Lib.cut (D s) [61]).2.1, (Lib.cut (D s) [61]).2.2) := by
  unfold strings_Cut.f
  rw [if_pos (by omega)]
  rfl
theorem cut_sizes (l : List UInt8) : (Lib.cut l [61]).1.length ≤ l.length ∧ (Lib.cut l [61]).2.1.length ≤ l.length := by
  rw [cut_byte]
  split
  · refine ⟨(List.takeWhile_prefix _).length_le, ?_⟩
    simp only [List.length_drop]
    omega
  · simp
theorem pairs_cons (x : List UInt8) (l : List (List UInt8)) : pairs (x :: l) = if x = [] then pairs l else pair x :: pairs l := by
  unfold Pc.pairs
  by_cases h : x = []
  · rw [if_pos h, List.filter_cons_of_neg (by simp [h])]
  · rw [if_neg h, List.filter_cons_of_pos (by simp [h])]
    rfl
theorem parse_loop (L : List (List UInt8)) (hL : L.length ≤ 100000001) (hx : ∀ x ∈ L, x.length ≤ 100000000) (d : Nat) : ∀ (i : Nat) (pre : List S105), i + d = L.length → pre.length ≤ i →
    Ev (fun k => percent_Parse.l0 k pre (L.map strOf) (L.length : Int) (i : Int)) (pre ++ (pairs (L.drop i)).map p105, 0) := by
  have hml : (L.map strOf).length = L.length := List.length_map _
  induction d with
  | zero =>
    intro i pre hi hp
    refine Ev.step (f := fun _ => some (pre, 0)) (fun k => ?_) ?_
    · simp only [percent_Parse.l0]
      rw [if_neg (by omega)]
    · rw [List.drop_of_length_le (by omega)]
      show Ev (fun _ => some (pre, 0)) (pre ++ [], 0)
      rw [List.append_nil]
      exact Ev.now _
  | succ d ih =>
    intro i pre hi hp
    have hlt : i < L.length := by omega
    obtain ⟨x, hc⟩ : ∃ x, L[i] = x := ⟨_, rfl⟩
    have hxl := hx x (by rw [← hc]; exact List.getElem_mem _)
    have hat : rdOf ByteArray.empty (L.map strOf) (i : Int) = strOf x := by
      rw [texts_at (by omega), List.getElem_map, hc]
    rw [drop_at hlt, hc, pairs_cons]
    refine Ev.step (fun k => by simp only [percent_Parse.l0]; rw [if_pos (by omega), if_pos (by omega), if_pos (by omega), hat, cut_eq _ (by rw [strOf_size]; exact hxl), D_str]) ?_
    refine Ev.bind (Ev.now _) ?_
    by_cases h0 : x = []
    · rw [if_pos h0]
      refine Ev.congr (fun k => if_pos (show (strOf x).toList = ([] : List UInt8) by rw [Lib.toList_data]; exact h0)) ?_
      rw [next (by omega)]
      exact ih (i + 1) pre (by omega) (by omega)
    · rw [if_neg h0]
      refine Ev.congr (fun k => if_neg (show ¬ (strOf x).toList = ([] : List UInt8) by rw [Lib.toList_data]; exact h0)) ?_
      have hcs := cut_sizes x
      refine Ev.bind (read_ev _ (by show (strOf _).size ≤ _; rw [strOf_size]; omega)) ?_
      refine Ev.bind (read_ev _ (by show (strOf _).size ≤ _; rw [strOf_size]; omega)) ?_
      refine Ev.congr (fun k => if_pos (by omega)) ?_
      rw [next (by omega)]
      have := ih (i + 1) (pre ++ [p105 (pair x)]) (by omega) (by simp; omega)
      rw [List.map_cons, show pre ++ p105 (pair x) :: (pairs (L.drop (i + 1))).map p105 = pre ++ [p105 (pair x)] ++ (pairs (L.drop (i + 1))).map p105 from by simp]
      exact this
def told3 (l : List UInt8) : List Pair × Int := if l.count 38 > 512 then ([], 5) else (parse l, 0)
theorem sp_small (l : List UInt8) (h : l.length ≤ 100000000) : (sp 38 [] l).length ≤ 100000001 ∧ ∀ x ∈ sp 38 [] l, x.length ≤ 100000000 := by
  refine ⟨?_, fun x hx => ?_⟩
  · rw [Pc.sp_len]
    have := List.count_le_length (a := (38 : UInt8)) (l := l)
    omega
  · have := Pc.sp_mem 38 l [] x hx
    simp only [List.length_nil] at this
    omega
theorem parse_ev (s : ByteArray) (hs : s.size ≤ 100000000) : Ev (fun k => percent_Parse.f k s) ((told3 (D s)).1.map p105, (told3 (D s)).2) := by
  unfold percent_Parse.f told3
  rw [count_eq]
  refine Ev.bind (Ev.now _) ?_
  by_cases h : (D s).count 38 > 512
  · rw [if_pos h]
    refine Ev.congr (fun k => if_pos (by omega)) ?_
    exact Ev.now _
  · rw [if_neg h]
    refine Ev.congr (fun k => if_neg (by omega)) ?_
    rw [split_eq s hs]
    refine Ev.bind (Ev.now _) ?_
    obtain ⟨h1, h2⟩ := sp_small (D s) (by rw [D_len]; exact hs)
    have := parse_loop (sp 38 [] (D s)) h1 h2 _ 0 [] (Nat.zero_add _) (Nat.le_refl _)
    rw [List.drop_zero, List.nil_append] at this
    rw [List.length_map]
    exact this
theorem tw_all (x : List UInt8) (h : (61 : UInt8) ∉ x) : x.takeWhile (· != (61 : UInt8)) = x := by
  have := List.takeWhile_append_of_pos (p := (· != (61 : UInt8))) (l₁ := x) (l₂ := []) (fun y hy => by simpa using fun e : y = 61 => h (by rw [← e]; exact hy))
  simpa using this
/-! formed -/
def texts (l : List Pair) : List (List UInt8) := l.map fun p => Pc.part p.1 ++ 61 :: Pc.part p.2
theorem lib_join (b : UInt8) : ∀ l : List (List UInt8), Lib.join l [b] = join b l
  | [] => rfl
  | [x] => Lib.join_one x [b]
  | x :: y :: r => by
    have h1 := lib_join b (y :: r)
    rw [Lib.join_cons] at h1 ⊢
    rw [Pc.join, ← h1]
    simp [Lib.joinTail]
theorem texts_len (l : List Pair) : ∀ x ∈ texts l, ∃ p ∈ l, x = Pc.part p.1 ++ 61 :: Pc.part p.2 := fun x hx => by
  obtain ⟨p, hp, rfl⟩ := List.mem_map.1 hx
  exact ⟨p, hp, rfl⟩
def Small (l : List Pair) : Prop := l.length ≤ 1000 ∧ ∀ p ∈ l, p.1.length ≤ 2000000 ∧ p.2.length ≤ 2000000
theorem sum_le : ∀ (l : List Nat) (m : Nat), (∀ x ∈ l, x ≤ m) → l.sum ≤ l.length * m
  | [], m, _ => by simp
  | x :: l, m, h => by
    have h1 := sum_le l m (fun y hy => h y (by simp [hy]))
    have h2 := h x (by simp)
    rw [List.sum_cons, List.length_cons, Nat.succ_mul]
    omega
theorem texts_small {l : List Pair} (h : Small l) : ∀ x ∈ texts l, x.length ≤ 12000001 := fun x hx => by
  obtain ⟨p, hp, rfl⟩ := texts_len l x hx
  have := h.2 p hp
  have h1 := Pc.part_len p.1
  have h2 := Pc.part_len p.2
  rw [List.length_append, List.length_cons]
  omega
theorem join_small {l : List Pair} (h : Small l) {m : List (List UInt8)} (hm : ∀ x ∈ m, x ∈ texts l) (hl : m.length ≤ 1000) : (join 38 m).length ≤ 100000000000 := by
  have h1 := Pc.join_len 38 m
  have h2 := sum_le (m.map fun x => x.length + 1) 12000002 (fun y hy => by
    obtain ⟨x, hx, rfl⟩ := List.mem_map.1 hy
    have := texts_small h x (hm x hx)
    omega)
  rw [List.length_map] at h2
  have h3 : m.length * 12000002 ≤ 1000 * 12000002 := Nat.mul_le_mul_right _ hl
  omega
def joinTo (b : UInt8) (l : List (List UInt8)) (x : List UInt8) : List UInt8 := if l = [] then x else join b l ++ b :: x
theorem join_snoc (b : UInt8) : ∀ (l : List (List UInt8)) (x : List UInt8), join b (l ++ [x]) = joinTo b l x
  | [], x => rfl
  | [y], x => by simp [joinTo, Pc.join]
  | y :: z :: r, x => by
    have := join_snoc b (z :: r) x
    rw [show (y :: z :: r) ++ [x] = y :: z :: (r ++ [x]) from rfl, Pc.join, show z :: (r ++ [x]) = (z :: r) ++ [x] from rfl, this]
    simp [joinTo, Pc.join]
/-! theirs, ours, same, far -/
theorem theirs_loop (l : List S84) (hl : l.length ≤ 100000001) (d : Nat) : ∀ (i : Nat) (pre : List S105), i + d = l.length → pre.length ≤ i → Ev (fun k => cringlelaw29_pairs.l0 k pre l (l.length : Int) (i : Int)) (pre ++ (l.drop i).map fun x => p105 (of84 x)) := by
  induction d with
  | zero =>
    intro i pre hi hp
    refine Ev.step (f := fun _ => some pre) (fun k => ?_) ?_
    · simp only [cringlelaw29_pairs.l0]
      rw [if_neg (by omega)]
    · rw [List.drop_of_length_le (by omega)]
      show Ev (fun _ => some pre) (pre ++ [])
      rw [List.append_nil]
      exact Ev.now _
  | succ d ih =>
    intro i pre hi hp
    have hlt : i < l.length := by omega
    have := ih (i + 1) (pre ++ [p105 (of84 l[i])]) (by omega) (by simp; omega)
    rw [drop_at hlt, List.map_cons, show pre ++ p105 (of84 l[i]) :: (l.drop (i + 1)).map (fun x => p105 (of84 x)) = pre ++ [p105 (of84 l[i])] ++ (l.drop (i + 1)).map (fun x => p105 (of84 x)) from by simp]
    refine Ev.step (fun k => ?_) this
    simp only [cringlelaw29_pairs.l0]
    rw [if_pos (by omega), if_pos (by omega), if_pos (by omega), if_pos (by omega), at84 hlt, next (by omega)]
    rfl
theorem theirs_ev (l : List S84) (hl : l.length ≤ 100000001) : Ev (fun k => cringlelaw29_pairs.f k l) ((l.map of84).map p105) := by
  have := theirs_loop l hl l.length 0 [] (by omega) (by simp)
  rw [List.drop_zero, List.nil_append] at this
  rw [List.map_map]
  exact this
def cap (x : S84) : Nat := min x.f0.size 3000 + min x.f1.size 3000
theorem mn3000 (n : Nat) : mn (n : Int) 3000 = ((min n 3000 : Nat) : Int) := by unfold mn; split <;> omega
/-! sums of sizes -/
def bytesIn (l : List S84) : Nat := (l.map fun x => x.f0.size + x.f1.size).sum
theorem bytes_each : ∀ (l : List S84), ∀ x ∈ l, x.f0.size + x.f1.size ≤ bytesIn l
  | [], x, h => by cases h
  | y :: l, x, h => by
    have e : bytesIn (y :: l) = y.f0.size + y.f1.size + bytesIn l := by unfold bytesIn; rw [List.map_cons, List.sum_cons]
    rw [e]
    rcases List.mem_cons.1 h with rfl | h
    · omega
    · have := bytes_each l x h
      omega
theorem texts_sum : ∀ l : List S84, ((texts (l.map of84)).map fun x => x.length + 1).sum ≤ 3 * bytesIn l + 2 * l.length
  | [] => by simp [texts]
  | y :: l => by
    have e : bytesIn (y :: l) = y.f0.size + y.f1.size + bytesIn l := by unfold bytesIn; rw [List.map_cons, List.sum_cons]
    have ih := texts_sum l
    have p1 := Pc.part_len (of84 y).1
    have p2 := Pc.part_len (of84 y).2
    rw [show (of84 y).1 = D y.f0 from rfl, D_len] at p1
    rw [show (of84 y).2 = D y.f1 from rfl, D_len] at p2
    have h1 : (texts ((y :: l).map of84)) = (Pc.part (of84 y).1 ++ 61 :: Pc.part (of84 y).2) :: texts (l.map of84) := rfl
    rw [h1, List.map_cons, List.sum_cons, List.length_append, List.length_cons, List.length_cons, e]
    rw [show (of84 y).1 = D y.f0 from rfl, show (of84 y).2 = D y.f1 from rfl]
    omega
theorem form_size (l : List S84) : (form (l.map of84)).length ≤ 3 * bytesIn l + 2 * l.length :=
  Nat.le_trans (Pc.join_len 38 (texts (l.map of84))) (texts_sum l)
theorem small_of (l : List S84) (hl : l.length ≤ 60) (hx : bytesIn l ≤ 1048576) : Small (l.map of84) := ⟨by rw [List.length_map]; omega, fun p hp => by
  obtain ⟨x, hxm, rfl⟩ := List.mem_map.1 hp
  have := bytes_each l x hxm
  unfold of84
  simp only [D_len]
  omega⟩
/-! the probe -/
end Go.Proofs.YtljlkpfiebcoeaaGreatDoor.Plain

namespace Go.Proofs.YtljlkpfiebcoeaaGreatDoor.Plain
open Go.RowKit Go.Proofs.YtljlkpfiebcoeaaGreatDoor.Q Go.Proofs.YtljlkpfiebcoeaaGreatDoorW.PrintWords Go.Proofs.YtljlkpfiebcoeaaGreatDoorW.PrintLast Go.Proofs.YtljlkpfiebcoeaaGreatDoorW.PrintMore
open Go.Proofs.YtljlkpfiebcoeaaGreatDoor.Rf
set_option linter.unusedVariables false
def getIn (n : List UInt8) : List S84 → ByteArray × Bool
  | [] => (⟨#[]⟩, false)
  | x :: l => if D x.f0 = n then (x.f1, true) else getIn n l
def fits (n : List UInt8) (x : S84) : Bool := decide (D x.f0 = n ∨ D x.f0 = n ++ [91, 93])
def allIn (n : List UInt8) (l : List S84) : List ByteArray := (l.filter (fits n)).map fun x => x.f1
theorem allIn_cons (n : List UInt8) (x : S84) (l : List S84) : allIn n (x :: l) = if fits n x = true then x.f1 :: allIn n l else allIn n l := by
  unfold allIn
  by_cases h : fits n x = true
  · rw [if_pos h, List.filter_cons_of_pos h]; rfl
  · rw [if_neg h, List.filter_cons_of_neg h]
theorem same_str {a b : ByteArray} : a.toList = b.toList ↔ D a = D b := by rw [Lib.toList_data, Lib.toList_data]
theorem fits_prefix (n : List UInt8) (x : S84) : fits n x = true ↔ n.isPrefixOf (D x.f0) = true ∧ ((D x.f0).drop n.length = [] ∨ (D x.f0).drop n.length = [91, 93]) := by
  unfold fits
  rw [decide_eq_true_iff]
  constructor
  · rintro (h | h)
    · rw [h]; exact ⟨List.isPrefixOf_iff_prefix.2 (List.prefix_refl _), .inl (by simp)⟩
    · rw [h]; exact ⟨List.isPrefixOf_iff_prefix.2 (List.prefix_append _ _), .inr (by simp)⟩
  · rintro ⟨h1, h2⟩
    obtain ⟨t, ht⟩ := List.isPrefixOf_iff_prefix.1 h1
    rw [← ht] at h2 ⊢
    rw [List.drop_left] at h2
    rcases h2 with rfl | rfl
    · left; simp
    · right; rfl
section
variable (l : List S84) (hl : l.length ≤ 100000001) (name : ByteArray)
def m105 (x : S84) : S105 := ⟨x.f0, x.f1⟩
theorem p43_of (x : S84) : p105 (of84 x) = m105 x := by cases x; rfl
include hl
theorem get_loop (d : Nat) : ∀ i : Nat, i + d = l.length → Ev (fun k => percent_Get.l0 k name (l.map m105) (l.length : Int) (i : Int)) (getIn (D name) (l.drop i)) := by
  have hml : (l.map m105).length = l.length := List.length_map _
  induction d with
  | zero =>
    intro i hi
    refine Ev.step (f := fun _ => some (⟨#[]⟩, false)) (fun k => ?_) ?_
    · simp only [percent_Get.l0]
      rw [if_neg (by omega)]
    · rw [List.drop_of_length_le (by omega)]
      exact Ev.now _
  | succ d ih =>
    intro i hi
    have hlt : i < l.length := by omega
    have hat : rd_T105 (l.map m105) (i : Int) = m105 l[i] := by rw [at105 (by omega), List.getElem_map]
    rw [drop_at hlt]
    refine Ev.step (fun k => by simp only [percent_Get.l0]; rw [if_pos (by omega), if_pos (by omega), if_pos (by omega), hat]) ?_
    unfold getIn
    by_cases h : D l[i].f0 = D name
    · rw [if_pos h]
      refine Ev.congr (fun k => if_pos (same_str.2 h)) ?_
      exact Ev.now _
    · rw [if_neg h]
      refine Ev.congr (fun k => if_neg (fun q => h (same_str.1 q))) ?_
      rw [next (by omega)]
      exact ih (i + 1) (by omega)
theorem get_ev : Ev (fun k => percent_Get.f k (l.map m105) name) (getIn (D name) l) := by
  have := get_loop l hl name l.length 0 (by omega)
  unfold percent_Get.f
  rw [List.length_map]
  exact this
theorem rget_loop (d : Nat) : ∀ i : Nat, i + d = l.length → Ev (fun k => cringleref03_Get.l0 k l name (i : Int)) (getIn (D name) (l.drop i)) := by
  induction d with
  | zero =>
    intro i hi
    refine Ev.step (f := fun _ => some (⟨#[]⟩, false)) (fun k => ?_) ?_
    · simp only [cringleref03_Get.l0]
      rw [if_neg (by omega)]
    · rw [List.drop_of_length_le (by omega)]
      exact Ev.now _
  | succ d ih =>
    intro i hi
    have hlt : i < l.length := by omega
    rw [drop_at hlt]
    refine Ev.step (fun k => by simp only [cringleref03_Get.l0]; rw [if_pos (by omega), if_pos (by omega), at84 hlt]) ?_
    unfold getIn
    by_cases h : D l[i].f0 = D name
    · rw [if_pos h]
      refine Ev.congr (fun k => if_pos (same_str.2 h)) ?_
      exact Ev.now _
    · rw [if_neg h]
      refine Ev.congr (fun k => if_neg (fun q => h (same_str.1 q))) ?_
      rw [next (by omega)]
      exact ih (i + 1) (by omega)
theorem rget_ev : Ev (fun k => cringleref03_Get.f k l name) (getIn (D name) l) := rget_loop l hl name l.length 0 (by omega)
theorem all_loop (d : Nat) : ∀ (i : Nat) (pre : List ByteArray), i + d = l.length → pre.length ≤ i → Ev (fun k => percent_All.l0 k name pre (l.map m105) (l.length : Int) (i : Int)) (pre ++ allIn (D name) (l.drop i)) := by
  have hml : (l.map m105).length = l.length := List.length_map _
  induction d with
  | zero =>
    intro i pre hi hp
    refine Ev.step (f := fun _ => some pre) (fun k => ?_) ?_
    · simp only [percent_All.l0]
      rw [if_neg (by omega)]
    · rw [List.drop_of_length_le (by omega)]
      show Ev (fun _ => some pre) (pre ++ [])
      rw [List.append_nil]
      exact Ev.now _
  | succ d ih =>
    intro i pre hi hp
    have hlt : i < l.length := by omega
    have hat : rd_T105 (l.map m105) (i : Int) = m105 l[i] := by rw [at105 (by omega), List.getElem_map]
    rw [drop_at hlt, allIn_cons]
    have hf := fits_prefix (D name) l[i]
    rw [D_len] at hf
    have yes := ih (i + 1) (pre ++ [l[i].f1]) (by omega) (by simp; omega)
    have no := ih (i + 1) pre (by omega) (by omega)
    refine Ev.step (fun k => by simp only [percent_All.l0]; rw [if_pos (by omega), if_pos (by omega), if_pos (by omega), hat, cutPrefix_eq]) ?_
    refine Ev.bind (Ev.now _) ?_
    by_cases h1 : (D name).isPrefixOf (D (m105 l[i]).f0) = true
    · rw [if_pos h1]
      refine Ev.congr (fun k => if_pos rfl) ?_
      by_cases h2 : (D l[i].f0).drop name.size = []
      · rw [if_pos (hf.2 ⟨h1, .inl h2⟩)]
        refine Ev.congr (fun k => (if_pos (by rw [Lib.toList_data]; exact h2)).trans (if_pos (by omega))) ?_
        rw [next (by omega)]
        rw [show pre ++ l[i].f1 :: allIn (D name) (l.drop (i + 1)) = pre ++ [l[i].f1] ++ allIn (D name) (l.drop (i + 1)) from by simp]
        exact yes
      · refine Ev.congr (fun k => if_neg (by rw [Lib.toList_data]; exact h2)) ?_
        by_cases h3 : (D l[i].f0).drop name.size = [91, 93]
        · rw [if_pos (hf.2 ⟨h1, .inr h3⟩)]
          refine Ev.congr (fun k => (if_pos (by rw [Lib.toList_data]; exact h3)).trans (if_pos (by omega))) ?_
          rw [next (by omega)]
          rw [show pre ++ l[i].f1 :: allIn (D name) (l.drop (i + 1)) = pre ++ [l[i].f1] ++ allIn (D name) (l.drop (i + 1)) from by simp]
          exact yes
        · rw [if_neg (fun q => by
            rcases (hf.1 q).2 with q | q
            · exact h2 q
            · exact h3 q)]
          refine Ev.congr (fun k => if_neg (by rw [Lib.toList_data]; exact h3)) ?_
          rw [next (by omega)]
          exact no
    · rw [if_neg h1, if_neg (fun q => h1 (hf.1 q).1)]
      refine Ev.congr (fun k => if_neg (by simp)) ?_
      rw [next (by omega)]
      exact no
theorem all_ev : Ev (fun k => percent_All.f k (l.map m105) name) (allIn (D name) l) := by
  have := all_loop l hl name l.length 0 [] (by omega) (by simp)
  unfold percent_All.f
  rw [List.length_map]
  exact this
theorem rall_loop (hn : name.size ≤ 100000) (d : Nat) : ∀ (i : Nat) (pre : List ByteArray), i + d = l.length → pre.length ≤ i → Ev (fun k => cringleref03_All.l0 k l name pre (i : Int)) (pre ++ allIn (D name) (l.drop i)) := by
  induction d with
  | zero =>
    intro i pre hi hp
    refine Ev.step (f := fun _ => some pre) (fun k => ?_) ?_
    · simp only [cringleref03_All.l0]
      rw [if_neg (by omega)]
    · rw [List.drop_of_length_le (by omega)]
      show Ev (fun _ => some pre) (pre ++ [])
      rw [List.append_nil]
      exact Ev.now _
  | succ d ih =>
    intro i pre hi hp
    have hlt : i < l.length := by omega
    rw [drop_at hlt, allIn_cons]
    have hcat : D (name ++ (⟨#[91, 93]⟩ : ByteArray)) = D name ++ [91, 93] := by simp [D]
    have yes := ih (i + 1) (pre ++ [l[i].f1]) (by omega) (by simp; omega)
    have no := ih (i + 1) pre (by omega) (by omega)
    refine Ev.step (fun k => by simp only [cringleref03_All.l0]; rw [if_pos (by omega), if_pos (by omega), at84 hlt]) ?_
    by_cases h1 : D l[i].f0 = D name
    · rw [if_pos (show fits (D name) l[i] = true from decide_eq_true (.inl h1))]
      refine Ev.congr (fun k => (if_pos (same_str.2 h1)).trans (if_pos (by omega))) ?_
      rw [next (by omega)]
      rw [show pre ++ l[i].f1 :: allIn (D name) (l.drop (i + 1)) = pre ++ [l[i].f1] ++ allIn (D name) (l.drop (i + 1)) from by simp]
      exact yes
    · refine Ev.congr (fun k => (if_neg (fun q => h1 (same_str.1 q))).trans (if_pos (by omega))) ?_
      by_cases h2 : D l[i].f0 = D name ++ [91, 93]
      · rw [if_pos (show fits (D name) l[i] = true from decide_eq_true (.inr h2))]
        refine Ev.congr (fun k => (if_pos (same_str.2 (by rw [hcat]; exact h2))).trans (if_pos (by omega))) ?_
        rw [next (by omega)]
        rw [show pre ++ l[i].f1 :: allIn (D name) (l.drop (i + 1)) = pre ++ [l[i].f1] ++ allIn (D name) (l.drop (i + 1)) from by simp]
        exact yes
      · rw [if_neg (fun q => by
          rcases of_decide_eq_true q with q | q
          · exact h1 q
          · exact h2 q)]
        refine Ev.congr (fun k => if_neg (fun q => h2 (by rw [← hcat]; exact same_str.1 q))) ?_
        rw [next (by omega)]
        exact no
theorem rall_ev (hn : name.size ≤ 100000) : Ev (fun k => cringleref03_All.f k l name) (allIn (D name) l) :=
  rall_loop l hl name hn l.length 0 [] (by omega) (by simp)
end
theorem texts_loop (l : List ByteArray) (hl : l.length ≤ 100000001) (d : Nat) : ∀ i : Nat, i + d = l.length → Ev (fun k => cringleref01_Texts.l0 k l l (i : Int)) true := by
  induction d with
  | zero =>
    intro i hi
    refine Ev.step (f := fun _ => some true) (fun k => ?_) (Ev.now _)
    simp only [cringleref01_Texts.l0]
    rw [if_neg (by omega)]
  | succ d ih =>
    intro i hi
    refine Ev.step (fun k => ?_) (ih (i + 1) (by omega))
    simp only [cringleref01_Texts.l0]
    rw [if_pos (by omega), if_pos (by omega), if_pos (by omega), if_pos trivial, next (by omega)]
theorem texts_ev (l : List ByteArray) (hl : l.length ≤ 100000001) : Ev (fun k => cringleref01_Texts.f k l l) true := by
  unfold cringleref01_Texts.f
  refine Ev.congr (fun k => if_pos rfl) ?_
  exact texts_loop l hl l.length 0 (by omega)
theorem allIn_len (n : List UInt8) (l : List S84) : (allIn n l).length ≤ l.length := by
  unfold allIn
  rw [List.length_map]
  exact List.length_filter_le _ _
end Go.Proofs.YtljlkpfiebcoeaaGreatDoor.Plain
