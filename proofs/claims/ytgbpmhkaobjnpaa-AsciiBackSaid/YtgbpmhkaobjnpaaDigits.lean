/- A number's digits, the lowest one first; what the printed padding and the reference's come to. No condition but those typed. -/
import Derived.Test.YtgbpmhkaobjnpaaSayAsciiBack
import Derived.Test.YtgbpmhkaobjnpaaSayAsciiNumbers
import Derived.Test.YtgbpmhkaobjnpaaSayAsciiDigits
import Derived.Test.YtgbpmhkaobjnpaaTexts
namespace Go.Proofs.Ytgbpmhkaobjnpaa.Plain
open Go.RowKit Go.Proofs.Ytgbpmhkaobjnpaa.Q Go.Proofs.YtgbpmhkaobjnpaaW.PrintWords Go.Proofs.YtgbpmhkaobjnpaaW.PrintLast Go.Proofs.YtgbpmhkaobjnpaaW.PrintMore
set_option linter.unusedVariables false
theorem alive_ev : Ev (fun k => cringlelaw01_alive.f k) true := Ev.of (k := 40) cringlelaw01_alive.mono (by decide +kernel)
theorem alive_then : Ev (fun k => (cringlelaw01_alive.f k).bind fun t => some t) true := Ev.bind alive_ev (Ev.now _)
/-- The digits of a number, the lowest one first; those of zero are none. -/
def ds (n : Nat) : List Int := if h : n = 0 then [] else (48 + ((n % 10 : Nat) : Int)) :: ds (n / 10)
termination_by n
decreasing_by omega
theorem ds_zero : ds 0 = [] := by rw [ds]; simp
theorem ds_pos {n : Nat} (h : 0 < n) : ds n = (48 + ((n % 10 : Nat) : Int)) :: ds (n / 10) := by
  rw [ds, dif_neg (by omega)]
theorem ds_range (n : Nat) : ∀ x ∈ ds n, 48 ≤ x ∧ x < 58 := by
  induction n using Nat.strongRecOn with
  | _ n ih =>
    intro x hx
    rcases Nat.eq_zero_or_pos n with rfl | h
    · rw [ds_zero] at hx; cases hx
    · rw [ds_pos h] at hx
      rcases List.mem_cons.1 hx with rfl | hx
      · omega
      · exact ih (n / 10) (by omega) x hx
/-- The digits, and zeros up to M of them. -/
def padTo (M : Nat) (l : List Int) : List Int := l ++ List.replicate (M - l.length) 48
theorem rev_loop (m : Nat) : ∀ (A X B : List Int), A.length = B.length → X.length ≤ m → (A ++ X ++ B).length ≤ 140737488355328 →
    Ev (fun k => slices_Reverse_byte_byte.l0 k (A ++ X ++ B) (A.length : Int) ((A.length + X.length : Nat) - 1 : Int)) (A ++ X.reverse ++ B) := by
  induction m with
  | zero =>
    intro A X B h hX hl
    obtain rfl : X = [] := List.length_eq_zero_iff.1 (by omega)
    refine Ev.step (f := fun _ => some (A ++ [] ++ B)) (fun k => ?_) (Ev.now _)
    simp only [slices_Reverse_byte_byte.l0]
    rw [if_neg (by simp; omega)]
  | succ m ih =>
    intro A X B h hX hl
    rcases X with _ | ⟨x, X⟩
    · refine Ev.step (f := fun _ => some (A ++ [] ++ B)) (fun k => ?_) (Ev.now _)
      simp only [slices_Reverse_byte_byte.l0]
      rw [if_neg (by simp; omega)]
    · rcases List.eq_nil_or_concat X with rfl | ⟨Y, y, rfl⟩
      · refine Ev.step (f := fun _ => some (A ++ [x] ++ B)) (fun k => ?_) (Ev.now _)
        simp only [slices_Reverse_byte_byte.l0]
        rw [if_neg (by simp)]
      · have hlen : (A ++ x :: (Y ++ [y]) ++ B).length = A.length + Y.length + 2 + B.length := by simp; omega
        rw [List.concat_eq_append] at *
        have hj : ((A.length + (x :: (Y ++ [y])).length : Nat) - 1 : Int) = ((A.length + Y.length + 1 : Nat) : Int) := by simp; omega
        have g1 : rd (A ++ x :: (Y ++ [y]) ++ B) (A.length : Int) = x := by
          rw [nums_at (by omega)]; simp
        have g2 : rd (A ++ x :: (Y ++ [y]) ++ B) ((A.length + Y.length + 1 : Nat) : Int) = y := by
          rw [nums_at (by omega)]
          rw [List.getElem_append_left (by simp; omega), List.getElem_append_right (by omega)]
          simp only [show A.length + Y.length + 1 - A.length = Y.length + 1 by omega, List.getElem_cons_succ]
          simp
        have hs : ((A ++ x :: (Y ++ [y]) ++ B).set ((A.length : Nat) : Int).toNat y).set ((A.length + Y.length + 1 : Nat) : Int).toNat x = (A ++ [y]) ++ Y ++ (x :: B) := by
          rw [Int.toNat_natCast, Int.toNat_natCast, List.append_assoc, List.set_append_right _ _ (by omega), Nat.sub_self, List.set_append_right _ _ (by omega)]
          simp only [List.cons_append, List.set_cons_zero, show A.length + Y.length + 1 - A.length = Y.length + 1 by omega, List.set_cons_succ, List.append_assoc]
          rw [List.set_append_right _ _ (by omega), Nat.sub_self]
          simp
        refine Ev.step (f := fun k => slices_Reverse_byte_byte.l0 k ((A ++ [y]) ++ Y ++ (x :: B)) ((A ++ [y]).length : Int) (((A ++ [y]).length + Y.length : Nat) - 1 : Int)) (fun k => ?_) ?_
        · simp only [slices_Reverse_byte_byte.l0]
          rw [hj, if_pos (by omega), if_pos (by omega), if_pos (by omega), if_pos (by omega), if_pos (by omega), g1, g2, hs, next (by omega)]
          have hA : (A ++ [y]).length = A.length + 1 := by simp
          rw [hA]
          congr 1
          unfold wrap64
          omega
        · have := ih (A ++ [y]) Y (x :: B) (by simp; omega) (by simp at hX; omega) (by simp at hl ⊢; omega)
          have he : A ++ (x :: (Y ++ [y])).reverse ++ B = (A ++ [y]) ++ Y.reverse ++ (x :: B) := by simp
          rw [he]
          exact this
/-- slices.Reverse. -/
theorem rev_ev (l : List Int) (h : l.length ≤ 140737488355328) : Ev (fun k => slices_Reverse_byte_byte.f k l) l.reverse := by
  have := rev_loop l.length [] l [] rfl (Nat.le_refl _) (by simpa using h)
  simp only [List.nil_append, List.append_nil, List.length_nil, Nat.zero_add] at this
  refine Ev.congr (fun k => ?_) this
  unfold slices_Reverse_byte_byte.f
  congr 1
  unfold wrap64
  omega
/-- How many digits a number is padded to. -/
def most (a : Int) : Nat := (mx (mn a 20) 1).toNat
theorem most_eq (a : Int) : mx (mn a 20) 1 = (most a : Int) ∧ 1 ≤ most a ∧ most a ≤ 20 := by
  unfold most mx mn
  constructor
  · split <;> split <;> omega
  · constructor <;> split <;> split <;> omega
/-- What Pad answers. -/
def padded (a0 a1 : Int) : List Int := (if a0 < 0 then [45] else []) ++ (padTo (most a1) (ds a0.natAbs)).reverse
theorem pad_loop (x0 a1 : Int) (e : Nat) : ∀ (d n : Nat) (l : List Int), d + (most a1 - l.length) ≤ e → n < 10 ^ d → d ≤ 20 → l.length ≤ 20 - d →
    Ev (fun k => ascii_Pad.l0 k x0 a1 (n : Int) l) (strOfNums ((if x0 < 0 then [45] else []) ++ (padTo (most a1) (l ++ ds n)).reverse)) := by
  have hm := most_eq a1
  induction e with
  | zero =>
    intro d n l he hn hd hl
    obtain rfl : d = 0 := by omega
    obtain rfl : n = 0 := by simpa using hn
    have hp : padTo (most a1) (l ++ ds 0) = l := by
      unfold padTo
      rw [ds_zero, List.append_nil, show most a1 - l.length = 0 by omega]
      simp
    rw [hp]
    by_cases h0 : x0 < 0
    · rw [if_pos h0]
      refine Ev.step (fun k => by simp only [ascii_Pad.l0]; rw [if_neg (by omega), hm.1, if_neg (by omega), if_pos h0, if_pos (by omega)]) ?_
      refine Ev.bind (rev_ev _ (by simp; omega)) ?_
      rw [List.reverse_append]
      exact Ev.now _
    · rw [if_neg h0]
      refine Ev.step (fun k => by simp only [ascii_Pad.l0]; rw [if_neg (by omega), hm.1, if_neg (by omega), if_neg h0]) ?_
      refine Ev.bind (rev_ev _ (by omega)) ?_
      exact Ev.now _
  | succ e ih =>
    intro d n l he hn hd hl
    rcases Nat.eq_zero_or_pos n with rfl | hpos
    · by_cases hlt : l.length < most a1
      · refine Ev.step (f := fun k => ascii_Pad.l0 k x0 a1 ((0 : Nat) : Int) (l ++ [48])) (fun k => ?_) ?_
        · simp only [ascii_Pad.l0]
          rw [if_neg (by omega), hm.1, if_pos (by omega), if_pos (by omega)]
          rfl
        · have := ih 0 0 (l ++ [48]) (by simp; omega) (by simp) (by omega) (by simp; omega)
          have he2 : padTo (most a1) (l ++ ds 0) = padTo (most a1) (l ++ [48] ++ ds 0) := by
            unfold padTo
            rw [ds_zero, List.append_nil, List.append_nil, List.length_append, List.length_singleton, List.append_assoc]
            rw [show most a1 - l.length = (most a1 - (l.length + 1)) + 1 by omega, List.replicate_succ]
            rfl
          rw [he2]
          exact this
      · have hp : padTo (most a1) (l ++ ds 0) = l := by
          unfold padTo
          rw [ds_zero, List.append_nil, show most a1 - l.length = 0 by omega]
          simp
        rw [hp]
        by_cases h0 : x0 < 0
        · rw [if_pos h0]
          refine Ev.step (fun k => by simp only [ascii_Pad.l0]; rw [if_neg (by omega), hm.1, if_neg (by omega), if_pos h0, if_pos (by omega)]) ?_
          refine Ev.bind (rev_ev _ (by simp; omega)) ?_
          rw [List.reverse_append]
          exact Ev.now _
        · rw [if_neg h0]
          refine Ev.step (fun k => by simp only [ascii_Pad.l0]; rw [if_neg (by omega), hm.1, if_neg (by omega), if_neg h0]) ?_
          refine Ev.bind (rev_ev _ (by omega)) ?_
          exact Ev.now _
    · obtain ⟨d, rfl⟩ : ∃ d', d = d' + 1 := by
        rcases d with _ | d
        · simp at hn; omega
        · exact ⟨d, rfl⟩
      have hn64 : n < 10 ^ 20 := Nat.lt_of_lt_of_le hn (Nat.pow_le_pow_right (by omega) hd)
      refine Ev.step (f := fun k => ascii_Pad.l0 k x0 a1 ((n / 10 : Nat) : Int) (l ++ [48 + ((n % 10 : Nat) : Int)])) (fun k => ?_) ?_
      · simp only [ascii_Pad.l0]
        rw [if_pos (by omega), if_pos (by omega)]
        have h1 : Int.tdiv (n : Int) 10 = ((n / 10 : Nat) : Int) := rfl
        have h2 : Int.tmod (n : Int) 10 = ((n % 10 : Nat) : Int) := rfl
        rw [h1, h2, u64_mod, u64_mod]
        have h3 : ((n / 10 : Nat) : Int) % 18446744073709551616 = ((n / 10 : Nat) : Int) := by omega
        have h4 : (48 + ((n % 10 : Nat) : Int)) % 18446744073709551616 % 256 = 48 + ((n % 10 : Nat) : Int) := by omega
        rw [h3, h4]
      · have := ih d (n / 10) (l ++ [48 + ((n % 10 : Nat) : Int)]) (by simp; omega) (by rw [Nat.pow_succ] at hn; omega) (by omega) (by simp; omega)
        rw [List.append_assoc, List.singleton_append, ← ds_pos hpos] at this
        exact this
theorem pad_ev (a0 a1 : Int) (h0 : -9223372036854775808 ≤ a0 ∧ a0 < 9223372036854775808) : Ev (fun k => ascii_Pad.f k a0 a1) (strOfNums (padded a0 a1)) := by
  have hj : ∀ n : Nat, n < 10 ^ 20 → n = a0.natAbs → Ev (fun k => ascii_Pad.j0 k a0 a1 (n : Int)) (strOfNums (padded a0 a1)) := by
    intro n hn he
    subst he
    refine Ev.step (f := fun k => ascii_Pad.l0 k a0 a1 (a0.natAbs : Int) []) (fun k => by simp only [ascii_Pad.j0]) ?_
    have := pad_loop a0 a1 (20 + most a1) 20 a0.natAbs [] (by simp) hn (by omega) (by simp)
    simpa [padded] using this
  unfold ascii_Pad.f
  by_cases h : a0 < 0
  · have := hj a0.natAbs (by omega) rfl
    refine Ev.congr (fun k => ?_) this
    rw [if_pos h, u64_mod, u64_mod]
    congr 1
    omega
  · have := hj a0.natAbs (by omega) rfl
    refine Ev.congr (fun k => ?_) this
    rw [if_neg h, u64_mod]
    congr 1
    omega
/-- The reference's digits: one at the least. -/
def d1 (n : Nat) : List Int := if n = 0 then [48] else ds n
theorem ref_digits (d : Nat) : ∀ (n : Nat) (l : List Int), n < 10 ^ d → n < 18446744073709551616 → 1 ≤ d → d + l.length ≤ 40 → Ev (fun k => cringleref01_digits.l0 k (n : Int) (strOfNums l)) (strOfNums ((d1 n).reverse ++ l)) := by
  induction d with
  | zero => intro n l _ _ h; omega
  | succ d ih =>
    intro n l hn h64 hd hl
    have h1 : Int.tdiv (n : Int) 10 = ((n / 10 : Nat) : Int) := rfl
    have h2 : Int.tmod (n : Int) 10 = ((n % 10 : Nat) : Int) := rfl
    have h3 : ((n / 10 : Nat) : Int) % 18446744073709551616 = ((n / 10 : Nat) : Int) := by omega
    have h4 : (48 + ((n % 10 : Nat) : Int)) % 18446744073709551616 % 256 = 48 + ((n % 10 : Nat) : Int) := by omega
    refine Ev.step (f := fun k => if ((n / 10 : Nat) : Int) = 0 then some (strOfNums ([48 + ((n % 10 : Nat) : Int)] ++ l)) else cringleref01_digits.l0 k ((n / 10 : Nat) : Int) (strOfNums ([48 + ((n % 10 : Nat) : Int)] ++ l))) (fun k => ?_) ?_
    · simp only [cringleref01_digits.l0, Option.bind_some]
      rw [h1, h2, u64_mod, u64_mod, h3, h4, str_size, str_size, if_pos (by simp; omega), str_cat]
    · by_cases hz : n / 10 = 0
      · have he : (d1 n).reverse ++ l = [48 + ((n % 10 : Nat) : Int)] ++ l := by
          unfold d1
          split
          · subst_vars; rfl
          · rw [ds_pos (by omega), hz, ds_zero]; rfl
        rw [he]
        exact Ev.congr (fun k => by rw [if_pos (by omega)]) (Ev.now _)
      · have hd2 : 1 ≤ d := by
          rcases d with _ | d
          · simp at hn; omega
          · omega
        have := ih (n / 10) ([48 + ((n % 10 : Nat) : Int)] ++ l) (by rw [Nat.pow_succ] at hn; omega) (by omega) hd2 (by simp; omega)
        have he : (d1 n).reverse ++ l = (d1 (n / 10)).reverse ++ ([48 + ((n % 10 : Nat) : Int)] ++ l) := by
          unfold d1
          rw [if_neg (by omega), if_neg hz, ds_pos (n := n) (by omega)]
          simp
        rw [he]
        exact Ev.congr (fun k => by rw [if_neg (by omega)]) this
theorem mn20 (a : Int) (l : List Int) : ((l.length : Int) < mn a 20) ↔ l.length < (mn a 20).toNat := by omega
theorem ref_pad_loop (a1 : Int) (sg : List Int) (hsg : sg.length ≤ 1) (e : Nat) : ∀ (l : List Int), l.length ≤ 40 → (mn a1 20).toNat - l.length ≤ e →
    Ev (fun k => cringleref01_Pad.l0 k a1 (strOfNums sg) (strOfNums l)) (strOfNums (sg ++ (List.replicate ((mn a1 20).toNat - l.length) 48 ++ l))) := by
  have hm : (mn a1 20).toNat ≤ 20 := by unfold mn; split <;> omega
  induction e with
  | zero =>
    intro l hl he
    refine Ev.step (f := fun _ => some (strOfNums (sg ++ l))) (fun k => ?_) ?_
    · simp only [cringleref01_Pad.l0]
      rw [str_size, str_size, if_neg (by omega), if_pos (by omega), str_cat]
    · rw [show (mn a1 20).toNat - l.length = 0 by omega]
      exact Ev.now _
  | succ e ih =>
    intro l hl he
    by_cases hlt : l.length < (mn a1 20).toNat
    · refine Ev.step (f := fun k => cringleref01_Pad.l0 k a1 (strOfNums sg) (strOfNums (48 :: l))) (fun k => ?_) ?_
      · simp only [cringleref01_Pad.l0]
        rw [str_size, str_size, if_pos (by omega), if_pos (by omega)]
        have : (⟨#[48]⟩ : ByteArray) = strOfNums [48] := rfl
        rw [this, str_cat]
        rfl
      · have := ih (48 :: l) (by simp; omega) (by simp; omega)
        have hr : List.replicate ((mn a1 20).toNat - l.length) (48 : Int) ++ l = List.replicate ((mn a1 20).toNat - (48 :: l).length) 48 ++ 48 :: l := by
          rw [List.length_cons, show (mn a1 20).toNat - l.length = (mn a1 20).toNat - (l.length + 1) + 1 by omega, List.replicate_succ', List.append_assoc]
          rfl
        rw [hr]
        exact this
    · refine Ev.step (f := fun _ => some (strOfNums (sg ++ l))) (fun k => ?_) ?_
      · simp only [cringleref01_Pad.l0]
        rw [str_size, str_size, if_neg (by omega), if_pos (by omega), str_cat]
      · rw [show (mn a1 20).toNat - l.length = 0 by omega]
        exact Ev.now _
theorem ds_len (d : Nat) : ∀ n, n < 10 ^ d → (ds n).length ≤ d := by
  induction d with
  | zero => intro n h; obtain rfl : n = 0 := by simpa using h
            rw [ds_zero]; simp
  | succ d ih =>
    intro n h
    rcases Nat.eq_zero_or_pos n with rfl | hp
    · rw [ds_zero]; simp
    · rw [ds_pos hp, List.length_cons]
      have := ih (n / 10) (by rw [Nat.pow_succ] at h; omega)
      omega
theorem padded_eq (a0 a1 : Int) : (if a0 < 0 then [45] else []) ++ (List.replicate ((mn a1 20).toNat - (d1 a0.natAbs).length) 48 ++ (d1 a0.natAbs).reverse) = padded a0 a1 := by
  unfold padded padTo
  congr 1
  rw [List.reverse_append, List.reverse_replicate]
  have hm : most a1 = max (mn a1 20).toNat 1 := by
    unfold most mx
    split <;> omega
  unfold d1
  split
  · rename_i h
    rw [h, ds_zero]
    simp only [List.length_singleton, List.reverse_singleton, List.length_nil, List.reverse_nil, List.append_nil, Nat.sub_zero]
    rw [hm, ← List.replicate_succ']
    congr 1
    omega
  · rename_i h
    congr 2
    have : 1 ≤ (ds a0.natAbs).length := by rw [ds_pos (by omega)]; simp
    omega
theorem ref_pad_ev (a0 a1 : Int) (h0 : -9223372036854775808 ≤ a0 ∧ a0 < 9223372036854775808) : Ev (fun k => cringleref01_Pad.f k a0 a1) (strOfNums (padded a0 a1)) := by
  have hd := ref_digits 20 a0.natAbs [] (by omega) (by omega) (by omega) (by simp)
  have hlen : (d1 a0.natAbs).length ≤ 20 := by
    unfold d1
    split
    · simp
    · exact ds_len 20 _ (by omega)
  rw [List.append_nil] at hd
  have hp : ∀ sg : List Int, sg.length ≤ 1 → Ev (fun k => cringleref01_Pad.j0 k a1 (strOfNums sg) (strOfNums (d1 a0.natAbs).reverse)) (strOfNums (sg ++ (List.replicate ((mn a1 20).toNat - (d1 a0.natAbs).length) 48 ++ (d1 a0.natAbs).reverse))) := by
    intro sg hsg
    refine Ev.step (f := fun k => cringleref01_Pad.l0 k a1 (strOfNums sg) (strOfNums (d1 a0.natAbs).reverse)) (fun k => by simp only [cringleref01_Pad.j0]) ?_
    have := ref_pad_loop a1 sg hsg _ (d1 a0.natAbs).reverse (by simp; omega) (Nat.le_refl _)
    rwa [List.length_reverse] at this
  rw [← padded_eq]
  unfold cringleref01_Pad.f
  by_cases h : a0 < 0
  · rw [if_pos h]
    refine Ev.congr (fun k => if_pos h) ?_
    have hw : IntKind.u64.wrap ((IntKind.u64.wrap (wrap64 (-(wrap64 (a0 + 1))))) + 1) = (a0.natAbs : Int) := by
      rw [u64_mod, u64_mod]
      unfold wrap64
      omega
    rw [hw]
    exact Ev.bind hd (hp [45] (by simp))
  · rw [if_neg h]
    refine Ev.congr (fun k => if_neg h) ?_
    have hw : IntKind.u64.wrap a0 = (a0.natAbs : Int) := by
      rw [u64_mod]
      omega
    rw [hw]
    exact Ev.bind hd (hp [] (by simp))
end Go.Proofs.Ytgbpmhkaobjnpaa.Plain
