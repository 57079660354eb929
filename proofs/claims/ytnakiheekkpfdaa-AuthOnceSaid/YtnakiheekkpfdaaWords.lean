/- Words: what the printed function, and the reference's, come to. No condition but those typed. -/
import Derived.Test.YtnakiheekkpfdaaTexts
import Derived.Test.YtnakiheekkpfdaaP1
namespace Go.Proofs.Ytnakiheekkpfdaa.Plain
open Go.RowKit Go.Proofs.Ytnakiheekkpfdaa.P Go.Proofs.YtnakiheekkpfdaaW.PrintWords Go.Proofs.YtnakiheekkpfdaaW.PrintLast Go.Proofs.YtnakiheekkpfdaaW.PrintMore
set_option linter.unusedVariables false
/-- A blank. -/
def isB (x : Int) : Bool := x == 9 || x == 10 || x == 12 || x == 13 || x == 32
theorem isB_all : ∀ i : Fin 256, ascii_IsBlank.f (i.val : Int) = some (isB (i.val : Int)) ∧ cringleref01_IsBlank.f (i.val : Int) = some (isB (i.val : Int)) ∧ ([9, 10, 12, 13, 32] : List UInt8).contains (UInt8.ofNat i.val) = isB (i.val : Int) := by decide +kernel
theorem isB_eq {x : Int} (h : 0 ≤ x ∧ x < 256) : ascii_IsBlank.f x = some (isB x) ∧ cringleref01_IsBlank.f x = some (isB x) := by
  obtain ⟨n, rfl⟩ := Int.eq_ofNat_of_zero_le h.1
  exact ⟨(isB_all ⟨n, by omega⟩).1, (isB_all ⟨n, by omega⟩).2.1⟩
/-- The words of a row of bytes; acc is the word that stands ahead. -/
def wd (acc : List Int) : List Int → List (List Int)
  | [] => if acc = [] then [] else [acc]
  | x :: l => if isB x then (if acc = [] then wd [] l else acc :: wd [] l) else wd (acc ++ [x]) l
def strs (l : List (List Int)) : List ByteArray := l.map strOfNums
theorem ref_words_loop (s : ByteArray) (hs : s.size ≤ 100000) (d : Nat) : ∀ (i : Nat) (pre : List ByteArray) (acc : List Int), i + d = (bytesOf s).length → pre.length ≤ i → acc.length ≤ i →
    Ev (fun k => cringleref01_Words.l0 k s pre (strOfNums acc) (i : Int)) (pre ++ strs (wd acc ((bytesOf s).drop i))) := by
  have hsz := bytes_len s
  have nil_iff : ∀ acc : List Int, (strOfNums acc).toList = ([] : List UInt8) ↔ acc = [] := by
    intro acc
    rw [Lib.toList_data, strOfNums_data]
    simp
  induction d with
  | zero =>
    intro i pre acc hi hp ha
    have last : ∀ p : List ByteArray, Ev (fun k => cringleref01_Words.l0 k s p (⟨#[]⟩ : ByteArray) ((i + 1 : Nat) : Int)) p := by
      intro p
      refine Ev.step (f := fun _ => some p) (fun k => ?_) (Ev.now _)
      simp only [cringleref01_Words.l0]
      rw [if_neg (by omega)]
    rw [List.drop_of_length_le (by omega), wd]
    refine Ev.step (f := fun k => cringleref01_Words.j1 k s pre (strOfNums acc) (i : Int) false) (fun k => ?_) ?_
    · simp only [cringleref01_Words.l0]
      rw [if_pos (by omega), if_neg (by omega)]
    · by_cases h : acc = []
      · refine Ev.step (f := fun k => cringleref01_Words.l0 k s pre (⟨#[]⟩ : ByteArray) ((i + 1 : Nat) : Int)) (fun k => ?_) ?_
        · simp only [cringleref01_Words.j1]
          rw [if_neg (by simp), if_pos ((nil_iff acc).2 h), next (by omega)]
        · rw [if_pos h]
          simpa [strs] using last pre
      · refine Ev.step (f := fun k => cringleref01_Words.l0 k s (pre ++ [strOfNums acc]) (⟨#[]⟩ : ByteArray) ((i + 1 : Nat) : Int)) (fun k => ?_) ?_
        · simp only [cringleref01_Words.j1]
          rw [if_neg (by simp), if_neg (fun e => h ((nil_iff acc).1 e)), if_pos (by omega), next (by omega)]
        · rw [if_neg h]
          simpa [strs] using last (pre ++ [strOfNums acc])
  | succ d ih =>
    intro i pre acc hi hp ha
    have hlt : i < (bytesOf s).length := by omega
    have hxr := bytes_range (List.getElem_mem hlt)
    rw [drop_at hlt, wd]
    refine Ev.step (f := fun k => cringleref01_Words.j1 k s pre (strOfNums acc) (i : Int) (!isB (bytesOf s)[i])) (fun k => ?_) ?_
    · simp only [cringleref01_Words.l0]
      rw [if_pos (by omega), if_pos (by omega), if_pos (by omega), bytes_bt hlt, (isB_eq hxr).2, Option.bind_some]
    · by_cases hb : isB (bytesOf s)[i] = true
      · rw [if_pos hb, hb]
        by_cases h : acc = []
        · refine Ev.step (f := fun k => cringleref01_Words.l0 k s pre (strOfNums []) ((i + 1 : Nat) : Int)) (fun k => ?_) ?_
          · simp only [cringleref01_Words.j1]
            rw [if_neg (by simp), if_pos ((nil_iff acc).2 h), next (by omega)]
            rfl
          · rw [if_pos h]
            exact ih (i + 1) pre [] (by omega) (by omega) (by simp)
        · refine Ev.step (f := fun k => cringleref01_Words.l0 k s (pre ++ [strOfNums acc]) (strOfNums []) ((i + 1 : Nat) : Int)) (fun k => ?_) ?_
          · simp only [cringleref01_Words.j1]
            rw [if_neg (by simp), if_neg (fun e => h ((nil_iff acc).1 e)), if_pos (by omega), next (by omega)]
            rfl
          · rw [if_neg h]
            have := ih (i + 1) (pre ++ [strOfNums acc]) [] (by omega) (by simp; omega) (by simp)
            simpa [strs] using this
      · have hb2 : isB (bytesOf s)[i] = false := by simpa using hb
        have he : s.extract i (i + 1) = strOfNums [(bytesOf s)[i]] := by
          apply bytes_inj
          rw [bytes_sub, bytes_str (fun x hx => by obtain rfl : x = (bytesOf s)[i] := by simpa using hx
                                                   exact hxr), drop_at hlt, Nat.add_sub_cancel_left]
          rfl
        rw [if_neg hb, hb2]
        refine Ev.step (f := fun k => cringleref01_Words.l0 k s pre (strOfNums (acc ++ [(bytesOf s)[i]])) ((i + 1 : Nat) : Int)) (fun k => ?_) ?_
        · simp only [cringleref01_Words.j1]
          rw [if_pos (by simp), next (by omega), if_pos (by omega), if_pos (by omega), if_pos (by omega), Int.toNat_natCast, Int.toNat_natCast, he, str_cat, str_size, str_size, if_pos (by simp; omega)]
        · exact ih (i + 1) pre (acc ++ [(bytesOf s)[i]]) (by omega) (by omega) (by simp; omega)
theorem ref_words (s : ByteArray) (hs : s.size ≤ 100000) : Ev (fun k => cringleref01_Words.f k s) (strs (wd [] (bytesOf s))) := by
  have := ref_words_loop s hs _ 0 [] [] (Nat.zero_add _) (Nat.le_refl _) (Nat.le_refl _)
  rw [List.drop_zero] at this
  exact this
theorem words_loop (s : ByteArray) (hs : s.size ≤ 100000) (d : Nat) : ∀ (i : Nat) (pre : List ByteArray) (j : Int) (acc : List Int), i + d = (bytesOf s).length → pre.length ≤ i → (j = -1 ∧ acc = [] ∨ ∃ n : Nat, j = (n : Int) ∧ n < i ∧ acc = ((bytesOf s).drop n).take (i - n)) →
    Ev (fun k => ascii_Words.l0 k s pre j ((s.size : Int) + 1) (i : Int)) (pre ++ strs (wd acc ((bytesOf s).drop i))) := by
  have hsz := bytes_len s
  -- behind a blank, or the end: what is done with the word that stands ahead
  have flush : ∀ (i : Nat) (pre : List ByteArray) (j : Int) (acc : List Int) (r : List ByteArray), i ≤ (bytesOf s).length → pre.length ≤ i → (j = -1 ∧ acc = [] ∨ ∃ n : Nat, j = (n : Int) ∧ n < i ∧ acc = ((bytesOf s).drop n).take (i - n)) →
      Ev (fun k => ascii_Words.l0 k s (pre ++ strs (if acc = [] then [] else [acc])) (-1) ((s.size : Int) + 1) ((i + 1 : Nat) : Int)) r → Ev (fun k => ascii_Words.j1 k s pre j (i : Int) false ((s.size : Int) + 1) (i : Int)) r := by
    intro i pre j acc r hi hp hj h
    refine Ev.step (f := fun k => ascii_Words.j2 k s pre j (i : Int) false ((s.size : Int) + 1) (i : Int) false) (fun k => ?_) ?_
    · simp only [ascii_Words.j1]
      rw [if_neg (by simp)]
    · refine Ev.step (fun k => ?_) h
      simp only [ascii_Words.j2]
      rw [if_neg (by simp), if_neg (by simp), next (by omega)]
      rcases hj with ⟨rfl, rfl⟩ | ⟨n, rfl, hn, rfl⟩
      · rw [if_neg (by omega)]
        simp [strs]
      · have hlen : (((bytesOf s).drop n).take (i - n)).length = i - n := by simp; omega
        have hne : ((bytesOf s).drop n).take (i - n) ≠ [] := fun e => by rw [e] at hlen; simp at hlen; omega
        rw [if_pos (by omega), if_pos (by omega), if_pos (by omega), if_pos (by omega), if_pos (by omega), if_neg hne, Int.toNat_natCast, Int.toNat_natCast]
        have he : s.extract n i = strOfNums (((bytesOf s).drop n).take (i - n)) := by
          rw [← bytes_sub, str_bytes]
        rw [he]
        rfl
  induction d with
  | zero =>
    intro i pre j acc hi hp hj
    rw [List.drop_of_length_le (by omega), wd]
    refine Ev.step (f := fun k => ascii_Words.j1 k s pre j (i : Int) false ((s.size : Int) + 1) (i : Int)) (fun k => ?_) ?_
    · simp only [ascii_Words.l0]
      rw [if_pos (by omega), if_neg (by omega)]
    · refine flush i pre j acc _ (by omega) hp hj ?_
      refine Ev.step (f := fun _ => some (pre ++ strs (if acc = [] then [] else [acc]))) (fun k => ?_) (Ev.now _)
      simp only [ascii_Words.l0]
      rw [if_neg (by omega)]
  | succ d ih =>
    intro i pre j acc hi hp hj
    have hlt : i < (bytesOf s).length := by omega
    have hxr := bytes_range (List.getElem_mem hlt)
    rw [drop_at hlt, wd]
    refine Ev.step (f := fun k => ascii_Words.j1 k s pre j (i : Int) (!isB (bytesOf s)[i]) ((s.size : Int) + 1) (i : Int)) (fun k => ?_) ?_
    · simp only [ascii_Words.l0]
      rw [if_pos (by omega), if_pos (by omega), if_pos (by omega), bytes_bt hlt, (isB_eq hxr).1, Option.bind_some]
    · by_cases hb : isB (bytesOf s)[i] = true
      · rw [if_pos hb, hb]
        refine flush i pre j acc _ (by omega) hp hj ?_
        have := ih (i + 1) (pre ++ strs (if acc = [] then [] else [acc])) (-1) [] (by omega) (by split <;> simp [strs] <;> omega) (.inl ⟨rfl, rfl⟩)
        by_cases h : acc = []
        · simp only [h, if_true] at this ⊢
          simpa [strs] using this
        · simp only [h, if_false] at this ⊢
          simpa [strs] using this
      · have hb2 : isB (bytesOf s)[i] = false := by simpa using hb
        rw [if_neg hb, hb2]
        rcases hj with ⟨rfl, rfl⟩ | ⟨n, rfl, hn, rfl⟩
        · refine Ev.step (f := fun k => ascii_Words.j2 k s pre (-1) (i : Int) true ((s.size : Int) + 1) (i : Int) true) (fun k => ?_) ?_
          · simp only [ascii_Words.j1]
            rw [if_pos (by simp)]
            rfl
          · refine Ev.step (f := fun k => ascii_Words.l0 k s pre (i : Int) ((s.size : Int) + 1) ((i + 1 : Nat) : Int)) (fun k => ?_) ?_
            · simp only [ascii_Words.j2]
              rw [if_pos trivial, next (by omega)]
            · refine ih (i + 1) pre (i : Int) _ (by omega) (by omega) (.inr ⟨i, rfl, by omega, ?_⟩)
              rw [drop_at hlt, Nat.add_sub_cancel_left]
              rfl
        · refine Ev.step (f := fun k => ascii_Words.j2 k s pre (n : Int) (i : Int) true ((s.size : Int) + 1) (i : Int) false) (fun k => ?_) ?_
          · simp only [ascii_Words.j1]
            rw [if_pos (by simp)]
            congr 1
          · refine Ev.step (f := fun k => ascii_Words.l0 k s pre (n : Int) ((s.size : Int) + 1) ((i + 1 : Nat) : Int)) (fun k => ?_) ?_
            · simp only [ascii_Words.j2]
              rw [if_neg (by simp), if_pos trivial, next (by omega)]
            · refine ih (i + 1) pre (n : Int) _ (by omega) (by omega) (.inr ⟨n, rfl, by omega, ?_⟩)
              rw [show i + 1 - n = (i - n) + 1 by omega, List.take_add_one, List.getElem?_drop, show n + (i - n) = i by omega, List.getElem?_eq_getElem hlt]
              rfl
theorem words_ev (s : ByteArray) (hs : s.size ≤ 100000) : Ev (fun k => ascii_Words.f k s) (strs (wd [] (bytesOf s))) := by
  have := words_loop s hs _ 0 [] (-1) [] (Nat.zero_add _) (Nat.le_refl _) (.inl ⟨rfl, rfl⟩)
  rw [List.drop_zero] at this
  unfold ascii_Words.f
  rw [wrap64_id (by omega) (by omega)]
  exact this
end Go.Proofs.Ytnakiheekkpfdaa.Plain
