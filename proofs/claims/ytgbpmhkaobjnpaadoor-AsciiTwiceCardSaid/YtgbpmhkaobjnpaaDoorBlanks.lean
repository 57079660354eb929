/- Blanks, trimming, words, and lower letters: what the printed functions, and the reference's, come to. No condition but those typed. -/
import Derived.Test.YtgbpmhkaobjnpaaDoorJoins
import Derived.Lib.SlTrimSet
namespace Go.Proofs.YtgbpmhkaobjnpaaDoor.Plain
open Go.RowKit Go.Proofs.YtgbpmhkaobjnpaaDoor.Q Go.Proofs.YtgbpmhkaobjnpaaDoorW.PrintWords Go.Proofs.YtgbpmhkaobjnpaaDoorW.PrintLast Go.Proofs.YtgbpmhkaobjnpaaDoorW.PrintMore
set_option linter.unusedVariables false
/-- A blank. -/
def isB (x : Int) : Bool := x == 9 || x == 10 || x == 12 || x == 13 || x == 32
theorem isB_all : ∀ i : Fin 256, ascii_IsBlank.f (i.val : Int) = some (isB (i.val : Int)) ∧ cringleref01_IsBlank.f (i.val : Int) = some (isB (i.val : Int)) ∧ ([9, 10, 12, 13, 32] : List UInt8).contains (UInt8.ofNat i.val) = isB (i.val : Int) := by decide +kernel
theorem isB_eq {x : Int} (h : 0 ≤ x ∧ x < 256) : ascii_IsBlank.f x = some (isB x) ∧ cringleref01_IsBlank.f x = some (isB x) := by
  obtain ⟨n, rfl⟩ := Int.eq_ofNat_of_zero_le h.1
  exact ⟨(isB_all ⟨n, by omega⟩).1, (isB_all ⟨n, by omega⟩).2.1⟩
def trimL (l : List Int) : List Int := l.dropWhile isB
def trimR (l : List Int) : List Int := (l.reverse.dropWhile isB).reverse
theorem trimL_cons (x : Int) (l : List Int) : trimL (x :: l) = if isB x then trimL l else x :: l := by
  unfold trimL
  rw [List.dropWhile_cons]
theorem trimR_snoc (x : Int) (l : List Int) : trimR (l ++ [x]) = if isB x then trimR l else l ++ [x] := by
  unfold trimR
  rw [List.reverse_append, List.reverse_singleton, List.singleton_append, List.dropWhile_cons]
  split
  · rfl
  · simp
theorem trimR_cons (x : Int) (l : List Int) : trimR (x :: l) = if trimR l = [] then (if isB x then [] else [x]) else x :: trimR l := by
  unfold trimR
  rw [List.reverse_cons, List.dropWhile_append]
  by_cases h : l.reverse.dropWhile isB = []
  · rw [h]
    simp only [List.isEmpty_nil, if_true, List.reverse_nil]
    rw [List.dropWhile_cons]
    split <;> simp
  · have h2 : (l.reverse.dropWhile isB).isEmpty = false := by simpa using h
    rw [h2]
    simp only [Bool.false_eq_true, if_false, List.reverse_append, List.reverse_singleton, List.singleton_append]
    rw [if_neg (by simpa using h)]
theorem trim_comm (l : List Int) : trimL (trimR l) = trimR (trimL l) := by
  induction l with
  | nil => rfl
  | cons x l ih =>
    rw [trimR_cons, trimL_cons]
    by_cases hx : isB x = true
    · rw [if_pos hx, if_pos hx, ← ih]
      by_cases h : trimR l = []
      · rw [if_pos h, h]
      · rw [if_neg h, trimL_cons, if_pos hx]
    · rw [if_neg hx, if_neg hx, trimR_cons]
      by_cases h : trimR l = []
      · simp only [h, if_true, trimL_cons, hx, Bool.false_eq_true, if_false]
      · simp only [h, if_false, trimL_cons, hx, Bool.false_eq_true]
/-- Trim: from the end, then from the begin. -/
def trim (l : List Int) : List Int := trimL (trimR l)
theorem trimS_eq (s : ByteArray) : (⟨(Lib.trimS s.data.toList [9, 10, 12, 13, 32]).toArray⟩ : ByteArray) = strOfNums (trim (bytesOf s)) := by
  have hp : ∀ x : UInt8, isB (x.toNat : Int) = ([9, 10, 12, 13, 32] : List UInt8).contains x := by
    intro x
    have := (isB_all ⟨x.toNat, x.toNat_lt⟩).2.2
    rw [← this]
    congr 1
    simp
  have hf : (isB ∘ fun x : UInt8 => (x.toNat : Int)) = fun x => ([9, 10, 12, 13, 32] : List UInt8).contains x := by
    funext x
    exact hp x
  have key : (Lib.trimS s.data.toList [9, 10, 12, 13, 32]).map (fun x => (x.toNat : Int)) = trim (bytesOf s) := by
    unfold Lib.trimS Lib.trimLeftS Lib.trimRightS trim trimL trimR bytesOf
    rw [← List.map_reverse, List.dropWhile_map, ← List.map_reverse, List.dropWhile_map, hf]
  apply bytes_inj
  rw [← key]
  have hr : ∀ x ∈ (Lib.trimS s.data.toList [9, 10, 12, 13, 32]).map (fun x => (x.toNat : Int)), 0 ≤ x ∧ x < 256 := by
    intro x hx
    obtain ⟨b, _, rfl⟩ := List.mem_map.1 hx
    have := b.toNat_lt
    omega
  rw [bytes_str hr]
  rfl
theorem asc_trim (s : ByteArray) (hs : s.size ≤ 9223372036854775807) : ascii_Trim.f s = some (strOfNums (trim (bytesOf s))) := by
  unfold ascii_Trim.f strings_Trim.f
  rw [if_pos hs, if_pos (by decide), if_pos (by decide +kernel)]
  have := trimS_eq s
  simp only [Option.bind_some]
  rw [← this]
theorem last_at {l : List Int} {x : Int} {n : Nat} (h : (l ++ [x]).length = n) (hx : n - 1 < (l ++ [x]).length) : (l ++ [x])[n - 1] = x := by
  subst h
  simp
theorem ref_trimR (d : Nat) : ∀ s : ByteArray, s.size = d → d ≤ 100000 → Ev (fun k => cringleref01_Trim.l1 k s) (strOfNums (trimR (bytesOf s))) := by
  induction d with
  | zero =>
    intro s hs hd
    have hn : bytesOf s = [] := List.length_eq_zero_iff.1 (by rw [bytes_len]; omega)
    refine Ev.step (f := fun _ => some s) (fun k => ?_) ?_
    · simp only [cringleref01_Trim.l1]
      rw [if_neg (by omega)]
    · have : s = strOfNums (trimR (bytesOf s)) := by
        conv => lhs; rw [← str_bytes s, hn]
        rw [hn]; rfl
      rw [← this]
      exact Ev.now _
  | succ d ih =>
    intro s hs hd
    have hsz := bytes_len s
    rcases List.eq_nil_or_concat (bytesOf s) with hn | ⟨l, x, hc⟩
    · rw [hn] at hsz; simp at hsz; omega
    · rw [List.concat_eq_append] at hc
      have hlen : l.length + 1 = s.size := by rw [← hsz, hc]; simp
      have hw : wrap64 ((s.size : Int) - 1) = ((d : Nat) : Int) := by unfold wrap64; omega
      have hlt : d < (bytesOf s).length := by omega
      have hb : bt s (d : Int) = x := by
        rw [bytes_bt hlt]
        simp only [hc]
        rw [List.getElem_append_right (by omega)]
        simp
      have hxr : 0 ≤ x ∧ x < 256 := bytes_range (s := s) (by rw [hc]; simp)
      by_cases hbl : isB x = true
      · refine Ev.step (f := fun k => cringleref01_Trim.l1 k (s.extract 0 d)) (fun k => ?_) ?_
        · simp only [cringleref01_Trim.l1]
          rw [if_pos (by omega), hw, if_pos (by omega), if_pos (by omega), hb, (isB_eq hxr).2, Option.bind_some, if_pos hbl, if_pos (by omega)]
          rfl
        · have he : bytesOf (s.extract 0 d) = l := by
            rw [bytes_to, hc, List.take_append_of_le_length (by omega), List.take_of_length_le (by omega)]
          have := ih (s.extract 0 d) (by rw [← bytes_len, he]; omega) (by omega)
          rw [he] at this
          rw [hc, trimR_snoc, if_pos hbl]
          exact this
      · refine Ev.step (f := fun _ => some s) (fun k => ?_) ?_
        · simp only [cringleref01_Trim.l1]
          rw [if_pos (by omega), hw, if_pos (by omega), if_pos (by omega), hb, (isB_eq hxr).2, Option.bind_some, if_neg hbl]
        · rw [hc, trimR_snoc, if_neg hbl, ← hc, str_bytes]
          exact Ev.now _
theorem ref_trimL (d : Nat) : ∀ s : ByteArray, s.size = d → d ≤ 100000 → Ev (fun k => cringleref01_Trim.l0 k s) (strOfNums (trimR (trimL (bytesOf s)))) := by
  have fin : ∀ s : ByteArray, s.size ≤ 100000 → trimL (bytesOf s) = bytesOf s → Ev (fun k => cringleref01_Trim.j1 k s) (strOfNums (trimR (trimL (bytesOf s)))) := by
    intro s hd he
    rw [he]
    exact Ev.step (f := fun k => cringleref01_Trim.l1 k s) (fun k => by simp only [cringleref01_Trim.j1]) (ref_trimR _ s rfl hd)
  induction d with
  | zero =>
    intro s hs hd
    have hn : bytesOf s = [] := List.length_eq_zero_iff.1 (by rw [bytes_len]; omega)
    refine Ev.step (f := fun k => cringleref01_Trim.j1 k s) (fun k => ?_) (fin s (by omega) (by rw [hn]; rfl))
    simp only [cringleref01_Trim.l0]
    rw [if_neg (by omega)]
  | succ d ih =>
    intro s hs hd
    have hsz := bytes_len s
    have hlt : 0 < (bytesOf s).length := by omega
    have hc := drop_at hlt
    rw [List.drop_zero] at hc
    have hb : bt s 0 = (bytesOf s)[0] := bytes_bt hlt
    have hxr := bytes_range (List.getElem_mem hlt)
    by_cases hbl : isB (bytesOf s)[0] = true
    · refine Ev.step (f := fun k => cringleref01_Trim.l0 k (s.extract 1 s.size)) (fun k => ?_) ?_
      · simp only [cringleref01_Trim.l0]
        rw [if_pos (by omega), if_pos (by omega), hb, (isB_eq hxr).2, Option.bind_some, if_pos hbl, if_pos (by omega)]
      · have he := bytes_from s 1
        have := ih (s.extract 1 s.size) (by rw [← bytes_len, he, List.length_drop]; omega) (by omega)
        rw [he] at this
        rw [hc, trimL_cons, if_pos hbl]
        exact this
    · refine Ev.step (f := fun k => cringleref01_Trim.j1 k s) (fun k => ?_) (fin s (by omega) ?_)
      · simp only [cringleref01_Trim.l0]
        rw [if_pos (by omega), if_pos (by omega), hb, (isB_eq hxr).2, Option.bind_some, if_neg hbl]
      · rw [hc, trimL_cons, if_neg hbl]
theorem ref_trim (s : ByteArray) (hs : s.size ≤ 100000) : Ev (fun k => cringleref01_Trim.f k s) (strOfNums (trim (bytesOf s))) := by
  unfold trim
  rw [trim_comm]
  exact ref_trimL _ s rfl hs
/-- The words of a row of bytes; acc is the word that stands ahead. -/
def wd (acc : List Int) : List Int → List (List Int)
  | [] => if acc = [] then [] else [acc]
  | x :: l => if isB x then (if acc = [] then wd [] l else acc :: wd [] l) else wd (acc ++ [x]) l
def strs (l : List (List Int)) : List ByteArray := l.map strOfNums
theorem ref_words_loop (s : ByteArray) (hs : s.size ≤ 100000) (d : Nat) : ∀ (i : Nat) (pre : List ByteArray) (acc : List Int), i + d = (bytesOf s).length → pre.length ≤ i → acc.length ≤ i →
    Ev (fun k => cringleref01_Words.l0 k s pre (strOfNums acc) (i : Int)) (pre ++ strs (wd acc ((bytesOf s).drop i))) := by
  have hsz := bytes_len s
  have nil_iff : ∀ acc : List Int, (strOfNums acc).toList = ([] : List UInt8) ↔ acc = [] := by
    intro acc
    rw [Lib.toList_data, strOfNums_data]
    simp
  induction d with
  | zero =>
    intro i pre acc hi hp ha
    have last : ∀ p : List ByteArray, Ev (fun k => cringleref01_Words.l0 k s p (⟨#[]⟩ : ByteArray) ((i + 1 : Nat) : Int)) p := by
      intro p
      refine Ev.step (f := fun _ => some p) (fun k => ?_) (Ev.now _)
      simp only [cringleref01_Words.l0]
      rw [if_neg (by omega)]
    rw [List.drop_of_length_le (by omega), wd]
    refine Ev.step (f := fun k => cringleref01_Words.j1 k s pre (strOfNums acc) (i : Int) false) (fun k => ?_) ?_
    · simp only [cringleref01_Words.l0]
      rw [if_pos (by omega), if_neg (by omega)]
    · by_cases h : acc = []
      · refine Ev.step (f := fun k => cringleref01_Words.l0 k s pre (⟨#[]⟩ : ByteArray) ((i + 1 : Nat) : Int)) (fun k => ?_) ?_
        · simp only [cringleref01_Words.j1]
          rw [if_neg (by simp), if_pos ((nil_iff acc).2 h), next (by omega)]
        · rw [if_pos h]
          simpa [strs] using last pre
      · refine Ev.step (f := fun k => cringleref01_Words.l0 k s (pre ++ [strOfNums acc]) (⟨#[]⟩ : ByteArray) ((i + 1 : Nat) : Int)) (fun k => ?_) ?_
        · simp only [cringleref01_Words.j1]
          rw [if_neg (by simp), if_neg (fun e => h ((nil_iff acc).1 e)), if_pos (by omega), next (by omega)]
        · rw [if_neg h]
          simpa [strs] using last (pre ++ [strOfNums acc])
  | succ d ih =>
    intro i pre acc hi hp ha
    have hlt : i < (bytesOf s).length := by omega
    have hxr := bytes_range (List.getElem_mem hlt)
    rw [drop_at hlt, wd]
    refine Ev.step (f := fun k => cringleref01_Words.j1 k s pre (strOfNums acc) (i : Int) (!isB (bytesOf s)[i])) (fun k => ?_) ?_
    · simp only [cringleref01_Words.l0]
      rw [if_pos (by omega), if_pos (by omega), if_pos (by omega), bytes_bt hlt, (isB_eq hxr).2, Option.bind_some]
    · by_cases hb : isB (bytesOf s)[i] = true
      · rw [if_pos hb, hb]
        by_cases h : acc = []
        · refine Ev.step (f := fun k => cringleref01_Words.l0 k s pre (strOfNums []) ((i + 1 : Nat) : Int)) (fun k => ?_) ?_
          · simp only [cringleref01_Words.j1]
            rw [if_neg (by simp), if_pos ((nil_iff acc).2 h), next (by omega)]
            rfl
          · rw [if_pos h]
            exact ih (i + 1) pre [] (by omega) (by omega) (by simp)
        · refine Ev.step (f := fun k => cringleref01_Words.l0 k s (pre ++ [strOfNums acc]) (strOfNums []) ((i + 1 : Nat) : Int)) (fun k => ?_) ?_
          · simp only [cringleref01_Words.j1]
            rw [if_neg (by simp), if_neg (fun e => h ((nil_iff acc).1 e)), if_pos (by omega), next (by omega)]
            rfl
          · rw [if_neg h]
            have := ih (i + 1) (pre ++ [strOfNums acc]) [] (by omega) (by simp; omega) (by simp)
            simpa [strs] using this
      · have hb2 : isB (bytesOf s)[i] = false := by simpa using hb
        have he : s.extract i (i + 1) = strOfNums [(bytesOf s)[i]] := by
          apply bytes_inj
          rw [bytes_sub, bytes_str (fun x hx => by obtain rfl : x = (bytesOf s)[i] := by simpa using hx
                                                   exact hxr), drop_at hlt, Nat.add_sub_cancel_left]
          rfl
        rw [if_neg hb, hb2]
        refine Ev.step (f := fun k => cringleref01_Words.l0 k s pre (strOfNums (acc ++ [(bytesOf s)[i]])) ((i + 1 : Nat) : Int)) (fun k => ?_) ?_
        · simp only [cringleref01_Words.j1]
          rw [if_pos (by simp), next (by omega), if_pos (by omega), if_pos (by omega), if_pos (by omega), Int.toNat_natCast, Int.toNat_natCast, he, str_cat, str_size, str_size, if_pos (by simp; omega)]
        · exact ih (i + 1) pre (acc ++ [(bytesOf s)[i]]) (by omega) (by omega) (by simp; omega)
theorem ref_words (s : ByteArray) (hs : s.size ≤ 100000) : Ev (fun k => cringleref01_Words.f k s) (strs (wd [] (bytesOf s))) := by
  have := ref_words_loop s hs _ 0 [] [] (Nat.zero_add _) (Nat.le_refl _) (Nat.le_refl _)
  rw [List.drop_zero] at this
  exact this
theorem words_loop (s : ByteArray) (hs : s.size ≤ 100000) (d : Nat) : ∀ (i : Nat) (pre : List ByteArray) (j : Int) (acc : List Int), i + d = (bytesOf s).length → pre.length ≤ i → (j = -1 ∧ acc = [] ∨ ∃ n : Nat, j = (n : Int) ∧ n < i ∧ acc = ((bytesOf s).drop n).take (i - n)) →
    Ev (fun k => ascii_Words.l0 k s pre j ((s.size : Int) + 1) (i : Int)) (pre ++ strs (wd acc ((bytesOf s).drop i))) := by
  have hsz := bytes_len s
  -- behind a blank, or the end: what is done with the word that stands ahead
  have flush : ∀ (i : Nat) (pre : List ByteArray) (j : Int) (acc : List Int) (r : List ByteArray), i ≤ (bytesOf s).length → pre.length ≤ i → (j = -1 ∧ acc = [] ∨ ∃ n : Nat, j = (n : Int) ∧ n < i ∧ acc = ((bytesOf s).drop n).take (i - n)) →
      Ev (fun k => ascii_Words.l0 k s (pre ++ strs (if acc = [] then [] else [acc])) (-1) ((s.size : Int) + 1) ((i + 1 : Nat) : Int)) r → Ev (fun k => ascii_Words.j1 k s pre j (i : Int) false ((s.size : Int) + 1) (i : Int)) r := by
    intro i pre j acc r hi hp hj h
    refine Ev.step (f := fun k => ascii_Words.j2 k s pre j (i : Int) false ((s.size : Int) + 1) (i : Int) false) (fun k => ?_) ?_
    · simp only [ascii_Words.j1]
      rw [if_neg (by simp)]
    · refine Ev.step (fun k => ?_) h
      simp only [ascii_Words.j2]
      rw [if_neg (by simp), if_neg (by simp), next (by omega)]
      rcases hj with ⟨rfl, rfl⟩ | ⟨n, rfl, hn, rfl⟩
      · rw [if_neg (by omega)]
        simp [strs]
      · have hlen : (((bytesOf s).drop n).take (i - n)).length = i - n := by simp; omega
        have hne : ((bytesOf s).drop n).take (i - n) ≠ [] := fun e => by rw [e] at hlen; simp at hlen; omega
        rw [if_pos (by omega), if_pos (by omega), if_pos (by omega), if_pos (by omega), if_pos (by omega), if_neg hne, Int.toNat_natCast, Int.toNat_natCast]
        have he : s.extract n i = strOfNums (((bytesOf s).drop n).take (i - n)) := by
          rw [← bytes_sub, str_bytes]
        rw [he]
        rfl
  induction d with
  | zero =>
    intro i pre j acc hi hp hj
    rw [List.drop_of_length_le (by omega), wd]
    refine Ev.step (f := fun k => ascii_Words.j1 k s pre j (i : Int) false ((s.size : Int) + 1) (i : Int)) (fun k => ?_) ?_
    · simp only [ascii_Words.l0]
      rw [if_pos (by omega), if_neg (by omega)]
    · refine flush i pre j acc _ (by omega) hp hj ?_
      refine Ev.step (f := fun _ => some (pre ++ strs (if acc = [] then [] else [acc]))) (fun k => ?_) (Ev.now _)
      simp only [ascii_Words.l0]
      rw [if_neg (by omega)]
  | succ d ih =>
    intro i pre j acc hi hp hj
    have hlt : i < (bytesOf s).length := by omega
    have hxr := bytes_range (List.getElem_mem hlt)
    rw [drop_at hlt, wd]
    refine Ev.step (f := fun k => ascii_Words.j1 k s pre j (i : Int) (!isB (bytesOf s)[i]) ((s.size : Int) + 1) (i : Int)) (fun k => ?_) ?_
    · simp only [ascii_Words.l0]
      rw [if_pos (by omega), if_pos (by omega), if_pos (by omega), bytes_bt hlt, (isB_eq hxr).1, Option.bind_some]
    · by_cases hb : isB (bytesOf s)[i] = true
      · rw [if_pos hb, hb]
        refine flush i pre j acc _ (by omega) hp hj ?_
        have := ih (i + 1) (pre ++ strs (if acc = [] then [] else [acc])) (-1) [] (by omega) (by split <;> simp [strs] <;> omega) (.inl ⟨rfl, rfl⟩)
        by_cases h : acc = []
        · simp only [h, if_true] at this ⊢
          simpa [strs] using this
        · simp only [h, if_false] at this ⊢
          simpa [strs] using this
      · have hb2 : isB (bytesOf s)[i] = false := by simpa using hb
        rw [if_neg hb, hb2]
        rcases hj with ⟨rfl, rfl⟩ | ⟨n, rfl, hn, rfl⟩
        · refine Ev.step (f := fun k => ascii_Words.j2 k s pre (-1) (i : Int) true ((s.size : Int) + 1) (i : Int) true) (fun k => ?_) ?_
          · simp only [ascii_Words.j1]
            rw [if_pos (by simp)]
            rfl
          · refine Ev.step (f := fun k => ascii_Words.l0 k s pre (i : Int) ((s.size : Int) + 1) ((i + 1 : Nat) : Int)) (fun k => ?_) ?_
            · simp only [ascii_Words.j2]
              rw [if_pos trivial, next (by omega)]
            · refine ih (i + 1) pre (i : Int) _ (by omega) (by omega) (.inr ⟨i, rfl, by omega, ?_⟩)
              rw [drop_at hlt, Nat.add_sub_cancel_left]
              rfl
        · refine Ev.step (f := fun k => ascii_Words.j2 k s pre (n : Int) (i : Int) true ((s.size : Int) + 1) (i : Int) false) (fun k => ?_) ?_
          · simp only [ascii_Words.j1]
            rw [if_pos (by simp)]
            congr 1
          · refine Ev.step (f := fun k => ascii_Words.l0 k s pre (n : Int) ((s.size : Int) + 1) ((i + 1 : Nat) : Int)) (fun k => ?_) ?_
            · simp only [ascii_Words.j2]
              rw [if_neg (by simp), if_pos trivial, next (by omega)]
            · refine ih (i + 1) pre (n : Int) _ (by omega) (by omega) (.inr ⟨n, rfl, by omega, ?_⟩)
              rw [show i + 1 - n = (i - n) + 1 by omega, List.take_add_one, List.getElem?_drop, show n + (i - n) = i by omega, List.getElem?_eq_getElem hlt]
              rfl
theorem words_ev (s : ByteArray) (hs : s.size ≤ 100000) : Ev (fun k => ascii_Words.f k s) (strs (wd [] (bytesOf s))) := by
  have := words_loop s hs _ 0 [] (-1) [] (Nat.zero_add _) (Nat.le_refl _) (.inl ⟨rfl, rfl⟩)
  rw [List.drop_zero] at this
  unfold ascii_Words.f
  rw [wrap64_id (by omega) (by omega)]
  exact this
end Go.Proofs.YtgbpmhkaobjnpaaDoor.Plain
