/- What the loops of utf and of the reference come to: put, mended, told, cut, over lists of bytes. No condition but those typed. -/
import Derived.Test.YtmaeodkdddbhoaaDoorNexts
namespace Go.Proofs.YtmaeodkdddbhoaaDoor.Plain
open Go.RowKit Go.Proofs.YtmaeodkdddbhoaaDoor.Q Go.Proofs.YtmaeodkdddbhoaaDoorW.PrintWords Go.Proofs.YtmaeodkdddbhoaaDoorW.PrintLast Go.Proofs.YtmaeodkdddbhoaaDoorW.PrintMore
open Go.Proofs.YtmaeodkdddbhoaaDoor.U8 (B nxt spec encB items text mend signs Right)
set_option linter.unusedVariables false
/-! is it a text -/
theorem enc_mend : encB 65533 = [239, 191, 189] := by decide
theorem prefix_mend (l : List UInt8) (h : Lib.hasPrefix l [239, 191, 189] = true) : (nxt l).2.2 = true := by
  obtain ⟨r, rfl⟩ := List.isPrefixOf_iff_prefix.1 h
  rw [show ([239, 191, 189] : List UInt8) = encB 65533 from enc_mend.symm, U8.nxt_enc _ U8.right_65533]
theorem extract_from (s : ByteArray) (pos : Nat) : (s.extract pos s.size).data.toList = (D s).drop pos := D_from s pos
theorem isTextN_D (s : ByteArray) : ∀ (b pos : Nat), s.size ≤ pos + b → Utfs.isTextN s b pos = text ((D s).drop pos) := by
  intro b
  induction b with
  | zero =>
    intro pos h
    rw [List.drop_of_length_le (by rw [D_len]; omega)]
    rfl
  | succ b ih =>
    intro pos h
    by_cases hp : pos < s.size
    · have hne : (D s).drop pos ≠ [] := by
        intro e
        have := congrArg List.length e
        rw [List.length_drop, D_len, List.length_nil] at this
        omega
      have hw := U8.nxt_width hne
      rw [U8.text_cons hne, List.drop_drop]
      simp only [Utfs.isTextN, if_pos hp]
      rw [decode_B s pos hp, extract_from]
      cases hb : (nxt ((D s).drop pos)).2.2 with
      | true =>
        simp only [if_true, Bool.true_and]
        have : ¬ ((nxt ((D s).drop pos)).1 = 65533 ∧ Lib.hasPrefix ((D s).drop pos) [239, 191, 189] = false) := by
          rintro ⟨e1, e2⟩
          have h1 := (U8.nxt_ok hne hb).2
          rw [e1, enc_mend] at h1
          have h3 : Lib.hasPrefix ((D s).drop pos) [239, 191, 189] = true := by
            rw [h1]
            exact List.isPrefixOf_iff_prefix.2 (List.take_prefix _ _)
          rw [h3] at e2
          cases e2
        rw [if_neg this]
        exact ih _ (by omega)
      | false =>
        simp only [Bool.false_eq_true, if_false, Bool.false_and]
        rw [if_pos]
        refine ⟨trivial, ?_⟩
        cases hx : Lib.hasPrefix ((D s).drop pos) [239, 191, 189] with
        | false => rfl
        | true => rw [prefix_mend _ hx] at hb; cases hb
    · rw [Utfs.isTextN_end s _ _ hp, List.drop_of_length_le (by rw [D_len]; omega)]
      rfl
theorem istext_eq (s : ByteArray) : utf_IsText.f s = some (text (D s)) := by
  unfold utf_IsText.f
  rw [isTextN_D s s.size 0 (by omega), List.drop_zero]
theorem suffix_ne {s : ByteArray} (h : ¬ D s = []) : (s.size : Int) > 0 := by
  have := List.length_pos_iff.2 h
  rw [D_len] at this
  omega
theorem suffix_nil {s : ByteArray} (h : D s = []) : s.size = 0 := by rw [← D_len, h]; rfl
theorem cut_off {s : ByteArray} {w : Nat} : D (s.extract ((w : Nat) : Int).toNat s.size) = (D s).drop w := by rw [Int.toNat_natCast, D_from]
theorem cut_size {s : ByteArray} {w : Nat} : (s.extract ((w : Nat) : Int).toNat s.size).size = s.size - w := by rw [← D_len, cut_off, List.length_drop, D_len]
theorem told_zero (p : Nat × Nat × Bool) : ((told p).2.2 = 0) ↔ p.2.2 = true := by
  unfold told
  cases p.2.2 <;> simp
theorem ristext_ev : ∀ (l : List UInt8) (s : ByteArray), D s = l → s.size ≤ 140737488351232 → Ev (fun k => cringleref02_IsText.l0 k s) (text l) := by
  refine U8.items_ind (fun s h hs => ?_) (fun l hl ih s h hs => ?_)
  · refine Ev.step (f := fun _ => some true) (fun k => ?_) (Ev.now _)
    simp only [cringleref02_IsText.l0]
    rw [if_neg (by have := suffix_nil h; omega)]
  · subst h
    have hw := U8.nxt_width hl
    rw [D_len] at hw
    rw [U8.text_cons hl]
    refine Ev.step (fun k => by simp only [cringleref02_IsText.l0]; rw [if_pos (suffix_ne hl)]) ?_
    refine Ev.bind (rnext_ev s (by omega) hl) ?_
    cases hb : (nxt (D s)).2.2 with
    | true =>
      refine Ev.congr (fun k => if_pos ((told_zero _).2 hb)) ?_
      refine Ev.congr (fun k => if_pos (Int.natCast_nonneg _)) ?_
      refine Ev.congr (fun k => if_pos (by show (((nxt (D s)).2.1 : Nat) : Int) ≤ _; omega)) ?_
      rw [Bool.true_and]
      exact ih _ cut_off (by show (s.extract (((nxt (D s)).2.1 : Nat) : Int).toNat s.size).size ≤ _; rw [cut_size]; omega)
    | false =>
      refine Ev.congr (fun k => if_neg (fun e => by rw [(told_zero _).1 e] at hb; cases hb)) ?_
      exact Ev.now _
/-! put -/
theorem rright_eq (c : Int) : cringleref02_Right.f c = some (decide (Right c)) := by
  unfold cringleref02_Right.f
  have hf : (¬ (0 ≤ c ∧ c ≤ 1114111 ∧ (c < 55296 ∨ 57343 < c))) → some false = some (decide (Right c)) := fun h => congrArg some (decide_eq_false h).symm
  have ht : (0 ≤ c ∧ c ≤ 1114111 ∧ (c < 55296 ∨ 57343 < c)) → some true = some (decide (Right c)) := fun h => congrArg some (decide_eq_true (p := Right c) h).symm
  by_cases h0 : c ≥ 0
  · rw [if_pos h0]
    by_cases h1 : c ≤ 1114111
    · rw [if_pos h1]
      by_cases h2 : c < 55296
      · rw [if_pos h2]
        exact ht (by omega)
      · rw [if_neg h2]
        by_cases h3 : c > 57343
        · rw [decide_eq_true h3]
          exact ht (by omega)
        · rw [decide_eq_false h3]
          exact hf (by omega)
    · rw [if_neg h1]
      exact hf (by omega)
  · rw [if_neg h0]
    exact hf (by omega)
theorem div64 {c : Int} (h : 0 ≤ c) : Int.tdiv c 64 = c / 64 := Int.tdiv_eq_ediv_of_nonneg h
theorem div4096 {c : Int} (h : 0 ≤ c) : Int.tdiv c 4096 = c / 4096 := Int.tdiv_eq_ediv_of_nonneg h
theorem div262144 {c : Int} (h : 0 ≤ c) : Int.tdiv c 262144 = c / 262144 := Int.tdiv_eq_ediv_of_nonneg h
theorem mod64' {c : Int} (h : 0 ≤ c) : Int.tmod c 64 = c % 64 := Int.tmod_eq_emod_of_nonneg h
theorem rone_right (c : Int) (h : Right c) (k : Nat) : cringleref02_one.f (k + 1) c = some (Lib.encodeRuneZ c) := by
  obtain ⟨h0, h1, h2⟩ := h
  simp only [cringleref02_one.f]
  rw [rright_eq, decide_eq_true ⟨h0, h1, h2⟩, Option.bind_some, if_pos rfl]
  have hw : ∀ x : Int, 0 ≤ x → x ≤ 1114111 → wrap32 x = x := fun x _ _ => by unfold wrap32; omega
  by_cases c1 : c < 128
  · rw [if_pos c1, Lib.encodeRuneZ_one h0 (by omega)]
    exact congrArg some (U8.cons2 (by omega) rfl)
  rw [if_neg c1]
  by_cases c2 : c < 2048
  · rw [if_pos c2, Lib.encodeRuneZ_two (by omega) (by omega), div64 h0, mod64' h0, hw _ (by omega) (by omega)]
    exact congrArg some (U8.cons2 (by omega) (U8.cons2 (by omega) rfl))
  rw [if_neg c2]
  by_cases c3 : c < 65536
  · rw [if_pos c3, Lib.encodeRuneZ_three (by omega), div4096 h0, div64 h0, mod64' h0, hw _ (by omega) (by omega), hw _ (by omega) (by omega), mod64' (by omega)]
    exact congrArg some (U8.cons2 (by omega) (U8.cons2 (by omega) (U8.cons2 (by omega) rfl)))
  · rw [if_neg c3, Lib.encodeRuneZ_four (by omega) (by omega), div262144 h0, div4096 h0, div64 h0, mod64' h0, hw _ (by omega) (by omega), hw _ (by omega) (by omega), hw _ (by omega) (by omega), mod64' (by omega), mod64' (by omega)]
    exact congrArg some (U8.cons2 (by omega) (U8.cons2 (by omega) (U8.cons2 (by omega) (U8.cons2 (by omega) rfl))))
theorem rone_ev (c : Int) : Ev (fun k => cringleref02_one.f k c) (Lib.encodeRuneZ c) := by
  by_cases h : Right c
  · exact Ev.step (f := fun _ => some (Lib.encodeRuneZ c)) (fun k => rone_right c h k) (Ev.now _)
  · refine Ev.step (f := fun k => (cringleref02_one.f k 65533).bind fun t => some t) (fun k => ?_) ?_
    · simp only [cringleref02_one.f]
      rw [rright_eq, decide_eq_false h, Option.bind_some, if_neg (by simp)]
    · have hb : Lib.encodeRuneZ c = [239, 191, 189] := Lib.encodeRuneZ_bad (by unfold Right at h; omega)
      rw [hb]
      refine Ev.bind (a := [239, 191, 189]) (Ev.step (f := fun _ => some [239, 191, 189]) (fun k => ?_) (Ev.now _)) (Ev.now _)
      rw [rone_right 65533 (by decide) k]
      rfl
theorem encZ_le (c : Int) : (Lib.encodeRuneZ c).length ≤ 4 := by
  unfold Lib.encodeRuneZ
  repeat' split
  all_goals simp
theorem encZ_byte {c x : Int} (h : x ∈ Lib.encodeRuneZ c) : 0 ≤ x ∧ x < 256 := by
  unfold Lib.encodeRuneZ at h
  repeat' split at h
  all_goals simp at h
  all_goals omega
def putZ (l : List Int) : List Int := l.flatMap Lib.encodeRuneZ
theorem putZ_le (l : List Int) : (putZ l).length ≤ 4 * l.length := by
  induction l with
  | nil => simp [putZ]
  | cons c l ih =>
    have := encZ_le c
    simp only [putZ, List.flatMap_cons, List.length_append, List.length_cons] at ih ⊢
    omega
theorem append_eq (l : List Int) (c : Int) (h0 : -2147483648 ≤ c) (h1 : c < 2147483648) (hl : l.length + 4 ≤ 140737488355328) : utf8_AppendRune.f l c = some (l ++ Lib.encodeRuneZ c) := by
  unfold utf8_AppendRune.f
  rw [if_pos h0, if_pos (by omega), if_pos hl]
theorem put_loop (l : List Int) (hl : ∀ x ∈ l, -2147483648 ≤ x ∧ x < 2147483648) (hn : l.length ≤ 1000000000) (d : Nat) : ∀ (i : Nat) (a : List Int), i + d = l.length → a.length + 4 * d + 4 ≤ 140737488355328 → Ev (fun k => utf_Put.l0 k a l (l.length : Int) (i : Int)) (a ++ putZ (l.drop i)) := by
  induction d with
  | zero =>
    intro i a hi ha
    refine Ev.step (f := fun _ => some (a ++ putZ (l.drop i))) (fun k => ?_) (Ev.now _)
    simp only [utf_Put.l0]
    rw [if_neg (by omega), List.drop_of_length_le (by omega)]
    simp [putZ]
  | succ d ih =>
    intro i a hi ha
    have hlt : i < l.length := by omega
    have hx := hl l[i] (List.getElem_mem hlt)
    have hle := encZ_le l[i]
    have := ih (i + 1) (a ++ Lib.encodeRuneZ l[i]) (by omega) (by rw [List.length_append]; omega)
    rw [List.append_assoc] at this
    rw [drop_at hlt, show putZ (l[i] :: l.drop (i + 1)) = Lib.encodeRuneZ l[i] ++ putZ (l.drop (i + 1)) from rfl]
    refine Ev.step (fun k => ?_) this
    simp only [utf_Put.l0]
    rw [if_pos (by omega), if_pos (by omega), if_pos (by omega), nums_at hlt, append_eq _ _ hx.1 hx.2 (by omega), Option.bind_some, next (by omega)]
theorem put_ev (b l : List Int) (hb : b.length ≤ 1000000000) (hl : ∀ x ∈ l, -2147483648 ≤ x ∧ x < 2147483648) (hn : l.length ≤ 1000000000) : Ev (fun k => utf_Put.f k b l) (b ++ putZ l) := by
  unfold utf_Put.f
  refine Ev.congr (fun k => if_pos (by simp; omega)) ?_
  have := put_loop l hl hn l.length 0 b (by omega) (by omega)
  rw [List.drop_zero] at this
  exact this
theorem rput_loop (l : List Int) (hn : l.length ≤ 1000000000) (d : Nat) : ∀ (i : Nat) (a : List Int), i + d = l.length → a.length + 4 * d + 4 ≤ 140737488355328 → Ev (fun k => cringleref02_Put.l0 k l a (i : Int)) (a ++ putZ (l.drop i)) := by
  induction d with
  | zero =>
    intro i a hi ha
    refine Ev.step (f := fun _ => some (a ++ putZ (l.drop i))) (fun k => ?_) (Ev.now _)
    simp only [cringleref02_Put.l0]
    rw [if_neg (by omega), List.drop_of_length_le (by omega)]
    simp [putZ]
  | succ d ih =>
    intro i a hi ha
    have hlt : i < l.length := by omega
    have hle := encZ_le l[i]
    have hh := ih (i + 1) (a ++ Lib.encodeRuneZ l[i]) (by omega) (by rw [List.length_append]; omega)
    rw [List.append_assoc] at hh
    rw [drop_at hlt, show putZ (l[i] :: l.drop (i + 1)) = Lib.encodeRuneZ l[i] ++ putZ (l.drop (i + 1)) from rfl]
    refine Ev.step (fun k => by simp only [cringleref02_Put.l0]; rw [if_pos (by omega), if_pos (by omega), nums_at hlt, next (by omega)]) ?_
    refine Ev.bind (rone_ev l[i]) ?_
    exact Ev.congr (fun k => if_pos (by omega)) hh
theorem rput_ev (b l : List Int) (hb : b.length ≤ 1000000000) (hn : l.length ≤ 1000000000) : Ev (fun k => cringleref02_Put.f k b l) (b ++ putZ l) := by
  unfold cringleref02_Put.f
  refine Ev.congr (fun k => if_pos (by simp; omega)) ?_
  have := rput_loop l hn l.length 0 b (by omega) (by omega)
  rw [List.drop_zero] at this
  exact this
/-! mended -/
theorem putZ_mend (l : List UInt8) : (putZ (signs l)).map (fun n => UInt8.ofNat n.toNat) = mend l := by
  unfold putZ signs mend encB
  rw [List.flatMap_map, List.map_flatMap]
theorem signs_le : ∀ l : List UInt8, (signs l).length ≤ l.length := by
  refine U8.items_ind (by simp [signs, items, U8.itemsN]) (fun l hl ih => ?_)
  have hw := U8.nxt_width hl
  rw [U8.signs_cons hl, List.length_cons]
  rw [List.length_drop] at ih
  omega
theorem signs_range : ∀ l : List UInt8, ∀ x ∈ signs l, -2147483648 ≤ x ∧ x < 2147483648 := by
  refine U8.items_ind (by simp [signs, items, U8.itemsN]) (fun l hl ih => ?_)
  rw [U8.signs_cons hl]
  intro x hx
  rcases List.mem_cons.1 hx with rfl | hx
  · have h := U8.nxt_right hl
    unfold Right at h
    omega
  · exact ih x hx
/-- A text of bytes told by whole numbers. -/
def strOf (l : List UInt8) : ByteArray := ⟨l.toArray⟩
theorem D_str (l : List UInt8) : D (strOf l) = l := rfl
theorem str_D (s : ByteArray) : strOf (D s) = s := D_inj rfl
theorem str_nums (l : List Int) : strOfNums l = strOf (l.map fun n => UInt8.ofNat n.toNat) := rfl
theorem str_put (s : List UInt8) : strOfNums (putZ (signs s)) = strOf (mend s) := by rw [str_nums, putZ_mend]
theorem repair_loop : ∀ (l : List UInt8) (s : ByteArray) (a : List Int), D s = l → s.size ≤ 1000000000 → a.length + 4 * s.size + 4 ≤ 140737488355328 → Ev (fun k => utf_Repair.l0 k s a) (strOfNums (a ++ putZ (signs l))) := by
  refine U8.items_ind (fun s a h hs ha => ?_) (fun l hl ih s a h hs ha => ?_)
  · refine Ev.step (f := fun _ => some (strOfNums (a ++ putZ (signs [])))) (fun k => ?_) (Ev.now _)
    simp only [utf_Repair.l0]
    rw [if_pos ((D_nil s).2 h)]
    simp [putZ, signs, items, U8.itemsN]
  · subst h
    have hw := U8.nxt_width hl
    rw [D_len] at hw
    have hr := U8.nxt_right hl
    unfold Right at hr
    have hle := encZ_le ((nxt (D s)).1 : Int)
    have hh := ih (s.extract (((nxt (D s)).2.1 : Nat) : Int).toNat s.size) (a ++ Lib.encodeRuneZ ((nxt (D s)).1 : Int)) cut_off (by rw [cut_size]; omega) (by rw [cut_size, List.length_append]; omega)
    rw [List.append_assoc] at hh
    rw [U8.signs_cons hl, show putZ (((nxt (D s)).1 : Int) :: signs ((D s).drop (nxt (D s)).2.1)) = Lib.encodeRuneZ ((nxt (D s)).1 : Int) ++ putZ (signs ((D s).drop (nxt (D s)).2.1)) from rfl]
    refine Ev.step (fun k => by simp only [utf_Repair.l0]; rw [if_neg (fun e => hl ((D_nil s).1 e))]) ?_
    refine Ev.bind (next_ev s (by omega) hl) ?_
    unfold told
    dsimp only
    refine Ev.congr (fun k => by rw [append_eq _ _ (by omega) (by omega) (by omega), Option.bind_some, if_pos (Int.natCast_nonneg _), if_pos (by omega)]) hh
theorem repair_ev (s : ByteArray) (hs : s.size ≤ 1000000000) : Ev (fun k => utf_Repair.f k s) (strOf (mend (D s))) := by
  unfold utf_Repair.f
  rw [istext_eq]
  simp only [Option.bind_some]
  cases h : text (D s) with
  | true =>
    rw [U8.mend_text _ h, str_D]
    exact Ev.congr (fun k => if_pos rfl) (Ev.now _)
  | false =>
    refine Ev.congr (fun k => if_neg (by simp)) ?_
    have := repair_loop (D s) s [] rfl hs (by simp; omega)
    rw [List.nil_append, str_put] at this
    exact this
theorem rrepair_loop : ∀ (l : List UInt8) (s : ByteArray) (a : List Int), D s = l → s.size ≤ 1000000000 → a.length + 4 * s.size + 4 ≤ 140737488355328 → Ev (fun k => cringleref02_Repair.l0 k s a) (strOfNums (a ++ putZ (signs l))) := by
  refine U8.items_ind (fun s a h hs ha => ?_) (fun l hl ih s a h hs ha => ?_)
  · refine Ev.step (f := fun _ => some (strOfNums (a ++ putZ (signs [])))) (fun k => ?_) (Ev.now _)
    simp only [cringleref02_Repair.l0]
    rw [if_neg (by have := suffix_nil h; omega)]
    simp [putZ, signs, items, U8.itemsN]
  · subst h
    have hw := U8.nxt_width hl
    rw [D_len] at hw
    have hle := encZ_le ((nxt (D s)).1 : Int)
    have hh := ih (s.extract (((nxt (D s)).2.1 : Nat) : Int).toNat s.size) (a ++ Lib.encodeRuneZ ((nxt (D s)).1 : Int)) cut_off (by rw [cut_size]; omega) (by rw [cut_size, List.length_append]; omega)
    rw [List.append_assoc] at hh
    rw [U8.signs_cons hl, show putZ (((nxt (D s)).1 : Int) :: signs ((D s).drop (nxt (D s)).2.1)) = Lib.encodeRuneZ ((nxt (D s)).1 : Int) ++ putZ (signs ((D s).drop (nxt (D s)).2.1)) from rfl]
    refine Ev.step (fun k => by simp only [cringleref02_Repair.l0]; rw [if_pos (suffix_ne hl)]) ?_
    refine Ev.bind (rnext_ev s (by omega) hl) ?_
    unfold told
    dsimp only
    refine Ev.bind (rone_ev _) ?_
    refine Ev.congr (fun k => by rw [if_pos (by omega), if_pos (Int.natCast_nonneg _), if_pos (by omega)]) hh
theorem rrepair_ev (s : ByteArray) (hs : s.size ≤ 1000000000) : Ev (fun k => cringleref02_Repair.f k s) (strOf (mend (D s))) := by
  have := rrepair_loop (D s) s [] rfl hs (by simp; omega)
  rw [List.nil_append, str_put] at this
  exact this
/-! signs -/
theorem runesN_D (s : ByteArray) : ∀ (b pos : Nat), s.size ≤ pos + b → text ((D s).drop pos) = true → Utfs.runesN s b pos = signs ((D s).drop pos) := by
  intro b
  induction b with
  | zero =>
    intro pos h ht
    rw [List.drop_of_length_le (by rw [D_len]; omega)]
    rfl
  | succ b ih =>
    intro pos h ht
    by_cases hp : pos < s.size
    · have hne : (D s).drop pos ≠ [] := by
        intro e
        have := congrArg List.length e
        rw [List.length_drop, D_len, List.length_nil] at this
        omega
      have hw := U8.nxt_width hne
      rw [U8.text_cons hne, Bool.and_eq_true, List.drop_drop] at ht
      rw [U8.signs_cons hne, List.drop_drop]
      simp only [Utfs.runesN, if_pos hp]
      rw [decode_B s pos hp, ht.1]
      simp only [if_true]
      rw [ih _ (by omega) ht.2]
    · simp only [Utfs.runesN, if_neg hp]
      rw [List.drop_of_length_le (by rw [D_len]; omega)]
      rfl
theorem signs_eq (s : ByteArray) (hs : s.size ≤ 1000000000) : utf_Signs.f s = some (if text (D s) = true then (signs (D s), 0) else ([], 9)) := by
  unfold utf_Signs.f Utfs.signsF
  rw [if_pos (by omega), isTextN_D s s.size 0 (by omega), List.drop_zero]
  by_cases h : text (D s) = true
  · rw [if_pos h, if_pos h, runesN_D s s.size 0 (by omega) (by rw [List.drop_zero]; exact h), List.drop_zero]
  · rw [if_neg h, if_neg h]
theorem rsigns_loop : ∀ (l : List UInt8) (s : ByteArray) (a : List Int), D s = l → s.size ≤ 1000000000 → a.length + s.size < 35184372088832 → Ev (fun k => cringleref02_Signs.l0 k s a) (a ++ signs l, 0) := by
  refine U8.items_ind (fun s a h hs ha => ?_) (fun l hl ih s a h hs ha => ?_)
  · refine Ev.step (f := fun _ => some (a ++ signs [], 0)) (fun k => ?_) (Ev.now _)
    simp only [cringleref02_Signs.l0]
    rw [if_neg (by have := suffix_nil h; omega)]
    simp [signs, items, U8.itemsN]
  · subst h
    have hw := U8.nxt_width hl
    rw [D_len] at hw
    have hh := ih (s.extract (((nxt (D s)).2.1 : Nat) : Int).toNat s.size) (a ++ [((nxt (D s)).1 : Int)]) cut_off (by rw [cut_size]; omega) (by rw [cut_size, List.length_append, List.length_singleton]; omega)
    rw [List.append_assoc] at hh
    rw [U8.signs_cons hl]
    refine Ev.step (fun k => by simp only [cringleref02_Signs.l0]; rw [if_pos (suffix_ne hl)]) ?_
    refine Ev.bind (rnext_ev s (by omega) hl) ?_
    unfold told
    dsimp only
    exact Ev.congr (fun k => by rw [if_pos (by omega), if_pos (Int.natCast_nonneg _), if_pos (by omega)]) hh
theorem rsigns_ev (s : ByteArray) (hs : s.size ≤ 1000000000) : Ev (fun k => cringleref02_Signs.f k s) (if text (D s) = true then (signs (D s), 0) else ([], 9)) := by
  unfold cringleref02_Signs.f
  refine Ev.bind (ristext_ev (D s) s rfl (by omega)) ?_
  by_cases h : text (D s) = true
  · simp only [h, if_true]
    have := rsigns_loop (D s) s [] rfl hs (by simp; omega)
    rw [List.nil_append] at this
    exact this
  · simp only [Bool.eq_false_iff.mpr h, Bool.false_eq_true, if_false]
    exact Ev.now _
theorem same_loop (l : List Int) (hn : l.length ≤ 1000000000) (d : Nat) : ∀ i : Nat, i + d = l.length → Ev (fun k => cringlelaw02_same.l0 k l l (l.length : Int) (i : Int)) true := by
  induction d with
  | zero =>
    intro i hi
    refine Ev.step (f := fun _ => some true) (fun k => ?_) (Ev.now _)
    simp only [cringlelaw02_same.l0]
    rw [if_neg (by omega)]
  | succ d ih =>
    intro i hi
    refine Ev.step (fun k => ?_) (ih (i + 1) (by omega))
    simp only [cringlelaw02_same.l0]
    rw [if_pos (by omega), if_pos (by omega), if_pos (by omega), if_pos (by omega), if_pos trivial, next (by omega)]
theorem same_ev (l : List Int) (hn : l.length ≤ 1000000000) : Ev (fun k => cringlelaw02_same.f k l l) true := by
  unfold cringlelaw02_same.f
  refine Ev.congr (fun k => if_pos rfl) ?_
  exact same_loop l hn l.length 0 (by omega)
/-! cuts -/
theorem D_drop_cons {s : ByteArray} {at_ : Nat} (h : at_ < s.size) : (D s).drop at_ ≠ [] := by
  intro e
  have := congrArg List.length e
  rw [List.length_drop, D_len, List.length_nil] at this
  omega
theorem cut_loop (s : ByteArray) (most : Int) (hm : -9223372036854775808 ≤ most ∧ most < 9223372036854775808) (hs : s.size ≤ 1000000000) : ∀ (l : List UInt8) (at_ : Nat), (D s).drop at_ = l → at_ ≤ s.size → (at_ = 0 ∨ (at_ : Int) ≤ most) → Ev (fun k => utf_Cut.l0 k s most (at_ : Int)) (s.extract 0 (U8.cutAt most (items l) at_)) := by
  refine U8.items_ind (fun at_ h ha hq => ?_) (fun l hl ih at_ h ha hq => ?_)
  · have : ¬ at_ < s.size := fun hlt => D_drop_cons hlt h
    refine Ev.step (f := fun _ => some (s.extract 0 at_)) (fun k => ?_) (Ev.now _)
    simp only [utf_Cut.l0]
    rw [if_neg (by omega), if_pos (by omega), if_pos (by omega), Int.toNat_natCast]
  · have hlt : at_ < s.size := by
      rcases Nat.lt_or_ge at_ s.size with hlt | hlt
      · exact hlt
      · rw [List.drop_of_length_le (by rw [D_len]; omega)] at h
        exact absurd h.symm hl
    have hD : D (s.extract ((at_ : Nat) : Int).toNat s.size) = l := by rw [cut_off]; exact h
    have hw := U8.nxt_width hl
    have hlen : l.length = s.size - at_ := by rw [← h, List.length_drop, D_len]
    rw [U8.items_cons hl]
    refine Ev.step (fun k => by simp only [utf_Cut.l0]; rw [if_pos (by omega), if_pos (by omega), if_pos (by omega)]) ?_
    refine Ev.bind (next_ev _ (by rw [cut_size]; omega) (by rw [hD]; exact hl)) ?_
    rw [hD]
    unfold told
    dsimp only
    unfold U8.cutAt
    by_cases c : ((nxt l).2.1 : Int) > most - at_
    · rw [if_pos c]
      refine Ev.congr (f := fun _ => some (s.extract 0 at_)) (fun k => ?_) (Ev.now _)
      rw [Int.toNat_natCast]
      by_cases c1 : most < ((nxt l).2.1 : Int)
      · rw [if_pos c1]
      · rw [if_neg c1, if_pos (by unfold wrap64; omega)]
    · rw [if_neg c]
      refine Ev.congr (fun k => by rw [if_neg (by omega), if_neg (by unfold wrap64; omega), show wrap64 ((at_ : Int) + ((nxt l).2.1 : Nat)) = ((at_ + (nxt l).2.1 : Nat) : Int) from by unfold wrap64; omega]) (ih (at_ + (nxt l).2.1) ?_ (by omega) (by omega))
      rw [← List.drop_drop, h]
theorem cut_ev (s : ByteArray) (most : Int) (hm : -9223372036854775808 ≤ most ∧ most < 9223372036854775808) (hs : s.size ≤ 1000000000) : Ev (fun k => utf_Cut.f k s most) (s.extract 0 (U8.cutAt most (items (D s)) 0)) :=
  cut_loop s most hm hs (D s) 0 (by rw [List.drop_zero]) (by omega) (.inl rfl)
theorem rcut_loop (s : ByteArray) (most : Int) (hm : -9223372036854775808 ≤ most ∧ most < 9223372036854775808) (hs : s.size ≤ 1000000000) : ∀ (l : List UInt8) (at_ : Nat), (D s).drop at_ = l → at_ ≤ s.size → (at_ = 0 ∨ (at_ : Int) ≤ most) → Ev (fun k => cringleref02_Cut.l0 k s most (at_ : Int)) (s.extract 0 (U8.cutAt most (items l) at_)) := by
  refine U8.items_ind (fun at_ h ha hq => ?_) (fun l hl ih at_ h ha hq => ?_)
  · have : ¬ at_ < s.size := fun hlt => D_drop_cons hlt h
    refine Ev.step (f := fun _ => some (s.extract 0 at_)) (fun k => ?_) (Ev.now _)
    simp only [cringleref02_Cut.l0]
    rw [if_neg (by omega), if_pos (by omega), if_pos (by omega), Int.toNat_natCast]
  · have hlt : at_ < s.size := by
      rcases Nat.lt_or_ge at_ s.size with hlt | hlt
      · exact hlt
      · rw [List.drop_of_length_le (by rw [D_len]; omega)] at h
        exact absurd h.symm hl
    have hD : D (s.extract ((at_ : Nat) : Int).toNat s.size) = l := by rw [cut_off]; exact h
    have hw := U8.nxt_width hl
    have hlen : l.length = s.size - at_ := by rw [← h, List.length_drop, D_len]
    rw [U8.items_cons hl]
    refine Ev.step (fun k => by simp only [cringleref02_Cut.l0]; rw [if_pos (by omega), if_pos (by omega), if_pos (by omega)]) ?_
    refine Ev.bind (rnext_ev _ (by rw [cut_size]; omega) (by rw [hD]; exact hl)) ?_
    rw [hD]
    unfold told
    dsimp only
    unfold U8.cutAt
    by_cases c : ((nxt l).2.1 : Int) > most - at_
    · rw [if_pos c]
      refine Ev.congr (f := fun _ => some (s.extract 0 at_)) (fun k => ?_) (Ev.now _)
      rw [Int.toNat_natCast, if_pos (by unfold wrap64; omega)]
    · rw [if_neg c]
      refine Ev.congr (fun k => by rw [if_neg (by unfold wrap64; omega), show wrap64 ((at_ : Int) + ((nxt l).2.1 : Nat)) = ((at_ + (nxt l).2.1 : Nat) : Int) from by unfold wrap64; omega]) (ih (at_ + (nxt l).2.1) ?_ (by omega) (by omega))
      rw [← List.drop_drop, h]
theorem rcut_ev (s : ByteArray) (most : Int) (hm : -9223372036854775808 ≤ most ∧ most < 9223372036854775808) (hs : s.size ≤ 1000000000) : Ev (fun k => cringleref02_Cut.f k s most) (s.extract 0 (U8.cutAt most (items (D s)) 0)) :=
  rcut_loop s most hm hs (D s) 0 (by rw [List.drop_zero]) (by omega) (.inl rfl)
end Go.Proofs.YtmaeodkdddbhoaaDoor.Plain
