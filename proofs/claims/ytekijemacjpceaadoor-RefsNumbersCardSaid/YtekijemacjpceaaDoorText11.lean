/- A decoded text is a text, and no longer. Plain lists; no condition but those typed. -/
import Derived.Test.YtekijemacjpceaaDoorLists
namespace Go.Proofs.YtekijemacjpceaaDoor.Rf
open Go Go.Lib
open Go.Proofs.YtekijemacjpceaaDoor.U8 (B nxt encB items text Right)
set_option linter.unusedVariables false
theorem encI_nat (c : Nat) : encI (c : Int) = encB c := rfl
theorem nxt_low (b : UInt8) (r : List UInt8) (h : b.toNat < 128) : nxt (b :: r) = (b.toNat, 1, true) := by
  have hr : Right ((b.toNat : Nat) : Int) := by unfold U8.Right; omega
  have h1 : encB b.toNat = [b] := by
    rcases U8.enc_cases b.toNat hr with h2 | h2 | h2 | h2
    · rw [h2.2]; simp
    all_goals omega
  have := U8.nxt_enc b.toNat hr r
  rw [h1] at this
  exact this
theorem text_low (b : UInt8) (r : List UInt8) (h : b.toNat < 128) : text (b :: r) = text r := by
  rw [U8.text_cons (by simp), nxt_low b r h]
  rfl
theorem text_lows : ∀ (a l : List UInt8), (∀ x ∈ a, x.toNat < 128) → text (a ++ l) = text l
  | [], l, _ => rfl
  | b :: a, l, h => by
    rw [List.cons_append, text_low b _ (h b (by simp))]
    exact text_lows a l (fun x hx => h x (by simp [hx]))
theorem text_encB (c : Nat) (h : Right (c : Int)) (l : List UInt8) : text (encB c ++ l) = text l := by
  have hl := U8.enc_length c h
  have hne : encB c ++ l ≠ [] := by
    intro e
    have := congrArg List.length e
    rw [List.length_append, List.length_nil] at this
    omega
  rw [U8.text_cons hne, U8.nxt_enc c h l, List.drop_left]
  rfl
theorem encB_high (c : Nat) (h : Right (c : Int)) (hc : 128 ≤ c) : ∀ x ∈ encB c, x ≠ 38 := by
  have key : ∀ n : Nat, 128 ≤ n → n < 256 → n.toUInt8 ≠ 38 := fun n h1 h2 e => by
    have := congrArg UInt8.toNat e
    rw [U8.nat_byte h2, show (38 : UInt8).toNat = 38 from rfl] at this
    omega
  have hr := h
  unfold U8.Right at hr
  rcases U8.enc_cases c h with h2 | h2 | h2 | h2
  · omega
  · rw [h2.2.2]
    intro x hx
    simp only [List.mem_cons, List.not_mem_nil, or_false] at hx
    rcases hx with rfl | rfl <;> exact key _ (by omega) (by omega)
  · rw [h2.2.2.2]
    intro x hx
    simp only [List.mem_cons, List.not_mem_nil, or_false] at hx
    rcases hx with rfl | rfl | rfl <;> exact key _ (by omega) (by omega)
  · rw [h2.2.2]
    intro x hx
    simp only [List.mem_cons, List.not_mem_nil, or_false] at hx
    rcases hx with rfl | rfl | rfl | rfl <;> exact key _ (by omega) (by omega)
theorem encB_size (c : Nat) (h : Right (c : Int)) : (encB c).length ≤ 4 ∧ (c < 65536 → (encB c).length ≤ 3) := by
  rcases U8.enc_cases c h with h2 | h2 | h2 | h2
  · rw [h2.2]; simp
  · rw [h2.2.2]; simp
  · rw [h2.2.2.2]; simp
  · rw [h2.2.2]; simp; omega
/-! a reference's sign and bytes -/
/-- Its sign is a sign, its bytes are plain, its sign's bytes are no more. -/
def Fine (l : List UInt8) (p : Int × Nat) : Prop := Right p.1 ∧ (∀ x ∈ l.take p.2, x.toNat < 128) ∧ (encI p.1).length ≤ p.2
theorem size_of {c : Int} (h : Right c) : (encI c).length ≤ 4 ∧ (c < 65536 → (encI c).length ≤ 3) := by
  have h' := h
  unfold U8.Right at h'
  obtain ⟨n, rfl⟩ : ∃ n : Nat, c = (n : Int) := ⟨c.toNat, by omega⟩
  have := encB_size n h
  exact ⟨this.1, fun q => this.2 (by omega)⟩
theorem take_pre {a l : List UInt8} (h : a.isPrefixOf l = true) : l.take a.length = a := (List.prefix_iff_eq_take.1 (List.isPrefixOf_iff_prefix.1 h)).symm
theorem nameAt_fine : ∀ (N : Names), (∀ x ∈ N, Right x.2 ∧ 2 ≤ x.1.length ∧ ∀ b ∈ x.1, b.toNat < 128) → ∀ (l : List UInt8) (p : Int × Nat), nameAt N l = some p → Fine (38 :: l) p
  | [], _, l, p, h => by cases h
  | x :: r, hN, l, p, h => by
    unfold nameAt at h
    split at h
    · rename_i hp
      cases h
      obtain ⟨h1, h2, h3⟩ := hN x (by simp)
      have ht := take_pre hp
      rw [List.length_append, List.length_singleton] at ht
      refine ⟨h1, fun b hb => ?_, by have := (size_of h1).1; simp only []; omega⟩
      rw [show x.1.length + 2 = (x.1.length + 1) + 1 from rfl, List.take_succ_cons, ht] at hb
      rcases List.mem_cons.1 hb with rfl | hb
      · decide
      · rcases List.mem_append.1 hb with hb | hb
        · exact h3 b hb
        · rw [List.mem_singleton] at hb; subst hb; decide
    · exact nameAt_fine r (fun y hy => hN y (by simp [hy])) l p h
theorem shortAt_fine (attr : Bool) : ∀ (N : List (List UInt8)), (∀ n ∈ N, Right (look n).1 ∧ (look n).1 < 65536 ∧ 2 ≤ n.length ∧ ∀ b ∈ n, b.toNat < 128) → ∀ (l : List UInt8) (p : Int × Nat), shortAt attr N l = some p → Fine (38 :: l) p
  | [], _, l, p, h => by cases h
  | n :: r, hN, l, p, h => by
    unfold shortAt at h
    split at h
    · rename_i hp
      cases h
      obtain ⟨h1, h0, h2, h3⟩ := hN n (by simp)
      have ht := take_pre hp.1
      refine ⟨h1, fun b hb => ?_, by have := (size_of h1).2 h0; simp only []; omega⟩
      rw [List.take_succ_cons, ht] at hb
      rcases List.mem_cons.1 hb with rfl | hb
      · decide
      · exact h3 b hb
    · exact shortAt_fine attr r (fun y hy => hN y (by simp [hy])) l p h
theorem NT_fine : ∀ x ∈ NT, Right x.2 ∧ 2 ≤ x.1.length ∧ ∀ b ∈ x.1, b.toNat < 128 := by decide +kernel
theorem shorts_fine : ∀ n ∈ shorts, Right (look n).1 ∧ (look n).1 < 65536 ∧ 2 ≤ n.length ∧ ∀ b ∈ n, b.toNat < 128 := by decide +kernel
theorem wtab_fine : ∀ x ∈ wtab, Right x ∧ x < 65536 := by decide
theorem numOf_fine (n : Nat) : Right (numOf n) ∧ (n < 65536 → numOf n < 65536) := by
  unfold numOf
  split
  · exact ⟨by decide, fun _ => by omega⟩
  · rename_i h1
    split
    · rename_i h2
      have hlt : n - 128 < wtab.length := by rw [show wtab.length = 32 from rfl]; omega
      have := wtab_fine _ (List.getElem_mem hlt)
      rw [List.getD_eq_getElem?_getD, List.getElem?_eq_getElem hlt]
      exact ⟨this.1, fun _ => this.2⟩
    · refine ⟨?_, fun h => by omega⟩
      unfold U8.Right
      omega
theorem isD_low {base : Nat} (hb : base ≤ 16) {c : UInt8} (h : isD base c = true) : c.toNat < 128 := by
  have key : ∀ x : Fin 256, hexv x.val < 16 → x.val < 128 := by decide +kernel
  exact key ⟨c.toNat, c.toNat_lt⟩ (by have := of_decide_eq_true h; simp only []; omega)
theorem numRef_fine (l : List UInt8) (h35 : [38, 35].isPrefixOf l = true) (p : Int × Nat) (h : numRef l = some p) : Fine l p := by
  have hlen := numRef_len l p.1 p.2 h
  have hb : ((baseOf l).1 = 16 ∧ (baseOf l).2 = 3 ∧ (l[2]? = some 120 ∨ l[2]? = some 88)) ∨ ((baseOf l).1 = 10 ∧ (baseOf l).2 = 2) := by
    unfold baseOf
    split
    · rename_i h; exact .inl ⟨rfl, rfl, h⟩
    · exact .inr ⟨rfl, rfl⟩
  unfold numRef at h
  simp only [] at h
  split at h
  · cases h
  rename_i hds
  cases h
  have hpl : ∀ x ∈ (l.drop (baseOf l).2).takeWhile (isD (baseOf l).1), x.toNat < 128 := fun x hx => by
    have h1 := List.all_eq_true.1 (List.all_takeWhile (p := isD (baseOf l).1) (l := l.drop (baseOf l).2)) x hx
    exact isD_low (by omega) h1
  have htk : (l.drop (baseOf l).2).take ((l.drop (baseOf l).2).takeWhile (isD (baseOf l).1)).length = (l.drop (baseOf l).2).takeWhile (isD (baseOf l).1) := (List.prefix_iff_eq_take.1 (List.takeWhile_prefix _)).symm
  have hone : ∀ x, (l.drop (baseOf l).2).takeWhile (isD (baseOf l).1) = [x] → ((l.drop (baseOf l).2).takeWhile (isD (baseOf l).1)).foldl (addD (baseOf l).1) 0 < 65536 := fun x e => by
    rw [e]
    have key : ∀ x : Fin 256, hexv x.val ≤ 16 := by decide +kernel
    have := key ⟨x.toNat, x.toNat_lt⟩
    simp only [] at this
    simp only [List.foldl_cons, List.foldl_nil, addD]
    omega
  have hbegin : ∀ x ∈ l.take (baseOf l).2, x.toNat < 128 := by
    obtain ⟨r, rfl⟩ : ∃ r, l = 38 :: 35 :: r := by
      obtain ⟨t, ht⟩ := List.isPrefixOf_iff_prefix.1 h35
      exact ⟨t, ht.symm⟩
    rcases hb with ⟨_, h3, hx⟩ | ⟨_, h2⟩
    · rw [h3]
      cases r with
      | nil => simp at hx
      | cons y r =>
        intro x hm
        simp at hm hx
        rcases hm with rfl | rfl | rfl
        · decide
        · decide
        · rcases hx with rfl | rfl <;> decide
    · rw [h2]
      intro x hm
      simp at hm
      rcases hm with rfl | rfl <;> decide
  have hnum := numOf_fine (((l.drop (baseOf l).2).takeWhile (isD (baseOf l).1)).foldl (addD (baseOf l).1) 0)
  have hsize := size_of hnum.1
  have hp2 : 2 ≤ (baseOf l).2 := by omega
  generalize (baseOf l).2 = q at *
  generalize hd : (l.drop q).takeWhile (isD (baseOf l).1) = ds at *
  have hpos : 0 < ds.length := List.length_pos_iff.2 hds
  refine ⟨hnum.1, ?_, ?_⟩
  · have hmid : ∀ x ∈ l.take (q + ds.length), x.toNat < 128 := fun x hx => by
      rw [List.take_add, htk] at hx
      rcases List.mem_append.1 hx with h | h
      · exact hbegin x h
      · exact hpl x h
    unfold endAt
    simp only []
    split
    · rename_i h59
      intro x hx
      rw [List.take_add_one, h59] at hx
      rcases List.mem_append.1 hx with h | h
      · exact hmid x h
      · simp at h; subst h; decide
    · exact hmid
  · have hge : q + ds.length ≤ endAt l (q + ds.length) := by unfold endAt; split <;> omega
    simp only []
    by_cases h1 : ds.length = 1
    · obtain ⟨x, hx⟩ : ∃ x, ds = [x] := List.length_eq_one_iff.1 h1
      have := hsize.2 (hnum.2 (hone x hx))
      omega
    · have := hsize.1
      omega
theorem next_fine (attr : Bool) (l : List UInt8) (p : Int × Nat) (h : nextRef attr l = some p) : Fine l p := by
  obtain ⟨r, rfl⟩ := nextRef_amp attr l p h
  unfold nextRef at h
  split at h
  · rename_i h35
    exact numRef_fine _ h35 p h
  · split at h
    · split at h
      · rename_i q hq
        cases h
        exact nameAt_fine NT NT_fine _ _ hq
      · exact shortAt_fine attr _ shorts_fine _ _ h
    · cases h
theorem dec_text (attr : Bool) : ∀ (n : Nat) (l : List UInt8), l.length ≤ n → text l = true → text (dec attr l) = true := by
  intro n
  induction n with
  | zero =>
    intro l hl h
    rw [List.length_eq_zero_iff.1 (Nat.le_zero.1 hl)]
    rfl
  | succ n ih =>
    intro l hl h
    cases l with
    | nil => rfl
    | cons b r =>
      cases hn : nextRef attr (b :: r) with
      | some p =>
        have hf := next_fine attr _ p hn
        have hlen := nextRef_len attr _ p.1 p.2 hn
        have hr := hf.1
        unfold U8.Right at hr
        obtain ⟨c, hc⟩ : ∃ c : Nat, p.1 = (c : Int) := ⟨p.1.toNat, by omega⟩
        rw [dec_some attr (show nextRef attr (b :: r) = some (p.1, p.2) from hn), hc, encI_nat, text_encB c (by rw [← hc]; exact hf.1)]
        refine ih _ (by rw [List.length_drop]; omega) ?_
        rw [← List.take_append_drop p.2 (b :: r), text_lows _ _ hf.2.1] at h
        exact h
      | none =>
        by_cases hb : b.toNat < 128
        · rw [dec_none attr hn, text_low b _ hb]
          rw [text_low b _ hb] at h
          exact ih r (by simpa using hl) h
        · have hne : b :: r ≠ [] := by simp
          have hw := U8.nxt_width hne
          rw [U8.text_cons hne, Bool.and_eq_true] at h
          obtain ⟨hr, he⟩ := U8.nxt_ok hne h.1
          have hc : 128 ≤ (nxt (b :: r)).1 := by
            rcases Nat.lt_or_ge (nxt (b :: r)).1 128 with hlt | hge
            · exfalso
              rcases U8.enc_cases _ hr with h2 | h2 | h2 | h2
              · rw [h2.2] at he
                have h3 := congrArg (fun z => z.head?) he
                rw [List.head?_take] at h3
                simp at h3
                have h5 := congrArg UInt8.toNat h3.2
                rw [show UInt8.ofNat (nxt (b :: r)).1 = (nxt (b :: r)).1.toUInt8 from rfl, U8.nat_byte (by omega)] at h5
                omega
              all_goals omega
            · exact hge
          have hp := dec_plain attr (encB (nxt (b :: r)).1) ((b :: r).drop (nxt (b :: r)).2.1) (encB_high _ hr hc)
          rw [he, List.take_append_drop] at hp
          rw [hp, ← he, text_encB _ hr]
          exact ih _ (by rw [List.length_drop]; omega) h.2
theorem dec_len (attr : Bool) : ∀ (n : Nat) (l : List UInt8), l.length ≤ n → (dec attr l).length ≤ l.length := by
  intro n
  induction n with
  | zero =>
    intro l hl
    rw [List.length_eq_zero_iff.1 (Nat.le_zero.1 hl)]
    simp [dec_nil]
  | succ n ih =>
    intro l hl
    cases l with
    | nil => simp [dec_nil]
    | cons b r =>
      cases hn : nextRef attr (b :: r) with
      | some p =>
        have hf := next_fine attr _ p hn
        have hlen := nextRef_len attr _ p.1 p.2 hn
        rw [dec_some attr (show nextRef attr (b :: r) = some (p.1, p.2) from hn), List.length_append]
        have h1 := ih ((b :: r).drop p.2) (by rw [List.length_drop]; omega)
        rw [List.length_drop] at h1
        have h2 := hf.2.2
        omega
      | none =>
        rw [dec_none attr hn, List.length_cons, List.length_cons]
        have := ih r (by simpa using hl)
        omega
end Go.Proofs.YtekijemacjpceaaDoor.Rf
