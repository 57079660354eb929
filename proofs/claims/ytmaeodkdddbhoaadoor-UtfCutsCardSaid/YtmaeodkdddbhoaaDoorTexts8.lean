/- Plain laws of UTF-8 over lists of bytes: their signs one by one, what is mended, what is cut. No condition but those typed. -/
import Derived.Test.YtmaeodkdddbhoaaDoorUtf8
namespace Go.Proofs.YtmaeodkdddbhoaaDoor.U8
open Go Go.Lib
set_option linter.unusedVariables false
def B (l : List UInt8) (i : Nat) : Nat := (l.getD i 0).toNat
theorem B_lt (l : List UInt8) (i : Nat) : B l i < 256 := UInt8.toNat_lt _
/-- What stands at a list's begin. -/
def nxt (l : List UInt8) : Nat × Nat × Bool := spec l.length (B l 0) (B l 1) (B l 2) (B l 3)
/-- A number's bytes. -/
def encB (c : Nat) : List UInt8 := (encodeRuneZ (c : Int)).map fun x => x.toNat.toUInt8
theorem nxt_width {l : List UInt8} (h : l ≠ []) : 1 ≤ (nxt l).2.1 ∧ (nxt l).2.1 ≤ 4 ∧ (nxt l).2.1 ≤ l.length :=
  spec_width _ _ _ _ _ (by have := List.length_pos_iff.2 h; omega)
theorem take_bytes (l : List UInt8) (w : Nat) (hw : w ≤ 4) (hl : w ≤ l.length) : (([(B l 0 : Int), (B l 1 : Int), (B l 2 : Int), (B l 3 : Int)]).take w).map (fun x => x.toNat.toUInt8) = l.take w := by
  have hb : ∀ a : UInt8, (((a.toNat : Nat) : Int)).toNat.toUInt8 = a := fun a => by simp
  rcases l with _ | ⟨a, _ | ⟨b, _ | ⟨c, _ | ⟨d, l⟩⟩⟩⟩
  all_goals
    rcases w with _ | _ | _ | _ | _ | w <;> first | (simp [B]; done) | (simp at hl; done) | (simp at hl; omega) | omega
theorem nxt_ok {l : List UInt8} (hl : l ≠ []) (h : (nxt l).2.2 = true) : Right ((nxt l).1 : Int) ∧ encB (nxt l).1 = l.take (nxt l).2.1 := by
  obtain ⟨h1, h2⟩ := spec_ok _ _ _ _ _ h
  have hw := nxt_width hl
  refine ⟨h1, ?_⟩
  unfold encB
  rw [show encodeRuneZ ((nxt l).1 : Int) = _ from h2]
  exact take_bytes l _ hw.2.1 hw.2.2
theorem nxt_bad {l : List UInt8} (h : (nxt l).2.2 = false) : (nxt l).1 = 65533 := spec_bad _ _ _ _ _ h
theorem right_65533 : Right ((65533 : Nat) : Int) := by decide
theorem nxt_right {l : List UInt8} (hl : l ≠ []) : Right ((nxt l).1 : Int) := by
  cases h : (nxt l).2.2 with
  | true => exact (nxt_ok hl h).1
  | false => rw [nxt_bad h]; exact right_65533
theorem enc_cases (c : Nat) (h : Right (c : Int)) : (c < 128 ∧ encB c = [c.toUInt8]) ∨ (128 ≤ c ∧ c < 2048 ∧ encB c = [(192 + c / 64).toUInt8, (128 + c % 64).toUInt8]) ∨
    (2048 ≤ c ∧ c < 65536 ∧ (c < 55296 ∨ 57343 < c) ∧ encB c = [(224 + c / 4096).toUInt8, (128 + c / 64 % 64).toUInt8, (128 + c % 64).toUInt8]) ∨
    (65536 ≤ c ∧ c ≤ 1114111 ∧ encB c = [(240 + c / 262144).toUInt8, (128 + c / 4096 % 64).toUInt8, (128 + c / 64 % 64).toUInt8, (128 + c % 64).toUInt8]) := by
  obtain ⟨h0, h1, h2⟩ := h
  unfold encB
  by_cases c1 : c < 128
  · refine .inl ⟨c1, ?_⟩
    rw [encodeRuneZ_one (by omega) (by omega)]
    simp
  by_cases c2 : c < 2048
  · refine .inr (.inl ⟨by omega, c2, ?_⟩)
    rw [encodeRuneZ_two (by omega) (by omega)]
    simp only [List.map_cons, List.map_nil]
    exact cons2 (congrArg _ (by omega)) (cons2 (congrArg _ (by omega)) rfl)
  by_cases c3 : c < 65536
  · refine .inr (.inr (.inl ⟨by omega, c3, by omega, ?_⟩))
    rw [encodeRuneZ_three (by omega)]
    simp only [List.map_cons, List.map_nil]
    exact cons2 (congrArg _ (by omega)) (cons2 (congrArg _ (by omega)) (cons2 (congrArg _ (by omega)) rfl))
  · refine .inr (.inr (.inr ⟨by omega, by omega, ?_⟩))
    rw [encodeRuneZ_four (by omega) (by omega)]
    simp only [List.map_cons, List.map_nil]
    exact cons2 (congrArg _ (by omega)) (cons2 (congrArg _ (by omega)) (cons2 (congrArg _ (by omega)) (cons2 (congrArg _ (by omega)) rfl)))
theorem nat_byte {n : Nat} (h : n < 256) : n.toUInt8.toNat = n := by simp; omega
/-- A sign's bytes, with whatever behind, tell it. -/
theorem nxt_enc (c : Nat) (h : Right (c : Int)) (r : List UInt8) : nxt (encB c ++ r) = (c, (encB c).length, true) := by
  rcases enc_cases c h with ⟨h0, e⟩ | ⟨h0, h1, e⟩ | ⟨h0, h1, h2, e⟩ | ⟨h0, h1, e⟩
  · rw [e]
    unfold nxt
    rw [show B ([c.toUInt8] ++ r) 0 = c from by unfold B; simp; omega]
    exact spec_one _ _ _ _ _ h0
  · rw [e]
    unfold nxt
    rw [show B ([(192 + c / 64).toUInt8, (128 + c % 64).toUInt8] ++ r) 0 = 192 + c / 64 from nat_byte (by omega), show B ([(192 + c / 64).toUInt8, (128 + c % 64).toUInt8] ++ r) 1 = 128 + c % 64 from nat_byte (by omega)]
    exact spec_two _ _ _ _ h0 h1 (by simp)
  · rw [e]
    unfold nxt
    rw [show B ([(224 + c / 4096).toUInt8, (128 + c / 64 % 64).toUInt8, (128 + c % 64).toUInt8] ++ r) 0 = 224 + c / 4096 from nat_byte (by omega), show B ([(224 + c / 4096).toUInt8, (128 + c / 64 % 64).toUInt8, (128 + c % 64).toUInt8] ++ r) 1 = 128 + c / 64 % 64 from nat_byte (by omega), show B ([(224 + c / 4096).toUInt8, (128 + c / 64 % 64).toUInt8, (128 + c % 64).toUInt8] ++ r) 2 = 128 + c % 64 from nat_byte (by omega)]
    exact spec_three _ _ _ h0 h1 h2 (by simp)
  · rw [e]
    unfold nxt
    rw [show B ([(240 + c / 262144).toUInt8, (128 + c / 4096 % 64).toUInt8, (128 + c / 64 % 64).toUInt8, (128 + c % 64).toUInt8] ++ r) 0 = 240 + c / 262144 from nat_byte (by omega), show B ([(240 + c / 262144).toUInt8, (128 + c / 4096 % 64).toUInt8, (128 + c / 64 % 64).toUInt8, (128 + c % 64).toUInt8] ++ r) 1 = 128 + c / 4096 % 64 from nat_byte (by omega), show B ([(240 + c / 262144).toUInt8, (128 + c / 4096 % 64).toUInt8, (128 + c / 64 % 64).toUInt8, (128 + c % 64).toUInt8] ++ r) 2 = 128 + c / 64 % 64 from nat_byte (by omega), show B ([(240 + c / 262144).toUInt8, (128 + c / 4096 % 64).toUInt8, (128 + c / 64 % 64).toUInt8, (128 + c % 64).toUInt8] ++ r) 3 = 128 + c % 64 from nat_byte (by omega)]
    exact spec_four _ _ h0 h1 (by simp)
theorem enc_length (c : Nat) (h : Right (c : Int)) : 1 ≤ (encB c).length ∧ (encB c).length ≤ 4 := by
  rcases enc_cases c h with ⟨h0, e⟩ | ⟨h0, h1, e⟩ | ⟨h0, h1, h2, e⟩ | ⟨h0, h1, e⟩ <;> rw [e] <;> simp
/-- What stands at a beginning's begin. -/
theorem nxt_take {l : List UInt8} (hl : l ≠ []) {m : Nat} (h : (nxt l).2.1 ≤ m) : nxt (l.take m) = nxt l := by
  rcases Nat.lt_or_ge l.length m with hm | hm
  · rw [List.take_of_length_le (by omega)]
  · have hw := nxt_width hl
    have hB : ∀ i, i < m → B (l.take m) i = B l i := fun i hi => by
      unfold B
      rw [List.getD_eq_getElem?_getD, List.getD_eq_getElem?_getD, List.getElem?_take, if_pos hi]
    have hm0 : 0 < m := by omega
    unfold nxt at h ⊢
    rw [List.length_take, Nat.min_eq_left hm, hB 0 hm0]
    exact spec_take _ _ _ _ _ _ _ _ _ h hm (hB 1) (hB 2) (hB 3)
/-! its signs one by one -/
def itemsN : Nat → List UInt8 → List (Nat × Nat × Bool)
  | 0, _ => []
  | n + 1, l => if l = [] then [] else nxt l :: itemsN n (l.drop (nxt l).2.1)
def items (l : List UInt8) : List (Nat × Nat × Bool) := itemsN l.length l
theorem itemsN_fuel : ∀ (n m : Nat) (l : List UInt8), l.length ≤ n → l.length ≤ m → itemsN n l = itemsN m l := by
  intro n
  induction n with
  | zero =>
    intro m l h1 h2
    obtain rfl : l = [] := List.eq_nil_of_length_eq_zero (by omega)
    cases m <;> simp [itemsN]
  | succ n ih =>
    intro m l h1 h2
    by_cases hl : l = []
    · subst hl
      cases m <;> simp [itemsN]
    · have hw := nxt_width hl
      have h0 := List.length_pos_iff.2 hl
      obtain ⟨m, rfl⟩ : ∃ k, m = k + 1 := ⟨m - 1, by omega⟩
      simp only [itemsN, if_neg hl]
      rw [ih m (l.drop (nxt l).2.1) (by rw [List.length_drop]; omega) (by rw [List.length_drop]; omega)]
theorem items_nil : items [] = [] := rfl
theorem items_cons {l : List UInt8} (hl : l ≠ []) : items l = nxt l :: items (l.drop (nxt l).2.1) := by
  have hw := nxt_width hl
  have h0 := List.length_pos_iff.2 hl
  obtain ⟨n, hn⟩ : ∃ n, l.length = n + 1 := ⟨l.length - 1, by omega⟩
  unfold items
  rw [hn]
  simp only [itemsN, if_neg hl]
  rw [itemsN_fuel n _ (l.drop (nxt l).2.1) (by rw [List.length_drop]; omega) (Nat.le_refl _)]
theorem items_ind {P : List UInt8 → Prop} (h0 : P []) (h1 : ∀ l, l ≠ [] → P (l.drop (nxt l).2.1) → P l) : ∀ l, P l := by
  have key : ∀ n (l : List UInt8), l.length ≤ n → P l := by
    intro n
    induction n with
    | zero => intro l h; obtain rfl : l = [] := List.eq_nil_of_length_eq_zero (by omega); exact h0
    | succ n ih =>
      intro l h
      by_cases hl : l = []
      · subst hl; exact h0
      · exact h1 l hl (ih _ (by rw [List.length_drop]; have := nxt_width hl; omega))
  exact fun l => key l.length l (Nat.le_refl _)
/-- Are they a text? -/
def text (l : List UInt8) : Bool := (items l).all fun p => p.2.2
/-- They mended. -/
def mend (l : List UInt8) : List UInt8 := (items l).flatMap fun p => encB p.1
def signs (l : List UInt8) : List Int := (items l).map fun p => (p.1 : Int)
theorem text_cons {l : List UInt8} (hl : l ≠ []) : text l = ((nxt l).2.2 && text (l.drop (nxt l).2.1)) := by unfold text; rw [items_cons hl]; rfl
theorem mend_cons {l : List UInt8} (hl : l ≠ []) : mend l = encB (nxt l).1 ++ mend (l.drop (nxt l).2.1) := by unfold mend; rw [items_cons hl]; rfl
theorem signs_cons {l : List UInt8} (hl : l ≠ []) : signs l = ((nxt l).1 : Int) :: signs (l.drop (nxt l).2.1) := by unfold signs; rw [items_cons hl]; rfl
theorem mend_text : ∀ l : List UInt8, text l = true → mend l = l := by
  refine items_ind (fun _ => rfl) (fun l hl ih h => ?_)
  rw [text_cons hl, Bool.and_eq_true] at h
  rw [mend_cons hl, ih h.2, (nxt_ok hl h.1).2, List.take_append_drop]
theorem items_mend : ∀ l : List UInt8, items (mend l) = (items l).map fun p => (p.1, (encB p.1).length, true) := by
  refine items_ind rfl (fun l hl ih => ?_)
  have hr := nxt_right hl
  have hlen := enc_length _ hr
  have hne : encB (nxt l).1 ++ mend (l.drop (nxt l).2.1) ≠ [] := by
    intro h
    have := congrArg List.length h
    rw [List.length_append] at this
    simp at this
    rw [this.1] at hlen
    simp at hlen
  rw [mend_cons hl, items_cons hne, nxt_enc _ hr, items_cons hl, List.drop_left, ih]
  rfl
theorem text_mended (l : List UInt8) : text (mend l) = true := by
  unfold text
  rw [items_mend, List.all_map]
  simp
theorem mend_mended (l : List UInt8) : mend (mend l) = mend l := mend_text _ (text_mended l)
theorem mend_same (l : List UInt8) : mend l = l ↔ text l = true := ⟨fun h => by rw [← h]; exact text_mended l, mend_text l⟩
theorem signs_mended (l : List UInt8) : signs (mend l) = signs l := by
  unfold signs
  rw [items_mend, List.map_map]
  rfl
theorem mend_length : ∀ l : List UInt8, (mend l).length ≤ 3 * l.length := by
  refine items_ind (by simp [mend, items_nil]) (fun l hl ih => ?_)
  have hw := nxt_width hl
  rw [mend_cons hl, List.length_append]
  rw [List.length_drop] at ih
  have : (encB (nxt l).1).length ≤ 3 * (nxt l).2.1 := by
    cases h : (nxt l).2.2 with
    | true =>
      rw [(nxt_ok hl h).2, List.length_take]
      omega
    | false =>
      rw [nxt_bad h, show (encB 65533).length = 3 from by decide]
      omega
  omega
/-! cuts -/
def wsum (p : List (Nat × Nat × Bool)) : Nat := (p.map fun x => x.2.1).sum
theorem wsum_cons (x : Nat × Nat × Bool) (p : List (Nat × Nat × Bool)) : wsum (x :: p) = x.2.1 + wsum p := rfl
theorem wsum_items : ∀ l : List UInt8, wsum (items l) = l.length := by
  refine items_ind rfl (fun l hl ih => ?_)
  have hw := nxt_width hl
  rw [items_cons hl, wsum_cons, ih, List.length_drop]
  omega
/-- The items of a beginning that ends where one of them does. -/
theorem items_take : ∀ (l : List UInt8) (p q : List (Nat × Nat × Bool)), items l = p ++ q → items (l.take (wsum p)) = p := by
  refine items_ind (fun p q h => ?_) (fun l hl ih p q h => ?_)
  · rw [items_nil] at h
    have := List.append_eq_nil_iff.1 h.symm
    rw [this.1]
    rfl
  · cases p with
    | nil => rfl
    | cons x p =>
      rw [items_cons hl] at h
      obtain ⟨rfl, h2⟩ := List.cons.inj h
      have hw := nxt_width hl
      have hle : (nxt l).2.1 ≤ wsum (nxt l :: p) := by rw [wsum_cons]; omega
      have hne : l.take (wsum (nxt l :: p)) ≠ [] := by
        intro e
        have := congrArg List.length e
        have h0 := List.length_pos_iff.2 hl
        rw [List.length_take, List.length_nil] at this
        omega
      have hn := nxt_take hl hle
      rw [items_cons hne, hn, List.drop_take, show wsum (nxt l :: p) - (nxt l).2.1 = wsum p from by rw [wsum_cons]; omega, ih p q h2]
/-- How far a cut goes, from a place on. -/
def cutAt (most : Int) : List (Nat × Nat × Bool) → Nat → Nat
  | [], at_ => at_
  | x :: r, at_ => if (x.2.1 : Int) > most - at_ then at_ else cutAt most r (at_ + x.2.1)
theorem cutAt_parts (most : Int) : ∀ (it : List (Nat × Nat × Bool)) (at_ : Nat), ∃ p q, it = p ++ q ∧ cutAt most it at_ = at_ + wsum p ∧ (at_ + wsum p = at_ ∨ ((at_ + wsum p : Nat) : Int) ≤ most) ∧ (q = [] ∨ ∃ x r, q = x :: r ∧ (x.2.1 : Int) > most - (at_ + wsum p : Nat)) := by
  intro it
  induction it with
  | nil => exact fun at_ => ⟨[], [], rfl, rfl, .inl rfl, .inl rfl⟩
  | cons x it ih =>
    intro at_
    by_cases h : (x.2.1 : Int) > most - at_
    · exact ⟨[], x :: it, rfl, by simp [cutAt, h, wsum], .inl rfl, .inr ⟨x, it, rfl, by simpa [wsum] using h⟩⟩
    · obtain ⟨p, q, h1, h2, h3, h4⟩ := ih (at_ + x.2.1)
      refine ⟨x :: p, q, by rw [h1]; rfl, by rw [wsum_cons, ← Nat.add_assoc]; simpa [cutAt, h] using h2, ?_, ?_⟩
      · rw [wsum_cons, ← Nat.add_assoc]
        rcases h3 with h3 | h3
        · right; omega
        · exact .inr h3
      · rw [wsum_cons, ← Nat.add_assoc]; exact h4
/-- What fits is not cut. -/
theorem cutAt_all (most : Int) : ∀ (it : List (Nat × Nat × Bool)) (at_ : Nat), (((at_ + wsum it : Nat) : Int) ≤ most) → cutAt most it at_ = at_ + wsum it := by
  intro it
  induction it with
  | nil => exact fun at_ _ => rfl
  | cons x it ih =>
    intro at_ h
    rw [wsum_cons, ← Nat.add_assoc] at h ⊢
    rw [cutAt, if_neg (by omega)]
    exact ih _ h
end Go.Proofs.YtmaeodkdddbhoaaDoor.U8
