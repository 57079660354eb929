/- Plain laws of UTF-8 over lists of bytes: what stands next, what a number's bytes are, what is mended. No condition but those typed. -/
import Derived.Lib.DecodeNEq
import Derived.Lib.RuneBytes
namespace Go.Proofs.YtmaeodkdddbhoaaDoor.U8
open Go Go.Lib
set_option linter.unusedVariables false
/-- What stands at the begin of n bytes that begin so: the sign, how long, is it one. -/
def spec (n b0 b1 b2 b3 : Nat) : Nat × Nat × Bool :=
  if b0 < 128 then (b0, 1, true)
  else if firstT b0 = 241 then (65533, 1, false)
  else if n ≤ 1 ∨ b1 < accLo (firstT b0 / 16) ∨ accHi (firstT b0 / 16) < b1 then (65533, 1, false)
  else if firstT b0 % 8 ≤ 2 then (b0 % 32 * 64 + b1 % 64, 2, true)
  else if n ≤ 2 ∨ b2 < 128 ∨ 191 < b2 then (65533, 2, false)
  else if firstT b0 % 8 ≤ 3 then (b0 % 16 * 4096 + b1 % 64 * 64 + b2 % 64, 3, true)
  else if n ≤ 3 ∨ b3 < 128 ∨ 191 < b3 then (65533, 3, false)
  else (b0 % 8 * 262144 + b1 % 64 * 4096 + b2 % 64 * 64 + b3 % 64, 4, true)
theorem firstT_classes (b : Nat) : (b < 128 ∧ firstT b = 240) ∨ ((128 ≤ b ∧ b < 194 ∨ 245 ≤ b) ∧ firstT b = 241) ∨ (194 ≤ b ∧ b < 224 ∧ firstT b = 2) ∨ (b = 224 ∧ firstT b = 19) ∨ ((225 ≤ b ∧ b < 237 ∨ 238 ≤ b ∧ b < 240) ∧ firstT b = 3) ∨ (b = 237 ∧ firstT b = 35) ∨ (b = 240 ∧ firstT b = 52) ∨ (241 ≤ b ∧ b < 244 ∧ firstT b = 4) ∨ (b = 244 ∧ firstT b = 68) := by
  unfold firstT
  repeat' split
  all_goals omega
theorem slow_spec (n b0 b1 b2 b3 t : Nat) (hn : 1 ≤ n) (h0 : 128 ≤ b0) (ht : firstT b0 = t) (hk : t = 2 ∨ t = 19 ∨ t = 3 ∨ t = 35 ∨ t = 52 ∨ t = 4 ∨ t = 68) :
    slowN n b0 b1 b2 b3 (t % 8) (accLo (t / 16)) (accHi (t / 16)) = (if (spec n b0 b1 b2 b3).2.2 then ((spec n b0 b1 b2 b3).1, (spec n b0 b1 b2 b3).2.1) else (65533, 1)) := by
  unfold spec
  rw [ht, if_neg (show ¬ b0 < 128 by omega), if_neg (show ¬ t = 241 by omega)]
  unfold slowN
  rcases hk with rfl | rfl | rfl | rfl | rfl | rfl | rfl <;> simp only [Nat.reduceMod, Nat.reduceDiv, Nat.reduceLeDiff, if_true, if_false, accLo, accHi, Nat.reduceEqDiff]
  all_goals
    repeat' split
    all_goals first | rfl | (exfalso; omega) | (simp_all <;> omega)
theorem decode_spec (n b0 b1 b2 b3 : Nat) (hn : 1 ≤ n) (h1 : b1 < 256) (h2 : b2 < 256) (h3 : b3 < 256) (h0 : b0 < 256) :
    decodeN n b0 b1 b2 b3 = (if (spec n b0 b1 b2 b3).2.2 then ((spec n b0 b1 b2 b3).1, (spec n b0 b1 b2 b3).2.1) else (65533, 1)) := by
  rcases firstT_classes b0 with ⟨hb, ht⟩ | ⟨hb, ht⟩ | ⟨hb, hb', ht⟩ | ⟨hb, ht⟩ | ⟨hb, ht⟩ | ⟨hb, ht⟩ | ⟨hb, ht⟩ | ⟨hb, hb', ht⟩ | ⟨hb, ht⟩
  · rw [ascii_eq _ _ _ _ _ ht]
    unfold spec
    simp [hb]
  · rw [bad_eq _ _ _ _ _ (by omega) ht]
    unfold spec
    rw [if_neg (show ¬ b0 < 128 by omega), if_pos ht]
    rfl
  all_goals
    rw [← slow_eq _ _ _ _ _ hn h1 h2 h3 (by omega), ht]
    exact slow_spec n b0 b1 b2 b3 _ hn (by omega) ht (by omega)
theorem spec_width (n b0 b1 b2 b3 : Nat) (hn : 1 ≤ n) : 1 ≤ (spec n b0 b1 b2 b3).2.1 ∧ (spec n b0 b1 b2 b3).2.1 ≤ 4 ∧ (spec n b0 b1 b2 b3).2.1 ≤ n := by
  unfold spec
  repeat' split
  all_goals simp only
  all_goals omega
theorem spec_bad (n b0 b1 b2 b3 : Nat) (h : (spec n b0 b1 b2 b3).2.2 = false) : (spec n b0 b1 b2 b3).1 = 65533 := by
  unfold spec at h ⊢
  repeat' split
  all_goals simp_all
/-- Is a number a sign? -/
def Right (c : Int) : Prop := 0 ≤ c ∧ c ≤ 1114111 ∧ (c < 55296 ∨ 57343 < c)
instance (c : Int) : Decidable (Right c) := inferInstanceAs (Decidable (_ ∧ _ ∧ _))
theorem acc_of (t : Nat) : (t = 2 → accLo (t / 16) = 128 ∧ accHi (t / 16) = 191) ∧ (t = 19 → accLo (t / 16) = 160 ∧ accHi (t / 16) = 191) ∧ (t = 3 → accLo (t / 16) = 128 ∧ accHi (t / 16) = 191) ∧ (t = 35 → accLo (t / 16) = 128 ∧ accHi (t / 16) = 159) ∧ (t = 52 → accLo (t / 16) = 144 ∧ accHi (t / 16) = 191) ∧ (t = 4 → accLo (t / 16) = 128 ∧ accHi (t / 16) = 191) ∧ (t = 68 → accLo (t / 16) = 128 ∧ accHi (t / 16) = 143) := by
  refine ⟨?_, ?_, ?_, ?_, ?_, ?_, ?_⟩ <;> (rintro rfl; decide)
theorem cons2 {α : Type} {a b : α} {l m : List α} (h : a = b) (k : l = m) : a :: l = b :: m := by rw [h, k]
/-- What a sign is, and its bytes. -/
theorem spec_ok (n b0 b1 b2 b3 : Nat) (h : (spec n b0 b1 b2 b3).2.2 = true) : Right ((spec n b0 b1 b2 b3).1 : Int) ∧ encodeRuneZ ((spec n b0 b1 b2 b3).1 : Int) = ([(b0 : Int), (b1 : Int), (b2 : Int), (b3 : Int)]).take (spec n b0 b1 b2 b3).2.1 := by
  obtain ⟨a1, a2, a3, a4, a5, a6, a7⟩ := acc_of (firstT b0)
  have hc := firstT_classes b0
  unfold spec at h ⊢
  split at h
  · rename_i hb
    simp only [if_pos hb]
    refine ⟨⟨by omega, by omega, by omega⟩, ?_⟩
    rw [encodeRuneZ_one (by omega) (by omega)]
    rfl
  rename_i hb
  split at h
  · cases h
  rename_i ht
  split at h
  · cases h
  rename_i g1
  split at h
  · rename_i s2
    simp only [if_neg hb, if_neg ht, if_neg g1, if_pos s2]
    have k : 194 ≤ b0 ∧ b0 < 224 ∧ 128 ≤ b1 ∧ b1 ≤ 191 := by
      rcases hc with ⟨hb, ht⟩ | ⟨hb, ht⟩ | ⟨hb, hb', ht⟩ | ⟨hb, ht⟩ | ⟨hb, ht⟩ | ⟨hb, ht⟩ | ⟨hb, ht⟩ | ⟨hb, hb', ht⟩ | ⟨hb, ht⟩ <;> rw [ht] at s2 <;> omega
    refine ⟨⟨by omega, by omega, by omega⟩, ?_⟩
    rw [encodeRuneZ_two (by omega) (by omega)]
    exact cons2 (by omega) (cons2 (by omega) rfl)
  rename_i s2
  split at h
  · cases h
  rename_i g2
  split at h
  · rename_i s3
    simp only [if_neg hb, if_neg ht, if_neg g1, if_neg s2, if_neg g2, if_pos s3]
    have k : 224 ≤ b0 ∧ b0 < 240 ∧ 128 ≤ b1 ∧ b1 ≤ 191 ∧ (b0 = 224 → 160 ≤ b1) ∧ (b0 = 237 → b1 ≤ 159) := by
      rcases hc with ⟨hb, ht⟩ | ⟨hb, ht⟩ | ⟨hb, hb', ht⟩ | ⟨hb, ht⟩ | ⟨hb, ht⟩ | ⟨hb, ht⟩ | ⟨hb, ht⟩ | ⟨hb, hb', ht⟩ | ⟨hb, ht⟩ <;> rw [ht] at s2 s3 <;> omega
    refine ⟨⟨by omega, by omega, by omega⟩, ?_⟩
    rw [encodeRuneZ_three (by omega)]
    exact cons2 (by omega) (cons2 (by omega) (cons2 (by omega) rfl))
  rename_i s3
  split at h
  · cases h
  rename_i g3
  simp only [if_neg hb, if_neg ht, if_neg g1, if_neg s2, if_neg g2, if_neg s3, if_neg g3]
  have k : 240 ≤ b0 ∧ b0 ≤ 244 ∧ 128 ≤ b1 ∧ b1 ≤ 191 ∧ (b0 = 240 → 144 ≤ b1) ∧ (b0 = 244 → b1 ≤ 143) := by
    rcases hc with ⟨hb, ht⟩ | ⟨hb, ht⟩ | ⟨hb, hb', ht⟩ | ⟨hb, ht⟩ | ⟨hb, ht⟩ | ⟨hb, ht⟩ | ⟨hb, ht⟩ | ⟨hb, hb', ht⟩ | ⟨hb, ht⟩ <;> rw [ht] at s2 s3 <;> omega
  refine ⟨⟨by omega, by omega, by omega⟩, ?_⟩
  rw [encodeRuneZ_four (by omega) (by omega)]
  exact cons2 (by omega) (cons2 (by omega) (cons2 (by omega) (cons2 (by omega) rfl)))
/-- A beginning that is not shorter than what is told tells the same. -/
theorem spec_take (n m b0 b1 b2 b3 c1 c2 c3 : Nat) (h1 : (spec n b0 b1 b2 b3).2.1 ≤ m) (h2 : m ≤ n) (e1 : 1 < m → c1 = b1) (e2 : 2 < m → c2 = b2) (e3 : 3 < m → c3 = b3) : spec m b0 c1 c2 c3 = spec n b0 b1 b2 b3 := by
  have key : ∀ p : Nat × Nat × Bool, p = spec n b0 b1 b2 b3 → spec m b0 c1 c2 c3 = p := by
    intro p hp
    rw [← hp] at h1
    unfold spec at hp ⊢
    split at hp
    · rename_i hb; rw [if_pos hb, hp]
    rename_i hb; rw [if_neg hb]
    split at hp
    · rename_i ht; rw [if_pos ht, hp]
    rename_i ht; rw [if_neg ht]
    split at hp
    · rename_i g1
      rw [if_pos (by rcases Nat.lt_or_ge 1 m with hm | hm <;> first | omega | (rw [e1 hm]; omega)), hp]
    rename_i g1
    split at hp
    · rename_i s2
      subst hp
      simp only at h1
      rw [if_neg (by rw [e1 (by omega)]; omega), if_pos s2, e1 (by omega)]
    rename_i s2
    split at hp
    · rename_i g2
      subst hp
      simp only at h1
      rw [if_neg (by rw [e1 (by omega)]; omega), if_neg s2, if_pos (by rcases Nat.lt_or_ge 2 m with hm | hm <;> first | omega | (rw [e2 hm]; omega))]
    rename_i g2
    split at hp
    · rename_i s3
      subst hp
      simp only at h1
      rw [if_neg (by rw [e1 (by omega)]; omega), if_neg s2, if_neg (by rw [e2 (by omega)]; omega), if_pos s3, e1 (by omega), e2 (by omega)]
    rename_i s3
    split at hp
    · rename_i g3
      subst hp
      simp only at h1
      rw [if_neg (by rw [e1 (by omega)]; omega), if_neg s2, if_neg (by rw [e2 (by omega)]; omega), if_neg s3, if_pos (by rcases Nat.lt_or_ge 3 m with hm | hm <;> first | omega | (rw [e3 hm]; omega))]
    · rename_i g3
      subst hp
      simp only at h1
      rw [if_neg (by rw [e1 (by omega)]; omega), if_neg s2, if_neg (by rw [e2 (by omega)]; omega), if_neg s3, if_neg (by rw [e3 (by omega)]; omega), e1 (by omega), e2 (by omega), e3 (by omega)]
  exact key _ rfl
/-- A sign's bytes tell it. -/
theorem spec_one (n c b1 b2 b3 : Nat) (h : c < 128) : spec n c b1 b2 b3 = (c, 1, true) := by unfold spec; rw [if_pos h]
theorem spec_two (n c b2 b3 : Nat) (h0 : 128 ≤ c) (h1 : c < 2048) (hn : 2 ≤ n) : spec n (192 + c / 64) (128 + c % 64) b2 b3 = (c, 2, true) := by
  have ht : firstT (192 + c / 64) = 2 := by have := firstT_classes (192 + c / 64); omega
  unfold spec
  rw [ht]
  simp only [accLo, accHi, Nat.reduceDiv, Nat.reduceMod, Nat.reduceEqDiff, if_true, if_false, Nat.reduceLeDiff]
  rw [if_neg (by omega), if_neg (by omega)]
  congr 1
  omega
theorem spec_three (n c b3 : Nat) (h0 : 2048 ≤ c) (h1 : c < 65536) (hs : c < 55296 ∨ 57343 < c) (hn : 3 ≤ n) : spec n (224 + c / 4096) (128 + c / 64 % 64) (128 + c % 64) b3 = (c, 3, true) := by
  have hc := firstT_classes (224 + c / 4096)
  have ht : (224 + c / 4096 = 224 ∧ firstT (224 + c / 4096) = 19) ∨ (224 + c / 4096 ≠ 224 ∧ 224 + c / 4096 ≠ 237 ∧ firstT (224 + c / 4096) = 3) ∨ (224 + c / 4096 = 237 ∧ firstT (224 + c / 4096) = 35) := by omega
  unfold spec
  rcases ht with ⟨hb, ht⟩ | ⟨hb, hb', ht⟩ | ⟨hb, ht⟩
  all_goals
    rw [ht]
    simp only [accLo, accHi, Nat.reduceDiv, Nat.reduceMod, Nat.reduceEqDiff, if_true, if_false, Nat.reduceLeDiff]
    rw [if_neg (by omega), if_neg (by omega), if_neg (by omega)]
    congr 1
    omega
theorem spec_four (n c : Nat) (h0 : 65536 ≤ c) (h1 : c ≤ 1114111) (hn : 4 ≤ n) : spec n (240 + c / 262144) (128 + c / 4096 % 64) (128 + c / 64 % 64) (128 + c % 64) = (c, 4, true) := by
  have hc := firstT_classes (240 + c / 262144)
  have ht : (240 + c / 262144 = 240 ∧ firstT (240 + c / 262144) = 52) ∨ (240 + c / 262144 ≠ 240 ∧ 240 + c / 262144 ≠ 244 ∧ firstT (240 + c / 262144) = 4) ∨ (240 + c / 262144 = 244 ∧ firstT (240 + c / 262144) = 68) := by omega
  unfold spec
  rcases ht with ⟨hb, ht⟩ | ⟨hb, hb', ht⟩ | ⟨hb, ht⟩
  all_goals
    rw [ht]
    simp only [accLo, accHi, Nat.reduceDiv, Nat.reduceMod, Nat.reduceEqDiff, if_true, if_false, Nat.reduceLeDiff]
    rw [if_neg (by omega), if_neg (by omega), if_neg (by omega), if_neg (by omega)]
    congr 1
    omega
end Go.Proofs.YtmaeodkdddbhoaaDoor.U8
