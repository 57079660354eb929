/- Texts as lists of their bytes; bounds of whole numbers; a round's number. No condition but those typed. · Plain laws of UTF-8 over lists of bytes: what stands next, what a number's bytes are, what is mended. No condition but those typed. · Plain laws of UTF-8 over lists of bytes: their signs one by one, what is mended, what is cut. No condition but those typed. · Plain laws of references over lists of bytes: names, numbers, what stands next, decoded, encoded. No condition but those typed. · Plain laws of ReplaceAll: at one byte, at two; references encoded by them one behind the other. No condition but those typed. · Plain laws of percent marks over lists of bytes: marked, unmarked, read, split, joined. No condition but those typed. -/
import Derived.Test.YtljlkpfiebcoeaaGreatDoorWMore
import Derived.Lib.Bytes
import Derived.Lib.IndexBytes
import Derived.Lib.PathFns
import Derived.Lib.DecodeNEq
import Derived.Lib.RuneBytes
import Derived.Lib.IndexMore
import Derived.Lib.Replace
import Derived.Lib.Bytealg
import Derived.Lib.Split
import Derived.Lib.CountLaws
namespace Go.Proofs.YtljlkpfiebcoeaaGreatDoor.Plain
open Go.RowKit Go.Proofs.YtljlkpfiebcoeaaGreatDoorW.PrintWords Go.Proofs.YtljlkpfiebcoeaaGreatDoorW.PrintLast Go.Proofs.YtljlkpfiebcoeaaGreatDoorW.PrintMore
set_option linter.unusedVariables false
theorem in_u8 {x : Int} (h : (Lit.int .u8 x).wf = true) : 0 ≤ x ∧ x < 256 := by
  simp [Lit.wf, IntKind.min, IntKind.max, IntKind.signed, IntKind.bits] at h
  omega
theorem in_u32 {x : Int} (h : (Lit.int .u32 x).wf = true) : 0 ≤ x ∧ x < 4294967296 := by
  simp [Lit.wf, IntKind.min, IntKind.max, IntKind.signed, IntKind.bits] at h
  omega
theorem in_i32 {x : Int} (h : (Lit.int .i32 x).wf = true) : -2147483648 ≤ x ∧ x < 2147483648 := by
  simp [Lit.wf, IntKind.min, IntKind.max, IntKind.signed, IntKind.bits] at h
  omega
theorem in_i64 {x : Int} (h : (Lit.int .i64 x).wf = true) : -9223372036854775808 ≤ x ∧ x < 9223372036854775808 := by
  simp [Lit.wf, IntKind.min, IntKind.max, IntKind.signed, IntKind.bits] at h
  omega
theorem in_u64 {x : Int} (h : (Lit.int .u64 x).wf = true) : 0 ≤ x ∧ x < 18446744073709551616 := by
  simp [Lit.wf, IntKind.min, IntKind.max, IntKind.signed, IntKind.bits] at h
  omega
theorem u64_mod (n : Int) : IntKind.u64.wrap n = n % 18446744073709551616 := by simp [IntKind.wrap, IntKind.bits, IntKind.signed]
theorem wrap64_id {n : Int} (h0 : -9223372036854775808 ≤ n) (h1 : n < 9223372036854775808) : wrap64 n = n := by
  unfold wrap64
  omega
theorem next {i : Nat} (h : i ≤ 9223372036854775806) : wrap64 ((i : Int) + 1) = ((i + 1 : Nat) : Int) := by
  unfold wrap64
  omega
theorem bytes_len (s : ByteArray) : (bytesOf s).length = s.size := bytesOf_length s
theorem bytes_range {s : ByteArray} {x : Int} (h : x ∈ bytesOf s) : 0 ≤ x ∧ x < 256 := by
  unfold bytesOf at h
  obtain ⟨b, _, rfl⟩ := List.mem_map.1 h
  have := b.toNat_lt
  omega
theorem bytes_bt {s : ByteArray} {i : Nat} (h : i < (bytesOf s).length) : bt s (i : Int) = (bytesOf s)[i] := by
  rw [← rd_bytesOf]
  unfold rd
  rw [Int.toNat_natCast, List.getD_eq_getElem?_getD, List.getElem?_eq_getElem h]
  rfl
theorem bytes_cat (a b : ByteArray) : bytesOf (a ++ b) = bytesOf a ++ bytesOf b := by
  unfold bytesOf
  rw [← List.map_append]
  congr 1
theorem bytes_sub (s : ByteArray) (i j : Nat) : bytesOf (s.extract i j) = ((bytesOf s).drop i).take (j - i) := by
  unfold bytesOf
  rw [Lib.extract_data, ← List.map_drop, ← List.map_take]
theorem bytes_to (s : ByteArray) (j : Nat) : bytesOf (s.extract 0 j) = (bytesOf s).take j := by
  rw [bytes_sub, List.drop_zero, Nat.sub_zero]
theorem bytes_from (s : ByteArray) (i : Nat) : bytesOf (s.extract i s.size) = (bytesOf s).drop i := by
  rw [bytes_sub, List.take_of_length_le (by rw [List.length_drop, bytes_len]; exact Nat.le_refl _)]
theorem back_id (l : List UInt8) : (l.map fun b => (b.toNat : Int)).map (fun x : Int => UInt8.ofNat x.toNat) = l := by
  rw [List.map_map]
  conv => rhs; rw [← List.map_id l]
  refine List.map_congr_left fun x _ => ?_
  simp
theorem bytes_inj {a b : ByteArray} (h : bytesOf a = bytesOf b) : a = b := by
  unfold bytesOf at h
  have h2 : a.data.toList = b.data.toList := by
    have h3 := congrArg (List.map fun x : Int => UInt8.ofNat x.toNat) h
    rwa [back_id, back_id] at h3
  cases a; cases b
  simp at h2
  simp [h2]
theorem text_eq {a b : ByteArray} : a.toList = b.toList ↔ a = b := by
  rw [Lib.toList_data, Lib.toList_data]
  constructor
  · intro h; cases a; cases b; simp at h; simp [h]
  · intro h; rw [h]
theorem text_bytes {a : ByteArray} {l : List UInt8} : a.toList = l ↔ bytesOf a = l.map fun b => (b.toNat : Int) := by
  rw [Lib.toList_data]
  constructor
  · intro h; rw [← h]; rfl
  · intro h
    have h3 := congrArg (List.map fun x : Int => UInt8.ofNat x.toNat) h
    unfold bytesOf at h3
    rwa [back_id, back_id] at h3
theorem nil_bytes {a : ByteArray} : a.toList = ([] : List UInt8) ↔ bytesOf a = [] := text_bytes
theorem str_cat (a b : List Int) : strOfNums a ++ strOfNums b = strOfNums (a ++ b) := by
  have h : (strOfNums a ++ strOfNums b).data.toList = (strOfNums (a ++ b)).data.toList := by
    rw [strOfNums_data, List.map_append, ← strOfNums_data, ← strOfNums_data]
    simp
  cases h1 : strOfNums a ++ strOfNums b with
  | mk x => cases h2 : strOfNums (a ++ b) with
    | mk y =>
      rw [h1, h2] at h
      simp at h
      rw [h]
theorem bytes_str {l : List Int} (h : ∀ x ∈ l, 0 ≤ x ∧ x < 256) : bytesOf (strOfNums l) = l := by
  unfold bytesOf
  rw [strOfNums_data, List.map_map]
  conv => rhs; rw [← List.map_id l]
  refine List.map_congr_left fun x hx => ?_
  have := h x hx
  simp only [Function.comp, id]
  rw [UInt8.toNat_ofNat']
  omega
theorem str_bytes (s : ByteArray) : strOfNums (bytesOf s) = s := bytes_inj (bytes_str fun x hx => bytes_range hx)
theorem str_size (l : List Int) : (strOfNums l).size = l.length := strOfNums_size l
theorem texts_at {l : List ByteArray} {i : Nat} (h : i < l.length) : rdOf ByteArray.empty l (i : Int) = l[i] := by
  unfold rdOf
  rw [Int.toNat_natCast, List.getD_eq_getElem?_getD, List.getElem?_eq_getElem h]
  rfl
theorem nums_at {l : List Int} {i : Nat} (h : i < l.length) : rd l (i : Int) = l[i] := by
  unfold rd
  rw [Int.toNat_natCast, List.getD_eq_getElem?_getD, List.getElem?_eq_getElem h]
  rfl
/-- What is not below a loop's bound, by the drop. -/
theorem drop_at {α : Type} {l : List α} {i : Nat} (h : i < l.length) : l.drop i = l[i] :: l.drop (i + 1) := List.drop_eq_getElem_cons h
/-- An `if` of which both answers are the same from some number of rounds on. -/
theorem Ev.ite {α : Type} {c : Prop} [Decidable c] {f g : Nat → Option α} {r : α} (h1 : c → Ev f r) (h2 : ¬c → Ev g r) : Ev (fun k => if c then f k else g k) r := by
  by_cases hc : c
  · exact Ev.congr (fun k => if_pos hc) (h1 hc)
  · exact Ev.congr (fun k => if_neg hc) (h2 hc)
end Go.Proofs.YtljlkpfiebcoeaaGreatDoor.Plain

namespace Go.Proofs.YtljlkpfiebcoeaaGreatDoor.U8
open Go Go.Lib
set_option linter.unusedVariables false
/-- What stands at the begin of n bytes that begin so: the sign, how long, is it one. -/
def spec (n b0 b1 b2 b3 : Nat) : Nat × Nat × Bool :=
  if b0 < 128 then (b0, 1, true)
  else if firstT b0 = 241 then (65533, 1, false)
  else if n ≤ 1 ∨ b1 < accLo (firstT b0 / 16) ∨ accHi (firstT b0 / 16) < b1 then (65533, 1, false)
  else if firstT b0 % 8 ≤ 2 then (b0 % 32 * 64 + b1 % 64, 2, true)
  else if n ≤ 2 ∨ b2 < 128 ∨ 191 < b2 then (65533, 2, false)
  else if firstT b0 % 8 ≤ 3 then (b0 % 16 * 4096 + b1 % 64 * 64 + b2 % 64, 3, true)
  else if n ≤ 3 ∨ b3 < 128 ∨ 191 < b3 then (65533, 3, false)
  else (b0 % 8 * 262144 + b1 % 64 * 4096 + b2 % 64 * 64 + b3 % 64, 4, true)
theorem firstT_classes (b : Nat) : (b < 128 ∧ firstT b = 240) ∨ ((128 ≤ b ∧ b < 194 ∨ 245 ≤ b) ∧ firstT b = 241) ∨ (194 ≤ b ∧ b < 224 ∧ firstT b = 2) ∨ (b = 224 ∧ firstT b = 19) ∨ ((225 ≤ b ∧ b < 237 ∨ 238 ≤ b ∧ b < 240) ∧ firstT b = 3) ∨ (b = 237 ∧ firstT b = 35) ∨ (b = 240 ∧ firstT b = 52) ∨ (241 ≤ b ∧ b < 244 ∧ firstT b = 4) ∨ (b = 244 ∧ firstT b = 68) := by
  unfold firstT
  repeat' split
  all_goals omega
theorem slow_spec (n b0 b1 b2 b3 t : Nat) (hn : 1 ≤ n) (h0 : 128 ≤ b0) (ht : firstT b0 = t) (hk : t = 2 ∨ t = 19 ∨ t = 3 ∨ t = 35 ∨ t = 52 ∨ t = 4 ∨ t = 68) :
    slowN n b0 b1 b2 b3 (t % 8) (accLo (t / 16)) (accHi (t / 16)) = (if (spec n b0 b1 b2 b3).2.2 then ((spec n b0 b1 b2 b3).1, (spec n b0 b1 b2 b3).2.1) else (65533, 1)) := by
  unfold spec
  rw [ht, if_neg (show ¬ b0 < 128 by omega), if_neg (show ¬ t = 241 by omega)]
  unfold slowN
  rcases hk with rfl | rfl | rfl | rfl | rfl | rfl | rfl <;> simp only [Nat.reduceMod, Nat.reduceDiv, Nat.reduceLeDiff, if_true, if_false, accLo, accHi, Nat.reduceEqDiff]
  all_goals
    repeat' split
    all_goals first | rfl | (exfalso; omega) | (simp_all <;> omega)
theorem decode_spec (n b0 b1 b2 b3 : Nat) (hn : 1 ≤ n) (h1 : b1 < 256) (h2 : b2 < 256) (h3 : b3 < 256) (h0 : b0 < 256) :
    decodeN n b0 b1 b2 b3 = (if (spec n b0 b1 b2 b3).2.2 then ((spec n b0 b1 b2 b3).1, (spec n b0 b1 b2 b3).2.1) else (65533, 1)) := by
  rcases firstT_classes b0 with ⟨hb, ht⟩ | ⟨hb, ht⟩ | ⟨hb, hb', ht⟩ | ⟨hb, ht⟩ | ⟨hb, ht⟩ | ⟨hb, ht⟩ | ⟨hb, ht⟩ | ⟨hb, hb', ht⟩ | ⟨hb, ht⟩
  · rw [ascii_eq _ _ _ _ _ ht]
    unfold spec
    simp [hb]
  · rw [bad_eq _ _ _ _ _ (by omega) ht]
    unfold spec
    rw [if_neg (show ¬ b0 < 128 by omega), if_pos ht]
    rfl
  all_goals
    rw [← slow_eq _ _ _ _ _ hn h1 h2 h3 (by omega), ht]
    exact slow_spec n b0 b1 b2 b3 _ hn (by omega) ht (by omega)
theorem spec_width (n b0 b1 b2 b3 : Nat) (hn : 1 ≤ n) : 1 ≤ (spec n b0 b1 b2 b3).2.1 ∧ (spec n b0 b1 b2 b3).2.1 ≤ 4 ∧ (spec n b0 b1 b2 b3).2.1 ≤ n := by
  unfold spec
  repeat' split
  all_goals simp only
  all_goals omega
theorem spec_bad (n b0 b1 b2 b3 : Nat) (h : (spec n b0 b1 b2 b3).2.2 = false) : (spec n b0 b1 b2 b3).1 = 65533 := by
  unfold spec at h ⊢
  repeat' split
  all_goals simp_all
/-- Is a number a sign? -/
def Right (c : Int) : Prop := 0 ≤ c ∧ c ≤ 1114111 ∧ (c < 55296 ∨ 57343 < c)
instance (c : Int) : Decidable (Right c) := inferInstanceAs (Decidable (_ ∧ _ ∧ _))
theorem acc_of (t : Nat) : (t = 2 → accLo (t / 16) = 128 ∧ accHi (t / 16) = 191) ∧ (t = 19 → accLo (t / 16) = 160 ∧ accHi (t / 16) = 191) ∧ (t = 3 → accLo (t / 16) = 128 ∧ accHi (t / 16) = 191) ∧ (t = 35 → accLo (t / 16) = 128 ∧ accHi (t / 16) = 159) ∧ (t = 52 → accLo (t / 16) = 144 ∧ accHi (t / 16) = 191) ∧ (t = 4 → accLo (t / 16) = 128 ∧ accHi (t / 16) = 191) ∧ (t = 68 → accLo (t / 16) = 128 ∧ accHi (t / 16) = 143) := by
  refine ⟨?_, ?_, ?_, ?_, ?_, ?_, ?_⟩ <;> (rintro rfl; decide)
theorem cons2 {α : Type} {a b : α} {l m : List α} (h : a = b) (k : l = m) : a :: l = b :: m := by rw [h, k]
/-- What a sign is, and its bytes. -/
theorem spec_ok (n b0 b1 b2 b3 : Nat) (h : (spec n b0 b1 b2 b3).2.2 = true) : Right ((spec n b0 b1 b2 b3).1 : Int) ∧ encodeRuneZ ((spec n b0 b1 b2 b3).1 : Int) = ([(b0 : Int), (b1 : Int), (b2 : Int), (b3 : Int)]).take (spec n b0 b1 b2 b3).2.1 := by
  obtain ⟨a1, a2, a3, a4, a5, a6, a7⟩ := acc_of (firstT b0)
  have hc := firstT_classes b0
  unfold spec at h ⊢
  split at h
  · rename_i hb
    simp only [if_pos hb]
    refine ⟨⟨by omega, by omega, by omega⟩, ?_⟩
    rw [encodeRuneZ_one (by omega) (by omega)]
    rfl
  rename_i hb
  split at h
  · cases h
  rename_i ht
  split at h
  · cases h
  rename_i g1
  split at h
  · rename_i s2
    simp only [if_neg hb, if_neg ht, if_neg g1, if_pos s2]
    have k : 194 ≤ b0 ∧ b0 < 224 ∧ 128 ≤ b1 ∧ b1 ≤ 191 := by
      rcases hc with ⟨hb, ht⟩ | ⟨hb, ht⟩ | ⟨hb, hb', ht⟩ | ⟨hb, ht⟩ | ⟨hb, ht⟩ | ⟨hb, ht⟩ | ⟨hb, ht⟩ | ⟨hb, hb', ht⟩ | ⟨hb, ht⟩ <;> rw [ht] at s2 <;> omega
    refine ⟨⟨by omega, by omega, by omega⟩, ?_⟩
    rw [encodeRuneZ_two (by omega) (by omega)]
    exact cons2 (by omega) (cons2 (by omega) rfl)
  rename_i s2
  split at h
  · cases h
  rename_i g2
  split at h
  · rename_i s3
    simp only [if_neg hb, if_neg ht, if_neg g1, if_neg s2, if_neg g2, if_pos s3]
    have k : 224 ≤ b0 ∧ b0 < 240 ∧ 128 ≤ b1 ∧ b1 ≤ 191 ∧ (b0 = 224 → 160 ≤ b1) ∧ (b0 = 237 → b1 ≤ 159) := by
      rcases hc with ⟨hb, ht⟩ | ⟨hb, ht⟩ | ⟨hb, hb', ht⟩ | ⟨hb, ht⟩ | ⟨hb, ht⟩ | ⟨hb, ht⟩ | ⟨hb, ht⟩ | ⟨hb, hb', ht⟩ | ⟨hb, ht⟩ <;> rw [ht] at s2 s3 <;> omega
    refine ⟨⟨by omega, by omega, by omega⟩, ?_⟩
    rw [encodeRuneZ_three (by omega)]
    exact cons2 (by omega) (cons2 (by omega) (cons2 (by omega) rfl))
  rename_i s3
  split at h
  · cases h
  rename_i g3
  simp only [if_neg hb, if_neg ht, if_neg g1, if_neg s2, if_neg g2, if_neg s3, if_neg g3]
  have k : 240 ≤ b0 ∧ b0 ≤ 244 ∧ 128 ≤ b1 ∧ b1 ≤ 191 ∧ (b0 = 240 → 144 ≤ b1) ∧ (b0 = 244 → b1 ≤ 143) := by
    rcases hc with ⟨hb, ht⟩ | ⟨hb, ht⟩ | ⟨hb, hb', ht⟩ | ⟨hb, ht⟩ | ⟨hb, ht⟩ | ⟨hb, ht⟩ | ⟨hb, ht⟩ | ⟨hb, hb', ht⟩ | ⟨hb, ht⟩ <;> rw [ht] at s2 s3 <;> omega
  refine ⟨⟨by omega, by omega, by omega⟩, ?_⟩
  rw [encodeRuneZ_four (by omega) (by omega)]
  exact cons2 (by omega) (cons2 (by omega) (cons2 (by omega) (cons2 (by omega) rfl)))
/-- A beginning that is not shorter than what is told tells the same. -/
theorem spec_take (n m b0 b1 b2 b3 c1 c2 c3 : Nat) (h1 : (spec n b0 b1 b2 b3).2.1 ≤ m) (h2 : m ≤ n) (e1 : 1 < m → c1 = b1) (e2 : 2 < m → c2 = b2) (e3 : 3 < m → c3 = b3) : spec m b0 c1 c2 c3 = spec n b0 b1 b2 b3 := by
  have key : ∀ p : Nat × Nat × Bool, p = spec n b0 b1 b2 b3 → spec m b0 c1 c2 c3 = p := by
    intro p hp
    rw [← hp] at h1
    unfold spec at hp ⊢
    split at hp
    · rename_i hb; rw [if_pos hb, hp]
    rename_i hb; rw [if_neg hb]
    split at hp
    · rename_i ht; rw [if_pos ht, hp]
    rename_i ht; rw [if_neg ht]
    split at hp
    · rename_i g1
      rw [if_pos (by rcases Nat.lt_or_ge 1 m with hm | hm <;> first | omega | (rw [e1 hm]; omega)), hp]
    rename_i g1
    split at hp
    · rename_i s2
      subst hp
      simp only at h1
      rw [if_neg (by rw [e1 (by omega)]; omega), if_pos s2, e1 (by omega)]
    rename_i s2
    split at hp
    · rename_i g2
      subst hp
      simp only at h1
      rw [if_neg (by rw [e1 (by omega)]; omega), if_neg s2, if_pos (by rcases Nat.lt_or_ge 2 m with hm | hm <;> first | omega | (rw [e2 hm]; omega))]
    rename_i g2
    split at hp
    · rename_i s3
      subst hp
      simp only at h1
      rw [if_neg (by rw [e1 (by omega)]; omega), if_neg s2, if_neg (by rw [e2 (by omega)]; omega), if_pos s3, e1 (by omega), e2 (by omega)]
    rename_i s3
    split at hp
    · rename_i g3
      subst hp
      simp only at h1
      rw [if_neg (by rw [e1 (by omega)]; omega), if_neg s2, if_neg (by rw [e2 (by omega)]; omega), if_neg s3, if_pos (by rcases Nat.lt_or_ge 3 m with hm | hm <;> first | omega | (rw [e3 hm]; omega))]
    · rename_i g3
      subst hp
      simp only at h1
      rw [if_neg (by rw [e1 (by omega)]; omega), if_neg s2, if_neg (by rw [e2 (by omega)]; omega), if_neg s3, if_neg (by rw [e3 (by omega)]; omega), e1 (by omega), e2 (by omega), e3 (by omega)]
  exact key _ rfl
/-- A sign's bytes tell it. -/
theorem spec_one (n c b1 b2 b3 : Nat) (h : c < 128) : spec n c b1 b2 b3 = (c, 1, true) := by unfold spec; rw [if_pos h]
theorem spec_two (n c b2 b3 : Nat) (h0 : 128 ≤ c) (h1 : c < 2048) (hn : 2 ≤ n) : spec n (192 + c / 64) (128 + c % 64) b2 b3 = (c, 2, true) := by
  have ht : firstT (192 + c / 64) = 2 := by have := firstT_classes (192 + c / 64); omega
  unfold spec
  rw [ht]
  simp only [accLo, accHi, Nat.reduceDiv, Nat.reduceMod, Nat.reduceEqDiff, if_true, if_false, Nat.reduceLeDiff]
  rw [if_neg (by omega), if_neg (by omega)]
  congr 1
  omega
theorem spec_three (n c b3 : Nat) (h0 : 2048 ≤ c) (h1 : c < 65536) (hs : c < 55296 ∨ 57343 < c) (hn : 3 ≤ n) : spec n (224 + c / 4096) (128 + c / 64 % 64) (128 + c % 64) b3 = (c, 3, true) := by
  have hc := firstT_classes (224 + c / 4096)
  have ht : (224 + c / 4096 = 224 ∧ firstT (224 + c / 4096) = 19) ∨ (224 + c / 4096 ≠ 224 ∧ 224 + c / 4096 ≠ 237 ∧ firstT (224 + c / 4096) = 3) ∨ (224 + c / 4096 = 237 ∧ firstT (224 + c / 4096) = 35) := by omega
  unfold spec
  rcases ht with ⟨hb, ht⟩ | ⟨hb, hb', ht⟩ | ⟨hb, ht⟩
  all_goals
    rw [ht]
    simp only [accLo, accHi, Nat.reduceDiv, Nat.reduceMod, Nat.reduceEqDiff, if_true, if_false, Nat.reduceLeDiff]
    rw [if_neg (by omega), if_neg (by omega), if_neg (by omega)]
    congr 1
    omega
theorem spec_four (n c : Nat) (h0 : 65536 ≤ c) (h1 : c ≤ 1114111) (hn : 4 ≤ n) : spec n (240 + c / 262144) (128 + c / 4096 % 64) (128 + c / 64 % 64) (128 + c % 64) = (c, 4, true) := by
  have hc := firstT_classes (240 + c / 262144)
  have ht : (240 + c / 262144 = 240 ∧ firstT (240 + c / 262144) = 52) ∨ (240 + c / 262144 ≠ 240 ∧ 240 + c / 262144 ≠ 244 ∧ firstT (240 + c / 262144) = 4) ∨ (240 + c / 262144 = 244 ∧ firstT (240 + c / 262144) = 68) := by omega
  unfold spec
  rcases ht with ⟨hb, ht⟩ | ⟨hb, hb', ht⟩ | ⟨hb, ht⟩
  all_goals
    rw [ht]
    simp only [accLo, accHi, Nat.reduceDiv, Nat.reduceMod, Nat.reduceEqDiff, if_true, if_false, Nat.reduceLeDiff]
    rw [if_neg (by omega), if_neg (by omega), if_neg (by omega), if_neg (by omega)]
    congr 1
    omega
end Go.Proofs.YtljlkpfiebcoeaaGreatDoor.U8

namespace Go.Proofs.YtljlkpfiebcoeaaGreatDoor.U8
open Go Go.Lib
set_option linter.unusedVariables false
def B (l : List UInt8) (i : Nat) : Nat := (l.getD i 0).toNat
theorem B_lt (l : List UInt8) (i : Nat) : B l i < 256 := UInt8.toNat_lt _
/-- What stands at a list's begin. -/
def nxt (l : List UInt8) : Nat × Nat × Bool := spec l.length (B l 0) (B l 1) (B l 2) (B l 3)
/-- A number's bytes. -/
def encB (c : Nat) : List UInt8 := (encodeRuneZ (c : Int)).map fun x => x.toNat.toUInt8
theorem nxt_width {l : List UInt8} (h : l ≠ []) : 1 ≤ (nxt l).2.1 ∧ (nxt l).2.1 ≤ 4 ∧ (nxt l).2.1 ≤ l.length :=
  spec_width _ _ _ _ _ (by have := List.length_pos_iff.2 h; omega)
theorem take_bytes (l : List UInt8) (w : Nat) (hw : w ≤ 4) (hl : w ≤ l.length) : (([(B l 0 : Int), (B l 1 : Int), (B l 2 : Int), (B l 3 : Int)]).take w).map (fun x => x.toNat.toUInt8) = l.take w := by
  have hb : ∀ a : UInt8, (((a.toNat : Nat) : Int)).toNat.toUInt8 = a := fun a => by simp
  rcases l with _ | ⟨a, _ | ⟨b, _ | ⟨c, _ | ⟨d, l⟩⟩⟩⟩
  all_goals
    rcases w with _ | _ | _ | _ | _ | w <;> first | (simp [B]; done) | (simp at hl; done) | (simp at hl; omega) | omega
theorem nxt_ok {l : List UInt8} (hl : l ≠ []) (h : (nxt l).2.2 = true) : Right ((nxt l).1 : Int) ∧ encB (nxt l).1 = l.take (nxt l).2.1 := by
  obtain ⟨h1, h2⟩ := spec_ok _ _ _ _ _ h
  have hw := nxt_width hl
  refine ⟨h1, ?_⟩
  unfold encB
  rw [show encodeRuneZ ((nxt l).1 : Int) = _ from h2]
  exact take_bytes l _ hw.2.1 hw.2.2
theorem nxt_bad {l : List UInt8} (h : (nxt l).2.2 = false) : (nxt l).1 = 65533 := spec_bad _ _ _ _ _ h
theorem right_65533 : Right ((65533 : Nat) : Int) := by decide
theorem nxt_right {l : List UInt8} (hl : l ≠ []) : Right ((nxt l).1 : Int) := by
  cases h : (nxt l).2.2 with
  | true => exact (nxt_ok hl h).1
  | false => rw [nxt_bad h]; exact right_65533
theorem enc_cases (c : Nat) (h : Right (c : Int)) : (c < 128 ∧ encB c = [c.toUInt8]) ∨ (128 ≤ c ∧ c < 2048 ∧ encB c = [(192 + c / 64).toUInt8, (128 + c % 64).toUInt8]) ∨
    (2048 ≤ c ∧ c < 65536 ∧ (c < 55296 ∨ 57343 < c) ∧ encB c = [(224 + c / 4096).toUInt8, (128 + c / 64 % 64).toUInt8, (128 + c % 64).toUInt8]) ∨
    (65536 ≤ c ∧ c ≤ 1114111 ∧ encB c = [(240 + c / 262144).toUInt8, (128 + c / 4096 % 64).toUInt8, (128 + c / 64 % 64).toUInt8, (128 + c % 64).toUInt8]) := by
  obtain ⟨h0, h1, h2⟩ := h
  unfold encB
  by_cases c1 : c < 128
  · refine .inl ⟨c1, ?_⟩
    rw [encodeRuneZ_one (by omega) (by omega)]
    simp
  by_cases c2 : c < 2048
  · refine .inr (.inl ⟨by omega, c2, ?_⟩)
    rw [encodeRuneZ_two (by omega) (by omega)]
    simp only [List.map_cons, List.map_nil]
    exact cons2 (congrArg _ (by omega)) (cons2 (congrArg _ (by omega)) rfl)
  by_cases c3 : c < 65536
  · refine .inr (.inr (.inl ⟨by omega, c3, by omega, ?_⟩))
    rw [encodeRuneZ_three (by omega)]
    simp only [List.map_cons, List.map_nil]
    exact cons2 (congrArg _ (by omega)) (cons2 (congrArg _ (by omega)) (cons2 (congrArg _ (by omega)) rfl))
  · refine .inr (.inr (.inr ⟨by omega, by omega, ?_⟩))
    rw [encodeRuneZ_four (by omega) (by omega)]
    simp only [List.map_cons, List.map_nil]
    exact cons2 (congrArg _ (by omega)) (cons2 (congrArg _ (by omega)) (cons2 (congrArg _ (by omega)) (cons2 (congrArg _ (by omega)) rfl)))
theorem nat_byte {n : Nat} (h : n < 256) : n.toUInt8.toNat = n := by simp; omega
/-- A sign's bytes, with whatever behind, tell it. -/
theorem nxt_enc (c : Nat) (h : Right (c : Int)) (r : List UInt8) : nxt (encB c ++ r) = (c, (encB c).length, true) := by
  rcases enc_cases c h with ⟨h0, e⟩ | ⟨h0, h1, e⟩ | ⟨h0, h1, h2, e⟩ | ⟨h0, h1, e⟩
  · rw [e]
    unfold nxt
    rw [show B ([c.toUInt8] ++ r) 0 = c from by unfold B; simp; omega]
    exact spec_one _ _ _ _ _ h0
  · rw [e]
    unfold nxt
    rw [show B ([(192 + c / 64).toUInt8, (128 + c % 64).toUInt8] ++ r) 0 = 192 + c / 64 from nat_byte (by omega), show B ([(192 + c / 64).toUInt8, (128 + c % 64).toUInt8] ++ r) 1 = 128 + c % 64 from nat_byte (by omega)]
    exact spec_two _ _ _ _ h0 h1 (by simp)
  · rw [e]
    unfold nxt
    rw [show B ([(224 + c / 4096).toUInt8, (128 + c / 64 % 64).toUInt8, (128 + c % 64).toUInt8] ++ r) 0 = 224 + c / 4096 from nat_byte (by omega), show B ([(224 + c / 4096).toUInt8, (128 + c / 64 % 64).toUInt8, (128 + c % 64).toUInt8] ++ r) 1 = 128 + c / 64 % 64 from nat_byte (by omega), show B ([(224 + c / 4096).toUInt8, (128 + c / 64 % 64).toUInt8, (128 + c % 64).toUInt8] ++ r) 2 = 128 + c % 64 from nat_byte (by omega)]
    exact spec_three _ _ _ h0 h1 h2 (by simp)
  · rw [e]
    unfold nxt
    rw [show B ([(240 + c / 262144).toUInt8, (128 + c / 4096 % 64).toUInt8, (128 + c / 64 % 64).toUInt8, (128 + c % 64).toUInt8] ++ r) 0 = 240 + c / 262144 from nat_byte (by omega), show B ([(240 + c / 262144).toUInt8, (128 + c / 4096 % 64).toUInt8, (128 + c / 64 % 64).toUInt8, (128 + c % 64).toUInt8] ++ r) 1 = 128 + c / 4096 % 64 from nat_byte (by omega), show B ([(240 + c / 262144).toUInt8, (128 + c / 4096 % 64).toUInt8, (128 + c / 64 % 64).toUInt8, (128 + c % 64).toUInt8] ++ r) 2 = 128 + c / 64 % 64 from nat_byte (by omega), show B ([(240 + c / 262144).toUInt8, (128 + c / 4096 % 64).toUInt8, (128 + c / 64 % 64).toUInt8, (128 + c % 64).toUInt8] ++ r) 3 = 128 + c % 64 from nat_byte (by omega)]
    exact spec_four _ _ h0 h1 (by simp)
theorem enc_length (c : Nat) (h : Right (c : Int)) : 1 ≤ (encB c).length ∧ (encB c).length ≤ 4 := by
  rcases enc_cases c h with ⟨h0, e⟩ | ⟨h0, h1, e⟩ | ⟨h0, h1, h2, e⟩ | ⟨h0, h1, e⟩ <;> rw [e] <;> simp
/-- What stands at a beginning's begin. -/
theorem nxt_take {l : List UInt8} (hl : l ≠ []) {m : Nat} (h : (nxt l).2.1 ≤ m) : nxt (l.take m) = nxt l := by
  rcases Nat.lt_or_ge l.length m with hm | hm
  · rw [List.take_of_length_le (by omega)]
  · have hw := nxt_width hl
    have hB : ∀ i, i < m → B (l.take m) i = B l i := fun i hi => by
      unfold B
      rw [List.getD_eq_getElem?_getD, List.getD_eq_getElem?_getD, List.getElem?_take, if_pos hi]
    have hm0 : 0 < m := by omega
    unfold nxt at h ⊢
    rw [List.length_take, Nat.min_eq_left hm, hB 0 hm0]
    exact spec_take _ _ _ _ _ _ _ _ _ h hm (hB 1) (hB 2) (hB 3)
/-! its signs one by one -/
def itemsN : Nat → List UInt8 → List (Nat × Nat × Bool)
  | 0, _ => []
  | n + 1, l => if l = [] then [] else nxt l :: itemsN n (l.drop (nxt l).2.1)
def items (l : List UInt8) : List (Nat × Nat × Bool) := itemsN l.length l
theorem itemsN_fuel : ∀ (n m : Nat) (l : List UInt8), l.length ≤ n → l.length ≤ m → itemsN n l = itemsN m l := by
  intro n
  induction n with
  | zero =>
    intro m l h1 h2
    obtain rfl : l = [] := List.eq_nil_of_length_eq_zero (by omega)
    cases m <;> simp [itemsN]
  | succ n ih =>
    intro m l h1 h2
    by_cases hl : l = []
    · subst hl
      cases m <;> simp [itemsN]
    · have hw := nxt_width hl
      have h0 := List.length_pos_iff.2 hl
      obtain ⟨m, rfl⟩ : ∃ k, m = k + 1 := ⟨m - 1, by omega⟩
      simp only [itemsN, if_neg hl]
      rw [ih m (l.drop (nxt l).2.1) (by rw [List.length_drop]; omega) (by rw [List.length_drop]; omega)]
theorem items_nil : items [] = [] := rfl
theorem items_cons {l : List UInt8} (hl : l ≠ []) : items l = nxt l :: items (l.drop (nxt l).2.1) := by
  have hw := nxt_width hl
  have h0 := List.length_pos_iff.2 hl
  obtain ⟨n, hn⟩ : ∃ n, l.length = n + 1 := ⟨l.length - 1, by omega⟩
  unfold items
  rw [hn]
  simp only [itemsN, if_neg hl]
  rw [itemsN_fuel n _ (l.drop (nxt l).2.1) (by rw [List.length_drop]; omega) (Nat.le_refl _)]
theorem items_ind {P : List UInt8 → Prop} (h0 : P []) (h1 : ∀ l, l ≠ [] → P (l.drop (nxt l).2.1) → P l) : ∀ l, P l := by
  have key : ∀ n (l : List UInt8), l.length ≤ n → P l := by
    intro n
    induction n with
    | zero => intro l h; obtain rfl : l = [] := List.eq_nil_of_length_eq_zero (by omega); exact h0
    | succ n ih =>
      intro l h
      by_cases hl : l = []
      · subst hl; exact h0
      · exact h1 l hl (ih _ (by rw [List.length_drop]; have := nxt_width hl; omega))
  exact fun l => key l.length l (Nat.le_refl _)
/-- Are they a text? -/
def text (l : List UInt8) : Bool := (items l).all fun p => p.2.2
/-- They mended. -/
def mend (l : List UInt8) : List UInt8 := (items l).flatMap fun p => encB p.1
def signs (l : List UInt8) : List Int := (items l).map fun p => (p.1 : Int)
theorem text_cons {l : List UInt8} (hl : l ≠ []) : text l = ((nxt l).2.2 && text (l.drop (nxt l).2.1)) := by unfold text; rw [items_cons hl]; rfl
theorem mend_cons {l : List UInt8} (hl : l ≠ []) : mend l = encB (nxt l).1 ++ mend (l.drop (nxt l).2.1) := by unfold mend; rw [items_cons hl]; rfl
theorem signs_cons {l : List UInt8} (hl : l ≠ []) : signs l = ((nxt l).1 : Int) :: signs (l.drop (nxt l).2.1) := by unfold signs; rw [items_cons hl]; rfl
theorem mend_text : ∀ l : List UInt8, text l = true → mend l = l := by
  refine items_ind (fun _ => rfl) (fun l hl ih h => ?_)
  rw [text_cons hl, Bool.and_eq_true] at h
  rw [mend_cons hl, ih h.2, (nxt_ok hl h.1).2, List.take_append_drop]
theorem items_mend : ∀ l : List UInt8, items (mend l) = (items l).map fun p => (p.1, (encB p.1).length, true) := by
  refine items_ind rfl (fun l hl ih => ?_)
  have hr := nxt_right hl
  have hlen := enc_length _ hr
  have hne : encB (nxt l).1 ++ mend (l.drop (nxt l).2.1) ≠ [] := by
    intro h
    have := congrArg List.length h
    rw [List.length_append] at this
    simp at this
    rw [this.1] at hlen
    simp at hlen
  rw [mend_cons hl, items_cons hne, nxt_enc _ hr, items_cons hl, List.drop_left, ih]
  rfl
theorem text_mended (l : List UInt8) : text (mend l) = true := by
  unfold text
  rw [items_mend, List.all_map]
  simp
theorem mend_mended (l : List UInt8) : mend (mend l) = mend l := mend_text _ (text_mended l)
theorem mend_same (l : List UInt8) : mend l = l ↔ text l = true := ⟨fun h => by rw [← h]; exact text_mended l, mend_text l⟩
theorem signs_mended (l : List UInt8) : signs (mend l) = signs l := by
  unfold signs
  rw [items_mend, List.map_map]
  rfl
theorem mend_length : ∀ l : List UInt8, (mend l).length ≤ 3 * l.length := by
  refine items_ind (by simp [mend, items_nil]) (fun l hl ih => ?_)
  have hw := nxt_width hl
  rw [mend_cons hl, List.length_append]
  rw [List.length_drop] at ih
  have : (encB (nxt l).1).length ≤ 3 * (nxt l).2.1 := by
    cases h : (nxt l).2.2 with
    | true =>
      rw [(nxt_ok hl h).2, List.length_take]
      omega
    | false =>
      rw [nxt_bad h, show (encB 65533).length = 3 from by decide]
      omega
  omega
/-! cuts -/
def wsum (p : List (Nat × Nat × Bool)) : Nat := (p.map fun x => x.2.1).sum
theorem wsum_cons (x : Nat × Nat × Bool) (p : List (Nat × Nat × Bool)) : wsum (x :: p) = x.2.1 + wsum p := rfl
theorem wsum_items : ∀ l : List UInt8, wsum (items l) = l.length := by
  refine items_ind rfl (fun l hl ih => ?_)
  have hw := nxt_width hl
  rw [items_cons hl, wsum_cons, ih, List.length_drop]
  omega
/-- The items of a beginning that ends where one of them does. -/
theorem items_take : ∀ (l : List UInt8) (p q : List (Nat × Nat × Bool)), items l = p ++ q → items (l.take (wsum p)) = p := by
  refine items_ind (fun p q h => ?_) (fun l hl ih p q h => ?_)
  · rw [items_nil] at h
    have := List.append_eq_nil_iff.1 h.symm
    rw [this.1]
    rfl
  · cases p with
    | nil => rfl
    | cons x p =>
      rw [items_cons hl] at h
      obtain ⟨rfl, h2⟩ := List.cons.inj h
      have hw := nxt_width hl
      have hle : (nxt l).2.1 ≤ wsum (nxt l :: p) := by rw [wsum_cons]; omega
      have hne : l.take (wsum (nxt l :: p)) ≠ [] := by
        intro e
        have := congrArg List.length e
        have h0 := List.length_pos_iff.2 hl
        rw [List.length_take, List.length_nil] at this
        omega
      have hn := nxt_take hl hle
      rw [items_cons hne, hn, List.drop_take, show wsum (nxt l :: p) - (nxt l).2.1 = wsum p from by rw [wsum_cons]; omega, ih p q h2]
/-- How far a cut goes, from a place on. -/
def cutAt (most : Int) : List (Nat × Nat × Bool) → Nat → Nat
  | [], at_ => at_
  | x :: r, at_ => if (x.2.1 : Int) > most - at_ then at_ else cutAt most r (at_ + x.2.1)
theorem cutAt_parts (most : Int) : ∀ (it : List (Nat × Nat × Bool)) (at_ : Nat), ∃ p q, it = p ++ q ∧ cutAt most it at_ = at_ + wsum p ∧ (at_ + wsum p = at_ ∨ ((at_ + wsum p : Nat) : Int) ≤ most) ∧ (q = [] ∨ ∃ x r, q = x :: r ∧ (x.2.1 : Int) > most - (at_ + wsum p : Nat)) := by
  intro it
  induction it with
  | nil => exact fun at_ => ⟨[], [], rfl, rfl, .inl rfl, .inl rfl⟩
  | cons x it ih =>
    intro at_
    by_cases h : (x.2.1 : Int) > most - at_
    · exact ⟨[], x :: it, rfl, by simp [cutAt, h, wsum], .inl rfl, .inr ⟨x, it, rfl, by simpa [wsum] using h⟩⟩
    · obtain ⟨p, q, h1, h2, h3, h4⟩ := ih (at_ + x.2.1)
      refine ⟨x :: p, q, by rw [h1]; rfl, by rw [wsum_cons, ← Nat.add_assoc]; simpa [cutAt, h] using h2, ?_, ?_⟩
      · rw [wsum_cons, ← Nat.add_assoc]
        rcases h3 with h3 | h3
        · right; omega
        · exact .inr h3
      · rw [wsum_cons, ← Nat.add_assoc]; exact h4
/-- What fits is not cut. -/
theorem cutAt_all (most : Int) : ∀ (it : List (Nat × Nat × Bool)) (at_ : Nat), (((at_ + wsum it : Nat) : Int) ≤ most) → cutAt most it at_ = at_ + wsum it := by
  intro it
  induction it with
  | nil => exact fun at_ _ => rfl
  | cons x it ih =>
    intro at_ h
    rw [wsum_cons, ← Nat.add_assoc] at h ⊢
    rw [cutAt, if_neg (by omega)]
    exact ih _ h
end Go.Proofs.YtljlkpfiebcoeaaGreatDoor.U8

namespace Go.Proofs.YtljlkpfiebcoeaaGreatDoor.Rf
open Go Go.Lib
set_option linter.unusedVariables false
abbrev Names := List (List UInt8 × Int)
def NT1 : Names := [([97, 109, 112], 38), ([108, 116], 60), ([103, 116], 62), ([113, 117, 111, 116], 34), ([97, 112, 111, 115], 39), ([110, 98, 115, 112], 160), ([99, 111, 112, 121], 169), ([114, 101, 103], 174), ([99, 101, 110, 116], 162), ([112, 111, 117, 110, 100], 163), ([121, 101, 110], 165), ([115, 101, 99, 116], 167), ([100, 101, 103], 176), ([112, 108, 117, 115, 109, 110], 177), ([112, 97, 114, 97], 182), ([109, 105, 100, 100, 111, 116], 183), ([108, 97, 113, 117, 111], 171), ([114, 97, 113, 117, 111], 187), ([102, 114, 97, 99, 49, 50], 189), ([116, 105, 109, 101, 115], 215), ([100, 105, 118, 105, 100, 101], 247), ([97, 103, 114, 97, 118, 101], 224), ([97, 97, 99, 117, 116, 101], 225), ([97, 99, 105, 114, 99], 226), ([97, 117, 109, 108], 228), ([97, 114, 105, 110, 103], 229), ([97, 101, 108, 105, 103], 230), ([99, 99, 101, 100, 105, 108], 231)]
def NT2 : Names := [([101, 103, 114, 97, 118, 101], 232), ([101, 97, 99, 117, 116, 101], 233), ([101, 99, 105, 114, 99], 234), ([105, 97, 99, 117, 116, 101], 237), ([110, 116, 105, 108, 100, 101], 241), ([111, 97, 99, 117, 116, 101], 243), ([111, 117, 109, 108], 246), ([111, 115, 108, 97, 115, 104], 248), ([117, 97, 99, 117, 116, 101], 250), ([117, 117, 109, 108], 252), ([115, 122, 108, 105, 103], 223), ([65, 117, 109, 108], 196), ([79, 117, 109, 108], 214), ([85, 117, 109, 108], 220), ([69, 97, 99, 117, 116, 101], 201), ([110, 100, 97, 115, 104], 8211), ([109, 100, 97, 115, 104], 8212), ([108, 115, 113, 117, 111], 8216), ([114, 115, 113, 117, 111], 8217), ([108, 100, 113, 117, 111], 8220), ([114, 100, 113, 117, 111], 8221), ([98, 117, 108, 108], 8226), ([104, 101, 108, 108, 105, 112], 8230), ([101, 117, 114, 111], 8364), ([116, 114, 97, 100, 101], 8482), ([108, 97, 114, 114], 8592), ([114, 97, 114, 114], 8594), ([104, 101, 97, 114, 116, 115], 9829)]
def shorts : List (List UInt8) := [[97, 109, 112], [108, 116], [103, 116], [113, 117, 111, 116], [110, 98, 115, 112], [99, 111, 112, 121], [114, 101, 103]]
def lookIn : Names → List UInt8 → Int × Bool
  | [], _ => (0, false)
  | x :: r, l => if l = x.1 then (x.2, true) else lookIn r l
theorem lookIn_append (a b : Names) (l : List UInt8) : lookIn (a ++ b) l = if (lookIn a l).2 = true then lookIn a l else lookIn b l := by
  induction a with
  | nil => simp [lookIn]
  | cons x a ih =>
    simp only [List.cons_append, lookIn]
    by_cases h : l = x.1
    · simp [h]
    · simp only [if_neg h]
      exact ih
def NT : Names := NT1 ++ NT2
def look (l : List UInt8) : Int × Bool := lookIn NT l
def wtab : List Int := [8364, 129, 8218, 402, 8222, 8230, 8224, 8225, 710, 8240, 352, 8249, 338, 141, 381, 143, 144, 8216, 8217, 8220, 8221, 8226, 8211, 8212, 732, 8482, 353, 8250, 339, 157, 382, 376]
/-- A number's sign. -/
def numOf (n : Nat) : Int := if n = 0 ∨ n > 1114111 ∨ (55296 ≤ n ∧ n ≤ 57343) then 65533 else if 128 ≤ n ∧ n < 160 then wtab.getD (n - 128) 0 else (n : Int)
def hexv (c : Nat) : Nat := if 48 ≤ c ∧ c ≤ 57 then c - 48 else if 97 ≤ c ∧ c ≤ 102 then c - 87 else if 65 ≤ c ∧ c ≤ 70 then c - 55 else 16
/-- Does a byte go on a name? -/
def wordy (c : Nat) : Bool := c == 61 || (decide (97 ≤ c) && decide (c ≤ 122)) || (decide (65 ≤ c) && decide (c ≤ 90)) || (decide (48 ≤ c) && decide (c ≤ 57))
def wordyAt : List UInt8 → Bool
  | [] => false
  | c :: _ => wordy c.toNat
def isD (base : Nat) (c : UInt8) : Bool := decide (hexv c.toNat < base)
def addD (base n : Nat) (c : UInt8) : Nat := min (n * base + hexv c.toNat) 4294967295
def baseOf (l : List UInt8) : Nat × Nat := if l[2]? = some 120 ∨ l[2]? = some 88 then (16, 3) else (10, 2)
/-- Behind the digits: how many bytes with the end. -/
def endAt (l : List UInt8) (e : Nat) : Nat := if l[e]? = some 59 then e + 1 else e
def numRef (l : List UInt8) : Option (Int × Nat) :=
  let ds := (l.drop (baseOf l).2).takeWhile (isD (baseOf l).1)
  if ds = [] then none else some (numOf (ds.foldl (addD (baseOf l).1) 0), endAt l ((baseOf l).2 + ds.length))
def nameAt : Names → List UInt8 → Option (Int × Nat)
  | [], _ => none
  | x :: r, l => if (x.1 ++ [59]).isPrefixOf l = true then some (x.2, x.1.length + 2) else nameAt r l
def shortAt (attr : Bool) : List (List UInt8) → List UInt8 → Option (Int × Nat)
  | [], _ => none
  | n :: r, l => if n.isPrefixOf l = true ∧ ¬ (attr = true ∧ wordyAt (l.drop n.length) = true) then some ((look n).1, n.length + 1) else shortAt attr r l
/-- The reference that a list begins with: its sign, how long. -/
def nextRef (attr : Bool) (l : List UInt8) : Option (Int × Nat) :=
  if [38, 35].isPrefixOf l = true then numRef l
  else if [38].isPrefixOf l = true then (match nameAt NT (l.drop 1) with | some r => some r | none => shortAt attr shorts (l.drop 1))
  else none
/-! cut at the first ';' -/
theorem index_step (c b : UInt8) (l : List UInt8) : Lib.index (b :: l) [c] = if c = b then 0 else if Lib.index l [c] = -1 then -1 else Lib.index l [c] + 1 := by
  show (if List.isPrefixOf [c] (b :: l) = true then (0 : Int) else if (Lib.index l [c] == -1) = true then -1 else Lib.index l [c] + 1) = _
  have hp : (List.isPrefixOf [c] (b :: l) = true) = (c = b) := by simp
  have hq : ((Lib.index l [c] == -1) = true) = (Lib.index l [c] = -1) := by simp
  simp only [hp, hq]
theorem index_byte (c : UInt8) : ∀ l : List UInt8, Lib.index l [c] = if c ∈ l then (((l.takeWhile (· != c)).length : Nat) : Int) else -1 := by
  intro l
  induction l with
  | nil => rfl
  | cons b l ih =>
    rw [index_step, ih]
    by_cases h : c = b
    · subst h
      rw [if_pos rfl, if_pos (List.mem_cons_self ..), List.takeWhile_cons_of_neg (by simp)]
      rfl
    · have hb : (b != c) = true := by simpa using fun e => h e.symm
      rw [if_neg h]
      by_cases hm : c ∈ l
      · rw [if_pos hm, if_pos (List.mem_cons_of_mem _ hm), if_neg (by omega), List.takeWhile_cons_of_pos (p := fun x => x != c) hb, List.length_cons]
        omega
      · have hn : c ∉ b :: l := fun q => (List.mem_cons.1 q).elim h hm
        rw [if_neg hm, if_neg hn, if_pos rfl]
theorem cut_byte (c : UInt8) (l : List UInt8) : Lib.cut l [c] = if c ∈ l then (l.takeWhile (· != c), l.drop ((l.takeWhile (· != c)).length + 1), true) else (l, [], false) := by
  unfold Lib.cut
  rw [index_byte]
  by_cases h : c ∈ l
  · simp only [if_pos h]
    rw [if_pos (Int.natCast_nonneg _), Int.toNat_natCast]
    congr 1
    exact (List.prefix_iff_eq_take.1 (List.takeWhile_prefix _)).symm
  · simp only [if_neg h]
    rw [if_neg (by omega)]
theorem prefix_name {n l : List UInt8} (hn : (59 : UInt8) ∉ n) : (n ++ [59]).isPrefixOf l = true ↔ (59 : UInt8) ∈ l ∧ l.takeWhile (· != 59) = n := by
  rw [List.isPrefixOf_iff_prefix]
  constructor
  · rintro ⟨r, rfl⟩
    refine ⟨by simp, ?_⟩
    rw [List.append_assoc, List.takeWhile_append_of_pos (fun x hx => bne_iff_ne.2 (fun e => hn (by rw [← e]; exact hx)))]
    simp
  · rintro ⟨hm, rfl⟩
    have h1 := List.takeWhile_append_dropWhile (p := (· != (59 : UInt8))) (l := l)
    cases hd : l.dropWhile (· != 59) with
    | nil =>
      rw [hd, List.append_nil] at h1
      rw [← h1] at hm
      have := List.all_eq_true.1 (List.all_takeWhile (p := (· != (59 : UInt8))) (l := l)) 59 hm
      simp at this
    | cons b r =>
      have hb : b = 59 := by
        have := List.head_dropWhile_not (· != (59 : UInt8)) (l := l) (by rw [hd]; simp)
        simp only [hd, List.head_cons] at this
        simpa using this
      rw [hd, hb] at h1
      exact ⟨r, by rw [List.append_assoc]; exact h1⟩
theorem nameAt_look : ∀ (N : Names), (∀ x ∈ N, (59 : UInt8) ∉ x.1) → ∀ l : List UInt8, nameAt N l = if (59 : UInt8) ∈ l ∧ (lookIn N (l.takeWhile (· != 59))).2 = true then some ((lookIn N (l.takeWhile (· != 59))).1, (l.takeWhile (· != 59)).length + 2) else none := by
  intro N
  induction N with
  | nil => intro _ l; simp [nameAt, lookIn]
  | cons x N ih =>
    intro hN l
    have hx := hN x (List.mem_cons_self ..)
    simp only [nameAt, lookIn]
    by_cases h : (x.1 ++ [59]).isPrefixOf l = true
    · obtain ⟨hm, e⟩ := (prefix_name hx).1 h
      rw [if_pos h, e]
      simp [hm]
    · rw [if_neg h, ih (fun y hy => hN y (List.mem_cons_of_mem _ hy)) l]
      by_cases e : l.takeWhile (· != 59) = x.1
      · have hm : (59 : UInt8) ∉ l := fun hm => h ((prefix_name hx).2 ⟨hm, e⟩)
        simp [hm]
      · simp only [if_neg e]
theorem NT_names : ∀ x ∈ NT, (59 : UInt8) ∉ x.1 := by decide +kernel
/-! decoded -/
def encI (c : Int) : List UInt8 := (encodeRuneZ c).map fun x => x.toNat.toUInt8
theorem prefix_len {a l : List UInt8} (h : a.isPrefixOf l = true) : a.length ≤ l.length := (List.isPrefixOf_iff_prefix.1 h).length_le
theorem nameAt_len : ∀ (N : Names) (l : List UInt8) (c : Int) (n : Nat), nameAt N l = some (c, n) → 2 ≤ n ∧ n ≤ l.length + 1 := by
  intro N
  induction N with
  | nil => intro l c n h; simp [nameAt] at h
  | cons x N ih =>
    intro l c n h
    unfold nameAt at h
    split at h
    · rename_i hp
      have := prefix_len hp
      simp at h this
      omega
    · exact ih l c n h
theorem shortAt_len (attr : Bool) : ∀ (N : List (List UInt8)) (l : List UInt8) (c : Int) (n : Nat), shortAt attr N l = some (c, n) → 1 ≤ n ∧ n ≤ l.length + 1 := by
  intro N
  induction N with
  | nil => intro l c n h; simp [shortAt] at h
  | cons x N ih =>
    intro l c n h
    unfold shortAt at h
    split at h
    · rename_i hp
      have := prefix_len hp.1
      simp at h
      omega
    · exact ih l c n h
theorem numRef_len (l : List UInt8) (c : Int) (n : Nat) (h : numRef l = some (c, n)) : 3 ≤ n ∧ n ≤ l.length := by
  unfold numRef at h
  simp only at h
  split at h
  · cases h
  rename_i hd
  have hp : 1 ≤ ((l.drop (baseOf l).2).takeWhile (isD (baseOf l).1)).length := List.length_pos_iff.2 hd
  have hle : ((l.drop (baseOf l).2).takeWhile (isD (baseOf l).1)).length ≤ l.length - (baseOf l).2 := by
    have := (List.takeWhile_prefix (isD (baseOf l).1) (l := l.drop (baseOf l).2)).length_le
    rwa [List.length_drop] at this
  have hb : 2 ≤ (baseOf l).2 := by unfold baseOf; split <;> simp
  obtain ⟨_, rfl⟩ := Prod.mk.inj (Option.some.inj h)
  unfold endAt
  split
  · rename_i he
    have := (List.getElem?_eq_some_iff.1 he).1
    omega
  · omega
theorem nextRef_len (attr : Bool) (l : List UInt8) (c : Int) (n : Nat) (h : nextRef attr l = some (c, n)) : 1 ≤ n ∧ n ≤ l.length := by
  unfold nextRef at h
  split at h
  · have := numRef_len l c n h
    omega
  split at h
  · rename_i hp
    have h1 := prefix_len hp
    simp at h1
    split at h
    · rename_i hh
      cases h
      have := nameAt_len _ _ _ _ hh
      rw [List.length_drop] at this
      omega
    · have := shortAt_len _ _ _ _ _ h
      rw [List.length_drop] at this
      omega
  · cases h
theorem nextRef_amp (attr : Bool) (l : List UInt8) (p : Int × Nat) (h : nextRef attr l = some p) : ∃ r, l = 38 :: r := by
  unfold nextRef at h
  split at h
  · rename_i hp
    obtain ⟨r, rfl⟩ := List.isPrefixOf_iff_prefix.1 hp
    exact ⟨_, rfl⟩
  split at h
  · rename_i hp
    obtain ⟨r, rfl⟩ := List.isPrefixOf_iff_prefix.1 hp
    exact ⟨_, rfl⟩
  · cases h
def decN (attr : Bool) : Nat → List UInt8 → List UInt8
  | 0, _ => []
  | k + 1, l => match l with
    | [] => []
    | b :: r => match nextRef attr (b :: r) with
      | some p => encI p.1 ++ decN attr k ((b :: r).drop p.2)
      | none => b :: decN attr k r
theorem decN_fuel (attr : Bool) : ∀ (n m : Nat) (l : List UInt8), l.length ≤ n → l.length ≤ m → decN attr n l = decN attr m l := by
  intro n
  induction n with
  | zero =>
    intro m l h1 h2
    obtain rfl : l = [] := List.eq_nil_of_length_eq_zero (by omega)
    cases m <;> simp [decN]
  | succ n ih =>
    intro m l h1 h2
    cases l with
    | nil => cases m <;> simp [decN]
    | cons b r =>
      rw [List.length_cons] at h1 h2
      obtain ⟨m, rfl⟩ : ∃ k, m = k + 1 := ⟨m - 1, by omega⟩
      simp only [decN]
      cases hx : nextRef attr (b :: r) with
      | none => simp only; rw [ih m r (by omega) (by omega)]
      | some p =>
        have := nextRef_len attr _ p.1 p.2 hx
        simp only
        rw [ih m _ (by rw [List.length_drop, List.length_cons]; omega) (by rw [List.length_drop, List.length_cons]; omega)]
def dec (attr : Bool) (l : List UInt8) : List UInt8 := decN attr l.length l
theorem dec_nil (attr : Bool) : dec attr [] = [] := rfl
theorem dec_none (attr : Bool) {b : UInt8} {r : List UInt8} (h : nextRef attr (b :: r) = none) : dec attr (b :: r) = b :: dec attr r := by
  unfold dec
  rw [List.length_cons]
  simp only [decN, h]
theorem dec_some (attr : Bool) {l : List UInt8} {c : Int} {n : Nat} (h : nextRef attr l = some (c, n)) : dec attr l = encI c ++ dec attr (l.drop n) := by
  have hl := nextRef_len attr l c n h
  obtain ⟨r, rfl⟩ := nextRef_amp attr l _ h
  unfold dec
  rw [List.length_cons]
  simp only [decN, h]
  rw [decN_fuel attr r.length (List.drop n (38 :: r)).length _ (by rw [List.length_drop, List.length_cons]; omega) (Nat.le_refl _)]
theorem next_other (attr : Bool) {b : UInt8} (r : List UInt8) (h : b ≠ 38) : nextRef attr (b :: r) = none := by
  cases hx : nextRef attr (b :: r) with
  | none => rfl
  | some p =>
    obtain ⟨q, e⟩ := nextRef_amp attr _ p hx
    exact absurd (List.cons.inj e).1 h
/-- What has no & is decoded as it is. -/
theorem dec_plain (attr : Bool) : ∀ (a l : List UInt8), (∀ x ∈ a, x ≠ 38) → dec attr (a ++ l) = a ++ dec attr l := by
  intro a
  induction a with
  | nil => exact fun l _ => rfl
  | cons b a ih =>
    intro l h
    rw [List.cons_append, dec_none attr (next_other attr _ (h b (List.mem_cons_self ..))), ih l (fun x hx => h x (List.mem_cons_of_mem _ hx))]
    rfl
/-! encoded -/
def encC (attr : Bool) (c : UInt8) : List UInt8 :=
  if c = 38 then [38, 97, 109, 112, 59] else if c = 60 ∧ attr = false then [38, 108, 116, 59] else if c = 62 ∧ attr = false then [38, 103, 116, 59]
  else if c = 34 ∧ attr = true then [38, 113, 117, 111, 116, 59] else if c = 13 then [38, 35, 49, 51, 59] else [c]
def nbspE : List UInt8 := [38, 110, 98, 115, 112, 59]
/-- Encoded; true: the first byte was told with the one ahead. -/
def encL (attr : Bool) : Bool → List UInt8 → List UInt8
  | _, [] => []
  | true, _ :: r => encL attr false r
  | false, c :: r => if c = 194 ∧ r.head? = some 160 then nbspE ++ encL attr true r else encC attr c ++ encL attr false r
theorem next_amp (a : Bool) (r : List UInt8) : nextRef a ([38, 97, 109, 112, 59] ++ r) = some (38, 5) := rfl
theorem next_lt (a : Bool) (r : List UInt8) : nextRef a ([38, 108, 116, 59] ++ r) = some (60, 4) := rfl
theorem next_gt (a : Bool) (r : List UInt8) : nextRef a ([38, 103, 116, 59] ++ r) = some (62, 4) := rfl
theorem next_quot (a : Bool) (r : List UInt8) : nextRef a ([38, 113, 117, 111, 116, 59] ++ r) = some (34, 6) := rfl
theorem next_cr (a : Bool) (r : List UInt8) : nextRef a ([38, 35, 49, 51, 59] ++ r) = some (13, 5) := rfl
theorem next_nbsp (a : Bool) (r : List UInt8) : nextRef a (nbspE ++ r) = some (160, 6) := rfl
theorem dec_encC (a attr : Bool) (c : UInt8) (r : List UInt8) : dec a (encC attr c ++ r) = c :: dec a r := by
  unfold encC
  split
  · rename_i h; subst h; rw [dec_some a (next_amp a r)]; rfl
  split
  · rename_i h; rw [h.1, dec_some a (next_lt a r)]; rfl
  split
  · rename_i h; rw [h.1, dec_some a (next_gt a r)]; rfl
  split
  · rename_i h; rw [h.1, dec_some a (next_quot a r)]; rfl
  split
  · rename_i h; subst h; rw [dec_some a (next_cr a r)]; rfl
  · rename_i h _ _ _ _
    exact dec_none a (next_other a r h)
theorem dec_enc (a attr : Bool) : ∀ (l : List UInt8) (b : Bool), dec a (encL attr b l) = if b = true then l.tail else l := by
  intro l
  induction l with
  | nil => intro b; cases b <;> rfl
  | cons c r ih =>
    intro b
    cases b with
    | true => exact ih false
    | false =>
      unfold encL
      split
      · rename_i h
        rw [dec_some a (next_nbsp a _), show (nbspE ++ encL attr true r).drop 6 = encL attr true r from rfl, ih true, h.1]
        cases r with
        | nil => simp at h
        | cons d r =>
          have hd : d = 160 := by simpa using h.2
          rw [hd]
          rfl
      · rw [dec_encC, ih false]
        rfl
end Go.Proofs.YtljlkpfiebcoeaaGreatDoor.Rf

namespace Go.Proofs.YtljlkpfiebcoeaaGreatDoor.Rf
open Go Go.Lib
set_option linter.unusedVariables false
theorem replaceK_count (old new : List UInt8) (f : List UInt8 → List UInt8) (h0 : ∀ s, Lib.index s old = -1 → f s = s) (h1 : ∀ s (i : Nat), Lib.index s old = (i : Int) → f s = s.take i ++ new ++ f (s.drop (i + old.length))) (hold : 0 < old.length) :
    ∀ (fuel : Nat) (s : List UInt8), s.length < fuel → Lib.replaceK old new (Lib.countFrom old fuel s) s = f s := by
  intro fuel
  induction fuel with
  | zero => intro s h; omega
  | succ fuel ih =>
    intro s h
    by_cases hx : Lib.index s old = -1
    · rw [Lib.countFrom, if_pos (by simpa using hx), h0 s hx]
      rfl
    · have hs : 0 < s.length := by
        cases s with
        | nil => exact absurd (show Lib.index [] old = -1 from by cases old with | nil => simp at hold | cons _ _ => rfl) hx
        | cons _ _ => simp
      obtain ⟨i, hi⟩ : ∃ i : Nat, Lib.index s old = (i : Int) := ⟨(Lib.index s old).toNat, by have := Lib.index_ge s old; omega⟩
      rw [Lib.countFrom, if_neg (by simpa using hx), Nat.add_comm 1, Lib.replaceK_hit old new _ s i hi, h1 s i hi, hi, Int.toNat_natCast, ih _ (by rw [List.length_drop]; omega)]
theorem replaceAll_eq (s old new : List UInt8) (f : List UInt8 → List UInt8) (hne : old ≠ new) (hold : 0 < old.length) (h0 : ∀ s, Lib.index s old = -1 → f s = s) (h1 : ∀ s (i : Nat), Lib.index s old = (i : Int) → f s = s.take i ++ new ++ f (s.drop (i + old.length))) : Lib.replaceAll s old new = f s := by
  unfold Lib.replaceAll Lib.replace Lib.replaceNum
  rw [if_neg (by simpa using hne), if_pos (.inl (by omega))]
  exact replaceK_count old new f h0 h1 hold _ s (Nat.lt_succ_self _)
def rep1 (b : UInt8) (new : List UInt8) (l : List UInt8) : List UInt8 := l.flatMap fun x => if x = b then new else [x]
theorem rep1_id (b : UInt8) (new : List UInt8) : ∀ l : List UInt8, b ∉ l → rep1 b new l = l := by
  intro l
  induction l with
  | nil => exact fun _ => rfl
  | cons c l ih =>
    intro h
    have h1 : c ≠ b := fun e => h (e ▸ List.mem_cons_self ..)
    unfold rep1 at ih ⊢
    rw [List.flatMap_cons, if_neg h1, ih (fun hm => h (List.mem_cons_of_mem _ hm))]
    rfl
theorem rep1_append (b : UInt8) (new l m : List UInt8) : rep1 b new (l ++ m) = rep1 b new l ++ rep1 b new m := by
  unfold rep1
  rw [List.flatMap_append]
theorem replaceAll_one (s : List UInt8) (b : UInt8) (new : List UInt8) (hne : [b] ≠ new) : Lib.replaceAll s [b] new = rep1 b new s := by
  refine replaceAll_eq s [b] new (rep1 b new) hne (by simp) (fun s h => ?_) (fun s i h => ?_)
  · rw [index_byte] at h
    split at h
    · omega
    · rename_i hm
      exact rep1_id b new s hm
  · rw [index_byte] at h
    split at h
    · rename_i hm
      have hi : (s.takeWhile (· != b)).length = i := by omega
      have hd := (List.takeWhile_append_dropWhile (p := (· != b)) (l := s)).symm
      cases hx : s.dropWhile (· != b) with
      | nil =>
        rw [hx, List.append_nil] at hd
        rw [hd] at hm
        have := List.all_eq_true.1 (List.all_takeWhile (p := (· != b)) (l := s)) b hm
        simp at this
      | cons c r =>
        have hc : c = b := by
          have := List.head_dropWhile_not (· != b) (l := s) (by rw [hx]; simp)
          simp only [hx, List.head_cons] at this
          simpa using this
        rw [hx, hc] at hd
        have hn : b ∉ s.takeWhile (· != b) := fun q => by
          have := List.all_eq_true.1 (List.all_takeWhile (p := (· != b)) (l := s)) b q
          simp at this
        generalize s.takeWhile (· != b) = p at *
        subst hd
        rw [rep1_append, rep1_id b new p hn, ← hi, List.take_left, List.length_singleton, List.append_assoc, show p.length + 1 = (p ++ [b]).length from by simp, show p ++ b :: r = (p ++ [b]) ++ r from by simp, List.drop_left]
        unfold rep1
        rw [List.flatMap_cons, if_pos rfl]
    · omega
/-- All C2 A0 for another text. -/
def rep2 (new : List UInt8) : Bool → List UInt8 → List UInt8
  | _, [] => []
  | true, _ :: r => rep2 new false r
  | false, c :: r => if c = 194 ∧ r.head? = some 160 then new ++ rep2 new true r else c :: rep2 new false r
theorem two_prefix (c : UInt8) (r : List UInt8) : List.isPrefixOf [194, 160] (c :: r) = true ↔ c = 194 ∧ r.head? = some 160 := by
  cases r with
  | nil => simp
  | cons d r =>
    simp only [List.isPrefixOf_cons_cons, List.isPrefixOf_nil_left, Bool.and_true, Bool.and_eq_true, beq_iff_eq, List.head?_cons, Option.some.injEq]
    exact ⟨fun h => ⟨h.1.symm, h.2.symm⟩, fun h => ⟨h.1.symm, h.2.symm⟩⟩
theorem index_two (c : UInt8) (r : List UInt8) : Lib.index (c :: r) [194, 160] = if c = 194 ∧ r.head? = some 160 then 0 else if Lib.index r [194, 160] = -1 then -1 else Lib.index r [194, 160] + 1 := by
  show (if List.isPrefixOf [194, 160] (c :: r) = true then (0 : Int) else if (Lib.index r [194, 160] == -1) = true then -1 else Lib.index r [194, 160] + 1) = _
  have hq : ((Lib.index r [194, 160] == -1) = true) = (Lib.index r [194, 160] = -1) := by simp
  simp only [two_prefix, hq]
theorem rep2_miss (new : List UInt8) : ∀ s : List UInt8, Lib.index s [194, 160] = -1 → rep2 new false s = s := by
  intro s
  induction s with
  | nil => exact fun _ => rfl
  | cons c r ih =>
    intro h
    rw [index_two] at h
    by_cases hc : c = 194 ∧ r.head? = some 160
    · rw [if_pos hc] at h
      cases h
    · rw [if_neg hc] at h
      have hr : Lib.index r [194, 160] = -1 := by
        by_cases e : Lib.index r [194, 160] = -1
        · exact e
        · rw [if_neg e] at h
          have := Lib.index_ge r [194, 160]
          omega
      rw [rep2, if_neg hc, ih hr]
theorem rep2_hit (new : List UInt8) : ∀ (s : List UInt8) (i : Nat), Lib.index s [194, 160] = (i : Int) → rep2 new false s = s.take i ++ new ++ rep2 new false (s.drop (i + 2)) := by
  intro s
  induction s with
  | nil => intro i h; rw [show Lib.index [] [194, 160] = -1 from rfl] at h; omega
  | cons c r ih =>
    intro i h
    rw [index_two] at h
    by_cases hc : c = 194 ∧ r.head? = some 160
    · rw [if_pos hc] at h
      obtain rfl : i = 0 := by omega
      rw [rep2, if_pos hc]
      cases r with
      | nil => simp at hc
      | cons d r => rfl
    · rw [if_neg hc] at h
      by_cases e : Lib.index r [194, 160] = -1
      · rw [if_pos e] at h; omega
      · rw [if_neg e] at h
        obtain ⟨j, rfl⟩ : ∃ j, i = j + 1 := ⟨i - 1, by have := Lib.index_ge r [194, 160]; omega⟩
        rw [rep2, if_neg hc, ih j (by omega)]
        rfl
theorem replaceAll_two (s new : List UInt8) (hne : ([194, 160] : List UInt8) ≠ new) : Lib.replaceAll s [194, 160] new = rep2 new false s :=
  replaceAll_eq s [194, 160] new (rep2 new false) hne (by simp) (rep2_miss new) (rep2_hit new)
/-- Behind & and the blank that doesn't break. -/
def enc1 : Bool → List UInt8 → List UInt8
  | _, [] => []
  | true, _ :: r => enc1 false r
  | false, c :: r => if c = 194 ∧ r.head? = some 160 then nbspE ++ enc1 true r else (if c = 38 then [38, 97, 109, 112, 59] else [c]) ++ enc1 false r
def ampE : List UInt8 := [38, 97, 109, 112, 59]
theorem rep1_head (r : List UInt8) : ((rep1 38 ampE r).head? = some 160) ↔ (r.head? = some 160) := by
  cases r with
  | nil => rfl
  | cons d r =>
    unfold rep1
    rw [List.flatMap_cons]
    by_cases h : d = 38
    · subst h
      simp [ampE]
    · simp [h]
theorem enc1_eq : ∀ (l : List UInt8) (b : Bool), (b = true → ∃ r, l = 160 :: r) → rep2 nbspE b (rep1 38 ampE l) = enc1 b l := by
  intro l
  induction l with
  | nil => intro b _; cases b <;> rfl
  | cons c r ih =>
    intro b hb
    cases b with
    | true =>
      obtain ⟨q, hq⟩ := hb rfl
      obtain ⟨rfl, rfl⟩ := List.cons.inj hq
      exact ih false (fun h => by cases h)
    | false =>
      by_cases h : c = 38
      · subst h
        show rep2 nbspE false (ampE ++ rep1 38 ampE r) = [38, 97, 109, 112, 59] ++ enc1 false r
        rw [← ih false (fun h => by cases h)]
        rfl
      · have hs : rep1 38 ampE (c :: r) = c :: rep1 38 ampE r := by
          unfold rep1
          rw [List.flatMap_cons, if_neg h]
          rfl
        rw [hs]
        unfold enc1
        by_cases hc : c = 194 ∧ r.head? = some 160
        · rw [if_pos hc, rep2, if_pos ⟨hc.1, (rep1_head r).2 hc.2⟩]
          rw [ih true (fun _ => by
            cases r with
            | nil => simp at hc
            | cons d r => exact ⟨r, by have : d = 160 := by simpa using hc.2
                                       rw [this]⟩)]
        · rw [if_neg hc, rep2, if_neg (fun q => hc ⟨q.1, (rep1_head r).1 q.2⟩), if_neg h, ih false (fun h => by cases h)]
          rfl
theorem flat_enc1 (h : UInt8 → List UInt8) (attr : Bool) (hn : nbspE.flatMap h = nbspE) (ha : ampE.flatMap h = ampE) (hc : ∀ c, c ≠ 38 → h c = encC attr c) : ∀ (l : List UInt8) (b : Bool), (enc1 b l).flatMap h = encL attr b l := by
  intro l
  induction l with
  | nil => intro b; cases b <;> rfl
  | cons c r ih =>
    intro b
    cases b with
    | true => exact ih false
    | false =>
      unfold enc1 encL
      split
      · rw [List.flatMap_append, hn, ih true]
      · rw [List.flatMap_append, ih false]
        congr 1
        by_cases e : c = 38
        · subst e
          rw [if_pos rfl]
          exact ha
        · rw [if_neg e, List.flatMap_cons, hc c e]
          simp
theorem rep1_flat (b : UInt8) (new l : List UInt8) : rep1 b new l = l.flatMap fun x => if x = b then new else [x] := rfl
theorem enc_attr (l : List UInt8) : rep1 34 [38, 113, 117, 111, 116, 59] (rep1 13 [38, 35, 49, 51, 59] (rep2 nbspE false (rep1 38 ampE l))) = encL true false l := by
  rw [enc1_eq l false (fun h => by cases h), rep1_flat, rep1_flat, List.flatMap_assoc]
  refine flat_enc1 _ true (by decide) (by decide) (fun c hc => ?_) l false
  unfold encC
  rw [if_neg hc]
  by_cases h1 : c = 13
  · subst h1; decide
  · rw [if_neg h1]
    by_cases h2 : c = 34
    · subst h2; decide
    · simp [h2]
theorem enc_text (l : List UInt8) : rep1 62 [38, 103, 116, 59] (rep1 60 [38, 108, 116, 59] (rep1 13 [38, 35, 49, 51, 59] (rep2 nbspE false (rep1 38 ampE l)))) = encL false false l := by
  rw [enc1_eq l false (fun h => by cases h), rep1_flat, rep1_flat, rep1_flat, List.flatMap_assoc, List.flatMap_assoc]
  refine flat_enc1 _ false (by decide) (by decide) (fun c hc => ?_) l false
  unfold encC
  rw [if_neg hc]
  by_cases h1 : c = 13
  · subst h1; decide
  · rw [if_neg h1]
    by_cases h2 : c = 60
    · subst h2; decide
    · by_cases h3 : c = 62
      · subst h3; decide
      · simp [h2, h3]
theorem encC_len (attr : Bool) (c : UInt8) : (encC attr c).length ≤ 6 := by
  unfold encC
  repeat' split
  all_goals simp
theorem rep1_len (b : UInt8) (new : List UInt8) (n : Nat) (hn : new.length ≤ n) (h1 : 1 ≤ n) : ∀ l : List UInt8, (rep1 b new l).length ≤ n * l.length := by
  intro l
  induction l with
  | nil => simp [rep1]
  | cons c l ih =>
    unfold rep1 at ih ⊢
    rw [List.flatMap_cons, List.length_append, List.length_cons, Nat.mul_succ]
    have : (if c = b then new else [c]).length ≤ n := by
      split
      · exact hn
      · exact h1
    omega
theorem rep2_len : ∀ (l : List UInt8) (b : Bool), (rep2 nbspE b l).length ≤ 6 * l.length := by
  intro l
  induction l with
  | nil => intro b; cases b <;> simp [rep2]
  | cons c r ih =>
    intro b
    have h0 := ih false
    have h1 := ih true
    cases b with
    | true => unfold rep2; rw [List.length_cons]; omega
    | false =>
      unfold rep2
      split
      · rw [List.length_append, List.length_cons]
        have : nbspE.length = 6 := rfl
        omega
      · rw [List.length_cons, List.length_cons]
        omega
end Go.Proofs.YtljlkpfiebcoeaaGreatDoor.Rf

namespace Go.Proofs.YtljlkpfiebcoeaaGreatDoor.Pc
open Go Go.Lib
open Go.Proofs.YtljlkpfiebcoeaaGreatDoor.Rf (hexv rep1 index_byte cut_byte)
open Go.Proofs.YtljlkpfiebcoeaaGreatDoor.U8 (mend text)
set_option linter.unusedVariables false
def plain (n : Nat) : Bool := ((decide (97 ≤ n) && decide (n ≤ 122)) || (decide (65 ≤ n) && decide (n ≤ 90))) || (decide (48 ≤ n) && decide (n ≤ 57)) || (n == 45 || n == 46 || n == 95 || n == 126)
def hx : List UInt8 := [48, 49, 50, 51, 52, 53, 54, 55, 56, 57, 65, 66, 67, 68, 69, 70]
def mk (c : UInt8) : List UInt8 := [37, hx.getD (c.toNat / 16) 0, hx.getD (c.toNat % 16) 0]
def one (free : List UInt8) (c : UInt8) : List UInt8 := if plain c.toNat = true ∨ c ∈ free then [c] else mk c
def mark (free l : List UInt8) : List UInt8 := l.flatMap (one free)
def un : List UInt8 → List UInt8
  | c :: a :: b :: r => if c = 37 ∧ hexv a.toNat < 16 ∧ hexv b.toNat < 16 then UInt8.ofNat (hexv a.toNat * 16 + hexv b.toNat) :: un r else c :: un (a :: b :: r)
  | l => l
theorem un_ne (c : UInt8) (r : List UInt8) (h : c ≠ 37) : un (c :: r) = c :: un r := by
  rcases r with _ | ⟨a, _ | ⟨b, r⟩⟩
  · simp [un]
  · simp [un]
  · rw [un, if_neg (fun q => h q.1)]
theorem un_short (c : UInt8) (r : List UInt8) (h : r.length < 2) : un (c :: r) = c :: un r := by
  rcases r with _ | ⟨a, _ | ⟨b, r⟩⟩
  · simp [un]
  · simp [un]
  · simp only [List.length_cons] at h
    omega
theorem hx_all : ∀ x : Fin 256, hexv (hx.getD (x.val / 16) 0).toNat = x.val / 16 ∧ hexv (hx.getD (x.val % 16) 0).toNat = x.val % 16 ∧ plain (hx.getD (x.val / 16) 0).toNat = true ∧ plain (hx.getD (x.val % 16) 0).toNat = true := by decide +kernel
theorem un_mk (c : UInt8) (r : List UInt8) : un (mk c ++ r) = c :: un r := by
  have h := hx_all ⟨c.toNat, c.toNat_lt⟩
  have hc := c.toNat_lt
  simp only [] at h
  unfold mk
  simp only [List.cons_append, List.nil_append]
  rw [un, if_pos ⟨rfl, by omega, by omega⟩, h.1, h.2.1]
  congr 1
  apply UInt8.toNat_inj.1
  rw [UInt8.toNat_ofNat']
  omega
theorem un_one (free : List UInt8) (hf : (37 : UInt8) ∉ free) (c : UInt8) (r : List UInt8) : un (one free c ++ r) = c :: un r := by
  unfold one
  split
  · rename_i h
    refine un_ne c r (fun e => ?_)
    subst e
    rcases h with h | h
    · exact absurd h (by decide)
    · exact hf h
  · exact un_mk c r
theorem un_mark (free : List UInt8) (hf : (37 : UInt8) ∉ free) : ∀ l : List UInt8, un (mark free l) = l
  | [] => rfl
  | c :: l => by
    unfold mark
    rw [List.flatMap_cons, un_one free hf]
    exact congrArg _ (un_mark free hf l)
theorem mark_has (free l : List UInt8) : ∀ x ∈ mark free l, plain x.toNat = true ∨ x ∈ free ∨ x = 37 := by
  intro x hx'
  obtain ⟨c, _, hc⟩ := List.mem_flatMap.1 hx'
  unfold one at hc
  split at hc
  · rename_i h
    rw [List.mem_singleton] at hc
    subst hc
    rcases h with h | h
    · exact .inl h
    · exact .inr (.inl h)
  · have h := hx_all ⟨c.toNat, c.toNat_lt⟩
    simp only [] at h
    simp only [mk, List.mem_cons, List.not_mem_nil, or_false] at hc
    rcases hc with rfl | rfl | rfl
    · exact .inr (.inr rfl)
    · exact .inl h.2.2.1
    · exact .inl h.2.2.2
theorem one_len (free : List UInt8) (c : UInt8) : (one free c).length ≤ 3 := by unfold one mk; split <;> simp
theorem mark_len (free : List UInt8) : ∀ l : List UInt8, (mark free l).length ≤ 3 * l.length
  | [] => by simp [mark]
  | c :: l => by
    have h1 := mark_len free l
    have h2 := one_len free c
    unfold mark at h1 ⊢
    rw [List.flatMap_cons, List.length_append, List.length_cons]
    omega
theorem un_len : ∀ (n : Nat) (l : List UInt8), l.length ≤ n → (un l).length ≤ l.length := by
  intro n
  induction n with
  | zero => intro l h; obtain rfl : l = [] := List.eq_nil_of_length_eq_zero (by omega); simp [un]
  | succ n ih =>
    intro l h
    rcases l with _ | ⟨c, _ | ⟨a, _ | ⟨b, r⟩⟩⟩
    · simp [un]
    · simp [un]
    · simp [un]
    · rw [un]
      simp only [List.length_cons] at h
      split
      · have := ih r (by omega)
        simp only [List.length_cons]
        omega
      · have := ih (a :: b :: r) (by simp only [List.length_cons]; omega)
        simp only [List.length_cons] at this ⊢
        omega
/-! one byte for another -/
def sub (a b : UInt8) (l : List UInt8) : List UInt8 := l.map fun x => if x = a then b else x
theorem rep1_sub (a b : UInt8) : ∀ l : List UInt8, rep1 a [b] l = sub a b l
  | [] => rfl
  | x :: l => by
    have ih := rep1_sub a b l
    unfold rep1 sub at ih ⊢
    rw [List.flatMap_cons, List.map_cons, ih]
    split <;> rfl
theorem sub_len (a b : UInt8) (l : List UInt8) : (sub a b l).length = l.length := List.length_map _
theorem sub_back (a b : UInt8) (l : List UInt8) (h : b ∉ l) : sub b a (sub a b l) = l := by
  unfold sub
  rw [List.map_map]
  conv => rhs; rw [← List.map_id l]
  refine List.map_congr_left fun x hx => ?_
  simp only [Function.comp, id]
  by_cases e : x = a
  · rw [if_pos e, if_pos rfl, e]
  · rw [if_neg e, if_neg (fun q => h (by rw [← q]; exact hx))]
/-! a name's, or a value's, text -/
def part (l : List UInt8) : List UInt8 := sub 32 43 (mark [32] l)
def read (l : List UInt8) : List UInt8 := mend (un (sub 43 32 l))
theorem read_part {l : List UInt8} (h : text l = true) : read (part l) = l := by
  unfold read part
  rw [sub_back 32 43 _ (fun q => ?_), un_mark [32] (by decide), U8.mend_text _ h]
  rcases mark_has _ _ _ q with h | h | h
  · exact absurd h (by decide)
  · exact absurd h (by decide)
  · exact absurd h (by decide)
theorem part_has (l : List UInt8) : (38 : UInt8) ∉ part l ∧ (61 : UInt8) ∉ part l := by
  have key : ∀ c : UInt8, c = 38 ∨ c = 61 → c ∉ part l := by
    intro c hc q
    obtain ⟨x, hx', e⟩ := List.mem_map.1 q
    rcases mark_has _ _ _ hx' with h | h | h
    · split at e
      · rcases hc with rfl | rfl <;> exact absurd e (by decide)
      · subst e
        rcases hc with rfl | rfl <;> exact absurd h (by decide)
    · rw [List.mem_singleton] at h
      subst h
      rw [if_pos rfl] at e
      rcases hc with rfl | rfl <;> exact absurd e (by decide)
    · subst h
      rw [if_neg (by decide)] at e
      rcases hc with rfl | rfl <;> exact absurd e (by decide)
  exact ⟨key 38 (.inl rfl), key 61 (.inr rfl)⟩
theorem part_len (l : List UInt8) : (part l).length ≤ 3 * l.length := by
  unfold part
  rw [sub_len]
  exact mark_len _ _
theorem read_len (l : List UInt8) : (read l).length ≤ 3 * l.length := by
  unfold read
  have h1 := U8.mend_length (un (sub 43 32 l))
  have h2 := un_len _ (sub 43 32 l) (Nat.le_refl _)
  rw [sub_len] at h2
  omega
theorem read_text (l : List UInt8) : text (read l) = true := U8.text_mended _
/-! split and joined -/
def sp (c : UInt8) : List UInt8 → List UInt8 → List (List UInt8)
  | acc, [] => [acc]
  | acc, x :: l => if x = c then acc :: sp c [] l else sp c (acc ++ [x]) l
theorem sp_len (c : UInt8) : ∀ (l acc : List UInt8), (sp c acc l).length = l.count c + 1
  | [], acc => rfl
  | x :: l, acc => by
    unfold sp
    split
    · rename_i h
      rw [List.length_cons, sp_len c l [], h, List.count_cons_self]
    · rename_i h
      rw [sp_len c l _, List.count_cons_of_ne (fun e => h e)]
theorem sp_miss (c : UInt8) : ∀ (l acc : List UInt8), c ∉ l → sp c acc l = [acc ++ l]
  | [], acc, _ => by simp [sp]
  | x :: l, acc, h => by
    have h1 : x ≠ c := fun e => h (by simp [e])
    unfold sp
    rw [if_neg h1, sp_miss c l _ (fun q => h (by simp [q]))]
    simp
theorem sp_hit (c : UInt8) : ∀ (m acc r : List UInt8), c ∉ m → sp c acc (m ++ c :: r) = (acc ++ m) :: sp c [] r
  | [], acc, r, _ => by simp [sp]
  | x :: m, acc, r, h => by
    have h1 : x ≠ c := fun e => h (by simp [e])
    rw [List.cons_append, sp, if_neg h1, sp_hit c m _ r (fun q => h (by simp [q]))]
    simp
theorem sp_mem (c : UInt8) : ∀ (l acc x : List UInt8), x ∈ sp c acc l → x.length ≤ acc.length + l.length
  | [], acc, x, h => by
    rw [sp, List.mem_singleton] at h
    subst h
    simp
  | y :: l, acc, x, h => by
    rw [sp] at h
    split at h
    · rcases List.mem_cons.1 h with rfl | h
      · simp only [List.length_cons]; omega
      · have := sp_mem c l [] x h
        simp only [List.length_cons, List.length_nil] at this ⊢
        omega
    · have := sp_mem c l _ x h
      simp only [List.length_append, List.length_cons, List.length_nil] at this ⊢
      omega
theorem tw_split (c : UInt8) (l : List UInt8) (h : c ∈ l) : (l.takeWhile (· != c)).length < l.length ∧ c ∉ l.takeWhile (· != c) ∧ l = l.takeWhile (· != c) ++ c :: l.drop ((l.takeWhile (· != c)).length + 1) := by
  have hn : c ∉ l.takeWhile (· != c) := fun q => by
    have := List.all_eq_true.1 (List.all_takeWhile (p := (· != c)) (l := l)) c q
    simp at this
  have h1 := List.takeWhile_append_dropWhile (p := (· != c)) (l := l)
  cases hd : l.dropWhile (· != c) with
  | nil =>
    rw [hd, List.append_nil] at h1
    rw [h1] at hn
    exact absurd h hn
  | cons b r =>
    have hb : b = c := by
      have := List.head_dropWhile_not (· != c) (l := l) (by rw [hd]; simp)
      simp only [hd, List.head_cons] at this
      simpa using this
    subst hb
    rw [hd] at h1
    clear hd
    generalize l.takeWhile (· != b) = t at *
    subst h1
    refine ⟨?_, hn, ?_⟩
    · rw [List.length_append, List.length_cons]; omega
    · rw [show (t ++ b :: r).drop (t.length + 1) = r from by simp]
theorem splitK_sp (c : UInt8) : ∀ (n : Nat) (l : List UInt8), l.length ≤ n → Lib.splitK [c] 0 (Lib.count l [c]) l = sp c [] l := by
  intro n
  induction n with
  | zero =>
    intro l h
    obtain rfl : l = [] := List.eq_nil_of_length_eq_zero (by omega)
    rfl
  | succ n ih =>
    intro l h
    have hi := index_byte c l
    by_cases hm : c ∈ l
    · rw [if_pos hm] at hi
      obtain ⟨h1, h2, h3⟩ := tw_split c l hm
      rw [Lib.count_hit (by simp) hi, Nat.add_comm 1, Lib.splitK, if_neg (by rw [hi]; simp), hi, Int.toNat_natCast, Nat.add_zero, List.length_singleton, ih _ (by rw [List.length_drop]; omega)]
      conv => rhs; rw [h3]
      rw [sp_hit c _ [] _ h2, List.nil_append]
      congr 1
      exact (List.prefix_iff_eq_take.1 (List.takeWhile_prefix _)).symm
    · rw [if_neg hm] at hi
      rw [Lib.count_miss hi, sp_miss c l [] hm]
      rfl
def join (b : UInt8) : List (List UInt8) → List UInt8
  | [] => []
  | [x] => x
  | x :: y :: r => x ++ b :: join b (y :: r)
theorem sp_join (c : UInt8) : ∀ l : List (List UInt8), l ≠ [] → (∀ x ∈ l, c ∉ x) → sp c [] (join c l) = l
  | [], h, _ => absurd rfl h
  | [x], _, h => by rw [join, sp_miss c x [] (h x (by simp))]; rfl
  | x :: y :: r, _, h => by
    rw [join, sp_hit c x [] _ (h x (by simp)), sp_join c (y :: r) (by simp) (fun z hz => h z (by simp [hz]))]
    rfl
/-! pairs -/
def pair (l : List UInt8) : List UInt8 × List UInt8 := (read (Lib.cut l [61]).1, read (Lib.cut l [61]).2.1)
def pairs (l : List (List UInt8)) : List (List UInt8 × List UInt8) := (l.filter fun x => x ≠ []).map pair
def parse (l : List UInt8) : List (List UInt8 × List UInt8) := pairs (sp 38 [] l)
def form (l : List (List UInt8 × List UInt8)) : List UInt8 := join 38 (l.map fun p => part p.1 ++ 61 :: part p.2)
theorem cut_part (a b : List UInt8) (h : (61 : UInt8) ∉ a) : Lib.cut (a ++ 61 :: b) [61] = (a, b, true) := by
  rw [cut_byte, if_pos (by simp)]
  have h1 : (a ++ 61 :: b).takeWhile (· != (61 : UInt8)) = a := by
    rw [List.takeWhile_append_of_pos (fun x hx => by simpa using fun e : x = 61 => h (by rw [← e]; exact hx))]
    simp
  rw [h1]
  simp
theorem read_nil : read [] = [] := rfl
theorem pair_parts {n v : List UInt8} (hn : text n = true) (hv : text v = true) : pair (part n ++ 61 :: part v) = (n, v) := by
  unfold pair
  rw [cut_part _ _ (part_has n).2]
  simp only []
  rw [read_part hn, read_part hv]
theorem parse_form (l : List (List UInt8 × List UInt8)) (h : ∀ p ∈ l, text p.1 = true ∧ text p.2 = true) : parse (form l) = l := by
  unfold parse form
  by_cases h0 : l = []
  · subst h0; rfl
  rw [sp_join 38 _ (by simpa using h0) (fun x hx => ?_)]
  · unfold pairs
    rw [List.filter_eq_self.2 (fun x hx => ?_)]
    · rw [List.map_map]
      conv => rhs; rw [← List.map_id l]
      refine List.map_congr_left fun p hp => ?_
      exact pair_parts (h p hp).1 (h p hp).2
    · obtain ⟨p, _, rfl⟩ := List.mem_map.1 hx
      simp
  · obtain ⟨p, _, rfl⟩ := List.mem_map.1 hx
    have h1 := (part_has p.1).1
    have h2 := (part_has p.2).1
    simp [h1, h2]
theorem count_join (l : List (List UInt8)) (h : ∀ x ∈ l, (38 : UInt8) ∉ x) : (join 38 l).count 38 = l.length - 1 := by
  by_cases h0 : l = []
  · subst h0; rfl
  have h1 := sp_len 38 (join 38 l) []
  rw [sp_join 38 l h0 h] at h1
  omega
theorem join_len (b : UInt8) : ∀ l : List (List UInt8), (join b l).length ≤ (l.map fun x => x.length + 1).sum
  | [] => by simp [join]
  | [x] => by simp [join]
  | x :: y :: r => by
    have := join_len b (y :: r)
    rw [join, List.length_append, List.length_cons, List.map_cons, List.sum_cons]
    omega
end Go.Proofs.YtljlkpfiebcoeaaGreatDoor.Pc
