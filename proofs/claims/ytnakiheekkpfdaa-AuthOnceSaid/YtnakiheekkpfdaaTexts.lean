/- Texts as lists of their bytes; bounds of whole numbers; a round's number. No condition but those typed. -/
import Derived.Test.YtnakiheekkpfdaaWMore
import Derived.Lib.Bytes
import Derived.Lib.IndexBytes
import Derived.Lib.PathFns
namespace Go.Proofs.Ytnakiheekkpfdaa.Plain
open Go.RowKit Go.Proofs.YtnakiheekkpfdaaW.PrintWords Go.Proofs.YtnakiheekkpfdaaW.PrintLast Go.Proofs.YtnakiheekkpfdaaW.PrintMore
set_option linter.unusedVariables false
theorem in_u8 {x : Int} (h : (Lit.int .u8 x).wf = true) : 0 ≤ x ∧ x < 256 := by
  simp [Lit.wf, IntKind.min, IntKind.max, IntKind.signed, IntKind.bits] at h
  omega
theorem in_u32 {x : Int} (h : (Lit.int .u32 x).wf = true) : 0 ≤ x ∧ x < 4294967296 := by
  simp [Lit.wf, IntKind.min, IntKind.max, IntKind.signed, IntKind.bits] at h
  omega
theorem in_i32 {x : Int} (h : (Lit.int .i32 x).wf = true) : -2147483648 ≤ x ∧ x < 2147483648 := by
  simp [Lit.wf, IntKind.min, IntKind.max, IntKind.signed, IntKind.bits] at h
  omega
theorem in_i64 {x : Int} (h : (Lit.int .i64 x).wf = true) : -9223372036854775808 ≤ x ∧ x < 9223372036854775808 := by
  simp [Lit.wf, IntKind.min, IntKind.max, IntKind.signed, IntKind.bits] at h
  omega
theorem in_u64 {x : Int} (h : (Lit.int .u64 x).wf = true) : 0 ≤ x ∧ x < 18446744073709551616 := by
  simp [Lit.wf, IntKind.min, IntKind.max, IntKind.signed, IntKind.bits] at h
  omega
theorem u64_mod (n : Int) : IntKind.u64.wrap n = n % 18446744073709551616 := by simp [IntKind.wrap, IntKind.bits, IntKind.signed]
theorem wrap64_id {n : Int} (h0 : -9223372036854775808 ≤ n) (h1 : n < 9223372036854775808) : wrap64 n = n := by
  unfold wrap64
  omega
theorem next {i : Nat} (h : i ≤ 9223372036854775806) : wrap64 ((i : Int) + 1) = ((i + 1 : Nat) : Int) := by
  unfold wrap64
  omega
theorem bytes_len (s : ByteArray) : (bytesOf s).length = s.size := bytesOf_length s
theorem bytes_range {s : ByteArray} {x : Int} (h : x ∈ bytesOf s) : 0 ≤ x ∧ x < 256 := by
  unfold bytesOf at h
  obtain ⟨b, _, rfl⟩ := List.mem_map.1 h
  have := b.toNat_lt
  omega
theorem bytes_bt {s : ByteArray} {i : Nat} (h : i < (bytesOf s).length) : bt s (i : Int) = (bytesOf s)[i] := by
  rw [← rd_bytesOf]
  unfold rd
  rw [Int.toNat_natCast, List.getD_eq_getElem?_getD, List.getElem?_eq_getElem h]
  rfl
theorem bytes_cat (a b : ByteArray) : bytesOf (a ++ b) = bytesOf a ++ bytesOf b := by
  unfold bytesOf
  rw [← List.map_append]
  congr 1
theorem bytes_sub (s : ByteArray) (i j : Nat) : bytesOf (s.extract i j) = ((bytesOf s).drop i).take (j - i) := by
  unfold bytesOf
  rw [Lib.extract_data, ← List.map_drop, ← List.map_take]
theorem bytes_to (s : ByteArray) (j : Nat) : bytesOf (s.extract 0 j) = (bytesOf s).take j := by
  rw [bytes_sub, List.drop_zero, Nat.sub_zero]
theorem bytes_from (s : ByteArray) (i : Nat) : bytesOf (s.extract i s.size) = (bytesOf s).drop i := by
  rw [bytes_sub, List.take_of_length_le (by rw [List.length_drop, bytes_len]; exact Nat.le_refl _)]
theorem back_id (l : List UInt8) : (l.map fun b => (b.toNat : Int)).map (fun x : Int => UInt8.ofNat x.toNat) = l := by
  rw [List.map_map]
  conv => rhs; rw [← List.map_id l]
  refine List.map_congr_left fun x _ => ?_
  simp
theorem bytes_inj {a b : ByteArray} (h : bytesOf a = bytesOf b) : a = b := by
  unfold bytesOf at h
  have h2 : a.data.toList = b.data.toList := by
    have h3 := congrArg (List.map fun x : Int => UInt8.ofNat x.toNat) h
    rwa [back_id, back_id] at h3
  cases a; cases b
  simp at h2
  simp [h2]
theorem text_eq {a b : ByteArray} : a.toList = b.toList ↔ a = b := by
  rw [Lib.toList_data, Lib.toList_data]
  constructor
  · intro h; cases a; cases b; simp at h; simp [h]
  · intro h; rw [h]
theorem text_bytes {a : ByteArray} {l : List UInt8} : a.toList = l ↔ bytesOf a = l.map fun b => (b.toNat : Int) := by
  rw [Lib.toList_data]
  constructor
  · intro h; rw [← h]; rfl
  · intro h
    have h3 := congrArg (List.map fun x : Int => UInt8.ofNat x.toNat) h
    unfold bytesOf at h3
    rwa [back_id, back_id] at h3
theorem nil_bytes {a : ByteArray} : a.toList = ([] : List UInt8) ↔ bytesOf a = [] := text_bytes
theorem str_cat (a b : List Int) : strOfNums a ++ strOfNums b = strOfNums (a ++ b) := by
  have h : (strOfNums a ++ strOfNums b).data.toList = (strOfNums (a ++ b)).data.toList := by
    rw [strOfNums_data, List.map_append, ← strOfNums_data, ← strOfNums_data]
    simp
  cases h1 : strOfNums a ++ strOfNums b with
  | mk x => cases h2 : strOfNums (a ++ b) with
    | mk y =>
      rw [h1, h2] at h
      simp at h
      rw [h]
theorem bytes_str {l : List Int} (h : ∀ x ∈ l, 0 ≤ x ∧ x < 256) : bytesOf (strOfNums l) = l := by
  unfold bytesOf
  rw [strOfNums_data, List.map_map]
  conv => rhs; rw [← List.map_id l]
  refine List.map_congr_left fun x hx => ?_
  have := h x hx
  simp only [Function.comp, id]
  rw [UInt8.toNat_ofNat']
  omega
theorem str_bytes (s : ByteArray) : strOfNums (bytesOf s) = s := bytes_inj (bytes_str fun x hx => bytes_range hx)
theorem str_size (l : List Int) : (strOfNums l).size = l.length := strOfNums_size l
theorem texts_at {l : List ByteArray} {i : Nat} (h : i < l.length) : rdOf ByteArray.empty l (i : Int) = l[i] := by
  unfold rdOf
  rw [Int.toNat_natCast, List.getD_eq_getElem?_getD, List.getElem?_eq_getElem h]
  rfl
theorem nums_at {l : List Int} {i : Nat} (h : i < l.length) : rd l (i : Int) = l[i] := by
  unfold rd
  rw [Int.toNat_natCast, List.getD_eq_getElem?_getD, List.getElem?_eq_getElem h]
  rfl
/-- What is not below a loop's bound, by the drop. -/
theorem drop_at {α : Type} {l : List α} {i : Nat} (h : i < l.length) : l.drop i = l[i] :: l.drop (i + 1) := List.drop_eq_getElem_cons h
/-- An `if` of which both answers are the same from some number of rounds on. -/
theorem Ev.ite {α : Type} {c : Prop} [Decidable c] {f g : Nat → Option α} {r : α} (h1 : c → Ev f r) (h2 : ¬c → Ev g r) : Ev (fun k => if c then f k else g k) r := by
  by_cases hc : c
  · exact Ev.congr (fun k => if_pos hc) (h1 hc)
  · exact Ev.congr (fun k => if_neg hc) (h2 hc)
end Go.Proofs.Ytnakiheekkpfdaa.Plain
