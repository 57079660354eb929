/- What the printed loops of the sum come to, from some number of rounds on: the state behind the bytes, as bit vectors; a number's hex digits. No condition but those typed. -/
import Derived.Test.YtibjkbanlolgiaaQ
import Derived.Test.YtibjkbanlolgiaaBits
namespace Go.Proofs.Ytibjkbanlolgiaa.Plain
open Go.RowKit Go.Proofs.Ytibjkbanlolgiaa.Q Go.Proofs.YtibjkbanlolgiaaW.PrintWords Go.Proofs.YtibjkbanlolgiaaW.PrintLast Go.Proofs.YtibjkbanlolgiaaW.PrintMore
set_option linter.unusedVariables false
def b32 (x : Int) : BitVec 32 := BitVec.ofInt 32 x
def b64 (x : Int) : BitVec 64 := BitVec.ofInt 64 x
/-- One byte into the sum's state, and into the mark. -/
def crc1 (c : BitVec 32) (x : Int) : BitVec 32 := step4 (step4 (c ^^^ b32 x))
def mark1 (m : BitVec 64) (x : Int) : BitVec 64 := (m ^^^ b64 x) * 1099511628211#64
def crcs (c : BitVec 32) (l : List Int) : BitVec 32 := l.foldl crc1 c
def marks (m : BitVec 64) (l : List Int) : BitVec 64 := l.foldl mark1 m
theorem half_eq (c : BitVec 32) : sum_half.f (c.toNat : Int) = some ((BitVec.ofNat 32 (tab.getD (c &&& 15#32).toNat 0)).toNat : Int) := by
  unfold sum_half.f
  have h := and32 c 15#32
  rw [show ((15#32).toNat : Int) = 15 from rfl] at h
  rw [h]
  have hl : (c &&& 15#32).toNat < 16 := by
    rw [BitVec.toNat_and]
    exact Nat.lt_of_le_of_lt Nat.and_le_right (by decide)
  have key : ∀ i : Fin 16, rd sum_half.tab (i.val : Int) = ((BitVec.ofNat 32 (tab.getD i.val 0)).toNat : Int) := by decide
  rw [key ⟨_, hl⟩]
theorem rd_get {l : List Int} {i : Nat} (h : i < l.length) : rd l (i : Int) = l[i] := by
  unfold rd
  rw [Int.toNat_natCast, List.getD_eq_getElem?_getD, List.getElem?_eq_getElem h]
  rfl
theorem wrap_next {i : Nat} (h : i ≤ 140737488351232) : wrap64 ((i : Int) + 1) = ((i + 1 : Nat) : Int) := by
  unfold wrap64
  omega
theorem bmask (b : BitVec 32) (x : Int) : Go.bits .xor .u32 (b.toNat : Int) (x % 4294967296) = ((b ^^^ b32 x).toNat : Int) := by
  rw [mod32, xor32]; rfl
theorem mmask (b : BitVec 64) (x : Int) : Go.bits .xor .u64 (b.toNat : Int) (IntKind.u64.wrap x) = ((b ^^^ b64 x).toNat : Int) := by
  rw [mod64, xor64]; rfl
theorem add_loop (l : List Int) (hn : l.length ≤ 140737488351232) (d : Nat) : ∀ (i : Nat) (c : BitVec 32) (m : BitVec 64), i + d = l.length →
    Ev (fun k => sum_Sum_Add.l0 k (c.toNat : Int) (m.toNat : Int) l (l.length : Int) (i : Int)) (((~~~(crcs c (l.drop i))).toNat : Int), ((marks m (l.drop i) ^^^ 14695981039346656037#64).toNat : Int)) := by
  induction d with
  | zero =>
    intro i c m hi
    refine Ev.step (f := fun _ => some (((~~~(crcs c (l.drop i))).toNat : Int), ((marks m (l.drop i) ^^^ 14695981039346656037#64).toNat : Int))) (fun k => ?_) (Ev.now _)
    simp only [sum_Sum_Add.l0]
    rw [if_neg (by omega), not32, begin64, List.drop_of_length_le (by omega)]
    rfl
  | succ d ih =>
    intro i c m hi
    have hlt : i < l.length := by omega
    have hd : l.drop i = l[i] :: l.drop (i + 1) := List.drop_eq_getElem_cons hlt
    refine Ev.step (f := fun k => sum_Sum_Add.l0 k ((crc1 c l[i]).toNat : Int) ((mark1 m l[i]).toNat : Int) l (l.length : Int) ((i + 1 : Nat) : Int)) (fun k => ?_) ?_
    · simp only [sum_Sum_Add.l0]
      rw [if_pos (by omega), if_pos (by omega), if_pos (by omega), rd_get hlt, bmask, half_eq, Option.bind_some, shr4', xor32, ← step4_eq, half_eq, Option.bind_some, shr4', xor32, ← step4_eq, mmask, prime64, wrap_next (by omega)]
      rfl
    · have := ih (i + 1) (crc1 c l[i]) (mark1 m l[i]) (by omega)
      rw [hd]
      exact this
/-- Add: the state as it is kept: all bits turned. -/
theorem add_ev (c : BitVec 32) (m : BitVec 64) (l : List Int) (hn : l.length ≤ 140737488351232) :
    Ev (fun k => sum_Sum_Add.f k (c.toNat : Int) (m.toNat : Int) l) (((~~~(crcs (~~~c) l)).toNat : Int), ((marks (m ^^^ 14695981039346656037#64) l ^^^ 14695981039346656037#64).toNat : Int)) := by
  have h := add_loop l hn l.length 0 (~~~c) (m ^^^ 14695981039346656037#64) (by omega)
  refine Ev.congr (fun k => ?_) h
  unfold sum_Sum_Add.f
  rw [not32, begin64]
  rfl
/-- The reference's steps for one byte. -/
def rsteps (x : BitVec 32) : Nat → Nat → BitVec 32 → BitVec 32
  | 0, _, s => s
  | n + 1, k, s => rsteps x n (k + 1) (rstep x k s)
theorem rsteps_all (x : BitVec 32) (hx : x.toNat < 256) (s : BitVec 32) : rsteps x 8 0 s = step4 (step4 (s ^^^ x)) := by
  have hz : x >>> 8 = 0#32 := by
    apply BitVec.eq_of_toNat_eq
    rw [BitVec.toNat_ushiftRight, Nat.shiftRight_eq_div_pow]
    show x.toNat / 256 = 0
    omega
  have h0 : s ^^^ x = s ^^^ (x >>> 0) := by simp
  unfold step4
  rw [h0, rstep_eq x 0 s _ rfl, rstep_eq x 1 _ _ rfl, rstep_eq x 2 _ _ rfl, rstep_eq x 3 _ _ rfl, rstep_eq x 4 _ _ rfl, rstep_eq x 5 _ _ rfl, rstep_eq x 6 _ _ rfl, rstep_eq x 7 _ _ rfl, hz]
  simp [rsteps]
theorem shr_byte {x : Int} (h0 : 0 ≤ x) (h1 : x < 256) {k : Nat} (hk : k ≤ 8) : (shr .u8 x (k : Int)) % 4294967296 = (((b32 x) >>> k).toNat : Int) := by
  obtain ⟨a, rfl⟩ := Int.eq_ofNat_of_zero_le h0
  unfold shr b32
  rw [BitVec.ofInt_natCast, BitVec.toNat_ushiftRight, Nat.shiftRight_eq_div_pow, BitVec.toNat_ofNat, Int.toNat_natCast, show IntKind.u8.bits = 8 from rfl, Nat.min_eq_left hk]
  have h2 : a % 2 ^ 32 = a := Nat.mod_eq_of_lt (by omega)
  rw [h2]
  have h3 : a / 2 ^ k ≤ a := Nat.div_le_self _ _
  have h4 : ((a : Int) / 2 ^ k) = ((a / 2 ^ k : Nat) : Int) := by simp
  have h5 : a < 256 := by omega
  show ((a : Int) / 2 ^ k) % 4294967296 = ((a / 2 ^ k : Nat) : Int)
  rw [h4]
  generalize a / 2 ^ k = q at *
  omega
theorem rcrc_in (l : List Int) (i : Nat) (hi : i < l.length) (hx0 : 0 ≤ l[i]) (hx1 : l[i] < 256) (r : Int) (d : Nat) : ∀ (j : Nat) (s : BitVec 32), j + d = 8 →
    Ev (fun k => cringleref08_Crc.l0 k l ((rsteps (b32 l[i]) d j s).toNat : Int) (wrap64 ((i : Int) + 1))) r →
    Ev (fun k => cringleref08_Crc.l1 k l (s.toNat : Int) (i : Int) (j : Int)) r := by
  induction d with
  | zero =>
    intro j s hj h
    refine Ev.step (fun k => ?_) h
    simp only [cringleref08_Crc.l1]
    rw [if_neg (by omega)]
    rfl
  | succ d ih =>
    intro j s hj h
    refine Ev.step (f := fun k => cringleref08_Crc.l1 k l ((rstep (b32 l[i]) j s).toNat : Int) (i : Int) ((j + 1 : Nat) : Int)) (fun k => ?_) (ih (j + 1) _ (by omega) h)
    simp only [cringleref08_Crc.l1]
    rw [if_pos (by omega), if_pos (by omega), if_pos (by omega), if_pos (by omega), rd_get hi, shr_byte hx0 hx1 (by omega), xor32, low_bit, wrap_next (by omega)]
    unfold rstep
    cases (s ^^^ b32 l[i] >>> j).getLsbD 0 with
    | false =>
      simp only [Bool.false_eq_true, if_false, Int.reduceEq]
      rw [shr1']
    | true =>
      rw [if_pos rfl, if_pos rfl, if_pos rfl, shr1']
      have hp := xor32 (s >>> 1) poly
      rw [show (poly.toNat : Int) = 3988292384 from rfl] at hp
      rw [hp]
theorem rcrc_loop (l : List Int) (hn : l.length ≤ 140737488351232) (hl : ∀ x ∈ l, 0 ≤ x ∧ x < 256) (d : Nat) : ∀ (i : Nat) (s : BitVec 32), i + d = l.length →
    Ev (fun k => cringleref08_Crc.l0 k l (s.toNat : Int) (i : Int)) ((~~~(crcs s (l.drop i))).toNat : Int) := by
  induction d with
  | zero =>
    intro i s hi
    refine Ev.step (f := fun _ => some ((~~~(crcs s (l.drop i))).toNat : Int)) (fun k => ?_) (Ev.now _)
    simp only [cringleref08_Crc.l0]
    rw [if_neg (by omega), not32, List.drop_of_length_le (by omega)]
    rfl
  | succ d ih =>
    intro i s hi
    have hlt : i < l.length := by omega
    have hx := hl l[i] (List.getElem_mem hlt)
    refine Ev.step (f := fun k => cringleref08_Crc.l1 k l (s.toNat : Int) (i : Int) ((0 : Nat) : Int)) (fun k => ?_) ?_
    · simp only [cringleref08_Crc.l0]
      rw [if_pos (by omega)]
      rfl
    · refine rcrc_in l i hlt hx.1 hx.2 _ 8 0 s rfl ?_
      rw [List.drop_eq_getElem_cons hlt, wrap_next (by omega), rsteps_all _ (by unfold b32; rw [BitVec.toNat_ofInt]; show (l[i] % 4294967296).toNat < 256; omega)]
      exact ih (i + 1) _ (by omega)
theorem rcrc_ev (l : List Int) (hn : l.length ≤ 140737488351232) (hl : ∀ x ∈ l, 0 ≤ x ∧ x < 256) : Ev (fun k => cringleref08_Crc.f k l) ((~~~(crcs (~~~0#32) l)).toNat : Int) :=
  rcrc_loop l hn hl l.length 0 (~~~0#32) (by omega)
theorem rmark_loop (l : List Int) (hn : l.length ≤ 140737488351232) (d : Nat) : ∀ (i : Nat) (m : BitVec 64), i + d = l.length →
    Ev (fun k => cringleref08_Mark.l0 k l (m.toNat : Int) (i : Int)) ((marks m (l.drop i)).toNat : Int) := by
  induction d with
  | zero =>
    intro i m hi
    refine Ev.step (f := fun _ => some ((marks m (l.drop i)).toNat : Int)) (fun k => ?_) (Ev.now _)
    simp only [cringleref08_Mark.l0]
    rw [if_neg (by omega), List.drop_of_length_le (by omega)]
    rfl
  | succ d ih =>
    intro i m hi
    have hlt : i < l.length := by omega
    refine Ev.step (f := fun k => cringleref08_Mark.l0 k l ((mark1 m l[i]).toNat : Int) ((i + 1 : Nat) : Int)) (fun k => ?_) ?_
    · simp only [cringleref08_Mark.l0]
      rw [if_pos (by omega), if_pos (by omega), rd_get hlt, mmask, prime64, wrap_next (by omega)]
      rfl
    · rw [List.drop_eq_getElem_cons hlt]
      exact ih (i + 1) _ (by omega)
theorem rmark_ev (l : List Int) (hn : l.length ≤ 140737488351232) : Ev (fun k => cringleref08_Mark.f k l) ((marks (0#64 ^^^ 14695981039346656037#64) l).toNat : Int) :=
  rmark_loop l hn l.length 0 (0#64 ^^^ 14695981039346656037#64) (by omega)
/-! hex digits -/
def hexs : List UInt8 := [48, 49, 50, 51, 52, 53, 54, 55, 56, 57, 97, 98, 99, 100, 101, 102]
/-- The i lowest digits of n, the highest first. -/
def low (n : Nat) : Nat → List UInt8
  | 0 => []
  | i + 1 => hexs.getD (n / 16 ^ i % 16) 0 :: low n i
theorem hex_loop (n : Nat) (hn : n < 18446744073709551616) : ∀ (i : Nat) (b : List Int), i ≤ 16 → b.length + i ≤ 16 →
    Ev (fun k => sum_Hex.l0 k (n : Int) b ((i : Int) - 1)) (strOfNums (b ++ (low n i).map fun c => (c.toNat : Int))) := by
  intro i
  induction i with
  | zero =>
    intro b hi hb
    refine Ev.step (f := fun _ => some (strOfNums (b ++ []))) (fun k => ?_) (Ev.now _)
    simp only [sum_Hex.l0]
    rw [if_neg (by omega), List.append_nil]
  | succ i ih =>
    intro b hi hb
    have hw : wrap64 (4 * (((i + 1 : Nat) : Int) - 1)) = ((4 * i : Nat) : Int) := by unfold wrap64; omega
    have hs : shr .u64 (n : Int) ((4 * i : Nat) : Int) = ((n / 16 ^ i : Nat) : Int) := by
      unfold shr
      rw [Int.toNat_natCast, show IntKind.u64.bits = 64 from rfl, Nat.min_eq_left (by omega), Int.pow_mul]
      simp
    have hq : n / 16 ^ i < 18446744073709551616 := Nat.lt_of_le_of_lt (Nat.div_le_self _ _) hn
    have hb15 : Go.bits .and .u64 ((n / 16 ^ i : Nat) : Int) 15 = ((n / 16 ^ i % 16 : Nat) : Int) := by
      have := bits_mask .u64 64 (by decide) (fun x h0 h1 => by rw [wrap_u64]; omega) 4 (by decide) ((n / 16 ^ i : Nat) : Int) (Int.natCast_nonneg _) (by generalize n / 16 ^ i = q at hq ⊢; omega)
      simpa using this
    have hm : n / 16 ^ i % 16 < 16 := Nat.mod_lt _ (by decide)
    have hbt : bt (⟨#[48, 49, 50, 51, 52, 53, 54, 55, 56, 57, 97, 98, 99, 100, 101, 102]⟩ : ByteArray) ((n / 16 ^ i % 16 : Nat) : Int) = ((hexs.getD (n / 16 ^ i % 16) 0).toNat : Int) := by
      have key : ∀ j : Fin 16, bt (⟨#[48, 49, 50, 51, 52, 53, 54, 55, 56, 57, 97, 98, 99, 100, 101, 102]⟩ : ByteArray) ((j.val : Nat) : Int) = ((hexs.getD j.val 0).toNat : Int) := by decide
      exact key ⟨_, hm⟩
    have hd : wrap64 (((i + 1 : Nat) : Int) - 1 - 1) = (i : Int) - 1 := by unfold wrap64; omega
    refine Ev.step (f := fun k => sum_Hex.l0 k (n : Int) (b ++ [((hexs.getD (n / 16 ^ i % 16) 0).toNat : Int)]) ((i : Int) - 1)) (fun k => ?_) ?_
    · simp only [sum_Hex.l0]
      rw [if_pos (by omega), hw, if_pos (by omega), hs, hb15, if_pos (Int.natCast_nonneg _), if_pos (by generalize n / 16 ^ i % 16 = q at hm ⊢; omega), if_pos (by omega), hbt, hd]
    · have := ih (b ++ [((hexs.getD (n / 16 ^ i % 16) 0).toNat : Int)]) (by omega) (by simp; omega)
      simpa [low] using this
/-- How many digits are asked for. -/
def many (d : Int) : Nat := (mn (mx d 0) 16).toNat
theorem many_le (d : Int) : many d ≤ 16 := by unfold many mn mx; split <;> split <;> omega
theorem strOf_bytes (l : List UInt8) : strOfNums (l.map fun c => (c.toNat : Int)) = ⟨l.toArray⟩ := by
  unfold strOfNums
  rw [List.map_map]
  congr 2
  conv => rhs; rw [← List.map_id l]
  apply List.map_congr_left
  intro c _
  simp
theorem hex_ev (n d : Int) (h0 : 0 ≤ n) (h1 : n < 18446744073709551616) : Ev (fun k => sum_Hex.f k n d) ⟨(low n.toNat (many d)).toArray⟩ := by
  obtain ⟨m, rfl⟩ := Int.eq_ofNat_of_zero_le h0
  have h := hex_loop m (by omega) (many d) [] (many_le d) (by simpa using many_le d)
  rw [List.nil_append, strOf_bytes] at h
  refine Ev.congr (fun k => ?_) h
  unfold sum_Hex.f
  have : mn (mx d 0) 16 = ((many d : Nat) : Int) := by unfold many mn mx; split <;> split <;> omega
  rw [this]
theorem tmod_nat (q : Nat) : Int.tmod (q : Int) 16 = ((q % 16 : Nat) : Int) := by
  rw [Int.tmod_eq_emod_of_nonneg (by omega)]; omega
theorem tdiv_nat (q : Nat) : Int.tdiv (q : Int) 16 = ((q / 16 : Nat) : Int) := by
  rw [Int.tdiv_eq_ediv_of_nonneg (by omega)]; omega
theorem wrap_u64_nat {q : Nat} (h : q < 18446744073709551616) : IntKind.u64.wrap (q : Int) = (q : Int) := by rw [wrap_u64]; omega
theorem wrap_u64_succ {q : Nat} (h : q < 16) : IntKind.u64.wrap ((q : Int) + 1) = ((q + 1 : Nat) : Int) := by rw [wrap_u64]; omega
theorem rhex_loop (d : Int) (N : Nat) (hN : N < 18446744073709551616) (z : Nat) : ∀ (i : Nat) (s : ByteArray), i + z = many d → s.size = i → s.data.toList = low N i →
    Ev (fun k => cringleref08_Hex.l0 k ((N / 16 ^ i : Nat) : Int) d (⟨#[48, 49, 50, 51, 52, 53, 54, 55, 56, 57, 97, 98, 99, 100, 101, 102]⟩ : ByteArray) s (i : Int)) ⟨(low N (many d)).toArray⟩ := by
  induction z with
  | zero =>
    intro i s hi hs hl
    refine Ev.step (f := fun _ => some ⟨(low N (many d)).toArray⟩) (fun k => ?_) (Ev.now _)
    have hr : s = ⟨(low N (many d)).toArray⟩ := by
      rw [← hi, Nat.add_zero, ← hl]
    simp only [cringleref08_Hex.l0]
    have : ¬ ((i : Int) < d ∧ (i : Int) < 16) := by
      unfold many mn mx at hi
      split at hi <;> split at hi <;> omega
    by_cases h1 : (i : Int) < d
    · rw [if_pos h1, if_neg (by omega), hr]
    · rw [if_neg h1, hr]
  | succ z ih =>
    intro i s hi hs hl
    have hd : (i : Int) < d ∧ (i : Int) < 16 := by
      unfold many mn mx at hi
      split at hi <;> split at hi <;> omega
    have hq : N / 16 ^ i < 18446744073709551616 := Nat.lt_of_le_of_lt (Nat.div_le_self _ _) hN
    have ht : Int.tmod ((N / 16 ^ i : Nat) : Int) 16 = ((N / 16 ^ i % 16 : Nat) : Int) := tmod_nat _
    have hv : Int.tdiv ((N / 16 ^ i : Nat) : Int) 16 = ((N / 16 ^ (i + 1) : Nat) : Int) := by
      rw [tdiv_nat, Nat.pow_succ, ← Nat.div_div_eq_div_mul]
    have hq2 : N / 16 ^ (i + 1) < 18446744073709551616 := Nat.lt_of_le_of_lt (Nat.div_le_self _ _) hN
    have hm : N / 16 ^ i % 16 < 16 := Nat.mod_lt _ (by decide)
    have hw1 : IntKind.u64.wrap (((N / 16 ^ i % 16 : Nat) : Int) + 1) = ((N / 16 ^ i % 16 + 1 : Nat) : Int) := wrap_u64_succ hm
    have hw2 : IntKind.u64.wrap ((N / 16 ^ (i + 1) : Nat) : Int) = ((N / 16 ^ (i + 1) : Nat) : Int) := wrap_u64_nat hq2
    have hx : ((⟨#[48, 49, 50, 51, 52, 53, 54, 55, 56, 57, 97, 98, 99, 100, 101, 102]⟩ : ByteArray).extract (((N / 16 ^ i % 16 : Nat) : Int)).toNat (((N / 16 ^ i % 16 + 1 : Nat) : Int)).toNat) = ⟨#[hexs.getD (N / 16 ^ i % 16) 0]⟩ := by
      have key : ∀ j : Fin 16, (⟨#[48, 49, 50, 51, 52, 53, 54, 55, 56, 57, 97, 98, 99, 100, 101, 102]⟩ : ByteArray).extract ((j.val : Nat) : Int).toNat ((j.val + 1 : Nat) : Int).toNat = ⟨#[hexs.getD j.val 0]⟩ := by decide
      exact key ⟨_, hm⟩
    refine Ev.step (f := fun k => cringleref08_Hex.l0 k ((N / 16 ^ (i + 1) : Nat) : Int) d (⟨#[48, 49, 50, 51, 52, 53, 54, 55, 56, 57, 97, 98, 99, 100, 101, 102]⟩ : ByteArray) (⟨#[hexs.getD (N / 16 ^ i % 16) 0]⟩ ++ s) ((i + 1 : Nat) : Int)) (fun k => ?_) (ih (i + 1) _ (by omega) ?_ ?_)
    · simp only [cringleref08_Hex.l0]
      rw [if_pos hd.1, if_pos hd.2, ht, if_pos (Int.natCast_nonneg _), hw1, if_pos (by generalize N / 16 ^ i % 16 = q; omega), if_pos (by show ((N / 16 ^ i % 16 + 1 : Nat) : Int) ≤ 16; generalize N / 16 ^ i % 16 = q at hm ⊢; omega), hx, if_pos (by show 1 + s.size ≤ _; omega), hv, hw2, wrap_next (by omega)]
    · rw [ByteArray.size_append, hs]
      show 1 + i = i + 1
      omega
    · rw [ByteArray.toList_data_append, hl]
      rfl
theorem rhex_ev (n d : Int) (h0 : 0 ≤ n) (h1 : n < 18446744073709551616) : Ev (fun k => cringleref08_Hex.f k n d) ⟨(low n.toNat (many d)).toArray⟩ := by
  obtain ⟨m, rfl⟩ := Int.eq_ofNat_of_zero_le h0
  have h := rhex_loop d m (by omega) (many d) 0 ⟨#[]⟩ (by omega) rfl rfl
  rw [Nat.pow_zero, Nat.div_one] at h
  exact h
end Go.Proofs.Ytibjkbanlolgiaa.Plain
