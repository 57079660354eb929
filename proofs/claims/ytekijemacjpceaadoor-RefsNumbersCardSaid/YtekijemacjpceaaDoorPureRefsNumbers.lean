/- The pure statement of RefsNumbers. No condition. -/
import Derived.Test.YtekijemacjpceaaDoorSayRefsNumbers
import Derived.Test.YtekijemacjpceaaDoorConn
import Derived.Test.YtekijemacjpceaaDoorText11
namespace Go.Proofs.YtekijemacjpceaaDoor.Pure
open Go.RowKit Go.Proofs.YtekijemacjpceaaDoor.Q Go.Proofs.YtekijemacjpceaaDoorW.PrintWords Go.Proofs.YtekijemacjpceaaDoorW.PrintLast Go.Proofs.YtekijemacjpceaaDoorW.PrintMore Go.Proofs.YtekijemacjpceaaDoor.Plain
open Go.Proofs.YtekijemacjpceaaDoor.U8 (B nxt spec encB items text mend signs Right)
open Go.Proofs.YtekijemacjpceaaDoor.Rf
set_option linter.unusedVariables false
/-- Digits that tell n. -/
def Tells (base : Nat) (n : Nat) (L : List UInt8) : Prop := L ≠ [] ∧ (∀ x ∈ L, isD base x = true) ∧ L.foldl (addD base) 0 = n ∧ L.length ≤ 40
theorem tw_all (p : UInt8 → Bool) : ∀ (a : List UInt8) (c : UInt8) (r : List UInt8), (∀ x ∈ a, p x = true) → p c = false → (a ++ c :: r).takeWhile p = a
  | [], c, r, _, h => by rw [List.nil_append, List.takeWhile_cons_of_neg (by rw [h]; simp)]
  | x :: a, c, r, ha, h => by
    rw [List.cons_append, List.takeWhile_cons_of_pos (ha x (by simp)), tw_all p a c r (fun y hy => ha y (by simp [hy])) h]
theorem numAt_tells {base n : Nat} {L : List UInt8} (h : Tells base n L) (pre : List UInt8) (c : UInt8) (r : List UInt8) (hc : isD base c = false) :
    numAt base pre.length (pre ++ (L ++ c :: r)) = some (numOf n, if c = 59 then pre.length + L.length + 1 else pre.length + L.length) := by
  obtain ⟨h1, h2, h3, h4⟩ := h
  unfold numAt
  rw [List.drop_left, tw_all (isD base) L c r h2 hc, if_neg h1, h3]
  unfold endAt
  rw [show (pre ++ (L ++ c :: r))[pre.length + L.length]? = some c from by
    rw [List.getElem?_append_right (by omega), List.getElem?_append_right (by omega)]
    simp]
  by_cases hcc : c = 59
  · rw [if_pos (by rw [hcc]), if_pos hcc]
  · rw [if_neg (fun e => hcc (Option.some.inj e)), if_neg hcc]
theorem digit_noX {x : UInt8} (h : isD 10 x = true) : x ≠ 120 ∧ x ≠ 88 := by
  constructor
  · intro e; rw [e] at h; revert h; decide
  · intro e; rw [e] at h; revert h; decide
theorem next_dec {n : Nat} {L : List UInt8} (h : Tells 10 n L) (attr : Bool) (c : UInt8) (r : List UInt8) (hc : isD 10 c = false) :
    nextRef attr ([38, 35] ++ (L ++ c :: r)) = some (numOf n, if c = 59 then 2 + L.length + 1 else 2 + L.length) := by
  unfold nextRef
  rw [if_pos (by simp [List.isPrefixOf]), numRef_at]
  have hb : baseOf ([38, 35] ++ (L ++ c :: r)) = (10, 2) := by
    unfold baseOf
    rw [if_neg]
    obtain ⟨h1, h2, _, _⟩ := h
    cases L with
    | nil => exact absurd rfl h1
    | cons x t =>
      have := digit_noX (h2 x (by simp))
      simp [this.1, this.2]
  rw [hb]
  exact numAt_tells h [38, 35] c r hc
theorem next_hex {n : Nat} {L : List UInt8} (h : Tells 16 n L) (attr : Bool) (x : UInt8) (hx : x = 120 ∨ x = 88) (c : UInt8) (r : List UInt8) (hc : isD 16 c = false) :
    nextRef attr ([38, 35, x] ++ (L ++ c :: r)) = some (numOf n, if c = 59 then 3 + L.length + 1 else 3 + L.length) := by
  unfold nextRef
  rw [if_pos (by simp [List.isPrefixOf]), numRef_at]
  have hb : baseOf ([38, 35, x] ++ (L ++ c :: r)) = (16, 3) := by
    unfold baseOf
    rw [if_pos]
    rcases hx with rfl | rfl <;> simp
  rw [hb]
  exact numAt_tells h [38, 35, x] c r hc
theorem dec_end (attr : Bool) {pre L : List UInt8} {n : Int} {r : List UInt8} (h : nextRef attr (pre ++ (L ++ 59 :: r)) = some (n, pre.length + L.length + 1)) : dec attr (pre ++ (L ++ 59 :: r)) = encI n ++ dec attr r := by
  rw [dec_some attr h]
  congr 2
  rw [← List.append_assoc, List.append_cons]
  exact List.drop_left' (by simp; omega)
theorem dec_stop (attr : Bool) {pre L : List UInt8} {n : Int} {r : List UInt8} (h : nextRef attr (pre ++ (L ++ 32 :: r)) = some (n, pre.length + L.length)) : dec attr (pre ++ (L ++ 32 :: r)) = encI n ++ dec attr (32 :: r) := by
  rw [dec_some attr h]
  congr 2
  rw [← List.append_assoc]
  exact List.drop_left' (by simp)
theorem dec_excl (attr : Bool) : dec attr [33] = [33] := by
  rw [dec_none attr (next_other attr [] (by decide)), dec_nil]
theorem dec_space (attr : Bool) : dec attr [32] = [32] := by
  rw [dec_none attr (next_other attr [] (by decide)), dec_nil]
/-! the digits told -/
def dig (x : Nat) : UInt8 := (48 + x % 10).toUInt8
theorem dig_all : ∀ i : Fin 10, hexv (48 + i.val).toUInt8.toNat = i.val ∧ isD 10 (48 + i.val).toUInt8 = true := by decide +kernel
def hdig (x : Nat) : UInt8 := ([48, 49, 50, 51, 52, 53, 54, 55, 56, 57, 97, 98, 99, 100, 101, 102] : List UInt8).getD (x % 16) 0
def HEX : ByteArray := ⟨#[48, 49, 50, 51, 52, 53, 54, 55, 56, 57, 97, 98, 99, 100, 101, 102]⟩
theorem hdig_all : ∀ i : Fin 16, hexv (hdig i.val).toNat = i.val ∧ isD 16 (hdig i.val) = true ∧ D (HEX.extract i.val (i.val + 1)) = [hdig i.val] := by decide +kernel
theorem dig_fact (x : Nat) : hexv (dig x).toNat = x % 10 ∧ isD 10 (dig x) = true := dig_all ⟨x % 10, by omega⟩
theorem hdig_mod (x : Nat) : hdig x = hdig (x % 16) := by unfold hdig; rw [Nat.mod_mod]
theorem hdig_fact (x : Nat) : hexv (hdig x).toNat = x % 16 ∧ isD 16 (hdig x) = true ∧ HEX.extract (x % 16) (x % 16 + 1) = strOf [hdig x] := by
  have := hdig_all ⟨x % 16, by omega⟩
  simp only [] at this
  rw [hdig_mod]
  exact ⟨this.1, this.2.1, D_inj this.2.2⟩
theorem addD_back (base x : Nat) (c : UInt8) (hb : 0 < base) (hx : x ≤ 4294967295) (hc : hexv c.toNat = x % base) : addD base (x / base) c = x := by
  unfold addD
  rw [hc]
  have := Nat.div_add_mod x base
  rw [Nat.mul_comm] at this
  omega
theorem num_str (x : Nat) : strOfNums [((48 + Int.tmod (x : Int) 10) % 4294967296) % 256] = strOf [dig x] := by
  rw [Int.tmod_eq_emod_of_nonneg (by omega), show ((48 + (x : Int) % 10) % 4294967296) % 256 = ((48 + x % 10 : Nat) : Int) from by omega]
  rfl
theorem tdiv_nat (x b : Nat) (h : x ≤ 4294967295) : (Int.tdiv (x : Int) (b : Int)) % 4294967296 = ((x / b : Nat) : Int) := by
  rw [Int.tdiv_eq_ediv_of_nonneg (by omega)]
  have h1 : ((x / b : Nat) : Int) = (x : Int) / (b : Int) := by simp
  have h2 := Nat.div_le_self x b
  rw [← h1]
  clear h1
  generalize x / b = q at *
  omega
theorem cons_str (c : UInt8) (L : List UInt8) : strOf [c] ++ strOf L = strOf (c :: L) := str_cat2 [c] L
theorem dec_loop (n z : Nat) (c : Int) (hn : n ≤ 4294967295) (hk : ∀ L, Tells 10 n L → L.length ≤ 12 → Ev (fun k => cringlelaw11_RefsNumbers.l1 k (z : Int) c (strOf L) (⟨#[]⟩ : ByteArray) (n : Int) true) true) : ∀ (j x : Nat) (L : List UInt8) (flag : Bool), x < 10 ^ j → (flag = true → 1 ≤ j) → (flag = false → L ≠ []) → L.length + j ≤ 11 → x ≤ 4294967295 → (∀ y ∈ L, isD 10 y = true) → L.foldl (addD 10) x = n →
    Ev (fun k => cringlelaw11_RefsNumbers.l0 k (n : Int) (z : Int) c (strOf L) (⟨#[]⟩ : ByteArray) (x : Int) flag) true := by
  intro j
  induction j with
  | zero =>
    intro x L flag hx hf hne hl hx2 hD hfold
    have hx0 : x = 0 := by simp at hx; exact hx
    cases flag with
    | true => have := hf rfl; omega
    | false =>
      refine Ev.step (fun k => by simp only [cringlelaw11_RefsNumbers.l0]; rw [if_neg (by simp), if_neg (by omega)]) ?_
      exact hk L ⟨hne rfl, hD, by rw [hx0] at hfold; exact hfold, by omega⟩ (by omega)
  | succ j ih =>
    intro x L flag hx hf hne hl hx2 hD hfold
    have hrec : Ev (fun k => cringlelaw11_RefsNumbers.l0 k (n : Int) (z : Int) c (strOf (dig x :: L)) (⟨#[]⟩ : ByteArray) ((x / 10 : Nat) : Int) false) true := by
      refine ih (x / 10) (dig x :: L) false ?_ (fun h => by cases h) (fun _ => by simp) (by simp; omega) (by omega) ?_ ?_
      · rw [Nat.pow_succ] at hx; omega
      · intro y hy
        rcases List.mem_cons.1 hy with rfl | hy
        · exact (dig_fact x).2
        · exact hD y hy
      · rw [List.foldl_cons, addD_back 10 x (dig x) (by omega) hx2 (dig_fact x).1]
        exact hfold
    have hcut := tdiv_nat x 10 hx2
    have hsz : (strOf [dig x]).size + (strOf L).size ≤ 9223372036854775807 := by rw [strOf_size, strOf_size]; simp; omega
    cases flag with
    | true =>
      refine Ev.step (fun k => by simp only [cringlelaw11_RefsNumbers.l0]; rw [if_pos trivial]) ?_
      refine Ev.bind (Ev.now _) ?_
      rw [num_str, cons_str]
      refine Ev.congr (fun k => if_pos hsz) ?_
      rw [show (Int.tdiv (x : Int) 10) % 4294967296 = ((x / 10 : Nat) : Int) from hcut]
      exact hrec
    | false =>
      by_cases h0 : x = 0
      · refine Ev.step (fun k => by simp only [cringlelaw11_RefsNumbers.l0]; rw [if_neg (by simp), if_neg (by omega)]) ?_
        exact hk L ⟨hne rfl, hD, by rw [h0] at hfold; exact hfold, by omega⟩ (by omega)
      · refine Ev.step (fun k => by simp only [cringlelaw11_RefsNumbers.l0]; rw [if_neg (by simp), if_pos (by omega)]) ?_
        refine Ev.bind (Ev.now _) ?_
        rw [num_str, cons_str]
        refine Ev.congr (fun k => if_pos hsz) ?_
        rw [show (Int.tdiv (x : Int) 10) % 4294967296 = ((x / 10 : Nat) : Int) from hcut]
        exact hrec
theorem hex_loop (n z : Nat) (c : Int) (P : List UInt8) (hk : ∀ L, Tells 16 n L → L.length ≤ 12 → Ev (fun k => cringlelaw11_RefsNumbers.l2 k c (strOf P) (strOf L) (Int.tmod (z : Int) 20) 0) true) : ∀ (j x : Nat) (L : List UInt8) (flag : Bool), x < 16 ^ j → (flag = true → 1 ≤ j) → (flag = false → L ≠ []) → L.length + j ≤ 11 → x ≤ 4294967295 → (∀ y ∈ L, isD 16 y = true) → L.foldl (addD 16) x = n →
    Ev (fun k => cringlelaw11_RefsNumbers.l1 k (z : Int) c (strOf P) (strOf L) (x : Int) flag) true := by
  intro j
  induction j with
  | zero =>
    intro x L flag hx hf hne hl hx2 hD hfold
    have hx0 : x = 0 := by simp at hx; exact hx
    cases flag with
    | true => have := hf rfl; omega
    | false =>
      refine Ev.step (fun k => by simp only [cringlelaw11_RefsNumbers.l1]; rw [if_neg (by simp), if_neg (by omega)]) ?_
      exact hk L ⟨hne rfl, hD, by rw [hx0] at hfold; exact hfold, by omega⟩ (by omega)
  | succ j ih =>
    intro x L flag hx hf hne hl hx2 hD hfold
    obtain ⟨f1, f2, f3⟩ := hdig_fact x
    have hrec : Ev (fun k => cringlelaw11_RefsNumbers.l1 k (z : Int) c (strOf P) (strOf (hdig x :: L)) ((x / 16 : Nat) : Int) false) true := by
      refine ih (x / 16) (hdig x :: L) false ?_ (fun h => by cases h) (fun _ => by simp) (by simp; omega) (by omega) ?_ ?_
      · rw [Nat.pow_succ] at hx; omega
      · intro y hy
        rcases List.mem_cons.1 hy with rfl | hy
        · exact f2
        · exact hD y hy
      · rw [List.foldl_cons, addD_back 16 x (hdig x) (by omega) hx2 f1]
        exact hfold
    have hcut := tdiv_nat x 16 hx2
    have hm : Int.tmod (x : Int) 16 = ((x % 16 : Nat) : Int) := by rw [Int.tmod_eq_emod_of_nonneg (by omega)]; omega
    have hm1 : (((x % 16 : Nat) : Int) + 1) % 4294967296 = ((x % 16 + 1 : Nat) : Int) := by omega
    have f3' : (⟨#[48, 49, 50, 51, 52, 53, 54, 55, 56, 57, 97, 98, 99, 100, 101, 102]⟩ : ByteArray).extract (x % 16) (x % 16 + 1) = strOf [hdig x] := f3
    have hsz : (strOf [hdig x]).size + (strOf L).size ≤ 9223372036854775807 := by rw [strOf_size, strOf_size]; simp; omega
    cases flag with
    | true =>
      refine Ev.step (fun k => by simp only [cringlelaw11_RefsNumbers.l1]; rw [if_pos trivial, hm, hm1, if_pos (by omega), if_pos (by omega), if_pos (by omega), Int.toNat_natCast, Int.toNat_natCast, f3', if_pos hsz, cons_str, show (Int.tdiv (x : Int) 16) % 4294967296 = ((x / 16 : Nat) : Int) from hcut]) ?_
      exact hrec
    | false =>
      by_cases h0 : x = 0
      · refine Ev.step (fun k => by simp only [cringlelaw11_RefsNumbers.l1]; rw [if_neg (by simp), if_neg (by omega)]) ?_
        exact hk L ⟨hne rfl, hD, by rw [h0] at hfold; exact hfold, by omega⟩ (by omega)
      · refine Ev.step (fun k => by simp only [cringlelaw11_RefsNumbers.l1]; rw [if_neg (by simp), if_pos (by omega), hm, hm1, if_pos (by omega), if_pos (by omega), if_pos (by omega), Int.toNat_natCast, Int.toNat_natCast, f3', if_pos hsz, cons_str, show (Int.tdiv (x : Int) 16) % 4294967296 = ((x / 16 : Nat) : Int) from hcut]) ?_
        exact hrec
theorem tells_zero {base n : Nat} {L : List UInt8} (hb : 0 < base) (h : Tells base n L) (hl : L.length ≤ 39) : Tells base n (48 :: L) := by
  obtain ⟨h1, h2, h3, h4⟩ := h
  refine ⟨by simp, fun x hx => ?_, ?_, by simp; omega⟩
  · rcases List.mem_cons.1 hx with rfl | hx
    · unfold isD
      exact decide_eq_true hb
    · exact h2 x hx
  · rw [List.foldl_cons, show addD base 0 48 = 0 from by unfold addD; rw [show hexv (48 : UInt8).toNat = 0 from by decide]; simp]
    exact h3
theorem zero_loop (n m : Nat) (c : Int) (hm : m ≤ 20) (hk : ∀ A H, Tells 10 n A → Tells 16 n H → Ev (fun k => (cringleref02_Put.f k ([] : List Int) ([c] : List Int)).bind fun t332 => (if 2 + (strOf A).size ≤ 9223372036854775807 then (if ((⟨#[38, 35]⟩ : ByteArray) ++ strOf A).size + 1 ≤ 9223372036854775807 then (if 3 + (strOf H).size ≤ 9223372036854775807 then (if ((⟨#[38, 35, 120]⟩ : ByteArray) ++ strOf H).size + 1 ≤ 9223372036854775807 then (if ((⟨#[38, 35, 88]⟩ : ByteArray) ++ strOf H).size + 1 ≤ 9223372036854775807 then ((some (([((⟨#[38, 35]⟩ : ByteArray) ++ strOf A) ++ (⟨#[59]⟩ : ByteArray), ((⟨#[38, 35, 120]⟩ : ByteArray) ++ strOf H) ++ (⟨#[59]⟩ : ByteArray), ((⟨#[38, 35, 88]⟩ : ByteArray) ++ strOf H) ++ (⟨#[59]⟩ : ByteArray)] : List ByteArray) : List ByteArray)).bind fun y335 => (cringlelaw11_RefsNumbers.l3 k (strOf A) (strOfNums t332) y335 (y335.length : Int) 0)) else (none)) else (none)) else (none)) else (none)) else (none))) true) (d : Nat) :
    ∀ (i : Nat) (A H : List UInt8), i + d = m → A.length ≤ 12 + i → H.length ≤ 12 + i → Tells 10 n A → Tells 16 n H → Ev (fun k => cringlelaw11_RefsNumbers.l2 k c (strOf A) (strOf H) (m : Int) (i : Int)) true := by
  induction d with
  | zero =>
    intro i A H hi hA hH tA tH
    refine Ev.step (fun k => by simp only [cringlelaw11_RefsNumbers.l2]; rw [if_neg (by omega)]) ?_
    exact hk A H tA tH
  | succ d ih =>
    intro i A H hi hA hH tA tH
    have e : ((i : Int) + 1) % 256 = ((i + 1 : Nat) : Int) := by omega
    refine Ev.step (fun k => by simp only [cringlelaw11_RefsNumbers.l2]; rw [if_pos (by omega), if_pos (by rw [strOf_size]; omega), if_pos (by rw [strOf_size]; omega), e]) ?_
    show Ev (fun k => cringlelaw11_RefsNumbers.l2 k c (strOf [48] ++ strOf A) (strOf [48] ++ strOf H) (m : Int) ((i + 1 : Nat) : Int)) true
    rw [cons_str, cons_str]
    exact ih (i + 1) (48 :: A) (48 :: H) (by omega) (by simp; omega) (by simp; omega) (tells_zero (by omega) tA (by omega)) (tells_zero (by omega) tH (by omega))
/-! the texts decoded -/
theorem excl_str (l : List UInt8) : strOf l ++ (⟨#[33]⟩ : ByteArray) = strOf (l ++ [33]) := str_cat2 l [33]
theorem space_str (l : List UInt8) : strOf l ++ (⟨#[32]⟩ : ByteArray) = strOf (l ++ [32]) := str_cat2 l [32]
theorem told_loop (n : Nat) (A : List UInt8) (tA : Tells 10 n A) (ts : List (List UInt8)) (hts : ∀ t ∈ ts, t.length ≤ 100 ∧ dec false t = encI (numOf n) ∧ dec true (t ++ [33]) = encI (numOf n) ++ [33]) (hl : ts.length ≤ 10) (d : Nat) : ∀ i : Nat, i + d = ts.length →
    Ev (fun k => cringlelaw11_RefsNumbers.l3 k (strOf A) (strOf (encI (numOf n))) (ts.map strOf) (((ts.map strOf).length : Nat) : Int) (i : Int)) true := by
  have he := encI_len (numOf n)
  have hA := tA.2.2.2
  induction d with
  | zero =>
    intro i hi
    have hdec := Decode_ev (strOf ([38, 35] ++ (A ++ [32]))) false (by rw [strOf_size]; simp; omega)
    rw [D_str] at hdec
    have hn := next_dec tA false 32 [] (by decide)
    rw [if_neg (by decide)] at hn
    rw [show ([38, 35] ++ (A ++ [32]) : List UInt8) = [38, 35] ++ (A ++ 32 :: []) from rfl, dec_stop false hn, dec_space] at hdec
    refine Ev.step (fun k => by simp only [cringlelaw11_RefsNumbers.l3]; rw [if_neg (by rw [List.length_map]; omega), if_pos (by rw [strOf_size]; omega)]) ?_
    show Ev (fun k => if (strOf [38, 35] ++ strOf A).size + 1 ≤ 9223372036854775807 then (refs_Decode.f k ((strOf [38, 35] ++ strOf A) ++ (⟨#[32]⟩ : ByteArray)) false).bind _ else none) true
    rw [str_cat2, space_str, List.append_assoc]
    refine Ev.congr (fun k => if_pos (by rw [strOf_size]; simp; omega)) ?_
    refine Ev.bind hdec ?_
    refine Ev.congr (fun k => if_pos (by rw [strOf_size]; omega)) ?_
    rw [space_str]
    refine Ev.congr (fun k => if_pos rfl) ?_
    exact alive_then
  | succ d ih =>
    intro i hi
    have hlt : i < ts.length := by omega
    have hltm : i < (ts.map strOf).length := by rw [List.length_map]; exact hlt
    obtain ⟨h1, h2, h3⟩ := hts _ (List.getElem_mem hlt)
    have hrec := ih (i + 1) (by omega)
    have hat : rdOf ByteArray.empty (ts.map strOf) (i : Int) = strOf ts[i] := by rw [rdOf_at hltm, List.getElem_map]
    refine Ev.step (fun k => by simp only [cringlelaw11_RefsNumbers.l3]; rw [if_pos (by omega), if_pos (by omega), if_pos (by omega), hat, next (by omega), excl_str, excl_str]) ?_
    generalize ts[i] = t at *
    have d1 := Decode_ev (strOf t) false (by rw [strOf_size]; omega)
    have d2 := Decode_ev (strOf (t ++ [33])) true (by rw [strOf_size]; simp; omega)
    rw [D_str, h2] at d1
    rw [D_str, h3] at d2
    refine Ev.bind d1 ?_
    refine Ev.congr (fun k => (if_pos rfl).trans (if_pos (by rw [strOf_size]; omega))) ?_
    refine Ev.bind d2 ?_
    refine Ev.congr (fun k => (if_pos (by rw [strOf_size]; omega)).trans (if_pos rfl)) ?_
    exact hrec
theorem put_told (c : Int) : Ev (fun k => cringleref02_Put.f k ([] : List Int) [c]) (nm (encI c)) := by
  have := rput_ev [] [c] (by simp) (by simp)
  rw [List.nil_append, putZ_one] at this
  exact this
theorem after (n : Nat) (A H : List UInt8) (tA : Tells 10 n A) (tH : Tells 16 n H) : Ev (fun k => (cringleref02_Put.f k ([] : List Int) ([numOf n] : List Int)).bind fun t332 => (if 2 + (strOf A).size ≤ 9223372036854775807 then (if ((⟨#[38, 35]⟩ : ByteArray) ++ strOf A).size + 1 ≤ 9223372036854775807 then (if 3 + (strOf H).size ≤ 9223372036854775807 then (if ((⟨#[38, 35, 120]⟩ : ByteArray) ++ strOf H).size + 1 ≤ 9223372036854775807 then (if ((⟨#[38, 35, 88]⟩ : ByteArray) ++ strOf H).size + 1 ≤ 9223372036854775807 then ((some (([((⟨#[38, 35]⟩ : ByteArray) ++ strOf A) ++ (⟨#[59]⟩ : ByteArray), ((⟨#[38, 35, 120]⟩ : ByteArray) ++ strOf H) ++ (⟨#[59]⟩ : ByteArray), ((⟨#[38, 35, 88]⟩ : ByteArray) ++ strOf H) ++ (⟨#[59]⟩ : ByteArray)] : List ByteArray) : List ByteArray)).bind fun y335 => (cringlelaw11_RefsNumbers.l3 k (strOf A) (strOfNums t332) y335 (y335.length : Int) 0)) else (none)) else (none)) else (none)) else (none)) else (none))) true := by
  have hA := tA.2.2.2
  have hH := tH.2.2.2
  refine Ev.bind (put_told (numOf n)) ?_
  have e1 : (⟨#[38, 35]⟩ : ByteArray) ++ strOf A = strOf ([38, 35] ++ A) := str_cat2 [38, 35] A
  have e2 : (⟨#[38, 35, 120]⟩ : ByteArray) ++ strOf H = strOf ([38, 35, 120] ++ H) := str_cat2 [38, 35, 120] H
  have e3 : (⟨#[38, 35, 88]⟩ : ByteArray) ++ strOf H = strOf ([38, 35, 88] ++ H) := str_cat2 [38, 35, 88] H
  have e4 : ∀ l, strOf l ++ (⟨#[59]⟩ : ByteArray) = strOf (l ++ [59]) := fun l => str_cat2 l [59]
  rw [e1, e2, e3, e4, e4, e4, str_nm]
  refine Ev.congr (fun k => (if_pos (by rw [strOf_size]; omega)).trans ((if_pos (by rw [strOf_size]; simp; omega)).trans ((if_pos (by rw [strOf_size]; omega)).trans ((if_pos (by rw [strOf_size]; simp; omega)).trans (if_pos (by rw [strOf_size]; simp; omega)))))) ?_
  refine Ev.bind (Ev.now _) ?_
  have n1 := fun a r => next_dec tA a 59 r (by decide)
  have n2 := fun a r => next_hex tH a 120 (.inl rfl) 59 r (by decide)
  have n3 := fun a r => next_hex tH a 88 (.inr rfl) 59 r (by decide)
  simp only [if_true] at n1 n2 n3
  have key : ∀ (pre L : List UInt8), (∀ a r, nextRef a (pre ++ (L ++ 59 :: r)) = some (numOf n, pre.length + L.length + 1)) → pre.length + L.length ≤ 90 → ((pre ++ L ++ [59]).length ≤ 100 ∧ dec false (pre ++ L ++ [59]) = encI (numOf n) ∧ dec true (pre ++ L ++ [59] ++ [33]) = encI (numOf n) ++ [33]) := fun pre L hn hl => by
    refine ⟨by simp; omega, ?_, ?_⟩
    · rw [List.append_assoc, show L ++ [59] = L ++ 59 :: [] from rfl, dec_end false (hn false []), dec_nil, List.append_nil]
    · rw [List.append_assoc, List.append_assoc, show ([59] ++ [33] : List UInt8) = 59 :: [33] from rfl, dec_end true (hn true [33]), dec_excl]
  refine told_loop n A tA [[38, 35] ++ A ++ [59], [38, 35, 120] ++ H ++ [59], [38, 35, 88] ++ H ++ [59]] (fun t ht => ?_) (by simp) 3 0 rfl
  simp only [List.mem_cons, List.not_mem_nil, or_false] at ht
  rcases ht with rfl | rfl | rfl
  · exact key [38, 35] A n1 (by simp; omega)
  · exact key [38, 35, 120] H n2 (by simp; omega)
  · exact key [38, 35, 88] H n3 (by simp; omega)
theorem run_ev (n z : Nat) (hn : n ≤ 4294967295) (hz : z < 256) : Ev (fun k => cringlelaw11_RefsNumbers.j0 k (n : Int) (z : Int) (numOf n) false) true := by
  refine Ev.step (fun k => by simp only [cringlelaw11_RefsNumbers.j0]; rw [if_neg (by simp)]) ?_
  have hm : Int.tmod (z : Int) 20 = ((z % 20 : Nat) : Int) := by rw [Int.tmod_eq_emod_of_nonneg (by omega)]; omega
  refine dec_loop n z (numOf n) hn (fun A tA lA => ?_) 10 n [] true (by omega) (fun _ => by omega) (fun h => by cases h) (by simp) hn (by simp) rfl
  refine hex_loop n z (numOf n) A (fun H tH lH => ?_) 8 n [] true (by omega) (fun _ => by omega) (fun h => by cases h) (by simp) hn (by simp) rfl
  rw [hm]
  exact zero_loop n (z % 20) (numOf n) (by omega) (fun A' H' a h => after n A' H' a h) (z % 20) 0 A H (by omega) (by omega) (by omega) tA tH
theorem RefsNumbers : Say.RefsNumbers := by
  intro a b ha hb
  have h1 := in_u32 ha
  have h2 := in_u8 hb
  obtain ⟨n, rfl⟩ : ∃ m : Nat, a = (m : Int) := ⟨a.toNat, by omega⟩
  obtain ⟨z, rfl⟩ : ∃ m : Nat, b = (m : Int) := ⟨b.toNat, by omega⟩
  have hrun := run_ev n z (by omega) (by omega)
  have hnum := numOf_fine n
  refine Ev.rounds (g := fun k => cringlelaw11_RefsNumbers.f k (n : Int) (z : Int)) ?_
  unfold cringlelaw11_RefsNumbers.f
  rw [number_eq n (by omega)]
  refine Ev.bind (Ev.now _) ?_
  rw [rright_eq, decide_eq_true hnum.1]
  refine Ev.bind (Ev.now _) ?_
  refine Ev.congr (fun k => if_pos rfl) ?_
  by_cases c1 : n ≥ 160
  · refine Ev.congr (fun k => if_pos (by omega)) ?_
    rw [rright_eq]
    refine Ev.bind (Ev.now _) ?_
    by_cases c2 : Right (wrap32 (n : Int))
    · refine Ev.congr (fun k => if_pos (decide_eq_true c2)) ?_
      by_cases c3 : n ≤ 1114111
      · refine Ev.congr (fun k => if_pos (by omega)) ?_
        have hw : wrap32 (n : Int) = (n : Int) := by unfold wrap32; omega
        rw [hw] at c2
        unfold U8.Right at c2
        have hsame : numOf n = (n : Int) := by
          unfold numOf
          rw [if_neg (by omega), if_neg (by omega)]
        rw [hw, show (numOf n != (n : Int)) = false from by rw [hsame]; simp]
        exact hrun
      · refine Ev.congr (fun k => if_neg (by omega)) ?_
        exact hrun
    · refine Ev.congr (fun k => if_neg (by rw [decide_eq_false c2]; simp)) ?_
      exact hrun
  · refine Ev.congr (fun k => if_neg (by omega)) ?_
    exact hrun
end Go.Proofs.YtekijemacjpceaaDoor.Pure
