/- What the printed reading of a hex number, and the reference's, come to. No condition but those typed. -/
import Derived.Test.YtgbpmhkaobjnpaaNumbers
namespace Go.Proofs.Ytgbpmhkaobjnpaa.Plain
open Go.RowKit Go.Proofs.Ytgbpmhkaobjnpaa.Q Go.Proofs.YtgbpmhkaobjnpaaW.PrintWords Go.Proofs.YtgbpmhkaobjnpaaW.PrintLast Go.Proofs.YtgbpmhkaobjnpaaW.PrintMore
set_option linter.unusedVariables false
/-- A hex digit's number; 16: it is none. -/
def nib (x : Int) : Int := if 48 ≤ x ∧ x ≤ 57 then x - 48 else if 97 ≤ x ∧ x ≤ 102 then x - 87 else if 65 ≤ x ∧ x ≤ 70 then x - 55 else 16
theorem nib_all : ∀ i : Fin 256, ascii_nibble.f (i.val : Int) = (if nib (i.val : Int) = 16 then some (0, false) else some (nib (i.val : Int), true)) ∧ cringleref01_nibble.f 1 (i.val : Int) = some (nib (i.val : Int)) ∧ 0 ≤ nib (i.val : Int) ∧ nib (i.val : Int) ≤ 16 := by decide +kernel
theorem nib_eq {x : Int} (h : 0 ≤ x ∧ x < 256) : ascii_nibble.f x = (if nib x = 16 then some (0, false) else some (nib x, true)) ∧ Ev (fun k => cringleref01_nibble.f k x) (nib x) ∧ 0 ≤ nib x ∧ nib x ≤ 16 := by
  obtain ⟨n, rfl⟩ := Int.eq_ofNat_of_zero_le h.1
  obtain ⟨h1, h2, h3⟩ := nib_all ⟨n, by omega⟩
  exact ⟨h1, Ev.of (k := 1) (fun k => cringleref01_nibble.mono _ k) h2, h3⟩
theorem or_add {n d : Nat} (hn : n < 268435456) (hd : d < 16) : Go.bits .or .u32 (((n : Int) * 16) % 4294967296) (d : Int) = ((n * 16 + d : Nat) : Int) := by
  show IntKind.u32.wrap ((BitVec.ofInt 32 (((n : Int) * 16) % 4294967296) ||| BitVec.ofInt 32 (d : Int)).toNat : Int) = _
  have e1 : (((n : Int) * 16) % 4294967296) = ((n * 16 : Nat) : Int) := by omega
  rw [e1, BitVec.ofInt_natCast, BitVec.ofInt_natCast, BitVec.toNat_or, BitVec.toNat_ofNat, BitVec.toNat_ofNat, Nat.mod_eq_of_lt (by omega), Nat.mod_eq_of_lt (by omega)]
  have e2 : n * 16 ||| d = n * 16 + d := by
    have := Nat.shiftLeft_add_eq_or_of_lt (b := d) (i := 4) (by omega) n
    rw [Nat.shiftLeft_eq] at this
    exact this.symm
  rw [e2, IntKind.wrap_u32]
  omega
theorem or_range (a b : Int) : 0 ≤ Go.bits .or .u32 a b ∧ Go.bits .or .u32 a b < 4294967296 := by
  show 0 ≤ IntKind.u32.wrap _ ∧ IntKind.u32.wrap _ < 4294967296
  rw [IntKind.wrap_u32]
  omega
def allHex (l : List Int) : Prop := ∀ x ∈ l, nib x ≠ 16
instance (l : List Int) : Decidable (allHex l) := inferInstanceAs (Decidable (∀ x ∈ l, nib x ≠ 16))
theorem allHex_cons {x : Int} {l : List Int} : allHex (x :: l) ↔ nib x ≠ 16 ∧ allHex l := by simp [allHex]
/-- The hex number of digits behind n; none: it is too great. -/
def hexv (n : Nat) : List Int → Option Nat
  | [] => some n
  | x :: l => if n < 268435456 then hexv (n * 16 + (nib x).toNat) l else none
def hexa (o : Option Nat) : Int × Int := match o with | some n => (n, 0) | none => (0, 5)
def hexn (l : List Int) : Int × Int := if l = [] then (0, 3) else if allHex l then hexa (hexv 0 l) else (0, 3)
theorem hmany_loop (s : ByteArray) (hs : s.size ≤ 140737488351232) (d : Nat) : ∀ (i : Nat) (n : Int), i + d = (bytesOf s).length →
    Ev (fun k => ascii_Hex.l0 k s n true (s.size : Int) (i : Int)) (if allHex ((bytesOf s).drop i) then (0, 5) else (0, 3)) := by
  have hsz := bytes_len s
  induction d with
  | zero =>
    intro i n hi
    refine Ev.step (f := fun _ => some (0, 5)) (fun k => ?_) ?_
    · simp only [ascii_Hex.l0]
      rw [if_neg (by omega), if_pos trivial]
    · rw [List.drop_of_length_le (by omega), if_pos (by simp [allHex])]
      exact Ev.now _
  | succ d ih =>
    intro i n hi
    have hlt : i < (bytesOf s).length := by omega
    have hb := bytes_range (List.getElem_mem hlt)
    rw [drop_at hlt]
    generalize hx : (bytesOf s)[i] = x at *
    obtain ⟨h1, h2, h3⟩ := nib_eq hb
    by_cases hd : nib x = 16
    · refine Ev.step (f := fun _ => some (0, 3)) (fun k => ?_) ?_
      · simp only [ascii_Hex.l0]
        rw [if_pos (by omega), if_pos (by omega), if_pos (by omega), bytes_bt hlt, hx, h1, if_pos hd]
        rfl
      · rw [if_neg (fun h => (allHex_cons.1 h).1 hd)]
        exact Ev.now _
    · refine Ev.step (f := fun k => ascii_Hex.l0 k s (Go.bits .or .u32 ((n * 16) % 4294967296) (nib x)) true (s.size : Int) ((i + 1 : Nat) : Int)) (fun k => ?_) ?_
      · simp only [ascii_Hex.l0]
        rw [if_pos (by omega), if_pos (by omega), if_pos (by omega), bytes_bt hlt, hx, h1, if_neg hd, Option.bind_some, next (by omega)]
        rfl
      · have := ih (i + 1) (Go.bits .or .u32 ((n * 16) % 4294967296) (nib x)) (by omega)
        by_cases ha : allHex ((bytesOf s).drop (i + 1))
        · rw [if_pos ha] at this
          rw [if_pos (allHex_cons.2 ⟨hd, ha⟩)]
          exact this
        · rw [if_neg ha] at this
          rw [if_neg (fun h => ha (allHex_cons.1 h).2)]
          exact this
theorem hex_loop (s : ByteArray) (hs : s.size ≤ 140737488351232) (d : Nat) : ∀ (i : Nat) (n : Nat), i + d = (bytesOf s).length → n < 4294967296 →
    Ev (fun k => ascii_Hex.l0 k s (n : Int) false (s.size : Int) (i : Int)) (if allHex ((bytesOf s).drop i) then hexa (hexv n ((bytesOf s).drop i)) else (0, 3)) := by
  have hsz := bytes_len s
  induction d with
  | zero =>
    intro i n hi hn
    refine Ev.step (f := fun _ => some ((n : Int), 0)) (fun k => ?_) ?_
    · simp only [ascii_Hex.l0]
      rw [if_neg (by omega), if_neg (by simp)]
    · rw [List.drop_of_length_le (by omega), if_pos (by simp [allHex])]
      exact Ev.now _
  | succ d ih =>
    intro i n hi hn
    have hlt : i < (bytesOf s).length := by omega
    have hb := bytes_range (List.getElem_mem hlt)
    rw [drop_at hlt]
    generalize hx : (bytesOf s)[i] = x at *
    obtain ⟨h1, h2, h3⟩ := nib_eq hb
    by_cases hd : nib x = 16
    · refine Ev.step (f := fun _ => some (0, 3)) (fun k => ?_) ?_
      · simp only [ascii_Hex.l0]
        rw [if_pos (by omega), if_pos (by omega), if_pos (by omega), bytes_bt hlt, hx, h1, if_pos hd]
        rfl
      · rw [if_neg (fun h => (allHex_cons.1 h).1 hd)]
        exact Ev.now _
    · have hstep : ∀ k, ascii_Hex.l0 (k + 1) s (n : Int) false (s.size : Int) (i : Int) = ascii_Hex.l0 k s (Go.bits .or .u32 (((n : Int) * 16) % 4294967296) (nib x)) (((n : Int) / 268435456) != 0) (s.size : Int) ((i + 1 : Nat) : Int) := by
        intro k
        simp only [ascii_Hex.l0]
        rw [if_pos (by omega), if_pos (by omega), if_pos (by omega), bytes_bt hlt, hx, h1, if_neg hd, Option.bind_some, next (by omega)]
        rfl
      by_cases hlow : n < 268435456
      · obtain ⟨m, hm⟩ := Int.eq_ofNat_of_zero_le h3.1
        have hz : (((n : Int) / 268435456) != 0) = false := by
          have : (n : Int) / 268435456 = 0 := by omega
          rw [this]; rfl
        refine Ev.step (fun k => by rw [hstep k, hz, hm, or_add hlow (by omega)]) ?_
        have := ih (i + 1) (n * 16 + m) (by omega) (by omega)
        have hc : hexv n (x :: (bytesOf s).drop (i + 1)) = hexv (n * 16 + m) ((bytesOf s).drop (i + 1)) := by
          rw [hexv, if_pos hlow, hm]; rfl
        rw [hc]
        by_cases ha : allHex ((bytesOf s).drop (i + 1))
        · rw [if_pos ha] at this
          rw [if_pos (allHex_cons.2 ⟨hd, ha⟩)]
          exact this
        · rw [if_neg ha] at this
          rw [if_neg (fun h => ha (allHex_cons.1 h).2)]
          exact this
      · have hz : (((n : Int) / 268435456) != 0) = true := by
          have : (n : Int) / 268435456 ≠ 0 := by omega
          simpa using this
        refine Ev.step (fun k => by rw [hstep k, hz]) ?_
        have := hmany_loop s hs d (i + 1) (Go.bits .or .u32 (((n : Int) * 16) % 4294967296) (nib x)) (by omega)
        have hc : hexv n (x :: (bytesOf s).drop (i + 1)) = none := by
          rw [hexv, if_neg hlow]
        rw [hc]
        by_cases ha : allHex ((bytesOf s).drop (i + 1))
        · rw [if_pos ha] at this
          rw [if_pos (allHex_cons.2 ⟨hd, ha⟩)]
          exact this
        · rw [if_neg ha] at this
          rw [if_neg (fun h => ha (allHex_cons.1 h).2)]
          exact this
theorem hex_ev (s : ByteArray) (hs : s.size ≤ 140737488351232) : Ev (fun k => ascii_Hex.f k s) (hexn (bytesOf s)) := by
  unfold ascii_Hex.f hexn
  by_cases h : bytesOf s = []
  · rw [if_pos h]
    exact Ev.congr (fun k => if_pos (nil_bytes.2 h)) (Ev.now _)
  · rw [if_neg h]
    refine Ev.congr (fun k => if_neg (fun e => h (nil_bytes.1 e))) ?_
    have := hex_loop s hs _ 0 0 (Nat.zero_add _) (by omega)
    rwa [List.drop_zero] at this
theorem ref_hex1 (s : ByteArray) (hs : s.size ≤ 140737488351232) (ha : allHex (bytesOf s)) (d : Nat) : ∀ (i : Nat) (n : Nat), i + d = (bytesOf s).length → n < 4294967296 →
    Ev (fun k => cringleref01_Hex.l1 k s (n : Int) (i : Int)) (hexa (hexv n ((bytesOf s).drop i))) := by
  have hsz := bytes_len s
  induction d with
  | zero =>
    intro i n hi hn
    refine Ev.step (f := fun _ => some ((n : Int), 0)) (fun k => ?_) ?_
    · simp only [cringleref01_Hex.l1]
      rw [if_neg (by omega)]
    · rw [List.drop_of_length_le (by omega)]
      exact Ev.now _
  | succ d ih =>
    intro i n hi hn
    have hlt : i < (bytesOf s).length := by omega
    have hb := bytes_range (List.getElem_mem hlt)
    have hd := ha _ (List.getElem_mem hlt)
    rw [drop_at hlt]
    generalize hx : (bytesOf s)[i] = x at *
    obtain ⟨h1, h2, h3⟩ := nib_eq hb
    by_cases hlow : n < 268435456
    · obtain ⟨m, hm⟩ := Int.eq_ofNat_of_zero_le h3.1
      refine Ev.step (f := fun k => (cringleref01_nibble.f k x).bind fun t => cringleref01_Hex.l1 k s (((((n : Int) * 16) % 4294967296) + t) % 4294967296) ((i + 1 : Nat) : Int)) (fun k => ?_) ?_
      · simp only [cringleref01_Hex.l1]
        rw [if_pos (by omega), if_neg (by omega), if_pos (by omega), bytes_bt hlt, hx, next (by omega)]
      · refine Ev.bind h2 ?_
        have := ih (i + 1) (n * 16 + m) (by omega) (by omega)
        have hc : hexv n (x :: (bytesOf s).drop (i + 1)) = hexv (n * 16 + m) ((bytesOf s).drop (i + 1)) := by
          rw [hexv, if_pos hlow, hm]; rfl
        have he : ((((n : Int) * 16) % 4294967296) + nib x) % 4294967296 = ((n * 16 + m : Nat) : Int) := by omega
        rw [hc, he]
        exact this
    · refine Ev.step (f := fun _ => some (0, 5)) (fun k => ?_) ?_
      · simp only [cringleref01_Hex.l1]
        rw [if_pos (by omega), if_pos (by omega)]
      · rw [hexv, if_neg hlow]
        exact Ev.now _
theorem ref_hex0 (s : ByteArray) (hs : s.size ≤ 140737488351232) (d : Nat) : ∀ (i : Nat), i + d = (bytesOf s).length → allHex ((bytesOf s).take i) →
    Ev (fun k => cringleref01_Hex.l0 k s (i : Int)) (hexn (bytesOf s)) := by
  have hsz := bytes_len s
  induction d with
  | zero =>
    intro i hi ha
    rw [List.take_of_length_le (by omega)] at ha
    unfold hexn
    by_cases h : bytesOf s = []
    · rw [if_pos h]
      refine Ev.step (f := fun _ => some (0, 3)) (fun k => ?_) (Ev.now _)
      simp only [cringleref01_Hex.l0]
      rw [if_neg (by omega), if_pos (nil_bytes.2 h)]
    · rw [if_neg h, if_pos ha]
      refine Ev.step (f := fun k => cringleref01_Hex.l1 k s ((0 : Nat) : Int) ((0 : Nat) : Int)) (fun k => ?_) ?_
      · simp only [cringleref01_Hex.l0]
        rw [if_neg (by omega), if_neg (fun e => h (nil_bytes.1 e))]
        rfl
      · exact ref_hex1 s hs ha _ 0 0 (Nat.zero_add _) (by omega)
  | succ d ih =>
    intro i hi ha
    have hlt : i < (bytesOf s).length := by omega
    have hb := bytes_range (List.getElem_mem hlt)
    obtain ⟨h1, h2, h3⟩ := nib_eq hb
    refine Ev.step (f := fun k => (cringleref01_nibble.f k (bytesOf s)[i]).bind fun t => if t = 16 then some (0, 3) else cringleref01_Hex.l0 k s ((i + 1 : Nat) : Int)) (fun k => ?_) ?_
    · simp only [cringleref01_Hex.l0]
      rw [if_pos (by omega), if_pos (by omega), bytes_bt hlt, next (by omega)]
    · refine Ev.bind h2 ?_
      by_cases hd : nib (bytesOf s)[i] = 16
      · refine Ev.congr (fun k => if_pos hd) ?_
        unfold hexn
        rw [if_neg (fun e => by rw [e] at hlt; simp at hlt), if_neg (fun h => (h _ (List.getElem_mem hlt)) hd)]
        exact Ev.now _
      · refine Ev.congr (fun k => if_neg hd) ?_
        refine ih (i + 1) (by omega) ?_
        rw [List.take_add_one, List.getElem?_eq_getElem hlt]
        intro y hy
        rcases List.mem_append.1 hy with hy | hy
        · exact ha y hy
        · obtain rfl : y = (bytesOf s)[i] := by simpa using hy
          exact hd
theorem ref_hex_ev (s : ByteArray) (hs : s.size ≤ 140737488351232) : Ev (fun k => cringleref01_Hex.f k s) (hexn (bytesOf s)) :=
  ref_hex0 s hs _ 0 (Nat.zero_add _) (by simp [allHex])
end Go.Proofs.Ytgbpmhkaobjnpaa.Plain
