/- What is formatted, byte by byte, and how it is read again. No condition but those typed. -/
import Derived.Test.YtfoikdjffemhbaaDoorCivil06
import Derived.Test.YtfoikdjffemhbaaDoorAsc
namespace Go.Proofs.YtfoikdjffemhbaaDoor.Plain
open Go.RowKit Go.Proofs.YtfoikdjffemhbaaDoor.Q Go.Proofs.YtfoikdjffemhbaaDoorW.PrintWords Go.Proofs.YtfoikdjffemhbaaDoorW.PrintLast Go.Proofs.YtfoikdjffemhbaaDoorW.PrintMore
open Go.Proofs.YtfoikdjffemhbaaDoor.Dy (leap cum ylen mlen ah isDay)
set_option linter.unusedVariables false
abbrev D (s : ByteArray) : List UInt8 := s.data.toList
def strOf (l : List UInt8) : ByteArray := ⟨l.toArray⟩
theorem D_str (l : List UInt8) : D (strOf l) = l := rfl
theorem D_inj {a b : ByteArray} (h : D a = D b) : a = b := by
  obtain ⟨x⟩ := a
  obtain ⟨y⟩ := b
  exact congrArg _ (Array.toList_inj.1 h)
theorem str_size' (l : List UInt8) : (strOf l).size = l.length := by
  show l.toArray.size = l.length
  simp
theorem D_len (s : ByteArray) : (D s).length = s.size := by show s.data.toList.length = s.data.size; simp
theorem cut_from (a rest : List UInt8) : (strOf (a ++ rest)).extract a.length (strOf (a ++ rest)).size = strOf rest := D_inj (by
  unfold D
  rw [Lib.extract_data, List.take_of_length_le (by rw [List.length_drop, ← str_size']; exact Nat.le_refl _)]
  show (a ++ rest).drop a.length = rest
  rw [List.drop_left])
theorem cut_to (a rest : List UInt8) : (strOf (a ++ rest)).extract 0 a.length = strOf a := D_inj (by
  unfold D
  rw [Lib.extract_data, List.drop_zero, Nat.sub_zero]
  show (a ++ rest).take a.length = a
  rw [List.take_left])
theorem str_cat2 (a b : List UInt8) : strOf a ++ strOf b = strOf (a ++ b) := D_inj (by
  show (strOf a ++ strOf b).data.toList = a ++ b
  simp [strOf])
/-! digits -/
def p2 (n : Nat) : List UInt8 := [UInt8.ofNat (48 + n / 10), UInt8.ofNat (48 + n % 10)]
def p4 (n : Nat) : List UInt8 := [UInt8.ofNat (48 + n / 1000), UInt8.ofNat (48 + n / 100 % 10), UInt8.ofNat (48 + n / 10 % 10), UInt8.ofNat (48 + n % 10)]
theorem pad2_all : ∀ n : Fin 100, ascii_Pad.f 12 ((n.val : Nat) : Int) 2 = some (strOf (p2 n.val)) := by decide +kernel
theorem pad2_ev {n : Nat} (h : n < 100) : Ev (fun k => ascii_Pad.f k (n : Int) 2) (strOf (p2 n)) := Ev.of (fun k => ascii_Pad.mono _ _ k) (pad2_all ⟨n, h⟩)
theorem most4 : most 4 = 4 := by unfold most mx mn; rfl
theorem four (n : Nat) (h : n < 10000) : (padTo 4 (ds n)).reverse = [48 + ((n / 1000 : Nat) : Int), 48 + ((n / 100 % 10 : Nat) : Int), 48 + ((n / 10 % 10 : Nat) : Int), 48 + ((n % 10 : Nat) : Int)] := by
  have z : ∀ k : Nat, k = 0 → (48 : Int) + ((k : Nat) : Int) = 48 := fun k hk => by omega
  by_cases c0 : n = 0
  · subst c0
    rw [ds_zero]
    rfl
  by_cases c1 : n < 10
  · rw [ds_pos (by omega), show n / 10 = 0 from by omega, ds_zero]
    have e1 : n / 1000 = 0 := by omega
    have e2 : n / 100 % 10 = 0 := by omega
    rw [e1, e2]
    rfl
  by_cases c2 : n < 100
  · rw [ds_pos (by omega), ds_pos (n := n / 10) (by omega), show n / 10 / 10 = 0 from by omega, ds_zero]
    have e1 : n / 1000 = 0 := by omega
    have e2 : n / 100 % 10 = 0 := by omega
    rw [e1, e2]
    rfl
  by_cases c3 : n < 1000
  · rw [ds_pos (by omega), ds_pos (n := n / 10) (by omega), ds_pos (n := n / 10 / 10) (by omega), show n / 10 / 10 / 10 = 0 from by omega, ds_zero, show n / 10 / 10 = n / 100 from by omega]
    have e1 : n / 1000 = 0 := by omega
    rw [e1]
    rfl
  · rw [ds_pos (by omega), ds_pos (n := n / 10) (by omega), ds_pos (n := n / 10 / 10) (by omega), ds_pos (n := n / 10 / 10 / 10) (by omega), show n / 10 / 10 / 10 / 10 = 0 from by omega, ds_zero, show n / 10 / 10 / 10 = n / 1000 from by omega, show n / 10 / 10 = n / 100 from by omega, show n / 1000 % 10 = n / 1000 from by omega]
    rfl
theorem p4_nums (n : Nat) (h : n < 10000) : strOfNums [48 + ((n / 1000 : Nat) : Int), 48 + ((n / 100 % 10 : Nat) : Int), 48 + ((n / 10 % 10 : Nat) : Int), 48 + ((n % 10 : Nat) : Int)] = strOf (p4 n) := by
  have e : ∀ k : Nat, UInt8.ofNat ((48 + (k : Int)).toNat) = UInt8.ofNat (48 + k) := fun k => by congr 1
  show strOf [UInt8.ofNat ((48 + ((n / 1000 : Nat) : Int)).toNat), UInt8.ofNat ((48 + ((n / 100 % 10 : Nat) : Int)).toNat), UInt8.ofNat ((48 + ((n / 10 % 10 : Nat) : Int)).toNat), UInt8.ofNat ((48 + ((n % 10 : Nat) : Int)).toNat)] = _
  rw [e, e, e, e]
  rfl
theorem pad4_ev {n : Nat} (h : n < 10000) : Ev (fun k => ascii_Pad.f k (n : Int) 4) (strOf (p4 n)) := by
  have q := pad_ev (n : Int) 4 (by omega)
  unfold padded at q
  rw [if_neg (by omega), most4, show ((n : Int)).natAbs = n from rfl, List.nil_append, four n h, p4_nums n h] at q
  exact q
theorem num4_ev {n : Nat} (h : n < 10000) : Ev (fun k => ascii_Number.f k (strOf (p4 n)) 9999) ((n : Int), 0) := by
  have q := num_ev (strOf (p4 n)) (by rw [str_size']; simp [p4]) 9999 (by omega)
  have hb : bytesOf (strOf (p4 n)) = [48 + ((n / 1000 : Nat) : Int), 48 + ((n / 100 % 10 : Nat) : Int), 48 + ((n / 10 % 10 : Nat) : Int), 48 + ((n % 10 : Nat) : Int)] := by
    rw [← p4_nums n h, bytes_str (fun x hx => by
      simp only [List.mem_cons, List.not_mem_nil, or_false] at hx
      omega)]
  rw [hb] at q
  have e : num 9999 [48 + ((n / 1000 : Nat) : Int), 48 + ((n / 100 % 10 : Nat) : Int), 48 + ((n / 10 % 10 : Nat) : Int), 48 + ((n % 10 : Nat) : Int)] = ((n : Int), 0) := by
    have hv : val 0 [48 + ((n / 1000 : Nat) : Int), 48 + ((n / 100 % 10 : Nat) : Int), 48 + ((n / 10 % 10 : Nat) : Int), 48 + ((n % 10 : Nat) : Int)] = (n : Int) := by
      rw [val_cons, val_cons, val_cons, val_cons, val_nil]
      omega
    unfold num
    rw [if_neg (by simp), if_pos (by
      intro x hx
      simp only [List.mem_cons, List.not_mem_nil, or_false] at hx
      unfold dig
      omega), hv, if_pos (by omega)]
  rw [e] at q
  exact q
theorem num2_all : ∀ hi ∈ [12, 31, 23, 59, 60], ∀ n : Fin 100, n.val ≤ hi → ascii_Number.f 4 (strOf (p2 n.val)) ((hi : Nat) : Int) = some (((n.val : Nat) : Int), 0) := by decide +kernel
theorem p2_digits : ∀ n : Fin 100, ∀ x ∈ p2 n.val, 48 ≤ x ∧ x ≤ 57 := by decide +kernel
theorem p4_blank : ∀ q : Fin 10, ([9, 10, 12, 13, 32] : List UInt8).contains (UInt8.ofNat (48 + q.val)) = false := by decide +kernel
theorem one_ev {n : Nat} (h : n < 100) : Ev (fun k => date_Format_1.f k (n : Int)) (strOf (p2 n)) := Ev.bind (pad2_ev h) (Ev.now _)
/-! the reader's words on such texts -/
theorem digits4 {n : Nat} (h : n < 10000) (h1 : 1 ≤ n) (bad : Bool) (rest : List UInt8) : Ev (fun k => date_digits.f k (strOf (p4 n ++ rest)) bad 4 1 9999) ((n : Int), strOf rest, bad) := by
  unfold date_digits.f
  refine Ev.congr (fun k => if_neg (by rw [str_size', List.length_append]; show ¬ (((4 + rest.length : Nat) : Int) < 4); omega)) ?_
  rw [show (strOf (p4 n ++ rest)).extract 0 4 = strOf (p4 n) from cut_to (p4 n) rest, show (strOf (p4 n ++ rest)).extract 4 (strOf (p4 n ++ rest)).size = strOf rest from cut_from (p4 n) rest]
  refine Ev.bind (num4_ev h) ?_
  refine now_of ?_
  simp only []
  rw [if_pos ⟨trivial, by omega⟩]
theorem digits2 {n : Nat} (hi lo : Nat) (hh : hi ∈ [12, 31, 23, 59, 60]) (h : n ≤ hi) (h1 : lo ≤ n) (bad : Bool) (rest : List UInt8) : Ev (fun k => date_digits.f k (strOf (p2 n ++ rest)) bad 2 (lo : Int) (hi : Int)) ((n : Int), strOf rest, bad) := by
  have hn : n < 100 := by
    simp only [List.mem_cons, List.not_mem_nil, or_false] at hh
    omega
  unfold date_digits.f
  refine Ev.congr (fun k => if_neg (by rw [str_size', List.length_append]; show ¬ (((2 + rest.length : Nat) : Int) < 2); omega)) ?_
  rw [show (strOf (p2 n ++ rest)).extract 0 2 = strOf (p2 n) from cut_to (p2 n) rest, show (strOf (p2 n ++ rest)).extract 2 (strOf (p2 n ++ rest)).size = strOf rest from cut_from (p2 n) rest]
  refine Ev.bind (Ev.of (fun k => ascii_Number.mono _ _ k) (num2_all hi hh ⟨n, hn⟩ h)) ?_
  refine now_of ?_
  simp only []
  rw [if_pos ⟨trivial, by omega⟩]
theorem has_eq (x c : UInt8) (b : Bool) (hs : ascii_Same.f (strOf [x]) (strOf [c]) = some b) (rest : List UInt8) : date_has.f (strOf (x :: rest)) (strOf [c]) = some (b, if b = true then strOf rest else strOf (x :: rest)) := by
  unfold date_has.f
  rw [if_neg (by rw [str_size', str_size', List.length_cons]; simp; omega)]
  rw [show (strOf (x :: rest)).extract 0 (strOf [c]).size = strOf [x] from cut_to [x] rest, hs, Option.bind_some, show (strOf (x :: rest)).extract (strOf [c]).size (strOf (x :: rest)).size = strOf rest from cut_from [x] rest]
theorem must_eq (x c : UInt8) (bad : Bool) (hs : ascii_Same.f (strOf [x]) (strOf [c]) = some true) (rest : List UInt8) : date_must.f (strOf (x :: rest)) bad (strOf [c]) = some (strOf rest, bad) := by
  unfold date_must.f
  rw [has_eq x c true hs, Option.bind_some]
  rfl
theorem run_two {n : Nat} (h : n < 100) (rest : List UInt8) (hl : rest.length ≤ 1000) : date_run.f (strOf (p2 n ++ 45 :: rest)) = some 2 := by
  have hd := p2_digits ⟨n, h⟩
  have d1 := hd (UInt8.ofNat (48 + n / 10)) (by simp [p2])
  have d0 := hd (UInt8.ofNat (48 + n % 10)) (by simp [p2])
  unfold date_run.f date_run.n
  rw [if_pos (by rw [str_size', List.length_append, List.length_cons]; show 2 + (rest.length + 1) ≤ 1000000000; omega)]
  show some ((p2 n ++ 45 :: rest).takeWhile _).length = some 2
  unfold p2
  rw [List.cons_append, List.cons_append, List.nil_append, List.takeWhile_cons_of_pos (by exact decide_eq_true d1), List.takeWhile_cons_of_pos (by exact decide_eq_true d0), List.takeWhile_cons_of_neg (by decide)]
  rfl
/-! a moment's text -/
def dayT (y m d : Nat) : List UInt8 := p4 y ++ 45 :: (p2 m ++ 45 :: p2 d)
def timeT (r : Nat) : List UInt8 := p2 (r / 3600) ++ 58 :: (p2 (r / 60 % 60) ++ 58 :: p2 (r % 60))
def textT (y m d r : Nat) : List UInt8 := p4 y ++ 45 :: (p2 m ++ 45 :: (p2 d ++ 84 :: (timeT r ++ [90])))
theorem join3 (c : UInt8) (a b e : List UInt8) (h : a.length ≤ 10 ∧ b.length ≤ 10 ∧ e.length ≤ 10) : ascii_Join.f (strOf [c]) [strOf a, strOf b, strOf e] = some (strOf (a ++ c :: (b ++ c :: e))) := by
  have hj : Lib.join ([strOf a, strOf b, strOf e].map (·.data.toList)) (strOf [c]).data.toList = a ++ c :: (b ++ c :: e) := by
    show Lib.join [a, b, e] [c] = _
    simp [Lib.join, List.intercalate]
  unfold ascii_Join.f strings_Join.f
  rw [if_pos (by simp), hj, if_pos (by simp; omega), Option.bind_some]
  rfl
theorem format_split (n : Int) (hn : -9223372036854775808 ≤ n ∧ n < 9223372036854775808) {r : ByteArray × Int} (h : Ev (fun k => date_Format.j0 k (n / 86400) (n % 86400)) r) : Ev (fun k => date_Format.f k n) r := by
  unfold date_Format.f
  by_cases c : 0 ≤ n
  · have e1 : Int.tmod n 86400 = n % 86400 := Int.tmod_eq_emod_of_nonneg c
    have e2 : Int.tdiv n 86400 = n / 86400 := Int.tdiv_eq_ediv_of_nonneg c
    rw [e1, e2, w64 (n := n / 86400) (by omega) (by omega)]
    exact Ev.congr (fun k => if_neg (by omega)) h
  · obtain ⟨m, rfl⟩ : ∃ m : Int, n = -m := ⟨-n, by omega⟩
    have e1 : Int.tmod (-m) 86400 = -(m % 86400) := by rw [Int.neg_tmod, Int.tmod_eq_emod_of_nonneg (by omega)]
    have e2 : Int.tdiv (-m) 86400 = -(m / 86400) := by rw [Int.neg_tdiv, Int.tdiv_eq_ediv_of_nonneg (by omega)]
    rw [e1, e2, w64 (n := -(m / 86400)) (by omega) (by omega)]
    by_cases c2 : m % 86400 = 0
    · refine Ev.congr (fun k => if_neg (by omega)) ?_
      rw [show -(m / 86400) = -m / 86400 from by omega, show -(m % 86400) = -m % 86400 from by omega]
      exact h
    · refine Ev.congr (fun k => if_pos (by omega)) ?_
      rw [w64 (n := -(m / 86400) - 1) (by omega) (by omega), w64 (n := -(m % 86400) + 86400) (by omega) (by omega), show -(m / 86400) - 1 = -m / 86400 from by omega, show -(m % 86400) + 86400 = -m % 86400 from by omega]
      exact h
theorem format_bad (n : Int) (hn : -9223372036854775808 ≤ n ∧ n < 9223372036854775808) (h : n / 86400 < -719162 ∨ 2932897 ≤ n / 86400) : Ev (fun k => date_Format.f k n) (strOf [], 3) := by
  refine format_split n hn ?_
  refine Ev.step (fun k => by rw [date_Format.j0]) ?_
  refine Ev.bind (civil_bad _ h) ?_
  refine Ev.congr (fun k => if_neg (by simp)) ?_
  exact Ev.now _
theorem format_day (n : Int) (hn : -9223372036854775808 ≤ n ∧ n < 9223372036854775808) (y m d r : Nat) (h : isDay y m d) (hd : Dy.num y m d = n / 86400 + 719162) (hr : n % 86400 = r) : Ev (fun k => date_Format.f k n) (strOf (textT y m d r), 0) := by
  have h' := h
  obtain ⟨h1, h2, h3, h4, h5, h6⟩ := h'
  have hm := Dy.mlen_range (y : Int) (m : Int)
  refine format_split n hn ?_
  rw [hr]
  refine Ev.step (fun k => by rw [date_Format.j0]) ?_
  refine Ev.bind (civil_day y m d h _ hd) ?_
  refine Ev.congr (fun k => if_pos rfl) ?_
  refine Ev.bind (pad4_ev (n := y) (by omega)) ?_
  refine Ev.bind (one_ev (n := m) (by omega)) ?_
  refine Ev.bind (one_ev (n := d) (by omega)) ?_
  rw [show ascii_Join.f (⟨#[45]⟩ : ByteArray) [strOf (p4 y), strOf (p2 m), strOf (p2 d)] = _ from join3 45 (p4 y) (p2 m) (p2 d) (by simp [p4, p2])]
  refine Ev.bind (Ev.now _) ?_
  refine Ev.congr (fun k => if_pos (by rw [str_size']; simp [p4, p2])) ?_
  have e1 : wrap64 (Int.tdiv (r : Int) 3600) = ((r / 3600 : Nat) : Int) := by
    rw [Int.tdiv_eq_ediv_of_nonneg (by omega), w64 (by omega) (by omega)]
    omega
  have e2 : Int.tmod (wrap64 (Int.tdiv (r : Int) 60)) 60 = ((r / 60 % 60 : Nat) : Int) := by
    rw [Int.tdiv_eq_ediv_of_nonneg (by omega), w64 (by omega) (by omega), Int.tmod_eq_emod_of_nonneg (by omega)]
    omega
  have e3 : Int.tmod (r : Int) 60 = ((r % 60 : Nat) : Int) := by
    rw [Int.tmod_eq_emod_of_nonneg (by omega)]
    omega
  rw [e1, e2, e3]
  refine Ev.bind (one_ev (n := r / 3600) (by omega)) ?_
  refine Ev.bind (one_ev (n := r / 60 % 60) (by omega)) ?_
  refine Ev.bind (one_ev (n := r % 60) (by omega)) ?_
  rw [show ascii_Join.f (⟨#[58]⟩ : ByteArray) [strOf (p2 (r / 3600)), strOf (p2 (r / 60 % 60)), strOf (p2 (r % 60))] = _ from join3 58 (p2 (r / 3600)) (p2 (r / 60 % 60)) (p2 (r % 60)) (by simp [p2])]
  refine Ev.bind (Ev.now _) ?_
  rw [show (⟨#[84]⟩ : ByteArray) = strOf [84] from rfl, show (⟨#[90]⟩ : ByteArray) = strOf [90] from rfl, str_cat2, str_cat2, str_cat2]
  refine Ev.congr (fun k => (if_pos (by rw [str_size', str_size']; simp [p4, p2])).trans (if_pos (by rw [str_size']; simp [p4, p2]))) ?_
  refine now_of ?_
  congr 3
/-! read again -/
theorem trim_text (y m d r : Nat) (hy : y < 10000) : ascii_Trim.f (strOf (textT y m d r)) = some (strOf (textT y m d r)) := by
  have hb := p4_blank ⟨y / 1000, by omega⟩
  simp only [] at hb
  have hl : textT y m d r = UInt8.ofNat (48 + y / 1000) :: (textT y m d r).tail := rfl
  have he : ∃ u, textT y m d r = u ++ [90] := ⟨p4 y ++ 45 :: (p2 m ++ 45 :: (p2 d ++ 84 :: timeT r)), by simp [textT]⟩
  have hR : Lib.trimRightS (textT y m d r) [9, 10, 12, 13, 32] = textT y m d r := by
    obtain ⟨u, hu⟩ := he
    rw [hu]
    unfold Lib.trimRightS
    rw [List.reverse_append, List.reverse_singleton, List.singleton_append, List.dropWhile_cons_of_neg (by decide)]
    simp
  have hL : Lib.trimLeftS (textT y m d r) [9, 10, 12, 13, 32] = textT y m d r := by
    unfold Lib.trimLeftS
    rw [hl, List.dropWhile_cons_of_neg (by rw [hb]; simp)]
  unfold ascii_Trim.f strings_Trim.f
  have hz : (strOf (textT y m d r)).size ≤ 9223372036854775807 := by rw [str_size']; simp [textT, timeT, p4, p2]
  rw [if_pos hz, if_pos (by decide), if_pos (by decide), Option.bind_some]
  show some (strOf (Lib.trimS (textT y m d r) [9, 10, 12, 13, 32])) = _
  unfold Lib.trimS
  rw [hR, hL]
theorem same_dash : ascii_Same.f (strOf [45]) (strOf [45]) = some true := by decide +kernel
theorem same_colon : ascii_Same.f (strOf [58]) (strOf [58]) = some true := by decide +kernel
theorem same_t : ascii_Same.f (strOf [84]) (strOf [116]) = some true := by decide +kernel
theorem same_z : ascii_Same.f (strOf [90]) (strOf [122]) = some true := by decide +kernel
theorem same_dot : ascii_Same.f (strOf [90]) (strOf [46]) = some false := by decide +kernel
theorem day_read (y m d : Nat) (h : isDay y m d) (rest : List UInt8) (hl : rest.length ≤ 100) : Ev (fun k => date_day.f k (strOf (p4 y ++ 45 :: (p2 m ++ 45 :: (p2 d ++ rest)))) false) (Dy.num y m d - 719162, strOf rest, false) := by
  have h' := h
  obtain ⟨h1, h2, h3, h4, h5, h6⟩ := h'
  have hm := Dy.mlen_range (y : Int) (m : Int)
  unfold date_day.f
  refine Ev.bind (digits4 (n := y) (by omega) (by omega) false _) ?_
  rw [show date_must.f (strOf (45 :: (p2 m ++ 45 :: (p2 d ++ rest)))) false (⟨#[45]⟩ : ByteArray) = _ from must_eq 45 45 false same_dash _]
  refine Ev.bind (Ev.now _) ?_
  rw [run_two (n := m) (by omega) _ (by rw [List.length_append]; simp [p2]; omega)]
  refine Ev.bind (Ev.now _) ?_
  refine Ev.congr (fun k => if_neg (by omega)) ?_
  refine Ev.bind (digits2 12 1 (by simp) (n := m) (by omega) (by omega) false _) ?_
  rw [show date_must.f (strOf (45 :: (p2 d ++ rest))) false (⟨#[45]⟩ : ByteArray) = _ from must_eq 45 45 false same_dash _]
  refine Ev.bind (Ev.now _) ?_
  refine Ev.bind (digits2 31 1 (by simp) (n := d) (by omega) (by omega) false _) ?_
  rw [days_eq _ _ _ (by omega)]
  refine Ev.bind (Ev.now _) ?_
  unfold daysS
  rw [if_pos ⟨by omega, by omega, by omega, by omega, by omega, h6⟩]
  exact Ev.now _
theorem time_read (r : Nat) (hr : r < 86400) : Ev (fun k => date_time.f k (strOf (timeT r ++ [90])) false) ((r : Int), strOf [90], false) := by
  have e : timeT r ++ [90] = p2 (r / 3600) ++ 58 :: (p2 (r / 60 % 60) ++ 58 :: (p2 (r % 60) ++ [90])) := by simp [timeT]
  rw [e]
  unfold date_time.f
  refine Ev.bind (digits2 23 0 (by simp) (n := r / 3600) (by omega) (by omega) false _) ?_
  rw [show date_must.f (strOf (58 :: (p2 (r / 60 % 60) ++ 58 :: (p2 (r % 60) ++ [90])))) false (⟨#[58]⟩ : ByteArray) = _ from must_eq 58 58 false same_colon _]
  refine Ev.bind (Ev.now _) ?_
  refine Ev.bind (digits2 59 0 (by simp) (n := r / 60 % 60) (by omega) (by omega) false _) ?_
  rw [show date_has.f (strOf (58 :: (p2 (r % 60) ++ [90]))) (⟨#[58]⟩ : ByteArray) = _ from has_eq 58 58 true same_colon _]
  refine Ev.bind (Ev.now _) ?_
  refine Ev.congr (fun k => if_pos rfl) ?_
  refine Ev.bind (digits2 60 0 (by simp) (n := r % 60) (by omega) (by omega) false _) ?_
  rw [show date_has.f (strOf [90]) (⟨#[46]⟩ : ByteArray) = _ from has_eq 90 46 false same_dot []]
  refine Ev.bind (Ev.now _) ?_
  refine Ev.congr (fun k => if_neg (by simp)) ?_
  refine now_of ?_
  have em : mn (((r % 60 : Nat)) : Int) 59 = ((r % 60 : Nat) : Int) := by unfold mn; split <;> omega
  simp only [em]
  rw [w64 (n := ((r / 3600 : Nat) : Int) * 3600) (by omega) (by omega), w64 (n := ((r / 60 % 60 : Nat) : Int) * 60) (by omega) (by omega), w64 (n := ((r / 3600 : Nat) : Int) * 3600 + ((r / 60 % 60 : Nat) : Int) * 60) (by omega) (by omega), w64 (by omega) (by omega)]
  congr 2
  omega
theorem parse_text (y m d r : Nat) (h : isDay y m d) (hr : r < 86400) : Ev (fun k => date_Parse.f k (strOf (textT y m d r))) ((Dy.num y m d - 719162) * 86400 + r, true, true, 0) := by
  have h' := h
  obtain ⟨h1, h2, h3, h4, h5, h6⟩ := h'
  have hn := Dy.num_range h
  unfold date_Parse.f
  rw [trim_text y m d r (by omega)]
  refine Ev.bind (Ev.now _) ?_
  have hp : Ev (fun k => date_Parse_1.f k (strOf (textT y m d r))) ((Dy.num y m d - 719162) * 86400 + r, strOf [], false, true, true) := by
    unfold date_Parse_1.f
    refine Ev.bind (day_read y m d h (84 :: (timeT r ++ [90])) (by simp [timeT, p2])) ?_
    refine Ev.congr (fun k => if_neg (by rw [Lib.toList_data]; simp [strOf])) ?_
    rw [show date_has.f (strOf (84 :: (timeT r ++ [90]))) (⟨#[116]⟩ : ByteArray) = _ from has_eq 84 116 true same_t _]
    refine Ev.bind (Ev.now _) ?_
    simp only [if_true]
    refine Ev.bind (time_read r hr) ?_
    refine Ev.congr (fun k => if_neg (by rw [Lib.toList_data]; simp [strOf])) ?_
    have hb : date_blanks.s (strOf [90]) = strOf [90] := by decide +kernel
    rw [hb]
    have hz : Ev (fun k => date_zone.f k (strOf [90]) false) (0, strOf [], false) := by
      unfold date_zone.f
      rw [show date_has.f (strOf [90]) (⟨#[122]⟩ : ByteArray) = _ from has_eq 90 122 true same_z []]
      refine Ev.bind (Ev.now _) ?_
      refine Ev.congr (fun k => if_pos rfl) ?_
      exact Ev.now _
    refine Ev.bind hz ?_
    refine now_of ?_
    simp only []
    rw [w64 (n := (Dy.num y m d - 719162) * 86400) (by omega) (by omega), w64 (n := (Dy.num y m d - 719162) * 86400 + r) (by omega) (by omega), w64 (by omega) (by omega)]
    congr 2
    omega
  refine Ev.bind hp ?_
  refine now_of ?_
  simp only []
  rw [if_neg (by simp), if_pos (by rw [Lib.toList_data]; rfl)]
end Go.Proofs.YtfoikdjffemhbaaDoor.Plain
