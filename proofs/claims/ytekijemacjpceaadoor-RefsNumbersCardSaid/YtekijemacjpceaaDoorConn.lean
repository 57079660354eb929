/- What the printed functions of refs and of the reference come to: names, numbers, what stands next. No condition but those typed. · What stands next, in refs and in the reference: both come to nextRef. No condition but those typed. · Signs put and texts told, in refs and in the reference: lines of utf/Nexts.lean and utf/Loops8.lean, picked. No condition but those typed. · Decoded and encoded, in refs and in the reference: both come to dec and encL; the probe. No condition but those typed. · Encoded by the reference; the probe. No condition but those typed. -/
import Derived.Test.YtekijemacjpceaaDoorQ
import Derived.Test.YtekijemacjpceaaDoorLists
namespace Go.Proofs.YtekijemacjpceaaDoor.Plain
open Go.RowKit Go.Proofs.YtekijemacjpceaaDoor.Q Go.Proofs.YtekijemacjpceaaDoorW.PrintWords Go.Proofs.YtekijemacjpceaaDoorW.PrintLast Go.Proofs.YtekijemacjpceaaDoorW.PrintMore
open Go.Proofs.YtekijemacjpceaaDoor.U8 (B nxt spec encB items text mend signs Right)
open Go.Proofs.YtekijemacjpceaaDoor.Rf
set_option linter.unusedVariables false
abbrev D (s : ByteArray) : List UInt8 := s.data.toList
def strOf (l : List UInt8) : ByteArray := ⟨l.toArray⟩
theorem D_len (s : ByteArray) : (D s).length = s.size := data_length s
theorem D_from (s : ByteArray) (i : Nat) : D (s.extract i s.size) = (D s).drop i := by
  unfold D
  rw [Lib.extract_data, List.take_of_length_le (by rw [List.length_drop, data_length]; omega)]
theorem D_to (s : ByteArray) (i : Nat) : D (s.extract 0 i) = (D s).take i := by
  unfold D
  rw [Lib.extract_data, List.drop_zero, Nat.sub_zero]
theorem D_inj {a b : ByteArray} (h : D a = D b) : a = b := by
  obtain ⟨x⟩ := a
  obtain ⟨y⟩ := b
  exact congrArg _ (Array.toList_inj.1 h)
theorem D_str (l : List UInt8) : D (strOf l) = l := rfl
theorem str_D (s : ByteArray) : strOf (D s) = s := D_inj rfl
theorem now_of {α : Type} {o : Option α} {r : α} (h : o = some r) : Ev (fun _ => o) r := ⟨0, fun _ _ => h⟩
theorem list_same {a b : ByteArray} (h : D a = D b) : a.toList = b.toList := by rw [Lib.toList_data, Lib.toList_data]; exact h
theorem bt_get (s : ByteArray) (i : Nat) (h : i < (D s).length) : bt s (i : Int) = (((D s)[i].toNat : Nat) : Int) := by
  have h' : i < s.size := by rw [D_len] at h; exact h
  unfold bt
  rw [Int.toNat_natCast, dif_pos h']
  rfl
theorem cut_off {s : ByteArray} {w : Nat} : D (s.extract ((w : Nat) : Int).toNat s.size) = (D s).drop w := by rw [Int.toNat_natCast, D_from]
theorem cut_size {s : ByteArray} {w : Nat} : (s.extract ((w : Nat) : Int).toNat s.size).size = s.size - w := by rw [← D_len, cut_off, List.length_drop, D_len]
/-! names -/
theorem ite_some {α : Type} {c : Prop} [Decidable c] {a b : α} {o : Option α} (h : o = some b) : (if c then some a else o) = some (if c then a else b) := by
  by_cases hc : c
  · rw [if_pos hc, if_pos hc]
  · rw [if_neg hc, if_neg hc, h]
theorem common_eq (s : ByteArray) : refs_common.f s = some (lookIn NT1 (D s)) := by
  unfold refs_common.f
  rw [Lib.toList_data]
  simp only [lookIn, NT1]
  repeat (refine ite_some ?_)
  rfl
theorem rare_eq (s : ByteArray) : refs_rare.f s = some (lookIn NT2 (D s)) := by
  unfold refs_rare.f
  rw [Lib.toList_data]
  simp only [lookIn, NT2]
  repeat (refine ite_some ?_)
  rfl
theorem name_eq (s : ByteArray) : refs_Name.f s = some (Rf.look (D s)) := by
  unfold refs_Name.f Rf.look NT
  rw [common_eq, rare_eq, lookIn_append]
  simp only [Option.bind_some]
  by_cases h : (lookIn NT1 (D s)).2 = true
  · rw [if_pos h, if_pos h, ← h]
  · rw [if_neg h, if_neg h]
theorem names_list : ∃ L : List S42, cringleref11_names.f = some L ∧ L.map (fun x => (D x.f0, x.f1)) = NT := ⟨_, rfl, rfl⟩
theorem rname_loop (L : List S42) (s : ByteArray) (hn : L.length ≤ 1000) (d : Nat) : ∀ i : Nat, i + d = L.length → Ev (fun k => cringleref11_Name.l0 k s L (i : Int)) (lookIn ((L.drop i).map fun x => (D x.f0, x.f1)) (D s)) := by
  induction d with
  | zero =>
    intro i hi
    refine Ev.step (f := fun _ => some (0, false)) (fun k => ?_) ?_
    · simp only [cringleref11_Name.l0]
      rw [if_neg (by omega)]
    · rw [List.drop_of_length_le (by omega)]
      exact Ev.now _
  | succ d ih =>
    intro i hi
    have hlt : i < L.length := by omega
    have hrd : rd_T42 L (i : Int) = L[i] := by
      unfold rd_T42
      rw [Int.toNat_natCast, List.getD_eq_getElem?_getD, List.getElem?_eq_getElem hlt]
      rfl
    rw [drop_at hlt, List.map_cons]
    refine Ev.step (fun k => by simp only [cringleref11_Name.l0]; rw [if_pos (by omega), if_pos (by omega), hrd, next (by omega), Lib.toList_data, Lib.toList_data]) ?_
    unfold lookIn
    refine Ev.ite (fun h => ?_) (fun h => ?_)
    · rw [if_pos h.symm]
      exact Ev.now _
    · rw [if_neg (fun e => h e.symm)]
      exact ih (i + 1) (by omega)
theorem rname_ev (s : ByteArray) : Ev (fun k => cringleref11_Name.f k s) (Rf.look (D s)) := by
  obtain ⟨L, h1, h2⟩ := names_list
  have hl : L.length = 56 := by
    have := congrArg List.length h2
    rw [List.length_map] at this
    exact this
  unfold cringleref11_Name.f
  rw [h1]
  simp only [Option.bind_some]
  have := rname_loop L s (by omega) L.length 0 (by omega)
  rw [List.drop_zero, h2] at this
  exact this
/-! numbers -/
theorem number_eq (n : Nat) (h : n < 4294967296) : refs_Number.f (n : Int) = some (numOf n) := by
  unfold refs_Number.f numOf
  rw [if_pos (by omega), if_pos (by omega)]
  by_cases c1 : n = 0
  · rw [if_pos (by omega), if_pos (.inl c1)]
  rw [if_neg (by omega)]
  by_cases c2 : n > 1114111
  · rw [if_pos (by omega), if_pos (.inr (.inl c2))]
  rw [if_neg (by omega)]
  by_cases c3 : (n : Int) / 2048 = 27
  · rw [if_pos c3, if_pos (.inr (.inr (by omega)))]
  rw [if_neg c3, if_neg (show ¬ (n = 0 ∨ n > 1114111 ∨ (55296 ≤ n ∧ n ≤ 57343)) from by omega)]
  by_cases c4 : 128 ≤ n
  · rw [if_pos (show (n : Int) ≥ 128 from by omega)]
    by_cases c5 : n < 160
    · rw [if_pos (show (n : Int) < 160 from by omega), if_pos ⟨c4, c5⟩]
      unfold rd
      rw [show ((n : Int) - 128).toNat = n - 128 from by omega]
      rfl
    · rw [if_neg (show ¬ (n : Int) < 160 from by omega), if_neg (fun q => c5 q.2)]
  · rw [if_neg (show ¬ (n : Int) ≥ 128 from by omega), if_neg (fun q => c4 q.1)]
theorem window_eq : ∀ j : Fin 32, (if (rd [8364, 0, 8218, 402, 8222, 8230, 8224, 8225, 710, 8240, 352, 8249, 338, 0, 381, 0, 0, 8216, 8217, 8220, 8221, 8226, 8211, 8212, 732, 8482, 353, 8250, 339, 0, 382, 376] ((j.val : Nat) : Int)) = 0 then (((j.val + 128 : Nat)) : Int) else rd [8364, 0, 8218, 402, 8222, 8230, 8224, 8225, 710, 8240, 352, 8249, 338, 0, 381, 0, 0, 8216, 8217, 8220, 8221, 8226, 8211, 8212, 732, 8482, 353, 8250, 339, 0, 382, 376] ((j.val : Nat) : Int)) = wtab.getD j.val 0 := by decide +kernel
theorem rnumber_ev (n : Nat) (h : n < 4294967296) : Ev (fun k => cringleref11_Number.f k (n : Int)) (numOf n) := by
  have bad : numOf n = 65533 → Ev (fun k => cringleref11_Number.j0 k (n : Int) true) (numOf n) := fun e => by
    rw [e]
    refine Ev.step (f := fun _ => some 65533) (fun k => ?_) (Ev.now _)
    simp only [cringleref11_Number.j0]
    rw [if_pos trivial]
  have good : ¬ (n = 0 ∨ n > 1114111 ∨ (55296 ≤ n ∧ n ≤ 57343)) → Ev (fun k => cringleref11_Number.j0 k (n : Int) false) (numOf n) := fun hg => by
    have hw : wrap32 (n : Int) = (n : Int) := by unfold wrap32; omega
    refine Ev.step (fun k => by simp only [cringleref11_Number.j0]; rw [if_neg (by simp)]) ?_
    unfold numOf
    rw [if_neg hg]
    by_cases c4 : 128 ≤ n
    · refine Ev.congr (fun k => if_pos (by omega)) ?_
      by_cases c5 : n < 160
      · rw [if_pos ⟨c4, c5⟩, show decide ((n : Int) ≤ 159) = true from decide_eq_true (by omega)]
        refine Ev.step (f := fun _ => some (wtab.getD (n - 128) 0)) (fun k => ?_) (Ev.now _)
        simp only [cringleref11_Number.j1]
        rw [if_pos trivial]
        unfold cringleref11_windows.f
        have hm : ((n : Int) - 128) % 4294967296 = ((n - 128 : Nat) : Int) := by omega
        simp only [Option.bind_some, hm]
        rw [if_pos (by omega), if_pos (by simp; omega), hw]
        have := window_eq ⟨n - 128, by omega⟩
        simp only at this
        rw [show n - 128 + 128 = n from by omega] at this
        rw [← this]
        split <;> rfl
      · rw [if_neg (fun q => c5 q.2), show decide ((n : Int) ≤ 159) = false from decide_eq_false (by omega)]
        refine Ev.step (f := fun _ => some (n : Int)) (fun k => ?_) (Ev.now _)
        simp only [cringleref11_Number.j1]
        rw [if_neg (by simp), hw]
    · refine Ev.congr (fun k => if_neg (by omega)) ?_
      rw [if_neg (fun q => c4 q.1)]
      refine Ev.step (f := fun _ => some (n : Int)) (fun k => ?_) (Ev.now _)
      simp only [cringleref11_Number.j1]
      rw [if_neg (by simp), hw]
  unfold cringleref11_Number.f
  by_cases c1 : n = 0
  · refine Ev.congr (fun k => if_pos (by omega)) (bad ?_)
    unfold numOf; rw [if_pos (.inl c1)]
  refine Ev.congr (fun k => if_neg (by omega)) ?_
  by_cases c2 : n > 1114111
  · refine Ev.congr (fun k => if_pos (by omega)) (bad ?_)
    unfold numOf; rw [if_pos (.inr (.inl c2))]
  refine Ev.congr (fun k => if_neg (by omega)) ?_
  by_cases c3 : 55296 ≤ n
  · refine Ev.congr (fun k => if_pos (by omega)) ?_
    by_cases c4 : n ≤ 57343
    · rw [decide_eq_true (by omega : (n : Int) ≤ 57343)]
      refine bad ?_
      unfold numOf; rw [if_pos (.inr (.inr ⟨c3, c4⟩))]
    · rw [decide_eq_false (by omega : ¬ (n : Int) ≤ 57343)]
      exact good (by omega)
  · refine Ev.congr (fun k => if_neg (by omega)) ?_
    exact good (by omega)
/-! prefixes -/
theorem prefix_eq (p l : List UInt8) : p.isPrefixOf l = (decide (p.length ≤ l.length) && (l.take p.length == p)) := by
  by_cases h : p.isPrefixOf l = true
  · have h1 := List.isPrefixOf_iff_prefix.1 h
    rw [h, decide_eq_true h1.length_le, ← List.prefix_iff_eq_take.1 h1]
    simp
  · rw [Bool.eq_false_iff.mpr h]
    symm
    rw [Bool.and_eq_false_iff]
    by_cases hl : p.length ≤ l.length
    · right
      refine beq_eq_false_iff_ne.2 (fun e => h (List.isPrefixOf_iff_prefix.2 ?_))
      rw [← e]
      exact List.take_prefix _ _
    · left
      exact decide_eq_false hl
theorem pre_of (s p : ByteArray) : (if (s.size : Int) ≥ (p.size : Int) then (if 0 ≤ (p.size : Int) then (if (p.size : Int) ≤ (s.size : Int) then (some ((s.extract 0 ((p.size : Int) : Int).toNat).toList == p.toList)) else (none)) else (none)) else (some false)) = some ((D p).isPrefixOf (D s)) := by
  rw [prefix_eq, D_len, D_len]
  by_cases h : p.size ≤ s.size
  · rw [if_pos (by omega), if_pos (by omega), if_pos (by omega), Int.toNat_natCast, Lib.toList_data, Lib.toList_data, decide_eq_true h, Bool.true_and]
    show some (D (s.extract 0 p.size) == D p) = _
    rw [D_to]
  · rw [if_neg (by omega), decide_eq_false h]
    rfl
theorem hasPrefix_eq (s p : ByteArray) : strings_HasPrefix.f s p = some ((D p).isPrefixOf (D s)) := by
  unfold strings_HasPrefix.f stringslite_HasPrefix.f
  rw [pre_of]
  rfl
theorem rstarts_eq (s p : ByteArray) : cringleref11_starts.f s p = some ((D p).isPrefixOf (D s)) := pre_of s p
theorem cutPrefix_eq (s p : ByteArray) : strings_CutPrefix.f s p = some (if (D p).isPrefixOf (D s) = true then (strOf ((D s).drop p.size), true) else (s, false)) := by
  unfold strings_CutPrefix.f stringslite_CutPrefix.f stringslite_HasPrefix.f
  rw [pre_of]
  simp only [Option.bind_some]
  by_cases h : (D p).isPrefixOf (D s) = true
  · have := prefix_len h
    rw [D_len, D_len] at this
    rw [if_pos h, if_pos h, if_pos (by omega), if_pos (by omega), Int.toNat_natCast]
    simp only [Option.bind_some]
    congr 2
    exact D_inj (by rw [D_from]; rfl)
  · rw [if_neg h, if_neg h]
    rfl
theorem cut_eq (s p : ByteArray) (h : s.size < 4294967281) : strings_Cut.f s p = some (strOf (Lib.cut (D s) (D p)).1, strOf (Lib.cut (D s) (D p)).2.1, (Lib.cut (D s) (D p)).2.2) := by
  unfold strings_Cut.f
  rw [if_pos h]
  rfl
/-! digits -/
theorem letter_eq : ∀ c : Fin 256, ascii_IsLetter.f ((c.val : Nat) : Int) = some ((decide (97 ≤ c.val) && decide (c.val ≤ 122)) || (decide (65 ≤ c.val) && decide (c.val ≤ 90))) := by decide +kernel
theorem digit_eq : ∀ c : Fin 256, ascii_IsDigit.f ((c.val : Nat) : Int) = some (decide (48 ≤ c.val) && decide (c.val ≤ 57)) := by decide +kernel
theorem rletter_eq : ∀ c : Fin 256, cringleref01_IsLetter.f ((c.val : Nat) : Int) = some ((decide (97 ≤ c.val) && decide (c.val ≤ 122)) || (decide (65 ≤ c.val) && decide (c.val ≤ 90))) := by decide +kernel
theorem rdigit_eq : ∀ c : Fin 256, cringleref01_IsDigit.f ((c.val : Nat) : Int) = some (decide (48 ≤ c.val) && decide (c.val ≤ 57)) := by decide +kernel
theorem hex_one : ∀ c : Fin 256, ascii_Hex.f 3 (strOf [UInt8.ofNat c.val]) = some (if hexv c.val < 16 then (((hexv c.val : Nat) : Int), 0) else (0, 3)) := by decide +kernel
theorem hex_ev (c : UInt8) : Ev (fun k => ascii_Hex.f k (strOf [c])) (if hexv c.toNat < 16 then (((hexv c.toNat : Nat) : Int), 0) else (0, 3)) := by
  have h := hex_one ⟨c.toNat, c.toNat_lt⟩
  simp only [UInt8.ofNat_toNat] at h
  exact Ev.of (fun k => ascii_Hex.mono _ k) h
theorem rnib_all : ∀ c : Fin 256, cringleref01_Nibble.f 3 ((c.val : Nat) : Int) = some ((hexv c.val : Nat) : Int) := by decide +kernel
theorem rnib_ev (c : UInt8) : Ev (fun k => cringleref01_Nibble.f k ((c.toNat : Nat) : Int)) ((hexv c.toNat : Nat) : Int) := Ev.of (fun k => cringleref01_Nibble.mono _ k) (rnib_all ⟨c.toNat, c.toNat_lt⟩)
theorem u64_small {n : Int} (h0 : 0 ≤ n) (h1 : n < 18446744073709551616) : IntKind.u64.wrap n = n := by rw [u64_mod]; omega
theorem add_eq (base n : Nat) (c : UInt8) (hb : base = 10 ∨ base = 16) (hn : n ≤ 4294967295) (hv : hexv c.toNat < 16) : mn (IntKind.u64.wrap ((IntKind.u64.wrap ((n : Int) * (base : Int))) + (IntKind.u64.wrap ((hexv c.toNat : Nat) : Int)))) 4294967295 = ((addD base n c : Nat) : Int) := by
  have hm : (n : Int) * (base : Int) = ((n * base : Nat) : Int) := by simp
  have hle : n * base ≤ 4294967295 * 16 := Nat.mul_le_mul hn (by omega)
  rw [hm, u64_small (n := ((n * base : Nat) : Int)) (by omega) (by omega), u64_small (n := ((hexv c.toNat : Nat) : Int)) (by omega) (by omega), u64_small (by omega) (by omega)]
  unfold addD mn
  generalize n * base = q at *
  split <;> omega
theorem isDigit_base (base : Nat) (c : UInt8) (hb : base = 10 ∨ base = 16) : isD base c = ((decide (48 ≤ c.toNat) && decide (c.toNat ≤ 57)) || (decide (base = 16) && decide (hexv c.toNat < 16) && decide (9 < hexv c.toNat))) := by
  have key : ∀ x : Fin 256, decide (hexv x.val < 10) = (decide (48 ≤ x.val) && decide (x.val ≤ 57)) ∧ decide (hexv x.val < 16) = ((decide (48 ≤ x.val) && decide (x.val ≤ 57)) || (decide (hexv x.val < 16) && decide (9 < hexv x.val))) := by decide +kernel
  have h := key ⟨c.toNat, c.toNat_lt⟩
  unfold isD
  rcases hb with rfl | rfl
  · refine h.1.trans ?_; simp
  · refine h.2.trans ?_; simp
theorem digits_loop (s : ByteArray) (base : Nat) (hb : base = 10 ∨ base = 16) (hs : s.size ≤ 1000000000) (d : Nat) : ∀ (i n : Nat), i + d = s.size → n ≤ 4294967295 →
    Ev (fun k => refs_digits.l0 k s (base : Int) (n : Int) (s.size : Int) (i : Int)) (((((D s).drop i).takeWhile (isD base)).foldl (addD base) n : Nat), ((i + (((D s).drop i).takeWhile (isD base)).length : Nat) : Int)) := by
  induction d with
  | zero =>
    intro i n hi hn
    rw [List.drop_of_length_le (by rw [D_len]; omega)]
    refine Ev.step (f := fun _ => some ((n : Int), (s.size : Int))) (fun k => ?_) ?_
    · simp only [refs_digits.l0]
      rw [if_neg (by omega)]
    · have : s.size = i := by omega
      rw [this]
      exact Ev.now _
  | succ d ih =>
    intro i n hi hn
    have hlt : i < (D s).length := by rw [D_len]; omega
    have hx : s.extract ((i : Int)).toNat ((i + 1 : Nat) : Int).toNat = strOf [(D s)[i]] := by
      refine D_inj ?_
      rw [Int.toNat_natCast, Int.toNat_natCast]
      show (s.extract i (i + 1)).data.toList = _
      rw [Lib.extract_data, drop_at hlt, show i + 1 - i = 1 from by omega]
      rfl
    rw [drop_at hlt]
    generalize hc : (D s)[i] = c at *
    have hbt : bt s (i : Int) = ((c.toNat : Nat) : Int) := by rw [bt_get s i hlt, hc]
    refine Ev.step (fun k => by simp only [refs_digits.l0]; rw [if_pos (by omega), if_pos (by omega), next (by omega), if_pos (by omega), if_pos (by omega), hx]) ?_
    refine Ev.bind (hex_ev c) ?_
    refine Ev.congr (fun k => if_pos (by omega)) ?_
    rw [hbt]
    refine Ev.bind (now_of (digit_eq ⟨c.toNat, c.toNat_lt⟩)) ?_
    have hD := isDigit_base base c hb
    have goOn : isD base c = true → hexv c.toNat < 16 → Ev (fun k => refs_digits.l0 k s (base : Int) (mn (IntKind.u64.wrap ((IntKind.u64.wrap ((n : Int) * (base : Int))) + (IntKind.u64.wrap ((hexv c.toNat : Nat) : Int)))) 4294967295) (s.size : Int) ((i + 1 : Nat) : Int)) ((((c :: (D s).drop (i + 1)).takeWhile (isD base)).foldl (addD base) n : Nat), ((i + ((c :: (D s).drop (i + 1)).takeWhile (isD base)).length : Nat) : Int)) := fun h1 h2 => by
      rw [add_eq base n c hb hn h2, List.takeWhile_cons_of_pos h1, List.foldl_cons, List.length_cons, show i + (((D s).drop (i + 1)).takeWhile (isD base)).length.succ = (i + 1) + (((D s).drop (i + 1)).takeWhile (isD base)).length from by omega]
      exact ih (i + 1) (addD base n c) (by omega) (by unfold addD; omega)
    have stop : isD base c = false → Ev (fun _ => some ((n : Int), (i : Int))) ((((c :: (D s).drop (i + 1)).takeWhile (isD base)).foldl (addD base) n : Nat), ((i + ((c :: (D s).drop (i + 1)).takeWhile (isD base)).length : Nat) : Int)) := fun h1 => by
      rw [List.takeWhile_cons_of_neg (by rw [h1]; simp)]
      exact Ev.now _
    have h16 : hexv c.toNat < 16 ∨ hexv c.toNat = 16 := by
      have : ∀ x : Fin 256, hexv x.val < 16 ∨ hexv x.val = 16 := by decide +kernel
      exact this ⟨c.toNat, c.toNat_lt⟩
    cases hd : (decide (48 ≤ c.toNat) && decide (c.toNat ≤ 57)) with
    | true =>
      have h2 : hexv c.toNat < 16 := by
        have : ∀ x : Fin 256, (decide (48 ≤ x.val) && decide (x.val ≤ 57)) = true → hexv x.val < 16 := by decide +kernel
        exact this ⟨c.toNat, c.toNat_lt⟩ hd
      refine Ev.congr (fun k => if_pos rfl) ?_
      rw [if_pos h2]
      exact goOn (by rw [hD, hd]; rfl) h2
    | false =>
      refine Ev.congr (fun k => if_neg (by simp)) ?_
      rw [hd, Bool.false_or] at hD
      rcases hb with rfl | rfl
      · refine Ev.congr (fun k => if_neg (by decide)) ?_
        exact stop (by rw [hD]; rfl)
      · refine Ev.congr (fun k => if_pos rfl) ?_
        rcases h16 with h2 | h2
        · rw [if_pos h2]
          by_cases h9 : 9 < hexv c.toNat
          · refine Ev.congr (fun k => if_pos (by show ((hexv c.toNat : Nat) : Int) > 9; omega)) ?_
            exact goOn (by rw [hD, decide_eq_true h2, decide_eq_true h9]; rfl) h2
          · refine Ev.congr (fun k => if_neg (by show ¬ ((hexv c.toNat : Nat) : Int) > 9; omega)) ?_
            exact stop (by rw [hD, decide_eq_false h9]; simp)
        · rw [if_neg (by omega)]
          refine Ev.congr (fun k => if_neg (by decide)) ?_
          exact stop (by rw [hD, decide_eq_false (by omega : ¬ hexv c.toNat < 16)]; rfl)
end Go.Proofs.YtekijemacjpceaaDoor.Plain

namespace Go.Proofs.YtekijemacjpceaaDoor.Plain
open Go.RowKit Go.Proofs.YtekijemacjpceaaDoor.Q Go.Proofs.YtekijemacjpceaaDoorW.PrintWords Go.Proofs.YtekijemacjpceaaDoorW.PrintLast Go.Proofs.YtekijemacjpceaaDoorW.PrintMore
open Go.Proofs.YtekijemacjpceaaDoor.U8 (B nxt spec encB items text mend signs Right)
open Go.Proofs.YtekijemacjpceaaDoor.Rf
set_option linter.unusedVariables false
def resOf : Option (Int × Nat) → Int × Int × Bool
  | some p => (p.1, ((p.2 : Nat) : Int), true)
  | none => (0, 0, false)
theorem pre_one (c : UInt8) (l : List UInt8) (e : Nat) : [c].isPrefixOf (l.drop e) = true ↔ l[e]? = some c := by
  rw [← List.head?_drop]
  cases l.drop e with
  | nil => simp [List.isPrefixOf]
  | cons b r =>
    simp [List.isPrefixOf]
    exact eq_comm
theorem tw_len (p : UInt8 → Bool) (l : List UInt8) : (l.takeWhile p).length ≤ l.length := (List.takeWhile_prefix p).length_le
theorem fold_le (base : Nat) : ∀ (ds : List UInt8) (n : Nat), n ≤ 4294967295 → ds.foldl (addD base) n ≤ 4294967295
  | [], n, h => h
  | c :: r, n, h => fold_le base r (addD base n c) (by unfold addD; omega)
theorem u32_id {n : Nat} (h : n ≤ 4294967295) : ((n : Nat) : Int) % 4294967296 = (n : Int) := by omega
theorem digits_ev (s : ByteArray) (base : Nat) (hb : base = 10 ∨ base = 16) (hs : s.size ≤ 1000000000) : Ev (fun k => refs_digits.f k s (base : Int)) ((((D s).takeWhile (isD base)).foldl (addD base) 0 : Nat), (((D s).takeWhile (isD base)).length : Nat)) := by
  have := digits_loop s base hb hs s.size 0 0 (by omega) (by omega)
  rw [List.drop_zero, Nat.zero_add] at this
  exact this
def numAt (base p : Nat) (l : List UInt8) : Option (Int × Nat) :=
  if (l.drop p).takeWhile (isD base) = [] then none else some (numOf (((l.drop p).takeWhile (isD base)).foldl (addD base) 0), endAt l (p + ((l.drop p).takeWhile (isD base)).length))
theorem numRef_at (l : List UInt8) : numRef l = numAt (baseOf l).1 (baseOf l).2 l := rfl
theorem numj1_ev (s : ByteArray) (base p : Nat) (hb : base = 10 ∨ base = 16) (hp : p ≤ s.size) (hs : s.size ≤ 1000000000) : Ev (fun k => refs_number.j1 k s (p : Int) (base : Int)) (resOf (numAt base p (D s))) := by
  have hD : D (s.extract p s.size) = (D s).drop p := D_from s p
  have hsz : (s.extract p s.size).size = s.size - p := by rw [← D_len, hD, List.length_drop, D_len]
  have hg := digits_ev (s.extract p s.size) base hb (by omega)
  rw [hD] at hg
  have hlen : (((D s).drop p).takeWhile (isD base)).length ≤ s.size - p := by
    have := tw_len (isD base) ((D s).drop p)
    rw [List.length_drop, D_len] at this
    exact this
  have hfold := fold_le base (((D s).drop p).takeWhile (isD base)) 0 (by omega)
  refine Ev.step (fun k => by simp only [refs_number.j1]; rw [if_pos (by omega), if_pos (by omega), Int.toNat_natCast]) ?_
  refine Ev.bind hg ?_
  unfold numAt
  generalize ((D s).drop p).takeWhile (isD base) = ds at *
  by_cases h0 : ds = []
  · rw [if_pos h0]
    subst h0
    exact Ev.now _
  · have hl : 0 < ds.length := List.length_pos_iff.2 h0
    rw [if_neg h0]
    have hw : wrap64 ((p : Int) + (ds.length : Int)) = ((p + ds.length : Nat) : Int) := by unfold wrap64; omega
    have hpre := hasPrefix_eq (s.extract (p + ds.length) s.size) (⟨#[59]⟩ : ByteArray)
    rw [D_from] at hpre
    refine now_of ?_
    simp only []
    rw [if_neg (by omega), hw, if_pos (by omega), if_pos (by omega), Int.toNat_natCast, hpre, u32_id hfold, number_eq _ (by omega), next (by omega)]
    unfold endAt
    by_cases he : (D s)[p + ds.length]? = some 59
    · have : List.isPrefixOf (D (⟨#[59]⟩ : ByteArray)) ((D s).drop (p + ds.length)) = true := (pre_one 59 _ _).2 he
      rw [this, if_pos he]
      rfl
    · have : List.isPrefixOf (D (⟨#[59]⟩ : ByteArray)) ((D s).drop (p + ds.length)) = false := Bool.eq_false_iff.2 fun e => he ((pre_one 59 _ _).1 e)
      rw [this, if_neg he]
      rfl
theorem x_all : ∀ c : Fin 256, ((Go.bits .or .u8 ((c.val : Nat) : Int) 32) == 120) = (decide (c.val = 120) || decide (c.val = 88)) := by decide +kernel
theorem get2 (s : ByteArray) (h : 2 < s.size) : (D s)[2]? = some ((D s)[2]'(by rw [D_len]; exact h)) := List.getElem?_eq_getElem _
theorem number_ev (s : ByteArray) (h2 : 2 ≤ s.size) (hs : s.size ≤ 1000000000) : Ev (fun k => refs_number.f k s) (resOf (numRef (D s))) := by
  rw [numRef_at]
  unfold refs_number.f baseOf
  by_cases h : 2 < s.size
  · refine Ev.congr (fun k => (if_pos (by omega)).trans (if_pos (by omega))) ?_
    have hlt : 2 < (D s).length := by rw [D_len]; exact h
    have hb := bt_get s 2 hlt
    have hx := x_all ⟨((D s)[2]'hlt).toNat, ((D s)[2]'hlt).toNat_lt⟩
    rw [get2 s h, show bt s 2 = _ from hb]
    generalize (D s)[2]'hlt = c at *
    simp only [] at hx
    rw [hx]
    by_cases hc : c = 120 ∨ c = 88
    · have e1 : (decide (c.toNat = 120) || decide (c.toNat = 88)) = true := by rcases hc with rfl | rfl <;> rfl
      rw [e1, if_pos (by rcases hc with rfl | rfl <;> simp)]
      refine Ev.step (fun k => by simp only [refs_number.j0]; rw [if_pos trivial, show wrap64 ((2 : Int) + 1) = ((3 : Nat) : Int) from by unfold wrap64; omega]) ?_
      exact numj1_ev s 16 3 (.inr rfl) (by omega) hs
    · have e1 : (decide (c.toNat = 120) || decide (c.toNat = 88)) = false := by
        rw [Bool.or_eq_false_iff]
        exact ⟨decide_eq_false fun e => hc (.inl (UInt8.toNat_inj.1 e)), decide_eq_false fun e => hc (.inr (UInt8.toNat_inj.1 e))⟩
      rw [e1, if_neg (by simpa using hc)]
      refine Ev.step (fun k => by simp only [refs_number.j0]; rw [if_neg (by simp)]) ?_
      exact numj1_ev s 10 2 (.inl rfl) (by omega) hs
  · refine Ev.congr (fun k => if_neg (by omega)) ?_
    have : (D s)[2]? = none := List.getElem?_eq_none (by rw [D_len]; omega)
    rw [this, if_neg (by simp)]
    refine Ev.step (fun k => by simp only [refs_number.j0]; rw [if_neg (by simp)]) ?_
    exact numj1_ev s 10 2 (.inl rfl) (by omega) hs
theorem rj3_ev (s : ByteArray) (i n p : Nat) (hi : i ≤ s.size) (hn : n ≤ 4294967295) (hs : s.size ≤ 1000000000) : Ev (fun k => cringleref11_number.j3 k s (i : Int) (n : Int) (p : Int)) (resOf (if i = p then none else some (numOf n, endAt (D s) i))) := by
  by_cases h0 : i = p
  · rw [if_pos h0]
    refine Ev.step (f := fun _ => some (0, 0, false)) (fun k => ?_) (Ev.now _)
    simp only [cringleref11_number.j3]
    rw [if_pos (by omega)]
  · rw [if_neg h0]
    refine Ev.step (fun k => by simp only [cringleref11_number.j3]; rw [if_neg (by omega), u32_id hn]) ?_
    have hr := rnumber_ev n (by omega)
    unfold endAt
    by_cases h : i < s.size
    · have hlt : i < (D s).length := by rw [D_len]; exact h
      refine Ev.congr (fun k => (if_pos (by omega)).trans (if_pos (by omega))) ?_
      rw [List.getElem?_eq_getElem hlt, bt_get s i hlt]
      generalize (D s)[i]'hlt = c
      by_cases hc : c = 59
      · refine Ev.congr (fun k => if_pos (by rw [hc]; rfl)) ?_
        rw [if_pos (by rw [hc])]
        refine Ev.bind hr ?_
        rw [next (by omega)]
        exact Ev.now _
      · refine Ev.congr (fun k => if_neg (fun e => hc (UInt8.toNat_inj.1 (by show c.toNat = 59; omega)))) ?_
        rw [if_neg (by simpa using hc)]
        refine Ev.bind hr ?_
        exact Ev.now _
    · refine Ev.congr (fun k => if_neg (by omega)) ?_
      rw [List.getElem?_eq_none (by rw [D_len]; omega), if_neg (by simp)]
      refine Ev.bind hr ?_
      exact Ev.now _
theorem rnum_loop (s : ByteArray) (base p : Nat) (hb : base = 10 ∨ base = 16) (hs : s.size ≤ 1000000000) (d : Nat) : ∀ (i n : Nat), i + d = s.size → n ≤ 4294967295 →
    Ev (fun k => cringleref11_number.l0 k s (base : Int) (i : Int) (n : Int) (p : Int)) (resOf (if i + (((D s).drop i).takeWhile (isD base)).length = p then none else some (numOf ((((D s).drop i).takeWhile (isD base)).foldl (addD base) n), endAt (D s) (i + (((D s).drop i).takeWhile (isD base)).length)))) := by
  induction d with
  | zero =>
    intro i n hi hn
    rw [List.drop_of_length_le (by rw [D_len]; omega)]
    refine Ev.step (fun k => by simp only [cringleref11_number.l0]; rw [if_neg (by omega)]) ?_
    exact rj3_ev s i n p (by omega) hn hs
  | succ d ih =>
    intro i n hi hn
    have hlt : i < (D s).length := by rw [D_len]; omega
    rw [drop_at hlt]
    have hbt := bt_get s i hlt
    generalize (D s)[i] = c at *
    have hnib := rnib_ev c
    have hw : IntKind.u64.wrap ((hexv c.toNat : Nat) : Int) = ((hexv c.toNat : Nat) : Int) := by
      have : ∀ x : Fin 256, hexv x.val ≤ 16 := by decide +kernel
      have h := this ⟨c.toNat, c.toNat_lt⟩
      simp only [] at h
      exact u64_small (by omega) (by omega)
    refine Ev.step (fun k => by simp only [cringleref11_number.l0]; rw [if_pos (by omega), if_pos (by omega), hbt]) ?_
    refine Ev.bind hnib ?_
    rw [next (by omega)]
    by_cases hd : hexv c.toNat < base
    · refine Ev.congr (fun k => if_pos (by rw [hw]; omega)) ?_
      refine Ev.bind hnib ?_
      have h1 : isD base c = true := decide_eq_true hd
      rw [List.takeWhile_cons_of_pos h1, List.foldl_cons, List.length_cons, add_eq base n c hb hn (by omega), show i + ((((D s).drop (i + 1)).takeWhile (isD base)).length + 1) = (i + 1) + (((D s).drop (i + 1)).takeWhile (isD base)).length from by omega]
      exact ih (i + 1) (addD base n c) (by omega) (by unfold addD; omega)
    · refine Ev.congr (fun k => if_neg (by rw [hw]; omega)) ?_
      have h1 : isD base c = false := decide_eq_false hd
      rw [List.takeWhile_cons_of_neg (by rw [h1]; simp)]
      exact rj3_ev s i n p (by omega) hn hs
theorem rnumj1_ev (s : ByteArray) (base p : Nat) (hb : base = 10 ∨ base = 16) (hp : p ≤ s.size) (hs : s.size ≤ 1000000000) : Ev (fun k => cringleref11_number.j1 k s (base : Int) (p : Int)) (resOf (numAt base p (D s))) := by
  refine Ev.step (fun k => by rw [cringleref11_number.j1]) ?_
  have := rnum_loop s base p hb hs (s.size - p) p 0 (by omega) (by omega)
  unfold numAt
  generalize ((D s).drop p).takeWhile (isD base) = ds at *
  have e : (if p + ds.length = p then none else some (numOf (ds.foldl (addD base) 0), endAt (D s) (p + ds.length))) = (if ds = [] then none else some (numOf (ds.foldl (addD base) 0), endAt (D s) (p + ds.length))) := by
    by_cases h : ds = []
    · rw [if_pos h, if_pos (by rw [h]; rfl)]
    · rw [if_neg h, if_neg (by have := List.length_pos_iff.2 h; omega)]
  rw [← e]
  exact this
theorem rnumberRef_ev (s : ByteArray) (h2 : 2 ≤ s.size) (hs : s.size ≤ 1000000000) : Ev (fun k => cringleref11_number.f k s) (resOf (numRef (D s))) := by
  rw [numRef_at]
  unfold cringleref11_number.f baseOf
  have hexa : 2 < s.size → Ev (fun k => cringleref11_number.j0 k s 10 2 true) (resOf (numAt 16 3 (D s))) := fun h => by
    refine Ev.step (fun k => by simp only [cringleref11_number.j0]; rw [if_pos trivial]) ?_
    exact rnumj1_ev s 16 3 (.inr rfl) (by omega) hs
  have deci : Ev (fun k => cringleref11_number.j0 k s 10 2 false) (resOf (numAt 10 2 (D s))) := by
    refine Ev.step (fun k => by simp only [cringleref11_number.j0]; rw [if_neg (by simp)]) ?_
    exact rnumj1_ev s 10 2 (.inl rfl) (by omega) hs
  by_cases h : 2 < s.size
  · refine Ev.congr (fun k => (if_pos (by omega)).trans (if_pos (by omega))) ?_
    have hlt : 2 < (D s).length := by rw [D_len]; exact h
    rw [get2 s h, show bt s 2 = _ from bt_get s 2 hlt]
    generalize (D s)[2]'hlt = c at *
    by_cases hc : c = 120
    · subst hc
      exact hexa h
    · refine Ev.congr (fun k => if_neg (fun e => hc (UInt8.toNat_inj.1 (by show c.toNat = 120; omega)))) ?_
      by_cases hc2 : c = 88
      · subst hc2
        exact hexa h
      · rw [if_neg (by simp [hc, hc2]), show (((c.toNat : Nat) : Int) == 88) = false from beq_eq_false_iff_ne.2 (fun e => hc2 (UInt8.toNat_inj.1 (by show c.toNat = 88; omega)))]
        exact deci
  · refine Ev.congr (fun k => if_neg (by omega)) ?_
    have : (D s)[2]? = none := List.getElem?_eq_none (by rw [D_len]; omega)
    rw [this, if_neg (by simp)]
    exact deci
/-! names cut short -/
theorem isWord_eq (s : ByteArray) : refs_isWord.f s = some (wordyAt (D s)) := by
  unfold refs_isWord.f
  rw [Lib.toList_data]
  cases h : D s with
  | nil =>
    rw [if_pos h]
    rfl
  | cons c r =>
    have hl : 0 < (D s).length := by rw [h]; simp
    have h0 : (D s)[0]'hl = c := by simp [h]
    have hb : bt s 0 = ((c.toNat : Nat) : Int) := by
      have := bt_get s 0 hl
      rw [h0] at this
      exact this
    have hsz : 0 < s.size := by rw [← D_len]; exact hl
    rw [if_neg (by rw [show s.data.toList = c :: r from h]; simp), if_pos (by omega), hb]
    have k1 := letter_eq ⟨c.toNat, c.toNat_lt⟩
    have k2 := digit_eq ⟨c.toNat, c.toNat_lt⟩
    simp only [] at k1 k2
    rw [k1, k2]
    simp only [Option.bind_some, wordyAt, wordy]
    by_cases c1 : c.toNat = 61
    · rw [if_pos (by omega), c1]
      rfl
    · rw [if_neg (by omega), show (c.toNat == 61) = false from beq_eq_false_iff_ne.2 c1, Bool.false_or]
      cases ((decide (97 ≤ c.toNat) && decide (c.toNat ≤ 122)) || (decide (65 ≤ c.toNat) && decide (c.toNat ≤ 90))) with
      | true => simp
      | false => simp
theorem rdOf_at {ss : List ByteArray} {i : Nat} (h : i < ss.length) : rdOf ByteArray.empty ss (i : Int) = ss[i] := by
  unfold rdOf
  rw [Int.toNat_natCast, List.getD_eq_getElem?_getD, List.getElem?_eq_getElem h]
  rfl
theorem short_loop (s : ByteArray) (attr : Bool) (ss : List ByteArray) (hn : ss.length ≤ 1000) (hz : ∀ x ∈ ss, x.size ≤ 1000) (d : Nat) : ∀ i : Nat, i + d = ss.length → Ev (fun k => refs_short.l0 k s attr ss (ss.length : Int) (i : Int)) (resOf (shortAt attr ((ss.drop i).map D) (D s))) := by
  induction d with
  | zero =>
    intro i hi
    rw [List.drop_of_length_le (by omega)]
    refine Ev.step (f := fun _ => some (0, 0, false)) (fun k => ?_) (Ev.now _)
    simp only [refs_short.l0]
    rw [if_neg (by omega)]
  | succ d ih =>
    intro i hi
    have hlt : i < ss.length := by omega
    rw [drop_at hlt, List.map_cons]
    have hsz := hz _ (List.getElem_mem hlt)
    refine Ev.step (fun k => by simp only [refs_short.l0]; rw [if_pos (by omega), if_pos (by omega), if_pos (by omega), rdOf_at hlt, next (by omega), cutPrefix_eq, name_eq]) ?_
    generalize ss[i] = n at *
    have hrec := ih (i + 1) (by omega)
    unfold shortAt
    have hw : wrap64 ((n.size : Int) + 1) = (((D n).length + 1 : Nat) : Int) := by rw [D_len]; exact next (by omega)
    rw [hw]
    by_cases h : (D n).isPrefixOf (D s) = true
    · rw [if_pos h]
      refine Ev.bind (Ev.now _) ?_
      refine Ev.congr (fun k => if_pos rfl) ?_
      by_cases ha : attr = true
      · refine Ev.congr (fun k => if_pos ha) ?_
        refine Ev.bind (now_of (isWord_eq _)) ?_
        show Ev (fun k => if wordyAt ((D s).drop n.size) = true then _ else _) _
        rw [← D_len]
        by_cases hy : wordyAt ((D s).drop (D n).length) = true
        · refine Ev.congr (fun k => if_pos hy) ?_
          rw [if_neg (fun q => q.2 ⟨ha, hy⟩)]
          exact hrec
        · refine Ev.congr (fun k => if_neg hy) ?_
          rw [if_pos ⟨h, fun q => hy q.2⟩]
          exact Ev.now _
      · refine Ev.congr (fun k => if_neg ha) ?_
        rw [if_pos ⟨h, fun q => ha q.1⟩]
        exact Ev.now _
    · rw [if_neg h]
      refine Ev.bind (Ev.now _) ?_
      refine Ev.congr (fun k => if_neg (by simp)) ?_
      rw [if_neg (fun q => h q.1)]
      exact hrec
theorem short_ev (s : ByteArray) (attr : Bool) : Ev (fun k => refs_short.f k s attr) (resOf (shortAt attr shorts (D s))) := by
  unfold refs_short.f
  simp only [Option.bind_some]
  exact short_loop s attr _ (by decide) (by decide) 7 0 rfl
theorem Next_ev (s : ByteArray) (attr : Bool) (hs : s.size ≤ 1000000000) : Ev (fun k => refs_Next.f k s attr) (resOf (nextRef attr (D s))) := by
  unfold refs_Next.f nextRef
  rw [hasPrefix_eq, cutPrefix_eq]
  simp only [Option.bind_some]
  rw [show D (⟨#[38, 35]⟩ : ByteArray) = [38, 35] from rfl, show D (⟨#[38]⟩ : ByteArray) = [38] from rfl, show (⟨#[38]⟩ : ByteArray).size = 1 from rfl]
  by_cases h1 : [38, 35].isPrefixOf (D s) = true
  · rw [if_pos h1]
    refine Ev.congr (fun k => if_pos h1) ?_
    have h2 := prefix_len h1
    rw [D_len] at h2
    refine Ev.bind (number_ev s h2 hs) ?_
    exact Ev.now _
  · rw [if_neg h1]
    refine Ev.congr (fun k => if_neg h1) ?_
    by_cases h2 : [38].isPrefixOf (D s) = true
    · rw [if_pos h2, if_pos h2]
      refine Ev.congr (fun k => if_pos rfl) ?_
      have hsh : Ev (fun k => (refs_short.f k (strOf ((D s).drop 1)) attr).bind fun bt160 => some (bt160.1, bt160.2.1, bt160.2.2)) (resOf (shortAt attr shorts ((D s).drop 1))) := Ev.bind (short_ev (strOf ((D s).drop 1)) attr) (Ev.now _)
      have hz : (strOf ((D s).drop 1)).size = s.size - 1 := by rw [← D_len, D_str, List.length_drop, D_len]
      rw [cut_eq _ _ (show (strOf ((D s).drop 1)).size < 4294967281 from by omega)]
      refine Ev.bind (Ev.now _) ?_
      rw [D_str, show D (⟨#[59]⟩ : ByteArray) = [59] from rfl, cut_byte, nameAt_look NT NT_names]
      generalize hl : (D s).drop 1 = l at *
      by_cases h3 : (59 : UInt8) ∈ l
      · rw [if_pos h3]
        refine Ev.congr (fun k => if_pos rfl) ?_
        refine Ev.bind (now_of (name_eq _)) ?_
        rw [D_str]
        have hlen : (l.takeWhile (· != 59)).length ≤ s.size - 1 := by
          have := tw_len (· != 59) l
          rw [← hl, List.length_drop, D_len] at this
          rw [hl] at this
          exact this
        by_cases h4 : (lookIn NT (l.takeWhile (· != 59))).2 = true
        · rw [if_pos ⟨h3, h4⟩]
          refine Ev.congr (fun k => if_pos h4) ?_
          refine now_of ?_
          rw [← D_len, D_str]
          show some (_, wrap64 (((l.takeWhile (· != 59)).length : Int) + 2), true) = some (_, (((l.takeWhile (· != 59)).length + 2 : Nat) : Int), true)
          rw [show wrap64 (((l.takeWhile (· != 59)).length : Int) + 2) = (((l.takeWhile (· != 59)).length + 2 : Nat) : Int) from by unfold wrap64; omega]
          rfl
        · rw [if_neg (fun q => h4 q.2)]
          refine Ev.congr (fun k => if_neg h4) ?_
          exact hsh
      · rw [if_neg h3, if_neg (fun q => h3 q.1)]
        refine Ev.congr (fun k => if_neg (by simp)) ?_
        exact hsh
    · rw [if_neg h2, if_neg h2]
      refine Ev.congr (fun k => if_neg (by simp)) ?_
      exact Ev.now _
/-! the reference -/
theorem rshort_loop (s : ByteArray) (attr : Bool) (hs1 : 1 ≤ s.size) (hs : s.size ≤ 1000000000) (ss : List ByteArray) (hn : ss.length ≤ 1000) (hz : ∀ x ∈ ss, x.size ≤ 1000) (d : Nat) : ∀ i : Nat, i + d = ss.length → Ev (fun k => cringleref11_Next.l1 k s attr ss (i : Int)) (resOf (shortAt attr ((ss.drop i).map D) ((D s).drop 1))) := by
  induction d with
  | zero =>
    intro i hi
    rw [List.drop_of_length_le (by omega)]
    refine Ev.step (f := fun _ => some (0, 0, false)) (fun k => ?_) (Ev.now _)
    simp only [cringleref11_Next.l1]
    rw [if_neg (by omega)]
  | succ d ih =>
    intro i hi
    have hlt : i < ss.length := by omega
    rw [drop_at hlt, List.map_cons]
    have hsz := hz _ (List.getElem_mem hlt)
    refine Ev.step (fun k => by simp only [cringleref11_Next.l1]; rw [if_pos (by omega), if_pos (by omega), if_pos (by omega), rdOf_at hlt, next (i := i) (by omega), rstarts_eq, D_from]) ?_
    generalize ss[i] = n at *
    have hrec := ih (i + 1) (by omega)
    unfold shortAt
    have hw : wrap64 ((n.size : Int) + 1) = (((D n).length + 1 : Nat) : Int) := by rw [D_len]; exact next (by omega)
    have hnm := rname_ev n
    rw [hw]
    have hend : (D n).isPrefixOf ((D s).drop 1) = true ∧ ¬ (attr = true ∧ wordyAt (((D s).drop 1).drop (D n).length) = true) → Ev (fun k => (cringleref11_Name.f k n).bind fun bt237 => some (bt237.1, (((D n).length + 1 : Nat) : Int), true)) (resOf (if (D n).isPrefixOf ((D s).drop 1) = true ∧ ¬ (attr = true ∧ wordyAt (((D s).drop 1).drop (D n).length) = true) then some ((Rf.look (D n)).1, (D n).length + 1) else shortAt attr ((ss.drop (i + 1)).map D) ((D s).drop 1))) := fun q => by
      rw [if_pos q]
      exact Ev.bind hnm (Ev.now _)
    refine Ev.bind (Ev.now _) ?_
    by_cases h : (D n).isPrefixOf ((D s).drop 1) = true
    · refine Ev.congr (fun k => if_pos h) ?_
      by_cases ha : attr = true
      · refine Ev.congr (fun k => if_pos ha) ?_
        rw [List.drop_drop, Nat.add_comm 1] at *
        by_cases hq : (D n).length + 1 < s.size
        · have hlq : (D n).length + 1 < (D s).length := by rw [D_len]; exact hq
          refine Ev.congr (fun k => (if_pos (by omega)).trans (if_pos (by omega))) ?_
          rw [bt_get s _ hlq]
          have hwd : wordyAt ((D s).drop ((D n).length + 1)) = wordy ((D s)[(D n).length + 1]'hlq).toNat := by rw [drop_at hlq]; rfl
          generalize (D s)[(D n).length + 1]'hlq = c at *
          have k1 := rletter_eq ⟨c.toNat, c.toNat_lt⟩
          have k2 := rdigit_eq ⟨c.toNat, c.toNat_lt⟩
          simp only [] at k1 k2
          unfold wordy at hwd
          by_cases c1 : c.toNat = 61
          · refine Ev.congr (fun k => if_pos (by omega)) ?_
            rw [if_neg (fun q => q.2 ⟨ha, by rw [hwd, c1]; rfl⟩)]
            exact hrec
          · refine Ev.congr (fun k => if_neg (by omega)) ?_
            rw [k1, k2]
            rw [show (c.toNat == 61) = false from beq_eq_false_iff_ne.2 c1, Bool.false_or] at hwd
            refine Ev.bind (Ev.now _) ?_
            cases hL : ((decide (97 ≤ c.toNat) && decide (c.toNat ≤ 122)) || (decide (65 ≤ c.toNat) && decide (c.toNat ≤ 90))) with
            | true =>
              refine Ev.congr (fun k => if_pos rfl) ?_
              rw [if_neg (fun q => q.2 ⟨ha, by rw [hwd, hL]; rfl⟩)]
              exact hrec
            | false =>
              refine Ev.congr (fun k => if_neg (by simp)) ?_
              refine Ev.bind (Ev.now _) ?_
              rw [hL, Bool.false_or] at hwd
              cases hG : (decide (48 ≤ c.toNat) && decide (c.toNat ≤ 57)) with
              | true =>
                refine Ev.congr (fun k => if_pos rfl) ?_
                rw [if_neg (fun q => q.2 ⟨ha, by rw [hwd, hG]⟩)]
                exact hrec
              | false =>
                refine Ev.congr (fun k => if_neg (by simp)) ?_
                exact hend ⟨h, fun q => by rw [hwd, hG] at q; exact absurd q.2 (by simp)⟩
        · refine Ev.congr (fun k => if_neg (by omega)) ?_
          refine hend ⟨h, fun q => ?_⟩
          rw [List.drop_of_length_le (by rw [D_len]; omega)] at q
          exact absurd q.2 (by simp [wordyAt])
      · refine Ev.congr (fun k => if_neg ha) ?_
        exact hend ⟨h, fun q => ha q.1⟩
    · refine Ev.congr (fun k => if_neg h) ?_
      rw [if_neg (fun q => h q.1)]
      exact hrec
theorem rnames_loop (s : ByteArray) (attr : Bool) (hs1 : 1 ≤ s.size) (hs : s.size ≤ 1000000000) (L : List S42) (hn : L.length ≤ 1000) (hz : ∀ x ∈ L, x.f0.size ≤ 1000) (d : Nat) : ∀ i : Nat, i + d = L.length → Ev (fun k => cringleref11_Next.l0 k s attr L (i : Int)) (resOf (match nameAt ((L.drop i).map fun x => (D x.f0, x.f1)) ((D s).drop 1) with | some r => some r | none => shortAt attr shorts ((D s).drop 1))) := by
  induction d with
  | zero =>
    intro i hi
    rw [List.drop_of_length_le (by omega)]
    refine Ev.step (fun k => by simp only [cringleref11_Next.l0]; rw [if_neg (by omega)]) ?_
    exact rshort_loop s attr hs1 hs _ (by decide) (by decide) 7 0 rfl
  | succ d ih =>
    intro i hi
    have hlt : i < L.length := by omega
    have hrd : rd_T42 L (i : Int) = L[i] := by
      unfold rd_T42
      rw [Int.toNat_natCast, List.getD_eq_getElem?_getD, List.getElem?_eq_getElem hlt]
      rfl
    have hsz := hz _ (List.getElem_mem hlt)
    rw [drop_at hlt, List.map_cons]
    refine Ev.step (fun k => by simp only [cringleref11_Next.l0]; rw [if_pos (by omega), if_pos (by omega), if_pos (by omega), hrd, if_pos (by omega), next (by omega), rstarts_eq, D_from]) ?_
    generalize L[i] = x at *
    have hcat : D (x.f0 ++ (⟨#[59]⟩ : ByteArray)) = D x.f0 ++ [59] := by
      unfold D
      simp
    have hw : wrap64 ((x.f0.size : Int) + 2) = (((D x.f0).length + 2 : Nat) : Int) := by rw [D_len]; unfold wrap64; omega
    rw [hcat, hw]
    unfold nameAt
    refine Ev.bind (Ev.now _) ?_
    by_cases h : (D x.f0 ++ [59]).isPrefixOf ((D s).drop 1) = true
    · refine Ev.congr (fun k => if_pos h) ?_
      rw [if_pos h]
      exact Ev.now _
    · refine Ev.congr (fun k => if_neg h) ?_
      rw [if_neg h]
      exact ih (i + 1) (by omega)
theorem rNext_ev (s : ByteArray) (attr : Bool) (hs : s.size ≤ 1000000000) : Ev (fun k => cringleref11_Next.f k s attr) (resOf (nextRef attr (D s))) := by
  obtain ⟨L, hL1, hL2⟩ := names_list
  have hl : L.length = 56 := by
    have := congrArg List.length hL2
    rw [List.length_map] at this
    exact this
  have hz : ∀ x ∈ L, x.f0.size ≤ 1000 := fun x hx => by
    have h1 : (D x.f0, x.f1) ∈ NT := by rw [← hL2]; exact List.mem_map.2 ⟨x, hx, rfl⟩
    have h2 : ∀ y ∈ NT, y.1.length ≤ 1000 := by decide +kernel
    have h3 := h2 _ h1
    simp only [D_len] at h3
    exact h3
  unfold cringleref11_Next.f nextRef
  rw [rstarts_eq, rstarts_eq, hL1]
  simp only [Option.bind_some]
  rw [show D (⟨#[38, 35]⟩ : ByteArray) = [38, 35] from rfl, show D (⟨#[38]⟩ : ByteArray) = [38] from rfl]
  by_cases h1 : [38, 35].isPrefixOf (D s) = true
  · rw [if_pos h1]
    refine Ev.congr (fun k => if_pos h1) ?_
    have h2 := prefix_len h1
    rw [D_len] at h2
    refine Ev.bind (rnumberRef_ev s h2 hs) ?_
    exact Ev.now _
  · rw [if_neg h1]
    refine Ev.congr (fun k => if_neg h1) ?_
    by_cases h2 : [38].isPrefixOf (D s) = true
    · rw [if_pos h2]
      refine Ev.congr (fun k => if_pos h2) ?_
      have h3 := prefix_len h2
      rw [D_len] at h3
      have := rnames_loop s attr h3 hs L (by omega) hz L.length 0 (by omega)
      rw [List.drop_zero, hL2] at this
      exact this
    · rw [if_neg h2]
      refine Ev.congr (fun k => if_neg h2) ?_
      exact Ev.now _
end Go.Proofs.YtekijemacjpceaaDoor.Plain

namespace Go.Proofs.YtekijemacjpceaaDoor.Plain
open Go.RowKit Go.Proofs.YtekijemacjpceaaDoor.Q Go.Proofs.YtekijemacjpceaaDoorW.PrintWords Go.Proofs.YtekijemacjpceaaDoorW.PrintLast Go.Proofs.YtekijemacjpceaaDoorW.PrintMore
open Go.Proofs.YtekijemacjpceaaDoor.U8 (B nxt spec encB items text mend signs Right)
set_option linter.unusedVariables false
theorem D_nil (s : ByteArray) : s.toList = ([] : List UInt8) ↔ D s = [] := by rw [Lib.toList_data]
theorem get_B (s : ByteArray) (i : Nat) : (s.get! i).toNat = B (D s) i := by
  unfold B D
  obtain ⟨d⟩ := s
  show (d[i]!).toNat = (d.toList.getD i 0).toNat
  rw [List.getD_eq_getElem?_getD, Array.getElem?_toList, Array.getElem!_eq_getD, ← Array.getD_eq_getD_getElem?]
  rfl
theorem bt_B (s : ByteArray) (i : Nat) : bt s (i : Int) = ((B (D s) i : Nat) : Int) := by
  unfold bt
  rw [Int.toNat_natCast]
  split
  · rename_i h
    rw [← get_B, ← Go.Proofs.Utf8W.get!_of_lt s i h]
  · rename_i h
    unfold B D
    rw [List.getD_eq_getElem?_getD, List.getElem?_eq_none (by rw [data_length]; omega)]
    rfl
/-- What an answer of Next is. -/
def told (p : Nat × Nat × Bool) : Int × Int × Int := (((p.1 : Nat) : Int), ((p.2.1 : Nat) : Int), if p.2.2 then 0 else 9)
/-! the reference's -/
theorem size_ev (b : Nat) (hb : b < 256) : Ev (fun k => cringleref02_size.f k (b : Int)) (if b < 128 then 1 else if Lib.firstT b = 241 then 0 else ((Lib.firstT b % 8 : Nat) : Int)) := by
  have key : ∀ i : Fin 256, cringleref02_size.f 5 ((i.val : Nat) : Int) = some (if i.val < 128 then 1 else if Lib.firstT i.val = 241 then 0 else ((Lib.firstT i.val % 8 : Nat) : Int)) := by decide +kernel
  exact Ev.of (fun k => cringleref02_size.mono _ k) (key ⟨b, hb⟩)
theorem good_one (b : Nat) (hb : b < 256) (h0 : ¬ b < 128) (h1 : ¬ Lib.firstT b = 241) (c : Nat) : cringleref02_good.f (b : Int) 1 (c : Int) = some (decide (Lib.accLo (Lib.firstT b / 16) ≤ c ∧ c ≤ Lib.accHi (Lib.firstT b / 16))) := by
  have hc := U8.firstT_classes b
  obtain ⟨a1, a2, a3, a4, a5, a6, a7⟩ := U8.acc_of (Lib.firstT b)
  have fin : ∀ lo hi : Nat, (if (c : Int) ≥ (lo : Int) then some (decide ((c : Int) ≤ (hi : Int))) else some false) = some (decide (lo ≤ c ∧ c ≤ hi)) := fun lo hi => by
    by_cases g : (c : Int) ≥ (lo : Int)
    · rw [if_pos g]
      congr 1
      by_cases g2 : (c : Int) ≤ (hi : Int)
      · rw [decide_eq_true g2, decide_eq_true (by omega)]
      · rw [decide_eq_false g2, decide_eq_false (by omega)]
    · rw [if_neg g, decide_eq_false (by omega)]
  unfold cringleref02_good.f
  rw [if_pos rfl]
  rcases hc with ⟨hb, ht⟩ | ⟨hb, ht⟩ | ⟨hb, hb', ht⟩ | ⟨hb, ht⟩ | ⟨hb, ht⟩ | ⟨hb, ht⟩ | ⟨hb, ht⟩ | ⟨hb, hb', ht⟩ | ⟨hb, ht⟩
  · omega
  · omega
  · rw [(a1 ht).1, (a1 ht).2, if_neg (by omega), if_neg (by omega), if_neg (by omega), if_neg (by omega)]; exact fin 128 191
  · rw [(a2 ht).1, (a2 ht).2, if_pos (by omega)]; exact fin 160 191
  · rw [(a3 ht).1, (a3 ht).2, if_neg (by omega), if_neg (by omega), if_neg (by omega), if_neg (by omega)]; exact fin 128 191
  · rw [(a4 ht).1, (a4 ht).2, if_neg (by omega), if_pos (by omega)]; exact fin 128 159
  · rw [(a5 ht).1, (a5 ht).2, if_neg (by omega), if_neg (by omega), if_pos (by omega)]; exact fin 144 191
  · rw [(a6 ht).1, (a6 ht).2, if_neg (by omega), if_neg (by omega), if_neg (by omega), if_neg (by omega)]; exact fin 128 191
  · rw [(a7 ht).1, (a7 ht).2, if_neg (by omega), if_neg (by omega), if_neg (by omega), if_pos (by omega)]; exact fin 128 143
theorem good_more (b : Int) (i c : Nat) (hi : 2 ≤ i) : cringleref02_good.f b (i : Int) (c : Int) = some (decide (128 ≤ c ∧ c ≤ 191)) := by
  unfold cringleref02_good.f
  rw [if_neg (by omega)]
  by_cases g : (c : Int) ≥ 128
  · rw [if_pos g]
    congr 1
    by_cases g2 : (c : Int) ≤ 191
    · rw [decide_eq_true g2, decide_eq_true (by omega)]
    · rw [decide_eq_false g2, decide_eq_false (by omega)]
  · rw [if_neg g, decide_eq_false (by omega)]
section
variable (s : ByteArray) (z : Nat)
theorem step_good (i : Nat) (hi : 1 ≤ i) (hz : i < z) (hn : i < s.size) (hi4 : i ≤ 4) (hg : cringleref02_good.f (bt s 0) (i : Int) (bt s (i : Int)) = some true) {r : Int × Int × Int} (h : Ev (fun k => cringleref02_Next.l0 k s (z : Int) ((i + 1 : Nat) : Int)) r) : Ev (fun k => cringleref02_Next.l0 k s (z : Int) (i : Int)) r := by
  refine Ev.step (fun k => ?_) h
  simp only [cringleref02_Next.l0]
  rw [if_pos (by omega), if_pos (by omega), if_pos (by omega), if_pos (by omega), hg, Option.bind_some, if_pos rfl, next (by omega)]
theorem step_bad (i : Nat) (hi : 1 ≤ i) (hz : i < z) (hg : i < s.size → cringleref02_good.f (bt s 0) (i : Int) (bt s (i : Int)) = some false) : Ev (fun k => cringleref02_Next.l0 k s (z : Int) (i : Int)) (65533, (i : Int), 9) := by
  refine Ev.step (f := fun k => cringleref02_Next.j1 k s (z : Int) (i : Int)) (fun k => ?_) ?_
  · simp only [cringleref02_Next.l0]
    by_cases hn : i < s.size
    · rw [if_pos (by omega), if_pos (by omega), if_pos (by omega), if_pos (by omega), hg hn, Option.bind_some, if_neg (by simp)]
    · rw [if_pos (by omega), if_neg (by omega)]
  · refine Ev.step (f := fun _ => some (65533, (i : Int), 9)) (fun k => ?_) (Ev.now _)
    simp only [cringleref02_Next.j1]
    rw [if_pos (by omega)]
/-- How the number begins. -/
def head (z b : Nat) : Int := if z = 2 then (b : Int) - 192 else if z = 3 then (b : Int) - 224 else if z = 4 then (b : Int) - 240 else (b : Int)
theorem step_end (h1 : 1 ≤ z) (h4 : z ≤ 4) (hn : 0 < s.size) {r : Int × Int × Int} (h : Ev (fun k => cringleref02_Next.l1 k s (z : Int) (head z (B (D s) 0)) 1) r) : Ev (fun k => cringleref02_Next.l0 k s (z : Int) (z : Int)) r := by
  have hb := U8.B_lt (D s) 0
  have h0 : bt s 0 = ((B (D s) 0 : Nat) : Int) := bt_B s 0
  have hw : wrap32 (bt s 0) = ((B (D s) 0 : Nat) : Int) := by rw [h0]; unfold wrap32; omega
  refine Ev.step (f := fun k => cringleref02_Next.j1 k s (z : Int) (z : Int)) (fun k => ?_) ?_
  · simp only [cringleref02_Next.l0]
    rw [if_neg (by omega)]
  refine Ev.step (f := fun k => cringleref02_Next.j2 k s (z : Int) (head z (B (D s) 0))) (fun k => ?_) ?_
  · simp only [cringleref02_Next.j1]
    rw [if_neg (by omega), if_pos (by omega), hw]
    unfold head
    have hwr : ∀ m : Int, 0 ≤ m → m ≤ 240 → wrap32 (((B (D s) 0 : Nat) : Int) - m) = ((B (D s) 0 : Nat) : Int) - m := fun m _ _ => by unfold wrap32; omega
    by_cases e2 : z = 2
    · rw [if_pos (by omega), if_pos e2, hwr _ (by omega) (by omega)]
    by_cases e3 : z = 3
    · rw [if_neg (by omega), if_neg e2, if_pos (by omega), if_pos e3, hwr _ (by omega) (by omega)]
    by_cases e4 : z = 4
    · rw [if_neg (by omega), if_neg e2, if_neg (by omega), if_neg e3, if_pos (by omega), if_pos e4, hwr _ (by omega) (by omega)]
    · rw [if_neg (by omega), if_neg e2, if_neg (by omega), if_neg e3, if_neg (by omega), if_neg e4]
  · refine Ev.step (fun k => ?_) h
    simp only [cringleref02_Next.j2]
theorem step_num (i : Nat) (c : Int) (hi : i < z) (hn : i < s.size) (hc : -256 ≤ c ∧ c ≤ 1048576) (hi4 : i ≤ 4) {r : Int × Int × Int} (h : Ev (fun k => cringleref02_Next.l1 k s (z : Int) (c * 64 + (B (D s) i : Nat) - 128) ((i + 1 : Nat) : Int)) r) : Ev (fun k => cringleref02_Next.l1 k s (z : Int) c (i : Int)) r := by
  have hb := U8.B_lt (D s) i
  refine Ev.step (fun k => ?_) h
  simp only [cringleref02_Next.l1]
  rw [if_pos (by omega), if_pos (by omega), if_pos (by omega), bt_B, next (by omega)]
  have e1 : wrap32 (c * 64) = c * 64 := by unfold wrap32; omega
  have e2 : wrap32 (((B (D s) i : Nat) : Int)) = ((B (D s) i : Nat) : Int) := by unfold wrap32; omega
  rw [e1, e2]
  have e3 : wrap32 (c * 64 + ((B (D s) i : Nat) : Int)) = c * 64 + ((B (D s) i : Nat) : Int) := by unfold wrap32; omega
  rw [e3]
  have e4 : wrap32 (c * 64 + ((B (D s) i : Nat) : Int) - 128) = c * 64 + ((B (D s) i : Nat) : Int) - 128 := by unfold wrap32; omega
  rw [e4]
theorem step_told (i : Nat) (c : Int) (hi : ¬ i < z) : Ev (fun k => cringleref02_Next.l1 k s (z : Int) c (i : Int)) (c, (z : Int), 0) := by
  refine Ev.step (f := fun _ => some (c, (z : Int), 0)) (fun k => ?_) (Ev.now _)
  simp only [cringleref02_Next.l1]
  rw [if_neg (by omega)]
end
theorem lead (b : Nat) (h : ¬ b < 128) (ht : ¬ Lib.firstT b = 241) : 2 ≤ Lib.firstT b % 8 ∧ Lib.firstT b % 8 ≤ 4 ∧ 128 ≤ Lib.accLo (Lib.firstT b / 16) ∧ Lib.accHi (Lib.firstT b / 16) ≤ 191 ∧ (Lib.firstT b % 8 = 2 → 194 ≤ b ∧ b < 224) ∧ (Lib.firstT b % 8 = 3 → 224 ≤ b ∧ b < 240) ∧ (Lib.firstT b % 8 = 4 → 240 ≤ b ∧ b ≤ 244) := by
  rcases U8.firstT_classes b with ⟨hb, e⟩ | ⟨hb, e⟩ | ⟨hb, hb', e⟩ | ⟨hb, e⟩ | ⟨hb, e⟩ | ⟨hb, e⟩ | ⟨hb, e⟩ | ⟨hb, hb', e⟩ | ⟨hb, e⟩
  · omega
  · omega
  all_goals
    rw [e]
    refine ⟨by decide, by decide, by decide, by decide, fun k => ?_, fun k => ?_, fun k => ?_⟩ <;> first | omega | (exfalso; revert k; decide)
set_option maxHeartbeats 1000000 in
theorem rnext_ev (s : ByteArray) (hs : s.size ≤ 1000000000000000000) (h : D s ≠ []) : Ev (fun k => cringleref02_Next.f k s) (told (nxt (D s))) := by
  have hn0 : 0 < s.size := by rw [← D_len]; exact List.length_pos_iff.2 h
  have h0 : bt s 0 = ((B (D s) 0 : Nat) : Int) := bt_B s 0
  have hb0 := U8.B_lt (D s) 0
  have hb1 := U8.B_lt (D s) 1
  have hb2 := U8.B_lt (D s) 2
  have hb3 := U8.B_lt (D s) 3
  unfold cringleref02_Next.f
  refine Ev.congr (fun k => if_neg (fun e => h ((D_nil s).1 e))) ?_
  refine Ev.congr (fun k => if_pos (by omega)) ?_
  rw [h0]
  refine Ev.bind (size_ev _ hb0) ?_
  unfold told nxt spec
  rw [D_len]
  by_cases hb : B (D s) 0 < 128
  · simp only [if_pos hb]
    refine Ev.congr (fun k => if_neg (by decide)) ?_
    refine step_end s 1 (by omega) (by omega) hn0 ?_
    exact step_told s 1 1 _ (by omega)
  simp only [if_neg hb]
  by_cases ht : Lib.firstT (B (D s) 0) = 241
  · simp only [if_pos ht]
    exact Ev.congr (fun k => if_pos trivial) (Ev.now _)
  simp only [if_neg ht]
  obtain ⟨z1, z2, z3, z4, z5, z6, z7⟩ := lead _ hb ht
  refine Ev.congr (fun k => if_neg (by omega)) ?_
  have g1 := good_one (B (D s) 0) hb0 hb ht (B (D s) 1)
  rw [← h0, ← bt_B s 1] at g1
  by_cases b1 : s.size ≤ 1 ∨ B (D s) 1 < Lib.accLo (Lib.firstT (B (D s) 0) / 16) ∨ Lib.accHi (Lib.firstT (B (D s) 0) / 16) < B (D s) 1
  · rw [if_pos b1]
    refine step_bad s _ 1 (by omega) (by omega) (fun hlt => ?_)
    exact g1.trans (congrArg some (decide_eq_false (by omega)))
  rw [if_neg b1]
  refine step_good s _ 1 (by omega) (by omega) (by omega) (by omega) (g1.trans (congrArg some (decide_eq_true (by omega)))) ?_
  by_cases s2 : Lib.firstT (B (D s) 0) % 8 ≤ 2
  · rw [if_pos s2]
    have hz2 : Lib.firstT (B (D s) 0) % 8 = 2 := by omega
    have y := z5 hz2
    clear z5 z6 z7
    generalize Lib.accLo (Lib.firstT (B (D s) 0) / 16) = lo at *
    generalize Lib.accHi (Lib.firstT (B (D s) 0) / 16) = hi at *
    rw [hz2]
    refine step_end s 2 (by omega) (by omega) hn0 ?_
    have hh : head 2 (B (D s) 0) = ((B (D s) 0 : Nat) : Int) - 192 := rfl
    rw [hh]
    refine step_num s 2 1 _ (by omega) (by omega) (by omega) (by omega) ?_
    have hv : (((B (D s) 0 : Nat) : Int) - 192) * 64 + ((B (D s) 1 : Nat) : Int) - 128 = ((B (D s) 0 % 32 * 64 + B (D s) 1 % 64 : Nat) : Int) := by omega
    rw [hv]
    exact step_told s 2 2 _ (by omega)
  rw [if_neg s2]
  have g2 := good_more (bt s 0) 2 (B (D s) 2) (by omega)
  rw [← bt_B s 2] at g2
  by_cases b2 : s.size ≤ 2 ∨ B (D s) 2 < 128 ∨ 191 < B (D s) 2
  · rw [if_pos b2]
    refine step_bad s _ 2 (by omega) (by omega) (fun hlt => ?_)
    exact g2.trans (congrArg some (decide_eq_false (by omega)))
  rw [if_neg b2]
  refine step_good s _ 2 (by omega) (by omega) (by omega) (by omega) (g2.trans (congrArg some (decide_eq_true (by omega)))) ?_
  by_cases s3 : Lib.firstT (B (D s) 0) % 8 ≤ 3
  · rw [if_pos s3]
    have hz3 : Lib.firstT (B (D s) 0) % 8 = 3 := by omega
    have y := z6 hz3
    clear z5 z6 z7
    generalize Lib.accLo (Lib.firstT (B (D s) 0) / 16) = lo at *
    generalize Lib.accHi (Lib.firstT (B (D s) 0) / 16) = hi at *
    rw [hz3]
    refine step_end s 3 (by omega) (by omega) hn0 ?_
    have hh : head 3 (B (D s) 0) = ((B (D s) 0 : Nat) : Int) - 224 := rfl
    rw [hh]
    refine step_num s 3 1 _ (by omega) (by omega) (by omega) (by omega) ?_
    refine step_num s 3 2 _ (by omega) (by omega) (by omega) (by omega) ?_
    have hv : ((((B (D s) 0 : Nat) : Int) - 224) * 64 + ((B (D s) 1 : Nat) : Int) - 128) * 64 + ((B (D s) 2 : Nat) : Int) - 128 = ((B (D s) 0 % 16 * 4096 + B (D s) 1 % 64 * 64 + B (D s) 2 % 64 : Nat) : Int) := by omega
    rw [hv]
    exact step_told s 3 3 _ (by omega)
  rw [if_neg s3]
  have hz4 : Lib.firstT (B (D s) 0) % 8 = 4 := by omega
  have y := z7 hz4
  clear z5 z6 z7
  generalize Lib.accLo (Lib.firstT (B (D s) 0) / 16) = lo at *
  generalize Lib.accHi (Lib.firstT (B (D s) 0) / 16) = hi at *
  rw [hz4]
  have g3 := good_more (bt s 0) 3 (B (D s) 3) (by omega)
  rw [← bt_B s 3] at g3
  by_cases b3 : s.size ≤ 3 ∨ B (D s) 3 < 128 ∨ 191 < B (D s) 3
  · rw [if_pos b3]
    refine step_bad s _ 3 (by omega) (by omega) (fun hlt => ?_)
    exact g3.trans (congrArg some (decide_eq_false (by omega)))
  rw [if_neg b3]
  refine step_good s _ 3 (by omega) (by omega) (by omega) (by omega) (g3.trans (congrArg some (decide_eq_true (by omega)))) ?_
  refine step_end s 4 (by omega) (by omega) hn0 ?_
  have hh : head 4 (B (D s) 0) = ((B (D s) 0 : Nat) : Int) - 240 := rfl
  rw [hh]
  refine step_num s 4 1 _ (by omega) (by omega) (by omega) (by omega) ?_
  refine step_num s 4 2 _ (by omega) (by omega) (by omega) (by omega) ?_
  refine step_num s 4 3 _ (by omega) (by omega) (by omega) (by omega) ?_
  have hv : (((((B (D s) 0 : Nat) : Int) - 240) * 64 + ((B (D s) 1 : Nat) : Int) - 128) * 64 + ((B (D s) 2 : Nat) : Int) - 128) * 64 + ((B (D s) 3 : Nat) : Int) - 128 = ((B (D s) 0 % 8 * 262144 + B (D s) 1 % 64 * 4096 + B (D s) 2 % 64 * 64 + B (D s) 3 % 64 : Nat) : Int) := by omega
  rw [hv]
  exact step_told s 4 4 _ (by omega)
theorem suffix_ne {s : ByteArray} (h : ¬ D s = []) : (s.size : Int) > 0 := by
  have := List.length_pos_iff.2 h
  rw [D_len] at this
  omega
theorem suffix_nil {s : ByteArray} (h : D s = []) : s.size = 0 := by rw [← D_len, h]; rfl
theorem told_zero (p : Nat × Nat × Bool) : ((told p).2.2 = 0) ↔ p.2.2 = true := by
  unfold told
  cases p.2.2 <;> simp
theorem ristext_ev : ∀ (l : List UInt8) (s : ByteArray), D s = l → s.size ≤ 140737488351232 → Ev (fun k => cringleref02_IsText.l0 k s) (text l) := by
  refine U8.items_ind (fun s h hs => ?_) (fun l hl ih s h hs => ?_)
  · refine Ev.step (f := fun _ => some true) (fun k => ?_) (Ev.now _)
    simp only [cringleref02_IsText.l0]
    rw [if_neg (by have := suffix_nil h; omega)]
  · subst h
    have hw := U8.nxt_width hl
    rw [D_len] at hw
    rw [U8.text_cons hl]
    refine Ev.step (fun k => by simp only [cringleref02_IsText.l0]; rw [if_pos (suffix_ne hl)]) ?_
    refine Ev.bind (rnext_ev s (by omega) hl) ?_
    cases hb : (nxt (D s)).2.2 with
    | true =>
      refine Ev.congr (fun k => if_pos ((told_zero _).2 hb)) ?_
      refine Ev.congr (fun k => if_pos (Int.natCast_nonneg _)) ?_
      refine Ev.congr (fun k => if_pos (by show (((nxt (D s)).2.1 : Nat) : Int) ≤ _; omega)) ?_
      rw [Bool.true_and]
      exact ih _ cut_off (by show (s.extract (((nxt (D s)).2.1 : Nat) : Int).toNat s.size).size ≤ _; rw [cut_size]; omega)
    | false =>
      refine Ev.congr (fun k => if_neg (fun e => by rw [(told_zero _).1 e] at hb; cases hb)) ?_
      exact Ev.now _
/-! put -/
theorem rright_eq (c : Int) : cringleref02_Right.f c = some (decide (Right c)) := by
  unfold cringleref02_Right.f
  have hf : (¬ (0 ≤ c ∧ c ≤ 1114111 ∧ (c < 55296 ∨ 57343 < c))) → some false = some (decide (Right c)) := fun h => congrArg some (decide_eq_false h).symm
  have ht : (0 ≤ c ∧ c ≤ 1114111 ∧ (c < 55296 ∨ 57343 < c)) → some true = some (decide (Right c)) := fun h => congrArg some (decide_eq_true (p := Right c) h).symm
  by_cases h0 : c ≥ 0
  · rw [if_pos h0]
    by_cases h1 : c ≤ 1114111
    · rw [if_pos h1]
      by_cases h2 : c < 55296
      · rw [if_pos h2]
        exact ht (by omega)
      · rw [if_neg h2]
        by_cases h3 : c > 57343
        · rw [decide_eq_true h3]
          exact ht (by omega)
        · rw [decide_eq_false h3]
          exact hf (by omega)
    · rw [if_neg h1]
      exact hf (by omega)
  · rw [if_neg h0]
    exact hf (by omega)
theorem div64 {c : Int} (h : 0 ≤ c) : Int.tdiv c 64 = c / 64 := Int.tdiv_eq_ediv_of_nonneg h
theorem div4096 {c : Int} (h : 0 ≤ c) : Int.tdiv c 4096 = c / 4096 := Int.tdiv_eq_ediv_of_nonneg h
theorem div262144 {c : Int} (h : 0 ≤ c) : Int.tdiv c 262144 = c / 262144 := Int.tdiv_eq_ediv_of_nonneg h
theorem mod64' {c : Int} (h : 0 ≤ c) : Int.tmod c 64 = c % 64 := Int.tmod_eq_emod_of_nonneg h
theorem rone_right (c : Int) (h : Right c) (k : Nat) : cringleref02_one.f (k + 1) c = some (Lib.encodeRuneZ c) := by
  obtain ⟨h0, h1, h2⟩ := h
  simp only [cringleref02_one.f]
  rw [rright_eq, decide_eq_true ⟨h0, h1, h2⟩, Option.bind_some, if_pos rfl]
  have hw : ∀ x : Int, 0 ≤ x → x ≤ 1114111 → wrap32 x = x := fun x _ _ => by unfold wrap32; omega
  by_cases c1 : c < 128
  · rw [if_pos c1, Lib.encodeRuneZ_one h0 (by omega)]
    exact congrArg some (U8.cons2 (by omega) rfl)
  rw [if_neg c1]
  by_cases c2 : c < 2048
  · rw [if_pos c2, Lib.encodeRuneZ_two (by omega) (by omega), div64 h0, mod64' h0, hw _ (by omega) (by omega)]
    exact congrArg some (U8.cons2 (by omega) (U8.cons2 (by omega) rfl))
  rw [if_neg c2]
  by_cases c3 : c < 65536
  · rw [if_pos c3, Lib.encodeRuneZ_three (by omega), div4096 h0, div64 h0, mod64' h0, hw _ (by omega) (by omega), hw _ (by omega) (by omega), mod64' (by omega)]
    exact congrArg some (U8.cons2 (by omega) (U8.cons2 (by omega) (U8.cons2 (by omega) rfl)))
  · rw [if_neg c3, Lib.encodeRuneZ_four (by omega) (by omega), div262144 h0, div4096 h0, div64 h0, mod64' h0, hw _ (by omega) (by omega), hw _ (by omega) (by omega), hw _ (by omega) (by omega), mod64' (by omega), mod64' (by omega)]
    exact congrArg some (U8.cons2 (by omega) (U8.cons2 (by omega) (U8.cons2 (by omega) (U8.cons2 (by omega) rfl))))
theorem rone_ev (c : Int) : Ev (fun k => cringleref02_one.f k c) (Lib.encodeRuneZ c) := by
  by_cases h : Right c
  · exact Ev.step (f := fun _ => some (Lib.encodeRuneZ c)) (fun k => rone_right c h k) (Ev.now _)
  · refine Ev.step (f := fun k => (cringleref02_one.f k 65533).bind fun t => some t) (fun k => ?_) ?_
    · simp only [cringleref02_one.f]
      rw [rright_eq, decide_eq_false h, Option.bind_some, if_neg (by simp)]
    · have hb : Lib.encodeRuneZ c = [239, 191, 189] := Lib.encodeRuneZ_bad (by unfold Right at h; omega)
      rw [hb]
      refine Ev.bind (a := [239, 191, 189]) (Ev.step (f := fun _ => some [239, 191, 189]) (fun k => ?_) (Ev.now _)) (Ev.now _)
      rw [rone_right 65533 (by decide) k]
      rfl
theorem encZ_le (c : Int) : (Lib.encodeRuneZ c).length ≤ 4 := by
  unfold Lib.encodeRuneZ
  repeat' split
  all_goals simp
theorem encZ_byte {c x : Int} (h : x ∈ Lib.encodeRuneZ c) : 0 ≤ x ∧ x < 256 := by
  unfold Lib.encodeRuneZ at h
  repeat' split at h
  all_goals simp at h
  all_goals omega
def putZ (l : List Int) : List Int := l.flatMap Lib.encodeRuneZ
theorem putZ_le (l : List Int) : (putZ l).length ≤ 4 * l.length := by
  induction l with
  | nil => simp [putZ]
  | cons c l ih =>
    have := encZ_le c
    simp only [putZ, List.flatMap_cons, List.length_append, List.length_cons] at ih ⊢
    omega
theorem append_eq (l : List Int) (c : Int) (h0 : -2147483648 ≤ c) (h1 : c < 2147483648) (hl : l.length + 4 ≤ 140737488355328) : utf8_AppendRune.f l c = some (l ++ Lib.encodeRuneZ c) := by
  unfold utf8_AppendRune.f
  rw [if_pos h0, if_pos (by omega), if_pos hl]
theorem put_loop (l : List Int) (hl : ∀ x ∈ l, -2147483648 ≤ x ∧ x < 2147483648) (hn : l.length ≤ 1000000000) (d : Nat) : ∀ (i : Nat) (a : List Int), i + d = l.length → a.length + 4 * d + 4 ≤ 140737488355328 → Ev (fun k => utf_Put.l0 k a l (l.length : Int) (i : Int)) (a ++ putZ (l.drop i)) := by
  induction d with
  | zero =>
    intro i a hi ha
    refine Ev.step (f := fun _ => some (a ++ putZ (l.drop i))) (fun k => ?_) (Ev.now _)
    simp only [utf_Put.l0]
    rw [if_neg (by omega), List.drop_of_length_le (by omega)]
    simp [putZ]
  | succ d ih =>
    intro i a hi ha
    have hlt : i < l.length := by omega
    have hx := hl l[i] (List.getElem_mem hlt)
    have hle := encZ_le l[i]
    have := ih (i + 1) (a ++ Lib.encodeRuneZ l[i]) (by omega) (by rw [List.length_append]; omega)
    rw [List.append_assoc] at this
    rw [drop_at hlt, show putZ (l[i] :: l.drop (i + 1)) = Lib.encodeRuneZ l[i] ++ putZ (l.drop (i + 1)) from rfl]
    refine Ev.step (fun k => ?_) this
    simp only [utf_Put.l0]
    rw [if_pos (by omega), if_pos (by omega), if_pos (by omega), nums_at hlt, append_eq _ _ hx.1 hx.2 (by omega), Option.bind_some, next (by omega)]
theorem put_ev (b l : List Int) (hb : b.length ≤ 1000000000) (hl : ∀ x ∈ l, -2147483648 ≤ x ∧ x < 2147483648) (hn : l.length ≤ 1000000000) : Ev (fun k => utf_Put.f k b l) (b ++ putZ l) := by
  unfold utf_Put.f
  refine Ev.congr (fun k => if_pos (by simp; omega)) ?_
  have := put_loop l hl hn l.length 0 b (by omega) (by omega)
  rw [List.drop_zero] at this
  exact this
theorem rput_loop (l : List Int) (hn : l.length ≤ 1000000000) (d : Nat) : ∀ (i : Nat) (a : List Int), i + d = l.length → a.length + 4 * d + 4 ≤ 140737488355328 → Ev (fun k => cringleref02_Put.l0 k l a (i : Int)) (a ++ putZ (l.drop i)) := by
  induction d with
  | zero =>
    intro i a hi ha
    refine Ev.step (f := fun _ => some (a ++ putZ (l.drop i))) (fun k => ?_) (Ev.now _)
    simp only [cringleref02_Put.l0]
    rw [if_neg (by omega), List.drop_of_length_le (by omega)]
    simp [putZ]
  | succ d ih =>
    intro i a hi ha
    have hlt : i < l.length := by omega
    have hle := encZ_le l[i]
    have hh := ih (i + 1) (a ++ Lib.encodeRuneZ l[i]) (by omega) (by rw [List.length_append]; omega)
    rw [List.append_assoc] at hh
    rw [drop_at hlt, show putZ (l[i] :: l.drop (i + 1)) = Lib.encodeRuneZ l[i] ++ putZ (l.drop (i + 1)) from rfl]
    refine Ev.step (fun k => by simp only [cringleref02_Put.l0]; rw [if_pos (by omega), if_pos (by omega), nums_at hlt, next (by omega)]) ?_
    refine Ev.bind (rone_ev l[i]) ?_
    exact Ev.congr (fun k => if_pos (by omega)) hh
theorem rput_ev (b l : List Int) (hb : b.length ≤ 1000000000) (hn : l.length ≤ 1000000000) : Ev (fun k => cringleref02_Put.f k b l) (b ++ putZ l) := by
  unfold cringleref02_Put.f
  refine Ev.congr (fun k => if_pos (by simp; omega)) ?_
  have := rput_loop l hn l.length 0 b (by omega) (by omega)
  rw [List.drop_zero] at this
  exact this
theorem str_nums (l : List Int) : strOfNums l = strOf (l.map fun n => UInt8.ofNat n.toNat) := rfl
end Go.Proofs.YtekijemacjpceaaDoor.Plain

namespace Go.Proofs.YtekijemacjpceaaDoor.Plain
open Go.RowKit Go.Proofs.YtekijemacjpceaaDoor.Q Go.Proofs.YtekijemacjpceaaDoorW.PrintWords Go.Proofs.YtekijemacjpceaaDoorW.PrintLast Go.Proofs.YtekijemacjpceaaDoorW.PrintMore
open Go.Proofs.YtekijemacjpceaaDoor.U8 (B nxt spec encB items text mend signs Right)
open Go.Proofs.YtekijemacjpceaaDoor.Rf
set_option linter.unusedVariables false
/-- Bytes as whole numbers. -/
def nm (l : List UInt8) : List Int := l.map fun b => (b.toNat : Int)
theorem bytes_nm (s : ByteArray) : bytesOf s = nm (D s) := rfl
theorem nm_append (a b : List UInt8) : nm (a ++ b) = nm a ++ nm b := List.map_append
theorem nm_len (a : List UInt8) : (nm a).length = a.length := List.length_map _
theorem str_nm (l : List UInt8) : strOfNums (nm l) = strOf l := by
  rw [str_nums]
  exact congrArg strOf (back_id l)
theorem nm_enc (c : Int) : nm (encI c) = Lib.encodeRuneZ c := by
  unfold nm encI
  rw [List.map_map]
  conv => rhs; rw [← List.map_id (Lib.encodeRuneZ c)]
  refine List.map_congr_left fun x hx => ?_
  have h := encZ_byte hx
  simp only [Function.comp, id]
  rw [U8.nat_byte (by omega)]
  omega
theorem putZ_one (c : Int) : putZ [c] = nm (encI c) := by
  rw [nm_enc]
  unfold putZ
  simp
/-! what a sign is -/
theorem look_range : ∀ x ∈ NT, 0 ≤ x.2 ∧ x.2 ≤ 1114111 := by decide +kernel
theorem lookIn_range : ∀ (N : Names), (∀ x ∈ N, 0 ≤ x.2 ∧ x.2 ≤ 1114111) → ∀ l, 0 ≤ (lookIn N l).1 ∧ (lookIn N l).1 ≤ 1114111
  | [], _, l => by simp [lookIn]
  | x :: r, h, l => by
    unfold lookIn
    split
    · exact h x (by simp)
    · exact lookIn_range r (fun y hy => h y (by simp [hy])) l
theorem wtab_range : ∀ x ∈ wtab, 0 ≤ x ∧ x ≤ 65535 := by decide
theorem wtab_at (i : Nat) : 0 ≤ wtab.getD i 0 ∧ wtab.getD i 0 ≤ 65535 := by
  rw [List.getD_eq_getElem?_getD]
  by_cases h : i < wtab.length
  · rw [List.getElem?_eq_getElem h]
    exact wtab_range _ (List.getElem_mem h)
  · rw [List.getElem?_eq_none (by omega)]
    decide
theorem numOf_range (n : Nat) : 0 ≤ numOf n ∧ numOf n ≤ 1114111 := by
  unfold numOf
  split
  · omega
  · split
    · have := wtab_at (n - 128)
      omega
    · omega
theorem nameAt_range : ∀ (N : Names), (∀ x ∈ N, 0 ≤ x.2 ∧ x.2 ≤ 1114111) → ∀ (l : List UInt8) (p : Int × Nat), nameAt N l = some p → 0 ≤ p.1 ∧ p.1 ≤ 1114111
  | [], _, l, p, h => by cases h
  | x :: r, hN, l, p, h => by
    unfold nameAt at h
    split at h
    · cases h
      exact hN x (by simp)
    · exact nameAt_range r (fun y hy => hN y (by simp [hy])) l p h
theorem shortAt_range (attr : Bool) : ∀ (N : List (List UInt8)) (l : List UInt8) (p : Int × Nat), shortAt attr N l = some p → 0 ≤ p.1 ∧ p.1 ≤ 1114111
  | [], l, p, h => by cases h
  | x :: r, l, p, h => by
    unfold shortAt at h
    split at h
    · cases h
      exact lookIn_range NT look_range x
    · exact shortAt_range attr r l p h
theorem next_range (attr : Bool) (l : List UInt8) (p : Int × Nat) (h : nextRef attr l = some p) : 0 ≤ p.1 ∧ p.1 ≤ 1114111 := by
  unfold nextRef at h
  split at h
  · unfold numRef at h
    simp only [] at h
    split at h
    · cases h
    · cases h
      exact numOf_range _
  · split at h
    · split at h
      · rename_i q hq
        cases h
        exact nameAt_range NT look_range _ _ hq
      · exact shortAt_range attr _ _ _ h
    · cases h
/-! decoded -/
theorem index38 (s : ByteArray) : strings_IndexByte.f s 38 = some (if (38 : UInt8) ∈ D s then ((((D s).takeWhile (· != 38)).length : Nat) : Int) else -1) := by
  unfold strings_IndexByte.f
  rw [show ((38 : Int).toNat.toUInt8) = (38 : UInt8) from rfl, ← Lib.index_one]
  exact congrArg some (index_byte 38 (D s))
theorem tw_plain (l : List UInt8) : ∀ x ∈ l.takeWhile (· != 38), x ≠ 38 := fun x hx => by
  have := List.all_eq_true.1 (List.all_takeWhile (p := (· != (38 : UInt8))) (l := l)) x hx
  simpa using this
theorem tw_take (p : UInt8 → Bool) (l : List UInt8) : l.take (l.takeWhile p).length = l.takeWhile p := (List.prefix_iff_eq_take.1 (List.takeWhile_prefix p)).symm
theorem encI_len (c : Int) : (encI c).length ≤ 4 := by
  unfold encI
  rw [List.length_map]
  exact encZ_le c
theorem decode_loop (attr : Bool) : ∀ (n : Nat) (s : ByteArray) (pre : List UInt8), s.size ≤ n → pre.length + 4 * s.size ≤ 400000000 →
    Ev (fun k => refs_Decode.l0 k s attr (nm pre)) (strOf (pre ++ dec attr (D s))) := by
  intro n
  induction n with
  | zero =>
    intro s pre hn hb
    have h0 : D s = [] := List.length_eq_zero_iff.1 (by rw [D_len]; omega)
    have hix : strings_IndexByte.f s 38 = some (-1) := by rw [index38, h0]; rfl
    refine Ev.step (f := fun _ => some (strOf (pre ++ dec attr (D s)))) (fun k => ?_) (Ev.now _)
    simp only [refs_Decode.l0]
    rw [hix]
    simp only [Option.bind_some]
    rw [if_pos (by omega), if_pos (by rw [nm_len]; omega), bytes_nm, ← nm_append, str_nm, h0]
    rfl
  | succ n ih =>
    intro s pre hn hb
    by_cases hm : (38 : UInt8) ∈ D s
    · have hix : strings_IndexByte.f s 38 = some ((((D s).takeWhile (· != 38)).length : Nat) : Int) := by rw [index38, if_pos hm]
      have hpl := tw_plain (D s)
      have htk := tw_take (· != 38) (D s)
      have htl := tw_len (· != 38) (D s)
      rw [D_len] at htl
      generalize hi : ((D s).takeWhile (· != 38)).length = i at *
      have hil : i < s.size := by
        rcases Nat.lt_or_ge i s.size with h | h
        · exact h
        · exfalso
          rw [List.take_of_length_le (by rw [D_len]; exact h)] at htk
          rw [← htk] at hpl
          exact hpl _ hm rfl
      have hD1 : D (s.extract i s.size) = (D s).drop i := D_from s i
      have hS1 : (s.extract i s.size).size = s.size - i := by rw [← D_len, hD1, List.length_drop, D_len]
      have hdec : dec attr (D s) = (D s).take i ++ dec attr ((D s).drop i) := by
        conv => lhs; rw [← List.take_append_drop i (D s)]
        exact dec_plain attr _ _ (fun x hx => hpl x (by rw [htk] at hx; exact hx))
      have hpre : nm pre ++ bytesOf (s.extract 0 i) = nm (pre ++ (D s).take i) := by rw [bytes_nm, D_to, ← nm_append]
      have hpl2 : (pre ++ (D s).take i).length = pre.length + i := by rw [List.length_append, List.length_take, D_len]; omega
      have hz0 : (s.extract 0 i).size = i := by rw [← D_len, D_to, List.length_take, D_len]; omega
      refine Ev.step (fun k => by simp only [refs_Decode.l0]; rw [hix]) ?_
      refine Ev.bind (Ev.now _) ?_
      refine Ev.congr (fun k => by rw [if_neg (by omega), if_pos (by omega), if_pos (by omega), Int.toNat_natCast, if_pos (by rw [nm_len, hz0]; omega), hpre]) ?_
      refine Ev.bind (Ev.now _) ?_
      rw [hdec, ← List.append_assoc]
      generalize hq : pre ++ (D s).take i = q at *
      generalize hs1 : s.extract i s.size = s1 at *
      have hne := Next_ev s1 attr (by omega)
      rw [← hD1]
      refine Ev.bind hne ?_
      cases hnx : nextRef attr (D s1) with
      | some p =>
        obtain ⟨c, w⟩ := p
        have hlen := nextRef_len attr _ _ _ hnx
        rw [D_len] at hlen
        have hrg := next_range attr _ _ hnx
        have hel := encI_len c
        refine Ev.congr (fun k => if_pos rfl) ?_
        refine Ev.bind (put_ev (nm q) [c] (by rw [nm_len]; omega) (fun x hx => by rw [List.mem_singleton] at hx; subst hx; simp only [] at hrg; omega) (by simp)) ?_
        refine Ev.congr (fun k => (if_pos (by show (0 : Int) ≤ ((w : Nat) : Int); omega)).trans (if_pos (by show ((w : Nat) : Int) ≤ _; omega))) ?_
        show Ev (fun k => refs_Decode.l0 k (s1.extract ((w : Nat) : Int).toNat s1.size) attr (nm q ++ putZ [c])) _
        rw [putZ_one, ← nm_append, Int.toNat_natCast, dec_some attr hnx, ← List.append_assoc]
        have hD2 := D_from s1 w
        have hS2 : (s1.extract w s1.size).size = s1.size - w := by rw [← D_len, hD2, List.length_drop, D_len]
        have := ih (s1.extract w s1.size) (q ++ encI c) (by omega) (by rw [List.length_append]; omega)
        rw [hD2] at this
        exact this
      | none =>
        refine Ev.congr (fun k => if_neg (by simp [resOf])) ?_
        have hD2 := D_from s1 1
        have hS2 : (s1.extract 1 s1.size).size = s1.size - 1 := by rw [← D_len, hD2, List.length_drop, D_len]
        refine Ev.congr (fun k => (if_pos (by rw [nm_len]; omega)).trans (if_pos (by omega))) ?_
        obtain ⟨b, r, hbr⟩ : ∃ b r, D s1 = b :: r := by
          cases h : D s1 with
          | nil => have := congrArg List.length h; rw [D_len, List.length_nil] at this; omega
          | cons b r => exact ⟨b, r, rfl⟩
        have hb38 : b = 38 := by
          have h1 : D s = (D s).takeWhile (· != 38) ++ (b :: r) := by rw [← hbr, hD1, ← htk, List.take_append_drop]
          have h2 : ((D s).dropWhile (· != 38)) = b :: r := by
            have h3 := List.takeWhile_append_dropWhile (p := (· != 38)) (l := D s)
            exact List.append_cancel_left (h3.trans h1)
          have h4 := List.head_dropWhile_not (· != (38 : UInt8)) (l := D s) (by rw [h2]; simp)
          simp only [h2, List.head_cons] at h4
          simpa using h4
        rw [hbr] at hnx hD2 ⊢
        rw [dec_none attr hnx, show nm q ++ [38] = nm (q ++ [b]) from by rw [nm_append, hb38]; rfl, show q ++ b :: dec attr r = (q ++ [b]) ++ dec attr r from by simp]
        have := ih (s1.extract 1 s1.size) (q ++ [b]) (by omega) (by rw [List.length_append]; simp; omega)
        rw [hD2] at this
        exact this
    · have hix : strings_IndexByte.f s 38 = some (-1) := by rw [index38, if_neg hm]
      have hd : dec attr (D s) = D s := by
        have := dec_plain attr (D s) [] (fun x hx e => hm (by rw [← e]; exact hx))
        rw [List.append_nil, dec_nil, List.append_nil] at this
        exact this
      refine Ev.step (f := fun _ => some (strOf (pre ++ dec attr (D s)))) (fun k => ?_) (Ev.now _)
      simp only [refs_Decode.l0]
      rw [hix]
      simp only [Option.bind_some]
      rw [if_pos (by omega), if_pos (by rw [nm_len]; omega), bytes_nm, ← nm_append, str_nm, hd]
theorem Decode_ev (s : ByteArray) (attr : Bool) (hs : s.size ≤ 100000000) : Ev (fun k => refs_Decode.f k s attr) (strOf (dec attr (D s))) :=
  decode_loop attr s.size s [] (Nat.le_refl _) (by simp; omega)
theorem rdecode_loop (attr : Bool) : ∀ (n : Nat) (s : ByteArray) (pre : List UInt8), s.size ≤ n → pre.length + 4 * s.size ≤ 400000000 →
    Ev (fun k => cringleref11_Decode.l0 k s attr (nm pre)) (strOf (pre ++ dec attr (D s))) := by
  intro n
  induction n with
  | zero =>
    intro s pre hn hb
    have h0 : D s = [] := List.length_eq_zero_iff.1 (by rw [D_len]; omega)
    refine Ev.step (f := fun _ => some (strOf (pre ++ dec attr (D s)))) (fun k => ?_) (Ev.now _)
    simp only [cringleref11_Decode.l0]
    rw [if_neg (by omega), str_nm, h0, dec_nil, List.append_nil]
  | succ n ih =>
    intro s pre hn hb
    by_cases h0 : s.size = 0
    · have h0' : D s = [] := List.length_eq_zero_iff.1 (by rw [D_len]; omega)
      refine Ev.step (f := fun _ => some (strOf (pre ++ dec attr (D s)))) (fun k => ?_) (Ev.now _)
      simp only [cringleref11_Decode.l0]
      rw [if_neg (by omega), str_nm, h0', dec_nil, List.append_nil]
    refine Ev.step (fun k => by simp only [cringleref11_Decode.l0]; rw [if_pos (by omega)]) ?_
    refine Ev.bind (rNext_ev s attr (by omega)) ?_
    cases hnx : nextRef attr (D s) with
    | some p =>
      obtain ⟨c, w⟩ := p
      have hlen := nextRef_len attr _ _ _ hnx
      rw [D_len] at hlen
      have hel := encI_len c
      refine Ev.congr (fun k => if_pos rfl) ?_
      refine Ev.bind (rput_ev (nm pre) [c] (by rw [nm_len]; omega) (by simp)) ?_
      refine Ev.congr (fun k => (if_pos (by show (0 : Int) ≤ ((w : Nat) : Int); omega)).trans (if_pos (by show ((w : Nat) : Int) ≤ _; omega))) ?_
      show Ev (fun k => cringleref11_Decode.l0 k (s.extract ((w : Nat) : Int).toNat s.size) attr (nm pre ++ putZ [c])) _
      rw [putZ_one, ← nm_append, Int.toNat_natCast, dec_some attr hnx, ← List.append_assoc]
      have hD2 := D_from s w
      have hS2 : (s.extract w s.size).size = s.size - w := by rw [← D_len, hD2, List.length_drop, D_len]
      have := ih (s.extract w s.size) (pre ++ encI c) (by omega) (by rw [List.length_append]; omega)
      rw [hD2] at this
      exact this
    | none =>
      refine Ev.congr (fun k => if_neg (by simp [resOf])) ?_
      have hD2 := D_from s 1
      have hS2 : (s.extract 1 s.size).size = s.size - 1 := by rw [← D_len, hD2, List.length_drop, D_len]
      refine Ev.congr (fun k => (if_pos (by omega)).trans ((if_pos (by rw [nm_len]; omega)).trans (if_pos (by omega)))) ?_
      have hl0 : 0 < (D s).length := by rw [D_len]; omega
      obtain ⟨b, r, hbr⟩ : ∃ b r, D s = b :: r := by
        cases h : D s with
        | nil => have := congrArg List.length h; rw [D_len, List.length_nil] at this; omega
        | cons b r => exact ⟨b, r, rfl⟩
      have hbt : bt s 0 = ((b.toNat : Nat) : Int) := by
        have h1 := bt_get s 0 hl0
        have h2 : (D s)[0]'hl0 = b := by simp [hbr]
        rw [h2] at h1
        exact h1
      rw [hbt]
      rw [hbr] at hnx hD2 ⊢
      rw [dec_none attr hnx, show nm pre ++ [((b.toNat : Nat) : Int)] = nm (pre ++ [b]) from by rw [nm_append]; rfl, show pre ++ b :: dec attr r = (pre ++ [b]) ++ dec attr r from by simp]
      have := ih (s.extract 1 s.size) (pre ++ [b]) (by omega) (by rw [List.length_append]; simp; omega)
      rw [hD2] at this
      exact this
theorem rDecode_ev (s : ByteArray) (attr : Bool) (hs : s.size ≤ 100000000) : Ev (fun k => cringleref11_Decode.f k s attr) (strOf (dec attr (D s))) :=
  rdecode_loop attr s.size s [] (Nat.le_refl _) (by simp; omega)
/-! encoded -/
theorem rall_one (s : ByteArray) (b : UInt8) (new : List UInt8) (hne : [b] ≠ new) (hn : new.length ≤ 6) (hs : s.size ≤ 100000000) : strings_ReplaceAll.f s (strOf [b]) (strOf new) = some (strOf (rep1 b new (D s))) := by
  have hc : Lib.countB s (strOf [b]) ≤ s.size + 1 := by
    have := Lib.count_le s.data.toList (strOf [b]).data.toList
    rw [show s.data.toList.length = s.size from D_len s] at this
    exact this
  have hns : (strOf new).size = new.length := by rw [← D_len, D_str]
  have hmul : Lib.countB s (strOf [b]) * (strOf new).size ≤ (s.size + 1) * 6 := by rw [hns]; exact Nat.mul_le_mul hc hn
  unfold strings_ReplaceAll.f
  rw [if_pos (by omega), if_pos (by show 1 ≤ 1; omega), if_pos (by omega)]
  exact congrArg (fun l => some (strOf l)) (replaceAll_one (D s) b new hne)
theorem rall_two (s : ByteArray) (new : List UInt8) (hne : ([194, 160] : List UInt8) ≠ new) (hn : new.length ≤ 6) (hs : s.size ≤ 100000000) : strings_ReplaceAll.f s (strOf [194, 160]) (strOf new) = some (strOf (rep2 new false (D s))) := by
  have hc : Lib.countB s (strOf [194, 160]) ≤ s.size + 1 := by
    have := Lib.count_le s.data.toList (strOf [194, 160]).data.toList
    rw [show s.data.toList.length = s.size from D_len s] at this
    exact this
  have hns : (strOf new).size = new.length := by rw [← D_len, D_str]
  have hmul : Lib.countB s (strOf [194, 160]) * (strOf new).size ≤ (s.size + 1) * 6 := by rw [hns]; exact Nat.mul_le_mul hc hn
  unfold strings_ReplaceAll.f
  rw [if_pos (by omega), if_pos (by show 1 ≤ 2; omega), if_pos (by omega)]
  exact congrArg (fun l => some (strOf l)) (replaceAll_two (D s) new hne)
theorem strOf_size (l : List UInt8) : (strOf l).size = l.length := by rw [← D_len, D_str]
theorem Encode_eq (s : ByteArray) (attr : Bool) (hs : s.size ≤ 2000) : refs_Encode.f s attr = some (strOf (encL attr false (D s))) := by
  have l1 := rep1_len 38 ampE 5 (by decide) (by omega) (D s)
  rw [D_len] at l1
  have l2 := rep2_len (rep1 38 ampE (D s)) false
  have l3 := rep1_len 13 [38, 35, 49, 51, 59] 5 (by decide) (by omega) (rep2 nbspE false (rep1 38 ampE (D s)))
  have l4 := rep1_len 60 [38, 108, 116, 59] 4 (by decide) (by omega) (rep1 13 [38, 35, 49, 51, 59] (rep2 nbspE false (rep1 38 ampE (D s))))
  unfold refs_Encode.f
  rw [show strings_ReplaceAll.f s (⟨#[38]⟩ : ByteArray) (⟨#[38, 97, 109, 112, 59]⟩ : ByteArray) = _ from rall_one s 38 ampE (by decide) (by decide) (by omega)]
  simp only [Option.bind_some]
  rw [show ∀ t, t.size ≤ 100000000 → strings_ReplaceAll.f t (⟨#[194, 160]⟩ : ByteArray) (⟨#[38, 110, 98, 115, 112, 59]⟩ : ByteArray) = _ from fun t ht => rall_two t nbspE (by decide) (by decide) ht]
  case a => rw [strOf_size]; omega
  rw [D_str]
  simp only [Option.bind_some]
  rw [show ∀ t, t.size ≤ 100000000 → strings_ReplaceAll.f t (⟨#[13]⟩ : ByteArray) (⟨#[38, 35, 49, 51, 59]⟩ : ByteArray) = _ from fun t ht => rall_one t 13 [38, 35, 49, 51, 59] (by decide) (by decide) ht]
  case a => rw [strOf_size]; omega
  rw [D_str]
  simp only [Option.bind_some]
  cases attr with
  | true =>
    rw [if_pos rfl]
    rw [show ∀ t, t.size ≤ 100000000 → strings_ReplaceAll.f t (⟨#[34]⟩ : ByteArray) (⟨#[38, 113, 117, 111, 116, 59]⟩ : ByteArray) = _ from fun t ht => rall_one t 34 [38, 113, 117, 111, 116, 59] (by decide) (by decide) ht]
    case a => rw [strOf_size]; omega
    rw [D_str, enc_attr]
    rfl
  | false =>
    rw [if_neg (by simp)]
    rw [show ∀ t, t.size ≤ 100000000 → strings_ReplaceAll.f t (⟨#[60]⟩ : ByteArray) (⟨#[38, 108, 116, 59]⟩ : ByteArray) = _ from fun t ht => rall_one t 60 [38, 108, 116, 59] (by decide) (by decide) ht]
    case a => rw [strOf_size]; omega
    rw [D_str]
    simp only [Option.bind_some]
    rw [show ∀ t, t.size ≤ 100000000 → strings_ReplaceAll.f t (⟨#[62]⟩ : ByteArray) (⟨#[38, 103, 116, 59]⟩ : ByteArray) = _ from fun t ht => rall_one t 62 [38, 103, 116, 59] (by decide) (by decide) ht]
    case a => rw [strOf_size]; omega
    rw [D_str, enc_text]
    rfl
end Go.Proofs.YtekijemacjpceaaDoor.Plain

namespace Go.Proofs.YtekijemacjpceaaDoor.Plain
open Go.RowKit Go.Proofs.YtekijemacjpceaaDoor.Q Go.Proofs.YtekijemacjpceaaDoorW.PrintWords Go.Proofs.YtekijemacjpceaaDoorW.PrintLast Go.Proofs.YtekijemacjpceaaDoorW.PrintMore
open Go.Proofs.YtekijemacjpceaaDoor.U8 (B nxt spec encB items text mend signs Right)
open Go.Proofs.YtekijemacjpceaaDoor.Rf
set_option linter.unusedVariables false
theorem str_cat2 (a b : List UInt8) : strOf a ++ strOf b = strOf (a ++ b) := D_inj (by
  show (strOf a ++ strOf b).data.toList = a ++ b
  simp [strOf])
theorem encL_amp (attr : Bool) (r : List UInt8) : encL attr false (38 :: r) = [38, 97, 109, 112, 59] ++ encL attr false r := by
  rw [encL, if_neg (by simp)]
  rfl
theorem encL_of (attr : Bool) (c : UInt8) (r : List UInt8) (h : ¬ (c = 194 ∧ r.head? = some 160)) : encL attr false (c :: r) = encC attr c ++ encL attr false r := by
  rw [encL, if_neg h]
theorem encL_pair (attr : Bool) (r : List UInt8) : encL attr false (194 :: 160 :: r) = nbspE ++ encL attr false r := by
  rw [encL, if_pos (by simp), encL]
theorem rencode_loop (s : ByteArray) (attr : Bool) (hs : s.size ≤ 100000000) : ∀ (n i : Nat) (acc : List UInt8), s.size - i ≤ n → i ≤ s.size → acc.length ≤ 6 * i →
    Ev (fun k => cringleref11_Encode.l0 k s attr (strOf acc) (i : Int)) (strOf (acc ++ encL attr false ((D s).drop i))) := by
  intro n
  induction n with
  | zero =>
    intro i acc hn hi ha
    refine Ev.step (f := fun _ => some (strOf (acc ++ encL attr false ((D s).drop i)))) (fun k => ?_) (Ev.now _)
    simp only [cringleref11_Encode.l0]
    rw [if_neg (by omega), List.drop_of_length_le (by rw [D_len]; omega), encL, List.append_nil]
  | succ n ih =>
    intro i acc hn hi ha
    by_cases hlt0 : i < s.size
    case neg =>
      refine Ev.step (f := fun _ => some (strOf (acc ++ encL attr false ((D s).drop i)))) (fun k => ?_) (Ev.now _)
      simp only [cringleref11_Encode.l0]
      rw [if_neg (by omega), List.drop_of_length_le (by rw [D_len]; omega), encL, List.append_nil]
    have hlt : i < (D s).length := by rw [D_len]; exact hlt0
    have hbt := bt_get s i hlt
    have hdr := drop_at hlt
    have hsz : ∀ l, (strOf l).size = l.length := strOf_size
    have hex : D (s.extract i (i + 1)) = [(D s)[i]] := by
      unfold D
      rw [Lib.extract_data, hdr, show i + 1 - i = 1 from by omega]
      rfl
    have hst : D (s.extract i s.size) = (D s).drop i := D_from s i
    rw [hdr] at hst ⊢
    generalize hc : (D s)[i] = c at *
    -- one byte told
    have one : ∀ (e : List UInt8), e.length ≤ 6 → ¬ (c = 194 ∧ ((D s).drop (i + 1)).head? = some 160) → encC attr c = e → Ev (fun k => cringleref11_Encode.l0 k s attr (strOf (acc ++ e)) ((i + 1 : Nat) : Int)) (strOf (acc ++ encL attr false (c :: (D s).drop (i + 1)))) := fun e he hno heq => by
      rw [encL_of attr c _ hno, heq, ← List.append_assoc]
      exact ih (i + 1) (acc ++ e) (by omega) (by omega) (by rw [List.length_append]; omega)
    refine Ev.step (fun k => by simp only [cringleref11_Encode.l0]; rw [if_pos (by omega), if_pos (by omega), hbt, next (by omega)]) ?_
    have tail3 : c ≠ 38 → ¬ (c = 60 ∧ attr = false) → ¬ (c = 62 ∧ attr = false) → ¬ (c = 34 ∧ attr = true) → Ev (fun k => cringleref11_Encode.j3 k s attr (strOf acc) (i : Int) false) (strOf (acc ++ encL attr false (c :: (D s).drop (i + 1)))) := fun n1 n2 n3 n4 => by
      refine Ev.step (fun k => by simp only [cringleref11_Encode.j3]; rw [if_neg (by simp), if_pos (by omega), if_pos (by omega), hbt, next (by omega), hsz]) ?_
      by_cases h13 : c = 13
      · refine Ev.congr (fun k => (if_pos (by rw [h13]; rfl)).trans (if_pos (by omega))) ?_
        show Ev (fun k => cringleref11_Encode.l0 k s attr (strOf acc ++ strOf [38, 35, 49, 51, 59]) ((i + 1 : Nat) : Int)) _
        rw [str_cat2]
        exact one _ (by simp) (by rw [h13]; simp) (by unfold encC; rw [if_neg n1, if_neg n2, if_neg n3, if_neg n4, if_pos h13])
      · refine Ev.congr (fun k => (if_neg (fun e => h13 (UInt8.toNat_inj.1 (by show c.toNat = 13; omega)))).trans (if_pos (by omega))) ?_
        rw [Int.toNat_natCast, rstarts_eq, hst]
        refine Ev.bind (Ev.now _) ?_
        rw [show D (⟨#[194, 160]⟩ : ByteArray) = [194, 160] from rfl]
        have hsuf : c :: (D s).drop (i + 1) = (D s).drop i := hdr.symm ▸ (by rw [← hc])
        by_cases hp : List.isPrefixOf [194, 160] (c :: (D s).drop (i + 1)) = true
        · have hpp := (two_prefix _ _).1 hp
          refine Ev.congr (fun k => (if_pos hp).trans (if_pos (by omega))) ?_
          rw [show wrap64 ((((i + 1 : Nat) : Nat) : Int) + 1) = ((i + 2 : Nat) : Int) from next (i := i + 1) (by omega)]
          show Ev (fun k => cringleref11_Encode.l0 k s attr (strOf acc ++ strOf nbspE) ((i + 2 : Nat) : Int)) _
          rw [str_cat2]
          have hlt2 : i + 1 < (D s).length := by
            rcases Nat.lt_or_ge (i + 1) (D s).length with h | h
            · exact h
            · rw [List.drop_of_length_le h] at hpp; simp at hpp
          have h160 : (D s).drop (i + 1) = 160 :: (D s).drop (i + 2) := by
            have := hpp.2
            rw [drop_at hlt2, List.head?_cons] at this
            rw [drop_at hlt2, Option.some.inj this]
          rw [h160, hpp.1, encL_pair, ← List.append_assoc]
          rw [D_len] at hlt2
          exact ih (i + 2) (acc ++ nbspE) (by omega) (by omega) (by rw [List.length_append]; have : nbspE.length = 6 := rfl; omega)
        · have hno : ¬ (c = 194 ∧ ((D s).drop (i + 1)).head? = some 160) := fun q => hp ((two_prefix _ _).2 q)
          have hx : s.extract i (i + 1) = strOf [c] := D_inj hex
          refine Ev.congr (fun k => (if_neg hp).trans ((if_pos (by omega)).trans ((if_pos (by omega)).trans (if_pos (by rw [Int.toNat_natCast, hx, hsz]; simp; omega))))) ?_
          rw [Int.toNat_natCast, hx, str_cat2]
          exact one _ (by simp) hno (by unfold encC; rw [if_neg n1, if_neg n2, if_neg n3, if_neg n4, if_neg h13])
    have no194 : ∀ x : UInt8, c = x → x ≠ 194 → ¬ (c = 194 ∧ ((D s).drop (i + 1)).head? = some 160) := fun x hx hn q => hn (hx.symm.trans q.1)
    have tail2 : c ≠ 38 → ¬ (c = 60 ∧ attr = false) → ¬ (c = 62 ∧ attr = false) → Ev (fun k => cringleref11_Encode.j2 k s attr (strOf acc) (i : Int) false) (strOf (acc ++ encL attr false (c :: (D s).drop (i + 1)))) := fun n1 n2 n3 => by
      refine Ev.step (fun k => by simp only [cringleref11_Encode.j2]; rw [if_neg (by simp), if_pos (by omega), if_pos (by omega), hbt]) ?_
      by_cases h34 : c = 34
      · refine Ev.congr (fun k => if_pos (by rw [h34]; rfl)) ?_
        cases hA : attr with
        | false =>
          subst hA
          exact tail3 n1 n2 n3 (by simp)
        | true =>
          refine Ev.step (fun k => by simp only [cringleref11_Encode.j3]; rw [if_pos trivial, hsz, if_pos (by omega), next (by omega)]) ?_
          show Ev (fun k => cringleref11_Encode.l0 k s true (strOf acc ++ strOf [38, 113, 117, 111, 116, 59]) ((i + 1 : Nat) : Int)) _
          rw [str_cat2]
          rw [hA] at one
          exact one _ (by simp) (no194 34 h34 (by decide)) (by rw [h34]; decide)
      · refine Ev.congr (fun k => if_neg (fun e => h34 (UInt8.toNat_inj.1 (by show c.toNat = 34; omega)))) ?_
        exact tail3 n1 n2 n3 (fun q => h34 q.1)
    have tail1 : c ≠ 38 → ¬ (c = 60 ∧ attr = false) → Ev (fun k => cringleref11_Encode.j1 k s attr (strOf acc) (i : Int) false) (strOf (acc ++ encL attr false (c :: (D s).drop (i + 1)))) := fun n1 n2 => by
      refine Ev.step (fun k => by simp only [cringleref11_Encode.j1]; rw [if_neg (by simp), if_pos (by omega), if_pos (by omega), hbt]) ?_
      by_cases h62 : c = 62
      · refine Ev.congr (fun k => if_pos (by rw [h62]; rfl)) ?_
        cases hA : attr with
        | true =>
          rw [hA] at tail2
          exact tail2 n1 (by simp) (by simp)
        | false =>
          refine Ev.step (fun k => by simp only [cringleref11_Encode.j2]; rw [if_pos (by rfl), hsz, if_pos (by omega), next (by omega)]) ?_
          show Ev (fun k => cringleref11_Encode.l0 k s false (strOf acc ++ strOf [38, 103, 116, 59]) ((i + 1 : Nat) : Int)) _
          rw [str_cat2]
          rw [hA] at one
          exact one _ (by simp) (no194 62 h62 (by decide)) (by rw [h62]; decide)
      · refine Ev.congr (fun k => if_neg (fun e => h62 (UInt8.toNat_inj.1 (by show c.toNat = 62; omega)))) ?_
        exact tail2 n1 n2 (fun q => h62 q.1)
    by_cases h38 : c = 38
    · refine Ev.congr (fun k => (if_pos (by rw [h38]; rfl)).trans (if_pos (by rw [hsz]; omega))) ?_
      show Ev (fun k => cringleref11_Encode.l0 k s attr (strOf acc ++ strOf [38, 97, 109, 112, 59]) ((i + 1 : Nat) : Int)) _
      rw [str_cat2]
      exact one _ (by simp) (no194 38 h38 (by decide)) (by rw [h38]; unfold encC; rfl)
    · refine Ev.congr (fun k => if_neg (fun e => h38 (UInt8.toNat_inj.1 (by show c.toNat = 38; omega)))) ?_
      by_cases h60 : c = 60
      · refine Ev.congr (fun k => if_pos (by rw [h60]; rfl)) ?_
        cases hA : attr with
        | true =>
          rw [hA] at tail1
          exact tail1 h38 (by simp)
        | false =>
          refine Ev.step (fun k => by simp only [cringleref11_Encode.j1]; rw [if_pos (by rfl), hsz, if_pos (by omega), next (by omega)]) ?_
          show Ev (fun k => cringleref11_Encode.l0 k s false (strOf acc ++ strOf [38, 108, 116, 59]) ((i + 1 : Nat) : Int)) _
          rw [str_cat2]
          rw [hA] at one
          exact one _ (by simp) (no194 60 h60 (by decide)) (by rw [h60]; decide)
      · refine Ev.congr (fun k => if_neg (fun e => h60 (UInt8.toNat_inj.1 (by show c.toNat = 60; omega)))) ?_
        exact tail1 h38 (fun q => h60 q.1)
theorem rEncode_ev (s : ByteArray) (attr : Bool) (hs : s.size ≤ 100000000) : Ev (fun k => cringleref11_Encode.f k s attr) (strOf (encL attr false (D s))) :=
  rencode_loop s attr hs s.size 0 [] (by omega) (by omega) (by simp)
/-! the probe -/
theorem alive_ev : Ev (fun k => cringlelaw11_alive.f k) true := by
  unfold cringlelaw11_alive.f
  rw [name_eq, Encode_eq _ _ (by decide)]
  refine Ev.bind (Ev.now _) ?_
  refine Ev.bind (Decode_ev _ false (by decide)) ?_
  refine Ev.congr (fun k => if_pos (by rw [Lib.toList_data]; decide +kernel)) ?_
  refine Ev.congr (fun k => (if_pos (by decide +kernel)).trans (if_pos (by decide +kernel))) ?_
  refine now_of ?_
  simp only [Option.bind_some]
  rw [Lib.toList_data]
  exact congrArg some (by decide +kernel)
theorem alive_then : Ev (fun k => (cringlelaw11_alive.f k).bind fun t => some t) true := Ev.bind alive_ev (Ev.now _)
theorem long_eq (s : ByteArray) : cringlelaw11_long.f s = some (decide (1500 < s.size)) := by
  unfold cringlelaw11_long.f
  by_cases h : 1500 < s.size
  · rw [decide_eq_true h, decide_eq_true (by omega)]
  · rw [decide_eq_false h, decide_eq_false (by omega)]
end Go.Proofs.YtekijemacjpceaaDoor.Plain
