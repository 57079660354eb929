/- What the printed splitting and joining, and the reference's, come to. No condition but those typed. -/
import Derived.Test.YtgbpmhkaobjnpaaSayAsciiParts
import Derived.Test.YtgbpmhkaobjnpaaSayAsciiJoined
import Derived.Test.YtgbpmhkaobjnpaaTexts
import Derived.Lib.Join
import Derived.Lib.Bytealg
namespace Go.Proofs.Ytgbpmhkaobjnpaa.Plain
open Go.RowKit Go.Proofs.Ytgbpmhkaobjnpaa.Q Go.Proofs.YtgbpmhkaobjnpaaW.PrintWords Go.Proofs.YtgbpmhkaobjnpaaW.PrintLast Go.Proofs.YtgbpmhkaobjnpaaW.PrintMore
set_option linter.unusedVariables false
theorem alive2_ev : Ev (fun k => cringlelaw01_alive.f k) true := Ev.of (k := 40) cringlelaw01_alive.mono (by decide +kernel)
theorem alive2_then : Ev (fun k => (cringlelaw01_alive.f k).bind fun t => some t) true := Ev.bind alive2_ev (Ev.now _)
/-- The parts of a row of bytes, split at b; acc is what stands ahead. -/
def sp (b : Int) (acc : List Int) : List Int → List (List Int)
  | [] => [acc]
  | x :: l => if x = b then acc :: sp b [] l else sp b (acc ++ [x]) l
/-- The texts of rows of bytes. -/
def strs (l : List (List Int)) : List ByteArray := l.map strOfNums
theorem ref_split (s : ByteArray) (b : Int) (hs : s.size ≤ 3000) (d : Nat) : ∀ (i : Nat) (pre : List ByteArray) (acc : List Int), i + d = (bytesOf s).length → pre.length ≤ i → acc.length ≤ i →
    Ev (fun k => cringleref01_Split.l0 k s b (pre ++ [strOfNums acc]) (i : Int)) (pre ++ strs (sp b acc ((bytesOf s).drop i))) := by
  have hsz := bytes_len s
  induction d with
  | zero =>
    intro i pre acc hi hp ha
    refine Ev.step (f := fun _ => some (pre ++ [strOfNums acc])) (fun k => ?_) ?_
    · simp only [cringleref01_Split.l0]
      rw [if_neg (by omega)]
    · rw [List.drop_of_length_le (by omega)]
      exact Ev.now _
  | succ d ih =>
    intro i pre acc hi hp ha
    have hlt : i < (bytesOf s).length := by omega
    have hl : (pre ++ [strOfNums acc]).length = pre.length + 1 := by simp
    rw [drop_at hlt]
    by_cases hb : (bytesOf s)[i] = b
    · refine Ev.step (f := fun k => cringleref01_Split.l0 k s b ((pre ++ [strOfNums acc]) ++ [strOfNums []]) ((i + 1 : Nat) : Int)) (fun k => ?_) ?_
      · simp only [cringleref01_Split.l0]
        rw [if_pos (by omega), if_pos (by omega), bytes_bt hlt, if_pos hb, if_pos (by omega), next (by omega)]
        rfl
      · have := ih (i + 1) (pre ++ [strOfNums acc]) [] (by omega) (by omega) (by simp)
        rw [sp, if_pos hb]
        have he : pre ++ strs (acc :: sp b [] ((bytesOf s).drop (i + 1))) = (pre ++ [strOfNums acc]) ++ strs (sp b [] ((bytesOf s).drop (i + 1))) := by simp [strs]
        rw [he]
        exact this
    · have hw : wrap64 (((pre ++ [strOfNums acc]).length : Int) - 1) = ((pre.length : Nat) : Int) := by
        rw [hl]
        unfold wrap64
        omega
      have hn : wrap64 ((i : Int) + 1) = ((i + 1 : Nat) : Int) := next (by omega)
      have hr : rdOf ByteArray.empty (pre ++ [strOfNums acc]) ((pre.length : Nat) : Int) = strOfNums acc := by
        rw [texts_at (by omega)]
        simp
      have he : s.extract i (i + 1) = strOfNums [(bytesOf s)[i]] := by
        apply bytes_inj
        rw [bytes_sub, bytes_str (fun x hx => by obtain rfl : x = (bytesOf s)[i] := by simpa using hx
                                                 exact bytes_range (List.getElem_mem hlt)), drop_at hlt, Nat.add_sub_cancel_left]
        rfl
      refine Ev.step (f := fun k => cringleref01_Split.l0 k s b (pre ++ [strOfNums (acc ++ [(bytesOf s)[i]])]) ((i + 1 : Nat) : Int)) (fun k => ?_) ?_
      · simp only [cringleref01_Split.l0]
        rw [if_pos (by omega), if_pos (by omega), bytes_bt hlt, if_neg hb, hw, hn, if_pos (by omega), if_pos (by omega), if_pos (by omega), if_pos (by omega), hr]
        rw [Int.toNat_natCast, Int.toNat_natCast, Int.toNat_natCast, he, str_cat, str_size, str_size, if_pos (by simp; omega)]
        congr 1
        rw [List.set_append_right _ _ (by omega), Nat.sub_self]
        rfl
      · have := ih (i + 1) pre (acc ++ [(bytesOf s)[i]]) (by omega) (by omega) (by simp; omega)
        rw [sp, if_neg hb]
        exact this
theorem ref_split_ev (s : ByteArray) (b : Int) (hs : s.size ≤ 3000) : Ev (fun k => cringleref01_Split.f k s b) (strs (sp b [] (bytesOf s))) := by
  have := ref_split s b hs _ 0 [] [] (Nat.zero_add _) (Nat.le_refl _) (Nat.le_refl _)
  rw [List.drop_zero] at this
  exact this
/-- Where the first b lies. -/
theorem index_sp (c : UInt8) (l : List UInt8) : (Lib.indexByte l c = -1 ∧ ∀ acc, sp (c.toNat : Int) acc (l.map fun x => (x.toNat : Int)) = [acc ++ l.map fun x => (x.toNat : Int)]) ∨
    (∃ i : Nat, Lib.indexByte l c = (i : Int) ∧ i < l.length ∧ ∀ acc, sp (c.toNat : Int) acc (l.map fun x => (x.toNat : Int)) = (acc ++ (l.map fun x => (x.toNat : Int)).take i) :: sp (c.toNat : Int) [] ((l.map fun x => (x.toNat : Int)).drop (i + 1))) := by
  induction l with
  | nil => exact .inl ⟨rfl, fun acc => by simp [sp]⟩
  | cons x l ih =>
    by_cases hx : x = c
    · subst hx
      refine .inr ⟨0, by simp [Lib.indexByte], by simp, fun acc => ?_⟩
      rw [List.map_cons, sp, if_pos rfl]
      simp
    · have hne : (x.toNat : Int) ≠ (c.toNat : Int) := fun e => hx (UInt8.toNat_inj.1 (by omega))
      have hb : (x == c) = false := by simpa using hx
      rcases ih with ⟨h1, h2⟩ | ⟨i, h1, h2, h3⟩
      · refine .inl ⟨?_, fun acc => ?_⟩
        · unfold Lib.indexByte
          rw [hb, h1]
          rfl
        · rw [List.map_cons, sp, if_neg hne, h2]
          simp
      · refine .inr ⟨i + 1, ?_, by simp; omega, fun acc => ?_⟩
        · unfold Lib.indexByte
          rw [hb, h1]
          have : ((i : Int) == -1) = false := by
            rw [beq_eq_false_iff_ne]; omega
          rw [this]
          simp
        · rw [List.map_cons, sp, if_neg hne, h3]
          simp
theorem split_loop (b : Int) (hb : 0 ≤ b ∧ b < 256) (d : Nat) : ∀ (s : ByteArray) (pre : List ByteArray), s.size ≤ d → d ≤ 3000 → pre.length + d ≤ 4000 →
    Ev (fun k => ascii_Split.l0 k s b pre) (pre ++ strs (sp b [] (bytesOf s))) := by
  have hc : ((b.toNat.toUInt8).toNat : Int) = b := by
    rw [show b.toNat.toUInt8 = UInt8.ofNat b.toNat from rfl, UInt8.toNat_ofNat']
    omega
  induction d with
  | zero =>
    intro s pre hs hd hp
    have hnil : bytesOf s = [] := List.length_eq_zero_iff.1 (by rw [bytes_len]; omega)
    have hdat : s.data.toList = [] := by
      unfold bytesOf at hnil
      exact List.map_eq_nil_iff.1 hnil
    refine Ev.step (f := fun _ => some (pre ++ [s])) (fun k => ?_) ?_
    · simp only [ascii_Split.l0, strings_IndexByte.f, Option.bind_some, hdat, Lib.indexByte]
      rw [if_pos (by omega), if_pos (by omega)]
    · have : s = strOfNums [] := bytes_inj (by rw [hnil]; rfl)
      rw [this]
      exact Ev.now _
  | succ d ih =>
    intro s pre hs hd hp
    have hsz := bytes_len s
    rcases index_sp b.toNat.toUInt8 s.data.toList with ⟨h1, h2⟩ | ⟨i, h1, h2, h3⟩
    · refine Ev.step (f := fun _ => some (pre ++ [s])) (fun k => ?_) ?_
      · simp only [ascii_Split.l0, strings_IndexByte.f, Option.bind_some, h1]
        rw [if_pos (by omega), if_pos (by omega)]
      · rw [hc] at h2
        have := h2 []
        rw [show (s.data.toList.map fun x => (x.toNat : Int)) = bytesOf s from rfl] at this
        rw [this]
        simp only [strs, List.map_cons, List.map_nil, List.nil_append, str_bytes]
        exact Ev.now _
    · rw [hc] at h3
      have h3 := h3 []
      rw [show (s.data.toList.map fun x => (x.toNat : Int)) = bytesOf s from rfl, List.nil_append] at h3
      have hil : i < s.size := by rw [← bytes_len]; unfold bytesOf; rw [List.length_map]; exact h2
      have hn : wrap64 ((i : Int) + 1) = ((i + 1 : Nat) : Int) := next (by omega)
      refine Ev.step (f := fun k => ascii_Split.l0 k (s.extract (i + 1) s.size) b (pre ++ [s.extract 0 i])) (fun k => ?_) ?_
      · simp only [ascii_Split.l0, strings_IndexByte.f, Option.bind_some, h1]
        rw [if_neg (by omega), if_pos (by omega), if_pos (by omega), if_pos (by omega), hn, if_pos (by omega), if_pos (by omega)]
        rfl
      · have hfr := bytes_from s (i + 1)
        have hl2 : (s.extract (i + 1) s.size).size = s.size - (i + 1) := by
          rw [← bytes_len, hfr, List.length_drop, hsz]
        have := ih (s.extract (i + 1) s.size) (pre ++ [s.extract 0 i]) (by omega) (by omega) (by simp; omega)
        rw [hfr] at this
        rw [h3]
        have he : s.extract 0 i = strOfNums ((bytesOf s).take i) := by
          rw [← bytes_to, str_bytes]
        rw [he, List.append_assoc] at this
        rw [he]
        exact this
theorem split_ev (s : ByteArray) (b : Int) (hb : 0 ≤ b ∧ b < 256) (hs : s.size ≤ 3000) : Ev (fun k => ascii_Split.f k s b) (strs (sp b [] (bytesOf s))) :=
  split_loop b hb 3000 s [] hs (Nat.le_refl _) (by simp)
theorem sp_len (b : Int) (l : List Int) : ∀ acc, (sp b acc l).length ≤ l.length + 1 := by
  induction l with
  | nil => intro acc; simp [sp]
  | cons x l ih =>
    intro acc
    rw [sp]
    split
    · have := ih []
      simp; omega
    · have := ih (acc ++ [x])
      simp; omega
theorem same_loop (l : List ByteArray) (hl : l.length ≤ 1000000) (d : Nat) : ∀ i : Nat, i + d = l.length → Ev (fun k => cringleref01_Texts.l0 k l l (i : Int)) true := by
  induction d with
  | zero =>
    intro i hi
    refine Ev.step (f := fun _ => some true) (fun k => ?_) (Ev.now _)
    simp only [cringleref01_Texts.l0]
    rw [if_neg (by omega)]
  | succ d ih =>
    intro i hi
    refine Ev.step (f := fun k => cringleref01_Texts.l0 k l l ((i + 1 : Nat) : Int)) (fun k => ?_) (ih (i + 1) (by omega))
    simp only [cringleref01_Texts.l0]
    rw [if_pos (by omega), if_pos (by omega), if_pos (by omega), if_true, next (by omega)]
theorem same_ev (l : List ByteArray) (hl : l.length ≤ 1000000) : Ev (fun k => cringleref01_Texts.f k l l) true := by
  unfold cringleref01_Texts.f
  refine Ev.congr (fun k => if_pos rfl) ?_
  exact same_loop l hl _ 0 (Nat.zero_add _)
/-- Two equal texts' rows. -/
theorem cat_data (a b : ByteArray) : (a ++ b).data.toList = a.data.toList ++ b.data.toList := by
  simp
theorem ref_join (sep : ByteArray) (p : List ByteArray) (hs : sep.size ≤ 140737488351232) (hp : ∀ x ∈ p, x.size ≤ 140737488351232) (hl : p.length ≤ 1000) (d : Nat) : ∀ (i : Nat) (acc : ByteArray), i + d = p.length → 1 ≤ i → acc.size ≤ 281474976702464 * i →
    Ev (fun k => cringleref01_Join.l0 k sep p acc (i : Int)) ⟨(acc.data.toList ++ Lib.joinTail sep.data.toList ((p.drop i).map (·.data.toList))).toArray⟩ := by
  induction d with
  | zero =>
    intro i acc hi h1 ha
    refine Ev.step (f := fun _ => some acc) (fun k => ?_) ?_
    · simp only [cringleref01_Join.l0]
      rw [if_neg (by omega)]
    · rw [List.drop_of_length_le (by omega)]
      simp only [List.map_nil, Lib.joinTail, List.flatten_nil, List.append_nil]
      exact Ev.now _
  | succ d ih =>
    intro i acc hi h1 ha
    have hlt : i < p.length := by omega
    have hx := hp _ (List.getElem_mem hlt)
    have hsz1 : (acc ++ sep).size = acc.size + sep.size := by
      rw [← bytes_len, bytes_cat, List.length_append, bytes_len, bytes_len]
    have hsz2 : ((acc ++ sep) ++ p[i]).size = acc.size + sep.size + p[i].size := by
      rw [← bytes_len, bytes_cat, List.length_append, bytes_len, bytes_len, hsz1]
    refine Ev.step (f := fun k => cringleref01_Join.l0 k sep p ((acc ++ sep) ++ p[i]) ((i + 1 : Nat) : Int)) (fun k => ?_) ?_
    · simp only [cringleref01_Join.l0]
      rw [if_pos (by omega), if_pos (by omega), if_pos (by omega), if_pos (by omega), texts_at hlt, if_pos (by omega), next (by omega)]
    · have := ih (i + 1) ((acc ++ sep) ++ p[i]) (by omega) (by omega) (by omega)
      rw [cat_data, cat_data] at this
      rw [drop_at hlt]
      simp only [List.map_cons, Lib.joinTail, List.flatten_cons] at this ⊢
      rw [List.append_assoc, List.append_assoc] at this
      rw [List.append_assoc]
      exact this
theorem ref_join_ev (sep : ByteArray) (p : List ByteArray) (hs : sep.size ≤ 140737488351232) (hp : ∀ x ∈ p, x.size ≤ 140737488351232) (hl : p.length ≤ 1000) :
    Ev (fun k => cringleref01_Join.f k sep p) ⟨(Lib.join (p.map (·.data.toList)) sep.data.toList).toArray⟩ := by
  unfold cringleref01_Join.f
  rcases p with _ | ⟨x, p⟩
  · refine Ev.step (f := fun _ => some (⟨#[]⟩ : ByteArray)) (fun k => ?_) (Ev.now _)
    simp only [cringleref01_Join.l0]
    rw [if_neg (by simp)]
  · have hx := hp x (by simp)
    have he : (⟨#[]⟩ : ByteArray) ++ x = x := bytes_inj (by rw [bytes_cat]; rfl)
    refine Ev.step (f := fun k => cringleref01_Join.l0 k sep (x :: p) x ((1 : Nat) : Int)) (fun k => ?_) ?_
    · simp only [cringleref01_Join.l0]
      have hr : rdOf ByteArray.empty (x :: p) 0 = x := rfl
      have hz : (⟨#[]⟩ : ByteArray).size = 0 := rfl
      have hw : wrap64 (0 + 1) = ((1 : Nat) : Int) := by unfold wrap64; omega
      rw [if_pos (by rw [List.length_cons]; omega), if_neg (by omega), if_pos (by omega), hr, he, hz, if_pos (by omega), hw]
    · have := ref_join sep (x :: p) hs hp hl p.length 1 x (by simp; omega) (by omega) (by omega)
      rw [List.map_cons, Lib.join_cons]
      simpa using this
theorem join_eq (sep : ByteArray) (p : List ByteArray) (hl : p.length ≤ 10000) (h : (Lib.join (p.map (·.data.toList)) sep.data.toList).length ≤ 3000) :
    ascii_Join.f sep p = some ⟨(Lib.join (p.map (·.data.toList)) sep.data.toList).toArray⟩ := by
  unfold ascii_Join.f strings_Join.f
  rw [if_pos (by omega), if_pos (by omega)]
  rfl
end Go.Proofs.Ytgbpmhkaobjnpaa.Plain
